/-
  Texts of this claim, merged.
-/
import Derived.Test.YtpndjhelpoenpaaGreatDoorXC8
import Derived.Test.YtpndjhelpoenpaaGreatDoorXC3
set_option linter.unusedVariables false
set_option linter.unusedSimpArgs false
set_option maxRecDepth 100000
set_option maxHeartbeats 8000000
namespace Go.Proofs.YtpndjhelpoenpaaGreatDoor
open Go.RowKit
theorem new_good {z : Int} (h : inR z 1 100000 = true) : goodWorks (lf (newL z)) (newM z) 0 0 0 0 = true := by
 have h1 := st_good (show stOk (fun _ => 0) 0 0 0 0 0 1 1 0 z = true by rw [new_ok]; exact h)
 have hl : stL (fun _ => 0) 0 1 1 0 z = [1, z, 0, 0] := by simp [stL, buildL, cellsL]
 rw [hl] at h1
 have e1 : newL z = [1, z, 0, 0] := by simp [newL, h]
 have e2 : newM z = 1 := by simp [newM, h]
 rw [e1, e2]
 have e3 : stI 0 1 z = 0 := by simp [stI]
 have e4 : stH 0 1 z = 0 := by simp [stH]
 have e5 : stS 0 1 z = 0 := by simp [stS]
 have e6 : stP (fun _ => 0) 0 0 1 1 = 0 := by simp [stP]
 rw [e3, e4, e5, e6] at h1
 exact h1
structure DP (w W : World) (g b6 : Nat) (B' : Option Addr) (m c' : Nat) (L : List Int) (I H S P : Int) (D Q : ByteArray) (z : Int) : Prop where
 be : bW w W
 box : W.heap[b6]? = some (.cells (cB B' m c' I H S P D Q z) 35 (0, 0))
 own : W.ownsRow (w.heap.size + 2) 97 4 (.slice B' m c') m (L.map (Value.int .i64))
 zero : W.heap[w.heap.size]? = some (.cells (lV ⟨#[]⟩ ⟨#[]⟩ 0) 33 (0, 0))
 le : m ≤ c'
 d : D.size ≤ 1048576
 q : Q.size ≤ 1048576
 gd : Hid (goodWorks (lf L) m I H S P = true)
 g1 : w.heap.size + 1 = g
 g2 : g < b6
theorem DP.step {w W W' : World} {g b6 : Nat} {B' : Option Addr} {m c' : Nat} {L : List Int} {I H S P : Int} {D Q : ByteArray} {z : Int} (h : DP w W g b6 B' m c' L I H S P D Q z) (hf : Fr g (g + 1) W W') : DP w W' g b6 B' m c' L I H S P D Q z := by
 have h1 := h.g1
 have h2 := h.g2
 exact ⟨h.be.trans (hf.below (by omega) h.be.size), (hf.block _ (gL h.box) (Or.inr (by omega))).trans h.box, own_step h.own (by omega) hf, (hf.block _ (gL h.zero) (Or.inl (by omega))).trans h.zero, h.le, h.d, h.q, h.gd, h1, h2⟩
def DPIn (w W : World) (g : Nat) (A : Option Addr) (n c q b6 : Nat) : Prop := ∃ (B' : Option Addr) (m c' : Nat) (L : List Int) (I H S P : Int) (D Q : ByteArray) (z : Int), DP w W g b6 B' m c' L I H S P D Q z ∧ Cur W g A n c q
theorem DPIn.weaken {w W : World} {g n c q q' b6 : Nat} {A : Option Addr} (h : DPIn w W g A n c q b6) (hq : q ≤ q') : DPIn w W g A n c q' b6 := by
 exact y935
theorem DrawReplayLog_any (A : Option Addr) (n c : Nat) (w : World) (hc : Code w A n) (hn : n ≤ 65536) :
  Calls Tryz.prog 30 #[.slice A n c] w fun e w' => ∃ (hz : Int) (D P : ByteArray) (z : Int), e = .returned (.tuple #[.int .i64 hz, .agg (lV D P z)]) ∧ D.size ≤ 1048576 ∧ P.size ≤ 1048576 ∧ bW w w' := by
 go_enter Tryz.func30, Tryz.ntmps30
 go_upto_region 1 with fail
 refine nameWS ?_
 intro w0 hw0
 have hzr := an hw0
 have hB : bW w w0 := by rw [hw0]; exact (Below.refl _ w).alloc nL _
 have hs0 : w0.heap.size = w.heap.size + 1 := by rw [hw0]; simp
 have hc0 := hc.below hB
 clear hw0 hc
 go_upto_region 2 with fail
 refine nameWS ?_
 intro w1 hw1
 have hC : Cur w1 w0.heap.size A n c 0 := by rw [hw1]; exact hc0.cur
 have hb := ba hw1
 have hB := below_of hB hb hB.size
 have hzr := rowB hzr hb
 obtain ⟨g, hg⟩ : ∃ q, w0.heap.size = q := ⟨_, rfl⟩
 rw [hg] at hC hs0
 try rw [hg]
 have hg1 : w.heap.size + 1 = g := hs0.symm
 clear hw1 hb hg hs0 hc0
 go_wp2_with fail
 refine (among_lit g n c _ _ A w1 [1, 1000, 5000, 100000, 0] _ _ _ rfl rfl (by simp) (by simp) hC hn (by omega)).mono ?_
 rintro e w2 ⟨hz, rfl, hC, hf⟩
 have hB := hB.trans (hf.below (by omega) hB.size)
 have hzr := (hf.block _ (gL hzr) (Or.inl (by omega))).trans hzr
 clear hf
 go_wp2_with fail
 refine (sNewConsole_any hz w2).mono ?_
 rintro e w3 ⟨B', c', rfl, hle, _, hown, hb⟩
 have HGD := lh (fun h => new_good (z := hz) h)
 have hB := below_of hB hb hB.size
 have hzr := rowB hzr hb
 have hgl := hC.lt
 have hC := hC.below hb
 have hown := ownsRow_monoP hown (show w.heap.size + 2 ≤ w2.heap.size by omega)
 have hg3 := Nat.lt_of_lt_of_le hgl hb.size
 clear hb hgl
 generalize newM hz = m at *
 generalize newL hz = L at *
 generalize inR hz 1 100000 = ok at *
 go_upto_region 4 with fail
 refine nameWS ?_
 intro w4 hw4
 have hb := ba hw4
 have hbx := an hw4
 have hB := below_of hB hb hB.size
 have hzr := rowB hzr hb
 have hC := hC.below hb
 have hown := ownsRow_below hown hb
 obtain ⟨b6, hb6⟩ : ∃ q, w3.heap.size = q := ⟨_, rfl⟩
 rw [hb6] at hbx hg3
 try rw [hb6]
 clear hw4 hb hb6
 cases ok with
 | false =>
  obtain ⟨u0, u1, u2, g0, g1, g2⟩ := row3 hzr
  have HB := lh hB
  clear hzr hB hbx hown hC HGD
  go_wp2
  obtain ⟨wq, hwq⟩ : ∃ wq, wq = (((w4.setCell ⟨w.heap.size, 0, none⟩ (.string ⟨#[]⟩)).setCell ⟨w.heap.size, 1, none⟩ (.string ⟨#[]⟩)).setCell ⟨w.heap.size, 2, none⟩ (.int .i64 0)) := ⟨_, rfl⟩
  rw [← hwq]
  have q0 : cE wq w.heap.size 0 (.string ⟨#[]⟩) := by rw [hwq]; go_simp
  have q1 : cE wq w.heap.size 1 (.string ⟨#[]⟩) := by rw [hwq]; go_simp
  have q2 : cI wq w.heap.size 2 0 := by rw [hwq]; go_simp
  have hBq : bW w wq := by rw [hwq]; exact ((HB.out.setCell nL _).setCell nL _).setCell nL _
  clear hwq
  try go_wp2
  try simp only [Exit.inBlock, Exit.then]
  refine bodyPost_ret (by simp [results, Tryz.results30, go_sem, q0, q1, q2]; try rfl) rfl ?_
  first | exact ⟨_, ⟨#[]⟩, ⟨#[]⟩, 0, rfl, (by decide), (by decide), hBq⟩ | exact ⟨_, ⟨#[]⟩, ⟨#[]⟩, ⟨0, rfl, (by decide), (by decide), hBq⟩⟩ | exact ⟨_, ⟨#[]⟩, ⟨⟨#[]⟩, 0, rfl, (by decide), (by decide), hBq⟩⟩ | exact ⟨_, ⟨⟨#[]⟩, ⟨#[]⟩, 0, rfl, (by decide), (by decide), hBq⟩⟩
 | true =>
  have HG := lh (HGD.out rfl)
  clear HGD
  have hin : DPIn w w4 g A n c 20 b6 := ⟨_, _, _, _, _, _, _, _, _, _, _, ⟨hB, hbx, hown, hzr, hle, by decide, by decide, HG, hg1, hg3⟩, hC.weaken (by omega)⟩
  clear hB hbx hown hzr hle HG hC
  have hin2 := hin
  obtain ⟨B1, m1, c1, L1, I1, H1, S1, P1, D1, Q1, z1, hW, hC⟩ := hin2
  clear hin
  go_wp2_with fail
  refine (pick_any g n c _ 12 A w4 hC hn (by omega) (by omega) (by omega)).mono ?_
  rintro e w5 ⟨k0, rfl, hk0, hC, hf⟩
  have hin : DPIn w w5 g A n c 100 b6 := ⟨_, _, _, _, _, _, _, _, _, _, _, hW.step hf, hC.weaken (by omega)⟩
  clear hC hf hW
  go_wp2_with fail
  go_loopw [8] (fun nv wr => ∃ k : Nat, k ≤ 11 ∧ nv = .int .i64 k ∧ DPIn w wr g A n c (100 + 40 * (11 - k)) b6) (fun nv _ => (intOf nv).toNat)
  case atStart => exact ⟨k0, by omega, rfl, hin.weaken (by omega)⟩
  case round =>
   obtain ⟨k, hk, rfl, hin2⟩ := hrel
   clear hin
   obtain ⟨B', m, c', L, I, H, S, P, D, Q, z, hW, hC⟩ := hin2
   by_cases hlt : 0 < k
   ·have hki : (0 : Int) < (k : Int) := by omega
    go_upto_region 9 with fail
    have hFd : bW w wr.drew := below_drewN hW.be 1
    have hC := hC.drewN 1
    have hbx : (wr.drewN 1).heap[b6]? = some (.cells (cB B' m c' I H S P D Q z) 35 (0, 0)) := hW.box
    have hzr : (wr.drewN 1).heap[w.heap.size]? = some (.cells (lV ⟨#[]⟩ ⟨#[]⟩ 0) 33 (0, 0)) := hW.zero
    have hown := ownsRow_below hW.own (below_drewN (Below.refl _ wr) 1)
    have hmc := hW.le
    have hD := hW.d
    have hQ := hW.q
    have hg1 := hW.g1
    have hg2 := hW.g2
    have HGS := hW.gd
    clear hW
    refine wp_region_held_drew (S := fun w' => bW w w') (by kernel_rfl) hFd (fun jd => ?_)
    clear hFd
    obtain ⟨v0, hv⟩ : ∃ v, wr.drewN 1 = v := ⟨_, rfl⟩
    have hv' : wr.drew = v0 := hv
    rw [hv] at hC hbx hzr hown
    rw [hv'] at jd ⊢
    clear hv hv'
    have HF : Hid (∀ w', bW w w' → True) := fun _ _ => trivial
    have hm7 := good_len HGS.out
    refine tj 1 33 HF rfl jd ?_
    refine wpAnyH_ready (rs := [0, 2]) (by kernel_rfl) (by simp) ?_
    refine (AllReadyH.cons rfl (fun K hK => ?_) (AllReadyH.cons rfl (fun K hK => ?_) AllReadyH.nil))
    ·revert jd K hK
     refine y944 ?_
     intro jd
     refine wpAnyH_ready (rs := [2]) (by kernel_rfl) (by simp) ?_
     refine y92 ?_
     intro K hK
     revert jd
     refine y940 ?_
     intro hS2
     revert K hK hS2
     refine y91 ?_
     intro jd
     refine y97 ?_
     refine y92 ?_
     intro K hK
     revert jd
     refine y945 ?_
     intro v1 s hs hC hS2 hbx hzr hown
     revert K hK hS2
     refine y946 ?_
     intro hbl v2 A2 m2 c2 L2 I2 H2 S2 P2 Q2 z2 rr hq2 hmc2 HG2 hbx hzr hC hown jd
     refine wS0 8 b6 (cB A2 m2 c2 I2 H2 S2 P2 D Q2 z2) 35 infoConK hbx (fun w' hg' => jd.grown hg' jd.size (fun k hk => by cases hk; omega)) ?ks1
     case ks1 =>
      exact y947
    ·revert jd K hK
     refine y944 ?_
     intro jd
     refine wpAnyH_ready (rs := [0, 3]) (by kernel_rfl) (by simp) ?_
     refine (AllReadyH.cons rfl (fun K hK => ?_) (AllReadyH.cons rfl (fun K hK => ?_) AllReadyH.nil))
     ·revert jd K hK
      refine y944 ?_
      intro jd
      refine y97 ?_
      refine y92 ?_
      intro K hK
      revert jd
      refine y945 ?_
      intro v1 s hs hC hS2 hbx hzr hown
      revert K hK hS2
      refine y946 ?_
      intro hbl v2 A2 m2 c2 L2 I2 H2 S2 P2 Q2 z2 rr hq2 hmc2 HG2 hbx hzr hC hown jd
      refine wS0 8 b6 (cB A2 m2 c2 I2 H2 S2 P2 D Q2 z2) 35 infoConK hbx (fun w' hg' => jd.grown hg' jd.size (fun k hk => by cases hk; omega)) ?ks2
      case ks2 =>
       exact y947
     ·revert jd
      refine y945 ?_
      intro v1 s hs hC hS2 hbx hzr hown
      revert K hK hS2
      refine y91 ?_
      intro jd
      refine wpAnyH_ready (rs := [0]) (by kernel_rfl) (by simp) ?_
      refine y92 ?_
      intro K hK
      revert jd
      refine y940 ?_
      intro hS2
      revert K hK hS2
      refine y946 ?_
      intro hbl v2 A2 m2 c2 L2 I2 H2 S2 P2 Q2 z2 rr hq2 hmc2 HG2 hbx hzr hC hown jd
      refine wS0 8 b6 (cB A2 m2 c2 I2 H2 S2 P2 D Q2 z2) 35 infoConK hbx (fun w' hg' => jd.grown hg' jd.size (fun k hk => by cases hk; omega)) ?ks3
      case ks3 =>
       exact y947
   ·have hki : ¬ ((0 : Int) < (k : Int)) := by omega
    have hbx := hW.box
    obtain ⟨e0, e1, e2, e3, e4, e5, e6, e7⟩ := cells8 hbx
    have ef := fz hbx
    go_upto_region 11 with fail
    refine nameWS ?_
    intro w9 hw9
    have hb := ba hw9
    have h9 := an hw9
    have hb6 := (gL hbx)
    have hzr := rowB hW.zero hb
    have hB := below_of hW.be hb hW.be.size
    have hC := hC.below hb
    have hD := hW.d
    have hQ := hW.q
    have hg1 := hW.g1
    have hg2 := hW.g2
    obtain ⟨b9, hb9⟩ : ∃ q, wr.heap.size = q := ⟨_, rfl⟩
    rw [hb9] at h9 hb6
    try rw [hb9]
    clear hw9 hb hb9 hbx ef hW e0 e1 e2 e3 e4 e5 e6 e7
    go_wp2_with fail
    refine (one_any g n c _ 3 A w9 hC hn (by omega) (by omega) (by omega)).mono ?_
    rintro e w10 ⟨bb, rfl, hC, hf⟩
    have hB := hB.trans (hf.below (by omega) hB.size)
    have h9 := (hf.block _ (gL h9) (Or.inr (by omega))).trans h9
    have hzr := (hf.block _ (gL hzr) (Or.inl (by omega))).trans hzr
    clear hf
    go_upto_if 42 with fail
    go_cut [] (fun wx => ∃ (D1 Q1 : ByteArray) (z1 : Int), D1.size ≤ 1048576 ∧ Q1.size ≤ 1048576 ∧ wx.heap[b9]? = some (.cells (lV D1 Q1 z1) 33 (0, 0)) ∧ wx.heap[w.heap.size]? = some (.cells (lV ⟨#[]⟩ ⟨#[]⟩ 0) 33 (0, 0)) ∧ bW w wx)
    case first =>
     cases bb with
     | false =>
      go_wp2_with fail
      go_meet
      case rel => exact ⟨D, Q, z, hD, hQ, h9, hzr, hB⟩
     | true =>
      obtain ⟨c0, c1, c2, f0, f1, f2⟩ := row3 h9
      go_upto_region 12 with fail
      have hCd : Cur w10.drew g A n c _ := hC.drewN 1
      have hBd : bW w w10.drew := below_drewN hB 1
      have h9d : w10.drew.heap[b9]? = some (.cells (lV D Q z) 33 (0, 0)) := h9
      have hzd : w10.drew.heap[w.heap.size]? = some (.cells (lV ⟨#[]⟩ ⟨#[]⟩ 0) 33 (0, 0)) := hzr
      clear hC hB h9 hzr
      go_region_with (first | (refine (logRecord_any g n c _ A w10.drew hCd hn ?_).mono ?_; (omega); rintro e wa ⟨x, y, rfl, hx, hy, hCa, hFa⟩; have h9a := rowFr h9d hFa (by omega); obtain ⟨ca0, ca1, ca2, fa0, fa1, fa2⟩ := row3 h9a) | (refine (sAppendRecord_any D Q z x y hD hQ (by omega) (by omega) wa).mono ?_; rintro e wb ⟨rfl, hbb⟩; have h9b := rowB h9a hbb; obtain ⟨cb0, cb1, cb2, fb0, fb1, fb2⟩ := row3 h9b))
      all_goals
       have hq2 : (apP D Q z x y).size ≤ 1048576 := apP_size hQ
       have hzb : wb.heap[w.heap.size]? = some (.cells (lV ⟨#[]⟩ ⟨#[]⟩ 0) 33 (0, 0)) := rowB ((hFa.block _ (gL hzd) (Or.inl (by omega))).trans hzd) hbb
       have hBb : bW w wb := below_of (hBd.trans (hFa.below (by omega) hBd.size)) hbb (hBd.trans (hFa.below (by omega) hBd.size)).size
       generalize apP D Q z x y = Q2 at *
       generalize apZ D Q z x y = z2 at *
       obtain ⟨wc, hwc⟩ : ∃ wc, wc = (((wb.setCell ⟨b9, 0, none⟩ (.string D)).setCell ⟨b9, 1, none⟩ (.string Q2)).setCell ⟨b9, 2, none⟩ (.int .i64 z2)) := ⟨_, rfl⟩
       rw [← hwc]
       have hin : ∃ (D1 Q1 : ByteArray) (z1 : Int), D1.size ≤ 1048576 ∧ Q1.size ≤ 1048576 ∧ wc.heap[b9]? = some (.cells (lV D1 Q1 z1) 33 (0, 0)) ∧ wc.heap[w.heap.size]? = some (.cells (lV ⟨#[]⟩ ⟨#[]⟩ 0) 33 (0, 0)) ∧ bW w wc := by rw [hwc]; exact ⟨D, Q2, z2, hD, hq2, row3_set h9b, row3_far hzb (by omega), ((hBb.setCell (p := ⟨b9, 0, none⟩) (by show _ ≤ b9; omega) _).setCell (p := ⟨b9, 1, none⟩) (by show _ ≤ b9; omega) _).setCell (p := ⟨b9, 2, none⟩) (by show _ ≤ b9; omega) _⟩
       clear hwc hCd hBd h9d hzd h9a hCa hFa h9b hbb hzb hBb c0 c1 c2 f0 f1 f2 ca0 ca1 ca2 fa0 fa1 fa2 cb0 cb1 cb2 fb0 fb1 fb2
       go_wp2_with fail
       go_meet
       case rel => exact hin
    case rest =>
     clear h9 hzr hB hC hD hQ
     obtain ⟨D1, Q1, z1, hD, hQ, h9, hzr, hB⟩ := hcut
     obtain ⟨w11, hw11⟩ : ∃ v, wc = v := ⟨_, rfl⟩
     rw [hw11] at h9 hzr hB
     try rw [hw11]
     clear hw11 wc
     have hBd : bW w w11.drew := below_drewN hB 1
     have h9d : w11.drew.heap[b9]? = some (.cells (lV D1 Q1 z1) 33 (0, 0)) := h9
     have hzd : w11.drew.heap[w.heap.size]? = some (.cells (lV ⟨#[]⟩ ⟨#[]⟩ 0) 33 (0, 0)) := hzr
     have HB := lh hB
     have hne : b9 ≠ w.heap.size := by omega
     have hne2 : w.heap.size ≠ b9 := by omega
     obtain ⟨c0, c1, c2, f0, f1, f2⟩ := row3 h9
     obtain ⟨u0, u1, u2, g0, g1, g2⟩ := row3 hzr
     clear hB h9 hzr hBd h9d hzd
     go_upto_region 13 with fail
     go_region
     all_goals
      obtain ⟨wq, hwq⟩ : ∃ wq, wq = (((w11.setCell ⟨w.heap.size, 0, none⟩ (.string D1)).setCell ⟨w.heap.size, 1, none⟩ (.string Q1)).setCell ⟨w.heap.size, 2, none⟩ (.int .i64 z1)).drew := ⟨_, rfl⟩
      rw [← hwq]
      have q0 : cE wq w.heap.size 0 (.string D1) := by rw [hwq]; go_simp
      have q1 : cE wq w.heap.size 1 (.string Q1) := by rw [hwq]; go_simp
      have q2 : cI wq w.heap.size 2 z1 := by rw [hwq]; go_simp
      have hBq : bW w wq := by rw [hwq]; exact below_drewN (((HB.out.setCell nL _).setCell nL _).setCell nL _) 1
      clear hwq
      try go_wp2
      try simp only [Exit.inBlock, Exit.then]
      refine bodyPost_ret (by simp [results, Tryz.results30, go_sem, q0, q1, q2]; try rfl) rfl ?_
      first | exact ⟨_, D1, Q1, z1, rfl, hD, hQ, hBq⟩ | exact ⟨_, D1, Q1, ⟨z1, rfl, hD, hQ, hBq⟩⟩ | exact ⟨_, D1, ⟨Q1, z1, rfl, hD, hQ, hBq⟩⟩ | exact ⟨_, ⟨D1, Q1, z1, rfl, hD, hQ, hBq⟩⟩
end Go.Proofs.YtpndjhelpoenpaaGreatDoor
namespace Go.Proofs.YtpndjhelpoenpaaGreatDoor
open Go.RowKit
structure DS (w W : World) (g b5 : Nat) (B' : Option Addr) (m c' : Nat) (L : List Int) (I H S P : Int) (D Q : ByteArray) (z : Int) : Prop where
 be : bW w W
 box : W.heap[b5]? = some (.cells (cB B' m c' I H S P D Q z) 35 (0, 0))
 own : W.ownsRow (w.heap.size + 2) 97 4 (.slice B' m c') m (L.map (Value.int .i64))
 zero : W.heap[w.heap.size]? = some (.cells (cB none 0 0 0 0 0 0 ⟨#[]⟩ ⟨#[]⟩ 0) 35 (0, 0))
 g1 : w.heap.size + 1 = g
 g2 : g < b5
theorem DS.step {w W W' : World} {g b5 : Nat} {B' : Option Addr} {m c' : Nat} {L : List Int} {I H S P : Int} {D Q : ByteArray} {z : Int} (h : DS w W g b5 B' m c' L I H S P D Q z) (hf : Fr g (g + 1) W W') : DS w W' g b5 B' m c' L I H S P D Q z := by
 have h1 := h.g1
 have h2 := h.g2
 exact ⟨h.be.trans (hf.below (by omega) h.be.size), (hf.block _ (gL h.box) (Or.inr (by omega))).trans h.box, own_step h.own (by omega) hf, (hf.block _ (gL h.zero) (Or.inl (by omega))).trans h.zero, h1, h2⟩
theorem DS.below {w W W' : World} {g b5 : Nat} {B' : Option Addr} {m c' : Nat} {L : List Int} {I H S P : Int} {D Q : ByteArray} {z : Int} (h : DS w W g b5 B' m c' L I H S P D Q z) (hb : bW W W') : DS w W' g b5 B' m c' L I H S P D Q z :=
 ⟨below_of h.be hb h.be.size, rowB h.box hb, ownsRow_below h.own hb, rowB h.zero hb, h.g1, h.g2⟩
theorem DrawRunScript_any (A : Option Addr) (n c : Nat) (w : World) (hc : Code w A n) (hn : n ≤ 65536) :
  Calls Tryz.prog 26 #[.slice A n c] w fun e w' => ∃ (B' : Option Addr) (m c' : Nat) (L : List Int) (I H S P : Int) (D Q : ByteArray) (z : Int) (s : ByteArray), e = .returned (.tuple #[.agg (cB B' m c' I H S P D Q z), .string s]) ∧ m ≤ 7 ∧ D.size ≤ 1048576 ∧ Q.size ≤ 1048576 ∧ s.size ≤ 1000 ∧ Drawn w' w.heap.size 97 4 B' m c' (lf L) ∧ bW w w' := by
 go_enter Tryz.func26, Tryz.ntmps26
 go_wp2_with fail
 refine nameC ?_
 intro w1 hw1
 have hB2 : bW w (w.alloc (.cells (cB none 0 0 0 0 0 0 ⟨#[]⟩ ⟨#[]⟩ 0) 35)) := (Below.refl _ w).alloc nL _
 have hB : bW w w1 := by rw [hw1]; exact hB2.alloc (by simp) _
 have h2 : w1.heap[w.heap.size]? = some (.cells (cB none 0 0 0 0 0 0 ⟨#[]⟩ ⟨#[]⟩ 0) 35 (0, 0)) := by
  rw [hw1, heap_alloc_old _ _ (by simp)]
  exact heap_alloc_new w _
 have hC : Cur w1 (w.heap.size + 1) A n c 0 := by rw [hw1]; have h := (hc.below hB2).cur (c := c) (T := 89); simpa using h
 obtain ⟨g, hg⟩ : ∃ q, w.heap.size + 1 = q := ⟨_, rfl⟩
 rw [hg] at hC
 try rw [hg]
 have hgl := hC.lt
 clear hw1 hc hB2
 refine (console_any g n c 0 A w1 hC hn (by omega)).mono ?_
 rintro e w2 ⟨B', m, c', L, I, H, S, P, D, Q, z, rfl, hm7, hle, hD, hQ, hbd, hown, hC, hf⟩
 have hz1 := hB.size
 have hzf := hf.size
 have h2 := (hf.block _ (gL h2) (Or.inl (by omega))).trans h2
 have hB := hB.trans (hf.below (by omega) hB.size)
 have hown := ownsRow_monoP hown (show w.heap.size + 2 ≤ w1.heap.size by omega)
 clear hf
 go_upto_region 3 with fail
 refine nameWS ?_
 intro w3 hw3
 have hn2 : bW w2 w3 := by rw [hw3]; exact (Below.refl _ w2).alloc nL _
 have h5 := an hw3
 have hS : DS w w3 g w2.heap.size B' m c' L I H S P D Q z := ⟨below_of hB hn2 hB.size, h5, ownsRow_below hown hn2, rowB h2 hn2, by omega, by omega⟩
 have hC := hC.below hn2
 obtain ⟨b5, hb5⟩ : ∃ q, w2.heap.size = q := ⟨_, rfl⟩
 rw [hb5] at hS
 try rw [hb5]
 clear hw3 hn2 hb5 h5 h2 hown hB hz1 hzf hgl hg
 have h5 := hS.box
 obtain ⟨e0, e1, e2, e3, e4, e5, e6, e7⟩ := cells8 h5
 clear h5
 go_wp2_with fail
 refine (command_any g n c _ A B' m c' (w.heap.size + 2) w3.heap.size (lf L) I H S P D Q z w3 hC hn (by omega) (own_sl hS.own) (by have := hS.g1; omega) (by omega) hle hbd).mono ?_
 rintro e w4 ⟨s0, rfl, hs0, hC, hf⟩
 have hS := hS.step hf
 clear hf
 clear e0 e1 e2 e3 e4 e5 e6 e7
 go_wp2_with fail
 refine (pick_any g n c _ 5 A w4 hC hn (by omega) (by omega) (by omega)).mono ?_
 rintro e w5 ⟨k0, rfl, hk0, hC, hf⟩
 have hS := hS.step hf
 clear hf
 have hin : ∃ (k : Nat) (s : ByteArray), k ≤ 4 ∧ (.int .i64 (k0 : Int) : Value) = .int .i64 k ∧ (.string s0 : Value) = .string s ∧ s.size ≤ 100 + 101 * (4 - k) ∧ DS w w5 g b5 B' m c' L I H S P D Q z ∧ Cur w5 g A n c (2000 + 24 * (4 - k)) := ⟨k0, s0, by omega, rfl, rfl, by omega, hS, hC.weaken (by omega)⟩
 clear hS hC hs0
 go_wp2_with fail
 go_loopw [6, 7] (fun sv nv wr => ∃ (k : Nat) (s : ByteArray), k ≤ 4 ∧ nv = .int .i64 k ∧ sv = .string s ∧ s.size ≤ 100 + 101 * (4 - k) ∧ DS w wr g b5 B' m c' L I H S P D Q z ∧ Cur wr g A n c (2000 + 24 * (4 - k))) (fun _ nv _ => (intOf nv).toNat)
 case atStart => exact hin
 case round =>
  clear hin
  obtain ⟨k, s, hk, rfl, rfl, hs, hS, hC⟩ := hrel
  by_cases hlt : 0 < k
  ·have hki : (0 : Int) < (k : Int) := by omega
   have hkw : IntKind.i64.wrap ((k : Int) - 1) = ((k - 1 : Nat) : Int) := by rw [IntWalk.i64_in _ (by omega)]; omega
   have h5 := hS.box
   obtain ⟨e0, e1, e2, e3, e4, e5, e6, e7⟩ := cells8 h5
   clear h5
   go_wp2_with fail
   refine (command_any g n c _ A B' m c' (w.heap.size + 2) wr.heap.size (lf L) I H S P D Q z wr hC hn (by omega) (own_sl hS.own) (by have := hS.g1; omega) (by omega) hle hbd).mono ?_
   rintro e w6 ⟨s1, rfl, hs1, hC, hf⟩
   have hS := hS.step hf
   clear hf
   clear e0 e1 e2 e3 e4 e5 e6 e7
   have HS := lh hS
   have HC := lh hC
   clear hS hC
   go_wp2
   go_roundw
   case rel => exact ⟨k - 1, _, by omega, by go_num, rfl, by (try simp only [ByteArray.size_append', ByteArray.size_mk', List.size_toArray, List.length_cons, List.length_nil]); omega, HS.out, HC.out.weaken (by omega)⟩
   case measure => simp [intOf]; omega
  ·have hki : ¬ ((0 : Int) < (k : Int)) := by omega
   go_wp2_with fail
   refine (one_any g n c _ 20 A wr hC hn (by omega) (by omega) (by omega)).mono ?_
   rintro e w7 ⟨bb, rfl, hC, hf⟩
   have hS := hS.step hf
   clear hf
   cases bb with
   | false =>
    have h5 := hS.box
    have h2 := hS.zero
    obtain ⟨e0, e1, e2, e3, e4, e5, e6, e7⟩ := cells8 h5
    obtain ⟨r0, r1, r2, r3, r4, r5, r6, r7⟩ := cells8 h2
    have rf := fz h2
    have H2 := lh h2
    have HS := lh hS
    have hne : b5 ≠ w.heap.size := by have := hS.g1; have := hS.g2; omega
    have hne2 : w.heap.size ≠ b5 := hne.symm
    clear h2 h5 hS hC
    go_wp2
    obtain ⟨wq, hwq⟩ : ∃ wq, wq = ((((((((w7.setCell ⟨w.heap.size, 0, none⟩ (.slice B' m c')).setCell ⟨w.heap.size, 1, none⟩ (.int .i64 I)).setCell ⟨w.heap.size, 2, none⟩ (.int .i64 H)).setCell ⟨w.heap.size, 3, none⟩ (.int .i64 S)).setCell ⟨w.heap.size, 4, none⟩ (.int .i64 P)).setCell ⟨w.heap.size, 5, none⟩ (.string D)).setCell ⟨w.heap.size, 6, none⟩ (.string Q)).setCell ⟨w.heap.size, 7, none⟩ (.int .i64 z)) := ⟨_, rfl⟩
    rw [← hwq]
    have q0 : cE wq w.heap.size 0 (.slice B' m c') := by rw [hwq]; go_simp
    have q1 : cI wq w.heap.size 1 I := by rw [hwq]; go_simp
    have q2 : cI wq w.heap.size 2 H := by rw [hwq]; go_simp
    have q3 : cI wq w.heap.size 3 S := by rw [hwq]; go_simp
    have q4 : cI wq w.heap.size 4 P := by rw [hwq]; go_simp
    have q5 : cE wq w.heap.size 5 (.string D) := by rw [hwq]; go_simp
    have q6 : cE wq w.heap.size 6 (.string Q) := by rw [hwq]; go_simp
    have q7 : cI wq w.heap.size 7 z := by rw [hwq]; go_simp
    have no : ∀ j : Nat, (Value.slice B' m c').ownBlock ≠ some (⟨w.heap.size, j, none⟩ : Addr).block := fun j e => row_none_ne HS.out.own H2.out (by decide) e
    have hq := (ownsRow_setCell_other (ownsRow_setCell_other (ownsRow_setCell_other (ownsRow_setCell_other (ownsRow_setCell_other (ownsRow_setCell_other (ownsRow_setCell_other (ownsRow_setCell_other HS.out.own (no 0) (.slice B' m c')) (no 1) (.int .i64 I)) (no 2) (.int .i64 H)) (no 3) (.int .i64 S)) (no 4) (.int .i64 P)) (no 5) (.string D)) (no 6) (.string Q)) (no 7) (.int .i64 z))
    have hBq := ((((((((HS.out.be.setCell (p := ⟨w.heap.size, 0, none⟩) nL (.slice B' m c')).setCell (p := ⟨w.heap.size, 1, none⟩) nL (.int .i64 I)).setCell (p := ⟨w.heap.size, 2, none⟩) nL (.int .i64 H)).setCell (p := ⟨w.heap.size, 3, none⟩) nL (.int .i64 S)).setCell (p := ⟨w.heap.size, 4, none⟩) nL (.int .i64 P)).setCell (p := ⟨w.heap.size, 5, none⟩) nL (.string D)).setCell (p := ⟨w.heap.size, 6, none⟩) nL (.string Q)).setCell (p := ⟨w.heap.size, 7, none⟩) nL (.int .i64 z))
    rw [← hwq] at hq hBq
    obtain ⟨B9, c9, e9, hd⟩ := drawnRow_of 4 hq (show w.heap.size ≤ w.heap.size + 2 by omega)
    cases e9
    clear hwq HS H2
    try simp only [Exit.inBlock, Exit.then]
    refine bodyPost_ret (by simp [results, Tryz.results26, go_sem, q0, q1, q2, q3, q4, q5, q6, q7]; try rfl) rfl ?_
    exact ⟨_, _, _, _, _, _, _, _, _, _, _, _, rfl, hm7, by omega, by omega, by omega, hd, hBq⟩
   | true =>
    clear hs
    go_wp2_with fail
    refine (pick_any g n c _ 2 A w7 hC hn (by omega) (by omega) (by omega)).mono ?_
    rintro e w8 ⟨k2, rfl, hk2, hC, hf⟩
    have hS := hS.step hf
    clear hf
    have hkw : IntKind.i64.wrap (29 + (k2 : Int)) = ((29 + k2 : Nat) : Int) := by rw [IntWalk.i64_in _ (by omega)]; omega
    have hin : ∃ (j : Nat) (s : ByteArray), j ≤ 30 ∧ (.int .i64 ((29 + k2 : Nat) : Int) : Value) = .int .i64 j ∧ (.string ⟨#[]⟩ : Value) = .string s ∧ s.size ≤ 30 - j + 30 ∧ DS w w8 g b5 B' m c' L I H S P D Q z := ⟨29 + k2, _, by omega, rfl, rfl, Nat.zero_le _, hS⟩
    clear hS hC
    go_wp2_with fail
    go_loopw [6, 8] (fun sv nv wr => ∃ (j : Nat) (s : ByteArray), j ≤ 30 ∧ nv = .int .i64 j ∧ sv = .string s ∧ s.size ≤ 30 - j + 30 ∧ DS w wr g b5 B' m c' L I H S P D Q z) (fun _ nv _ => (intOf nv).toNat)
    case atStart => exact hin
    case round =>
     clear hin hkw
     obtain ⟨j, s, hj, rfl, rfl, hs, hS⟩ := hrel
     by_cases hlt : 0 < j
     ·have hki : (0 : Int) < (j : Int) := by omega
      have hkw : IntKind.i64.wrap ((j : Int) - 1) = ((j - 1 : Nat) : Int) := by rw [IntWalk.i64_in _ (by omega)]; omega
      have HS := lh hS
      clear hS
      go_wp2
      go_roundw
      case rel => exact ⟨j - 1, _, by omega, by go_num, rfl, by (try simp only [ByteArray.size_append', ByteArray.size_mk', List.size_toArray, List.length_cons, List.length_nil]); omega, HS.out⟩
      case measure => simp [intOf]; omega
     ·have hki : ¬ ((0 : Int) < (j : Int)) := by omega
      have h5 := hS.box
      have h2 := hS.zero
      obtain ⟨e0, e1, e2, e3, e4, e5, e6, e7⟩ := cells8 h5
      obtain ⟨r0, r1, r2, r3, r4, r5, r6, r7⟩ := cells8 h2
      have rf := fz h2
      have H2 := lh h2
      have HS := lh hS
      have hne : b5 ≠ w.heap.size := by have := hS.g1; have := hS.g2; omega
      have hne2 : w.heap.size ≠ b5 := hne.symm
      clear h2 h5 hS
      go_wp2
      obtain ⟨wq, hwq⟩ : ∃ wq, wq = ((((((((wr.setCell ⟨w.heap.size, 0, none⟩ (.slice B' m c')).setCell ⟨w.heap.size, 1, none⟩ (.int .i64 I)).setCell ⟨w.heap.size, 2, none⟩ (.int .i64 H)).setCell ⟨w.heap.size, 3, none⟩ (.int .i64 S)).setCell ⟨w.heap.size, 4, none⟩ (.int .i64 P)).setCell ⟨w.heap.size, 5, none⟩ (.string D)).setCell ⟨w.heap.size, 6, none⟩ (.string Q)).setCell ⟨w.heap.size, 7, none⟩ (.int .i64 z)) := ⟨_, rfl⟩
      rw [← hwq]
      have q0 : cE wq w.heap.size 0 (.slice B' m c') := by rw [hwq]; go_simp
      have q1 : cI wq w.heap.size 1 I := by rw [hwq]; go_simp
      have q2 : cI wq w.heap.size 2 H := by rw [hwq]; go_simp
      have q3 : cI wq w.heap.size 3 S := by rw [hwq]; go_simp
      have q4 : cI wq w.heap.size 4 P := by rw [hwq]; go_simp
      have q5 : cE wq w.heap.size 5 (.string D) := by rw [hwq]; go_simp
      have q6 : cE wq w.heap.size 6 (.string Q) := by rw [hwq]; go_simp
      have q7 : cI wq w.heap.size 7 z := by rw [hwq]; go_simp
      have no : ∀ j : Nat, (Value.slice B' m c').ownBlock ≠ some (⟨w.heap.size, j, none⟩ : Addr).block := fun j e => row_none_ne HS.out.own H2.out (by decide) e
      have hq := (ownsRow_setCell_other (ownsRow_setCell_other (ownsRow_setCell_other (ownsRow_setCell_other (ownsRow_setCell_other (ownsRow_setCell_other (ownsRow_setCell_other (ownsRow_setCell_other HS.out.own (no 0) (.slice B' m c')) (no 1) (.int .i64 I)) (no 2) (.int .i64 H)) (no 3) (.int .i64 S)) (no 4) (.int .i64 P)) (no 5) (.string D)) (no 6) (.string Q)) (no 7) (.int .i64 z))
      have hBq := ((((((((HS.out.be.setCell (p := ⟨w.heap.size, 0, none⟩) nL (.slice B' m c')).setCell (p := ⟨w.heap.size, 1, none⟩) nL (.int .i64 I)).setCell (p := ⟨w.heap.size, 2, none⟩) nL (.int .i64 H)).setCell (p := ⟨w.heap.size, 3, none⟩) nL (.int .i64 S)).setCell (p := ⟨w.heap.size, 4, none⟩) nL (.int .i64 P)).setCell (p := ⟨w.heap.size, 5, none⟩) nL (.string D)).setCell (p := ⟨w.heap.size, 6, none⟩) nL (.string Q)).setCell (p := ⟨w.heap.size, 7, none⟩) nL (.int .i64 z))
      rw [← hwq] at hq hBq
      obtain ⟨B9, c9, e9, hd⟩ := drawnRow_of 4 hq (show w.heap.size ≤ w.heap.size + 2 by omega)
      cases e9
      clear hwq HS H2
      try simp only [Exit.inBlock, Exit.then]
      refine bodyPost_ret (by simp [results, Tryz.results26, go_sem, q0, q1, q2, q3, q4, q5, q6, q7]; try rfl) rfl ?_
      exact ⟨_, _, _, _, _, _, _, _, _, _, _, _, rfl, hm7, by omega, by omega, by omega, hd, hBq⟩
end Go.Proofs.YtpndjhelpoenpaaGreatDoor
