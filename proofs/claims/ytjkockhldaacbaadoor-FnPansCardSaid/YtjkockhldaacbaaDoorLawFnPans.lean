/-
  The walk of the law FnPans.
-/
import Derived.Test.YtjkockhldaacbaaDoorPk1
import Derived.Test.YtjkockhldaacbaaDoorPk7
import Derived.Test.YtjkockhldaacbaaDoorWorksP
import Derived.Test.YtjkockhldaacbaaDoorWorksN
import Derived.Test.YtjkockhldaacbaaDoorDrawIP
import Derived.Deep.CutBlock
namespace Go.Proofs.YtjkockhldaacbaaDoor
open Go.RowKit
set_option linter.unusedVariables false
set_option linter.unusedSimpArgs false
set_option maxRecDepth 100000 in
set_option maxHeartbeats 4000000 in
theorem FnPans_walk (A0 : Option Addr) (n0 c0 : Nat) (w : World) (hnc0 : n0 ≤ c0) (hcm0 : c0 ≤ maxLen) (hk0 : Code w A0 n0) (ht : Tab w) :
    Calls Tryd.prog 3 #[.slice A0 n0 c0] w fun e w' => e = .returned (.bool true) ∧ Below w.heap.size w w' := by
  by_cases hbig : 65536 < n0
  · go_enter Tryd.func3, Tryd.ntmps3
    go_wp2_with fail
    refine (vBig_any A0 n0 c0 w).mono ?_
    rw [decide_eq_true hbig]
    rintro e w1 ⟨rfl, rfl⟩
    go_wp2
    go_ret
    exact ⟨rfl, Below.refl _ _⟩
  go_enter Tryd.func3, Tryd.ntmps3
  go_wp2_with fail
  refine (vBig_any A0 n0 c0 w).mono ?_
  rw [decide_eq_false hbig]
  rintro e wx ⟨rfl, hwx⟩
  rw [hwx]
  clear hwx wx
  go_wp2_with fail
  refine (DrawDryToRake_any A0 n0 c0 w hk0 (by omega)).mono ?_
  rintro e w1 ⟨B0, m0, cm0, L0, I0, H0, S0, P0, id, rfl, hm0, hd, hB⟩
  have HK : Hid (∀ w', Below w.heap.size w w' → Code w' A0 n0) := fun w' h => hk0.below h
  clear hk0
  have BX := hB
  clear hB
  have hs0 := hd.own.sl
  have hle0 := hd.le
  have hn0 := hd.nil
  have hf0 := hd.form
  clear hd
  go_upto_region 4 with fail
  refine name_wp ?_
  intro v1 hw
  have hb : Below w1.heap.size w1 v1 := by rw [hw]; exact (Below.refl _ _).alloc (Nat.le_refl _) _
  have hr3 : v1.heap[w1.heap.size]? = some (.cells #[.slice B0 m0 cm0, .int .i64 I0, .int .i64 H0, .int .i64 S0, .int .i64 P0] 26 (0, 0)) := by rw [hw]; exact heap_alloc_new w1 _
  clear hw
  have z1 := hb.size
  have BX := below_of BX hb BX.size
  have hs0 := hs0.below hb
  clear hb
  have j3 := rowLt hr3
  obtain ⟨x3, hq3⟩ : ∃ q, w1.heap.size = q := ⟨_, rfl⟩
  rw [hq3] at hr3 j3
  try rw [hq3]
  have HQ3 := Lib.hid hq3
  clear hq3
  obtain ⟨r, ok, HI, HS, HX⟩ := dry_both (lf L0) m0 I0 H0 S0 P0 id (by omega)
  have hrr : ((r : Int) != (r : Int)) = false := by simp
  have hkk : (ok != ok) = false := by simp
  obtain ⟨e0, e1, e2, e3, e4⟩ := cells5 hr3
  go_wp2_with fail
  refine (HI.out B0 cm0 _ _ v1 hs0 hle0).mono ?_
  rintro e v2 ⟨rfl, hb⟩
  have z2 := hb.size
  have BX := below_of BX hb BX.size
  have hr3 := rowB hr3 hb
  have hs0 := hs0.below hb
  clear hb
  clear e0 e1 e2 e3 e4
  obtain ⟨e0, e1, e2, e3, e4⟩ := cells5 hr3
  go_wp2_with fail
  refine (HS.out B0 cm0 _ _ v2 hs0 hle0).mono ?_
  rintro e v3 ⟨rfl, hb⟩
  have z3 := hb.size
  have BX := below_of BX hb BX.size
  have hr3 := rowB hr3 hb
  have hs0 := hs0.below hb
  clear hb
  clear e0 e1 e2 e3 e4
  clear HI HS
  go_upto_region 8 with fail
  go_cut [68] (fun s wx => s = .bool (ok && decide (0 < (r : Int))) ∧ wx = v3)
  case first =>
    as_aux_lemma =>
      clear HX
      cases ok with
      | false =>
        go_wp2_with fail
        go_meet
        case rel => exact ⟨rfl, rfl⟩
      | true =>
        go_wp2_with fail
        go_meet
        case rel => exact ⟨by simp, rfl⟩
  case rest =>
    obtain ⟨rfl, hwe⟩ := hcut
    rw [hwe]
    clear hwe wc hrr hkk
    generalize hbb : (ok && decide (0 < (r : Int))) = bb
    have HBB := Lib.hid hbb
    clear hbb
    go_upto_if 68 with fail
    go_cut [] (fun wx => Below v3.heap.size v3 wx)
    case first =>
      as_aux_lemma =>
        cases bb with
        | false =>
          clear HX HBB
          go_wp2_with fail
          go_meet
          case rel => exact Below.refl _ _
        | true =>
          have hbt := HBB.out
          rw [Bool.and_eq_true, decide_eq_true_eq] at hbt
          obtain ⟨L1, m1, I1, H1, S1, P1, hm1, HST, HD⟩ := HX.out hbt.1 (by omega)
          clear hbt HX HBB
          have BY := Below.refl v3.heap.size v3
          have hBX := Lib.hid BX
          clear BX
          have BX := BY
          clear BY
          obtain ⟨e0, e1, e2, e3, e4⟩ := cells5 hr3
          go_wp2_with fail
          refine (HST.out _ _ _ _ v3 hs0 hle0 hn0 hf0).mono ?_
          rintro e v4 ⟨A5, c5, rfl, hc5, _, hown, hb⟩
          have z4 := hb.size
          have BX := below_of BX hb BX.size
          have hr3 := rowB hr3 hb
          have hs0 := hs0.below hb
          clear hb
          have hs5 := own_sl hown
          clear hown
          clear e0 e1 e2 e3 e4
          go_upto_region 10 with fail
          refine name_wp ?_
          intro v5 hw
          have hb : Below v4.heap.size v4 v5 := by rw [hw]; exact (Below.refl _ _).alloc (Nat.le_refl _) _
          have hr5 : v5.heap[v4.heap.size]? = some (.cells #[.slice A5 m1 c5, .int .i64 I1, .int .i64 H1, .int .i64 S1, .int .i64 P1] 26 (0, 0)) := by rw [hw]; exact heap_alloc_new v4 _
          clear hw
          have z5 := hb.size
          have BX := below_of BX hb BX.size
          have hr3 := rowB hr3 hb
          have hs0 := hs0.below hb
          have hs5 := hs5.below hb
          clear hb
          have j5 := rowLt hr5
          obtain ⟨x5, hq5⟩ : ∃ q, v4.heap.size = q := ⟨_, rfl⟩
          rw [hq5] at hr5 j5
          try rw [hq5]
          have HQ5 := Lib.hid hq5
          clear hq5
          obtain ⟨e0, e1, e2, e3, e4⟩ := cells5 hr5
          go_wp2_with fail
          refine (HD.out A5 c5 _ _ v5 hs5 hc5).mono ?_
          rintro e v6 ⟨rfl, hb⟩
          have z6 := hb.size
          have BX := below_of BX hb BX.size
          have hr3 := rowB hr3 hb
          have hr5 := rowB hr5 hb
          have hs0 := hs0.below hb
          have hs5 := hs5.below hb
          clear hb
          clear e0 e1 e2 e3 e4
          go_wp2_with fail
          go_meet
          case rel => exact BX
    case rest =>
      clear HX HBB bb hr3 hs0 hle0 hn0 hf0
      obtain ⟨v7, hwe⟩ : ∃ v, wc = v := ⟨_, rfl⟩
      rw [hwe] at hcut
      try rw [hwe]
      have hb := hcut
      clear hwe hcut wc
      have z7 := hb.size
      have BX := below_of BX hb BX.size
      clear hb
      go_wp2_with fail
      refine (DrawPanOrder_any A0 n0 c0 v7 (HK.out _ BX) (by omega)).mono ?_
      rintro e v8 ⟨B2, m2, cm2, L2, I2, H2, S2, P2, rfl, hm2, hd, hb⟩
      have z8 := hb.size
      have BX := below_of BX hb BX.size
      clear hb
      have hs2 := hd.own.sl
      have hle2 := hd.le
      have hn2 := hd.nil
      have hf2 := hd.form
      clear hd
      go_upto_region 14 with fail
      refine name_wp ?_
      intro v9 hw
      have hb : Below v8.heap.size v8 v9 := by rw [hw]; exact (Below.refl _ _).alloc (Nat.le_refl _) _
      have hr13 : v9.heap[v8.heap.size]? = some (.cells #[.slice B2 m2 cm2, .int .i64 I2, .int .i64 H2, .int .i64 S2, .int .i64 P2] 26 (0, 0)) := by rw [hw]; exact heap_alloc_new v8 _
      clear hw
      have z9 := hb.size
      have BX := below_of BX hb BX.size
      have hs2 := hs2.below hb
      clear hb
      have j13 := rowLt hr13
      obtain ⟨x13, hq13⟩ : ∃ q, v8.heap.size = q := ⟨_, rfl⟩
      rw [hq13] at hr13 j13
      try rw [hq13]
      have HQ13 := Lib.hid hq13
      clear hq13
      have HMS := Lib.hid (may_step (lf L2) m2 I2 H2 S2 P2 (by omega))
      have hlo := ord_len (lf L2) m2 (goodWorks (lf L2) m2 I2 H2 S2 P2) (by omega)
      have hlm := may_len (lf L2) m2 (goodWorks (lf L2) m2 I2 H2 S2 P2) (by omega)
      have HA := Lib.hid (fun W lo hi hs => PanOrder_any B2 m2 cm2 lo hi (lf L2) I2 H2 S2 P2 W hs (by omega) hle2)
      have HB := Lib.hid (fun W lo hi hs => sPanOrder_any B2 m2 cm2 lo hi (lf L2) I2 H2 S2 P2 W hs (by omega) hle2)
      have HC := Lib.hid (fun W lo hi hs => MayRake_any B2 m2 cm2 lo hi (lf L2) I2 H2 S2 P2 W hs (by omega) hle2)
      have HD := Lib.hid (fun W lo hi hs => sMayRake_any B2 m2 cm2 lo hi (lf L2) I2 H2 S2 P2 W hs (by omega) hle2)
      generalize goodWorks (lf L2) m2 I2 H2 S2 P2 = gb at HMS HA HB HC HD hlo hlm
      generalize ordRes (lf L2) m2 gb = OL at HMS HA HB hlo
      generalize rakeRes (lf L2) m2 gb = RL at HMS HC HD hlm
      have hgg : (gb != gb) = false := by simp
      obtain ⟨e0, e1, e2, e3, e4⟩ := cells5 hr13
      go_wp2_with fail
      refine (HA.out v9 _ _ hs2).mono ?_
      rintro e v10 ⟨Aa, ca, rfl, hca, _, hoa, hb⟩
      have z10 := hb.size
      have BX := below_of BX hb BX.size
      have hr13 := rowB hr13 hb
      have hs2 := hs2.below hb
      clear hb
      clear e0 e1 e2 e3 e4
      obtain ⟨e0, e1, e2, e3, e4⟩ := cells5 hr13
      go_wp2_with fail
      refine (HB.out v10 _ _ hs2).mono ?_
      rintro e v11 ⟨Ab, cb, rfl, hcb, _, hob, hb⟩
      have z11 := hb.size
      have BX := below_of BX hb BX.size
      have hr13 := rowB hr13 hb
      have hs2 := hs2.below hb
      have hoa := hoa.below hb
      clear hb
      clear e0 e1 e2 e3 e4
      clear HA HB
      go_wp2_with fail
      refine (vInts_same Aa Ab OL.length ca cb _ _ _ _ _ v11 hoa.sl hob.sl hlo).mono ?_
      rintro e v12 ⟨rfl, hb⟩
      have z12 := hb.size
      have BX := below_of BX hb BX.size
      have hr13 := rowB hr13 hb
      have hs2 := hs2.below hb
      have hoa := hoa.below hb
      have hob := hob.below hb
      clear hb
      clear hob hcb
      obtain ⟨e0, e1, e2, e3, e4⟩ := cells5 hr13
      go_wp2_with fail
      refine (HC.out v12 _ _ hs2).mono ?_
      rintro e v13 ⟨Ac, cc, rfl, hcc, _, hoc, hb⟩
      have z13 := hb.size
      have BX := below_of BX hb BX.size
      have hr13 := rowB hr13 hb
      have hs2 := hs2.below hb
      have hoa := hoa.below hb
      clear hb
      clear e0 e1 e2 e3 e4
      obtain ⟨e0, e1, e2, e3, e4⟩ := cells5 hr13
      go_wp2_with fail
      refine (HD.out v13 _ _ hs2).mono ?_
      rintro e v14 ⟨Ad, cd, rfl, hcd, _, hod, hb⟩
      have z14 := hb.size
      have BX := below_of BX hb BX.size
      have hr13 := rowB hr13 hb
      have hs2 := hs2.below hb
      have hoa := hoa.below hb
      have hoc := hoc.below hb
      clear hb
      clear e0 e1 e2 e3 e4
      clear HC HD
      go_wp2_with fail
      refine (vInts_same Ac Ad RL.length cc cd _ _ _ _ _ v14 hoc.sl hod.sl hlm).mono ?_
      rintro e v15 ⟨rfl, hb⟩
      have z15 := hb.size
      have BX := below_of BX hb BX.size
      have hr13 := rowB hr13 hb
      have hs2 := hs2.below hb
      have hoa := hoa.below hb
      have hoc := hoc.below hb
      have hod := hod.below hb
      clear hb
      clear hod hcd
      have HROW := Lib.hid hr13
      have HS2 := Lib.hid hs2
      have HOA := Lib.hid hoa
      have HOC := Lib.hid hoc
      have HBX := Lib.hid BX
      clear hr13 hs2 hoa hoc BX hgg
      go_wp2_with fail
      go_loopw [22] (fun kv wr => (∃ k : Nat, k ≤ RL.length ∧ kv = .int .i64 k) ∧ Below v15.heap.size v15 wr) (fun kv _ => RL.length - (intOf kv).toNat)
      case atStart => exact ⟨⟨0, Nat.zero_le _, rfl⟩, Below.refl _ _⟩
      case round =>
        obtain ⟨⟨k, hk, rfl⟩, hbel⟩ := hrel
        by_cases hlt : k < RL.length
        · have hki : (k : Int) < (RL.length : Int) := by omega
          have hk0 : (0 : Int) ≤ (k : Int) := by omega
          obtain ⟨hhas, hst⟩ := HMS.out k hlt
          have hoc := HOC.out.below hbel
          obtain ⟨b1, o1, eA, hb1l, hb1h, hcc⟩ := hoc.sl.here (by omega)
          have d0 := hcc k (by omega)
          subst eA
          clear hcc
          have hr13 := rowB HROW.out hbel
          have hs2 := HS2.out.below hbel
          have hoa := HOA.out.below hbel
          have hbl : b1 < wr.heap.size := by have := hoc.sl.hi_le; omega
          skip
          have HH : Hid (∀ W, Below wr.heap.size wr W → Calls Tryd.prog 15 #[.slice Aa OL.length ca, .int .i64 (RL.getD k 0)] W fun e w' => e = .returned (.bool true) ∧ w' = W) := fun W hq => by
            have h := vHas_any Aa OL.length ca _ _ _ (RL.getD k 0) W (hoa.below hq).sl hlo
            rw [hhas] at h
            exact h
          have HF : Hid (∀ w', Below wr.heap.size wr w' → w'.cell? ⟨x13, 0, none⟩ = some (.slice B2 m2 cm2) ∧ w'.cell? ⟨x13, 1, none⟩ = some (.int .i64 I2) ∧ w'.cell? ⟨x13, 2, none⟩ = some (.int .i64 H2) ∧ w'.cell? ⟨x13, 3, none⟩ = some (.int .i64 S2) ∧ w'.cell? ⟨x13, 4, none⟩ = some (.int .i64 P2) ∧ w'.cell? ⟨b1, o1 + k, none⟩ = some (.int .i64 (RL.getD k 0))) := fun w' hq => by
            have h3 := rowB hr13 hq
            exact ⟨by rw [cell_of_row w' x13 0 _ _ (0, 0) h3]; rfl, by rw [cell_of_row w' x13 1 _ _ (0, 0) h3]; rfl, by rw [cell_of_row w' x13 2 _ _ (0, 0) h3]; rfl, by rw [cell_of_row w' x13 3 _ _ (0, 0) h3]; rfl, by rw [cell_of_row w' x13 4 _ _ (0, 0) h3]; rfl, (hq.cell (p := ⟨b1, o1 + k, none⟩) hbl).trans d0⟩
          clear hhas d0 hr13 hoa hoc
          generalize RL.getD k 0 = zk at *
          go_upto_region 25 with fail
          go_cut [24] from 138 to 164 (fun sb wx => sb = .bool true ∧ Below wr.heap.size wr wx)
          case first =>
            as_aux_lemma =>
              refine wp_region_held_drew (S := fun w' => Below wr.heap.size wr w') (by kernel_rfl) ((Below.refl _ _).drew) (fun hHeld => ?_)
              obtain ⟨y0, hv0⟩ : ∃ v, wr.drew = v := ⟨_, rfl⟩
              rw [hv0] at hHeld ⊢
              clear hv0
              refine tk (v := ?_) 0 145 HF rfl ?_ hHeld ?_
              rotate_left; · (intro _ _ _; go_simp; try with_reducible rfl)
              simp only [Act.put, p1, p2, p3]
              refine tk (v := ?_) 1 146 HF rfl ?_ hHeld ?_
              rotate_left; · (intro _ _ _; go_simp; try with_reducible rfl)
              simp only [Act.put, p1, p2, p3]
              refine tk (v := ?_) 2 147 HF rfl ?_ hHeld ?_
              rotate_left; · (intro _ _ _; go_simp; try with_reducible rfl)
              simp only [Act.put, p1, p2, p3]
              refine tk (v := ?_) 3 148 HF rfl ?_ hHeld ?_
              rotate_left; · (intro _ _ _; go_simp; try with_reducible rfl)
              simp only [Act.put, p1, p2, p3]
              refine tk (v := ?_) 4 149 HF rfl ?_ hHeld ?_
              rotate_left; · (intro _ _ _; go_simp; try with_reducible rfl)
              simp only [Act.put, p1, p2, p3]
              refine tk (v := ?_) 5 150 HF rfl ?_ hHeld ?_
              rotate_left; · (intro _ _ _; go_simp; try with_reducible rfl)
              simp only [Act.put, p1, p2, p3]
              refine wpAnyH_ready (rs := [6, 10]) (by kernel_rfl) (by simp) ?_
              refine (AllReadyH.cons rfl (fun K hK => ?_) (AllReadyH.cons rfl (fun K hK => ?_) AllReadyH.nil))
              · go_simp
                refine (hst.out B2 cm2 _ _ y0 (hs2.below hHeld) hle2 hn2 hf2).mono ?_
                rintro e y1 ⟨⟨A1, c1, I1, H1, S1, P1, rfl⟩, hb⟩
                have hS2 := below_of hHeld hb hHeld.size
                clear hHeld hb
                refine hK.out _ _ hS2 (fun hHeld => ?_)
                clear hK K hS2
                refine tk (v := ?_) 7 144 HF rfl ?_ hHeld ?_
                rotate_left; · (intro _ _ _; go_simp; try with_reducible rfl)
                simp only [Act.put, p1, p2, p3]
                refine tk (v := ?_) 8 152 HF rfl ?_ hHeld ?_
                rotate_left; · (intro _ _ _; go_simp; try with_reducible rfl)
                simp only [Act.put, p1, p2, p3]
                refine tk (v := ?_) 9 153 HF rfl ?_ hHeld ?_
                rotate_left; · (intro _ _ _; go_simp; try with_reducible rfl)
                simp only [Act.put, p1, p2, p3]
                refine wpAnyH_ready (rs := [10]) (by kernel_rfl) (by simp) ?_
                refine (AllReadyH.cons rfl (fun K hK => ?_) AllReadyH.nil)
                go_simp
                have hg := heap_alloc_new y1 (.cells #[.slice none 0 0, .int .i64 0, .int .i64 0, .int .i64 0, .int .i64 0] 26)
                have hnb := (Below.refl _ y1).alloc (Nat.le_refl _) (.cells #[.slice none 0 0, .int .i64 0, .int .i64 0, .int .i64 0, .int .i64 0] 26)
                have hS2 := below_of hHeld hnb hHeld.size
                have hgle := hHeld.size
                obtain ⟨g26, hge⟩ : ∃ q, y1.heap.size = q := ⟨_, rfl⟩
                rw [hge] at hg hgle
                try rw [hge]
                obtain ⟨y2, hve⟩ : ∃ v, y1.alloc (.cells #[.slice none 0 0, .int .i64 0, .int .i64 0, .int .i64 0, .int .i64 0] 26) = v := ⟨_, rfl⟩
                rw [hve] at hg hS2
                rw [hve]
                clear hHeld hnb hge hve
                refine hK.out _ _ hS2 (fun hHeld => ?_)
                clear hK K hS2
                refine wpAnyH_store (fuel := 1) (i := 11) rfl (by kernel_rfl) g26 0 (.agg #[.slice A1 m2 c1, .int .i64 I1, .int .i64 H1, .int .i64 S1, .int .i64 P1]) 26 #[.slice none 0 0, .int .i64 0, .int .i64 0, .int .i64 0, .int .i64 0] rfl rfl infoWorksK hg (Nat.le_refl 5) (by simp [Value.cells, Value.oneCell']) (fun w' hg' => hHeld.grown hg' hHeld.size (fun k hk => by cases hk; exact hgle)) ?ks1
                case ks1 =>
                  intro y9 hh hgw hS3
                  clear hHeld
                  have hHeld := hS3
                  clear hh hgw hS3
                  refine tk (v := ?_) 12 24 HF rfl ?_ hHeld ?_
                  rotate_left; · (intro _ _ _; go_simp; try with_reducible rfl)
                  simp only [Act.put, p1, p2, p3]
                  refine wpAnyH_done (by kernel_rfl) ?_ _
                  go_wp2_with fail
                  go_meet
                  case rel => exact ⟨rfl, hHeld⟩
              · go_simp
                have hg := heap_alloc_new y0 (.cells #[.slice none 0 0, .int .i64 0, .int .i64 0, .int .i64 0, .int .i64 0] 26)
                have hnb := (Below.refl _ y0).alloc (Nat.le_refl _) (.cells #[.slice none 0 0, .int .i64 0, .int .i64 0, .int .i64 0, .int .i64 0] 26)
                have hS2 := below_of hHeld hnb hHeld.size
                have hgle := hHeld.size
                obtain ⟨g26, hge⟩ : ∃ q, y0.heap.size = q := ⟨_, rfl⟩
                rw [hge] at hg hgle
                try rw [hge]
                obtain ⟨y1, hve⟩ : ∃ v, y0.alloc (.cells #[.slice none 0 0, .int .i64 0, .int .i64 0, .int .i64 0, .int .i64 0] 26) = v := ⟨_, rfl⟩
                rw [hve] at hg hS2
                rw [hve]
                clear hHeld hnb hge hve
                refine hK.out _ _ hS2 (fun hHeld => ?_)
                clear hK K hS2
                refine wpAnyH_ready (rs := [6]) (by kernel_rfl) (by simp) ?_
                refine (AllReadyH.cons rfl (fun K hK => ?_) AllReadyH.nil)
                go_simp
                refine (hst.out B2 cm2 _ _ y1 (hs2.below hHeld) hle2 hn2 hf2).mono ?_
                rintro e y2 ⟨⟨A1, c1, I1, H1, S1, P1, rfl⟩, hb⟩
                have hg := rowB hg hb
                have hS2 := below_of hHeld hb hHeld.size
                clear hHeld hb
                refine hK.out _ _ hS2 (fun hHeld => ?_)
                clear hK K hS2
                refine tk (v := ?_) 7 144 HF rfl ?_ hHeld ?_
                rotate_left; · (intro _ _ _; go_simp; try with_reducible rfl)
                simp only [Act.put, p1, p2, p3]
                refine tk (v := ?_) 8 152 HF rfl ?_ hHeld ?_
                rotate_left; · (intro _ _ _; go_simp; try with_reducible rfl)
                simp only [Act.put, p1, p2, p3]
                refine tk (v := ?_) 9 153 HF rfl ?_ hHeld ?_
                rotate_left; · (intro _ _ _; go_simp; try with_reducible rfl)
                simp only [Act.put, p1, p2, p3]
                refine wpAnyH_store (fuel := 1) (i := 11) rfl (by kernel_rfl) g26 0 (.agg #[.slice A1 m2 c1, .int .i64 I1, .int .i64 H1, .int .i64 S1, .int .i64 P1]) 26 #[.slice none 0 0, .int .i64 0, .int .i64 0, .int .i64 0, .int .i64 0] rfl rfl infoWorksK hg (Nat.le_refl 5) (by simp [Value.cells, Value.oneCell']) (fun w' hg' => hHeld.grown hg' hHeld.size (fun k hk => by cases hk; exact hgle)) ?ks2
                case ks2 =>
                  intro y9 hh hgw hS3
                  clear hHeld
                  have hHeld := hS3
                  clear hh hgw hS3
                  refine tk (v := ?_) 12 24 HF rfl ?_ hHeld ?_
                  rotate_left; · (intro _ _ _; go_simp; try with_reducible rfl)
                  simp only [Act.put, p1, p2, p3]
                  refine wpAnyH_done (by kernel_rfl) ?_ _
                  go_wp2_with fail
                  go_meet
                  case rel => exact ⟨rfl, hHeld⟩
          case rest =>
            obtain ⟨rfl, hb⟩ := hcut
            obtain ⟨wy, hwe⟩ : ∃ v, wc = v := ⟨_, rfl⟩
            rw [hwe] at hb
            try rw [hwe]
            clear hwe wc hst
            obtain ⟨_, _, _, _, _, d0⟩ := HF.out wy hb
            have HHW := HH.out wy hb
            have hbz := hb.size
            have hbel2 := Lib.hid (below_of hbel hb hbel.size)
            clear HF HH hb hs2
            have hkw : IntKind.i64.wrap ((k : Int) + 1) = ((k + 1 : Nat) : Int) := by rw [IntWalk.i64_in _ (by omega)]; omega
            go_wp2_with fail
            refine HHW.mono ?_
            rintro e wx ⟨rfl, hwx⟩
            rw [hwx]
            clear hwx wx HHW
            go_wp2
            go_roundw
            case rel => exact ⟨⟨k + 1, by omega, by go_num⟩, hbel2.out⟩
            case measure => simp [intOf]; omega
        · obtain rfl : k = RL.length := by omega
          have hki : ¬ ((RL.length : Int) < (RL.length : Int)) := by omega
          have BX := HBX.out.trans (hbel.mono HBX.out.size)
          clear hbel HBX HROW HS2 HOA HOC HMS
          go_wp2_with fail
          refine (DrawRoomInPan_any A0 n0 c0 wr (HK.out _ BX) (by omega)).mono ?_
          rintro e v16 ⟨B5, m5, cm5, L5, I5, H5, S5, P5, zr, rfl, hm5, hd, hb⟩
          have z16 := hb.size
          have BX := below_of BX hb BX.size
          clear hb
          have hs5 := hd.own.sl
          have hle5 := hd.le
          have hn5 := hd.nil
          have hf5 := hd.form
          clear hd
          go_upto_region 29 with fail
          refine name_wp ?_
          intro v17 hw
          have hb : Below v16.heap.size v16 v17 := by rw [hw]; exact (Below.refl _ _).alloc (Nat.le_refl _) _
          have hr25 : v17.heap[v16.heap.size]? = some (.cells #[.slice B5 m5 cm5, .int .i64 I5, .int .i64 H5, .int .i64 S5, .int .i64 P5] 26 (0, 0)) := by rw [hw]; exact heap_alloc_new v16 _
          clear hw
          have z17 := hb.size
          have BX := below_of BX hb BX.size
          have hs5 := hs5.below hb
          clear hb
          have j25 := rowLt hr25
          obtain ⟨x25, hq25⟩ : ∃ q, v16.heap.size = q := ⟨_, rfl⟩
          rw [hq25] at hr25 j25
          try rw [hq25]
          have HQ25 := Lib.hid hq25
          clear hq25
          obtain ⟨rr, ok5, hr0, HI, HS⟩ := room_both (lf L5) m5 I5 H5 S5 P5 zr (by omega)
          have hrr : (rr != rr) = false := by simp
          have hkk : (ok5 != ok5) = false := by simp
          have hrn : ¬ (rr < 0) := by omega
          have hrd : decide (rr < 0) = false := decide_eq_false hrn
          obtain ⟨e0, e1, e2, e3, e4⟩ := cells5 hr25
          go_wp2_with fail
          refine (HI.out B5 cm5 _ _ v17 hs5 hle5).mono ?_
          rintro e v18 ⟨rfl, hb⟩
          have z18 := hb.size
          have BX := below_of BX hb BX.size
          have hr25 := rowB hr25 hb
          have hs5 := hs5.below hb
          clear hb
          clear e0 e1 e2 e3 e4
          obtain ⟨e0, e1, e2, e3, e4⟩ := cells5 hr25
          go_wp2_with fail
          refine (HS.out B5 cm5 _ _ v18 hs5 hle5).mono ?_
          rintro e v19 ⟨rfl, hb⟩
          have z19 := hb.size
          have BX := below_of BX hb BX.size
          have hr25 := rowB hr25 hb
          have hs5 := hs5.below hb
          clear hb
          clear e0 e1 e2 e3 e4
          clear HI HS hs5 hle5 hn5 hf5 hr25
          go_wp2_with fail
          refine (DrawPanText_any A0 n0 c0 v19 (HK.out _ BX) (by omega)).mono ?_
          rintro e v20 ⟨B7, m7, cm7, L7, I7, H7, S7, P7, zt, rfl, hm7, hd, hb⟩
          have z20 := hb.size
          have BX := below_of BX hb BX.size
          clear hb
          have hs7 := hd.own.sl
          have hle7 := hd.le
          have hn7 := hd.nil
          have hf7 := hd.form
          clear hd
          clear hrr hkk hrn hrd hr0
          go_upto_region 34 with fail
          refine name_wp ?_
          intro v21 hw
          have hb : Below v20.heap.size v20 v21 := by rw [hw]; exact (Below.refl _ _).alloc (Nat.le_refl _) _
          have hr31 : v21.heap[v20.heap.size]? = some (.cells #[.slice B7 m7 cm7, .int .i64 I7, .int .i64 H7, .int .i64 S7, .int .i64 P7] 26 (0, 0)) := by rw [hw]; exact heap_alloc_new v20 _
          clear hw
          have z21 := hb.size
          have BX := below_of BX hb BX.size
          have hs7 := hs7.below hb
          clear hb
          have j31 := rowLt hr31
          obtain ⟨x31, hq31⟩ : ∃ q, v20.heap.size = q := ⟨_, rfl⟩
          rw [hq31] at hr31 j31
          try rw [hq31]
          have HQ31 := Lib.hid hq31
          clear hq31
          obtain ⟨tt, ok7, HI, HS⟩ := text_both (lf L7) m7 I7 H7 S7 P7 zt (by omega)
          obtain ⟨e0, e1, e2, e3, e4⟩ := cells5 hr31
          go_wp2_with fail
          refine (HI.out B7 cm7 _ _ v21 hs7 hle7 (ht.below BX)).mono ?_
          rintro e v22 ⟨rfl, hb⟩
          have z22 := hb.size
          have BX := below_of BX hb BX.size
          have hr31 := rowB hr31 hb
          have hs7 := hs7.below hb
          clear hb
          clear e0 e1 e2 e3 e4
          obtain ⟨e0, e1, e2, e3, e4⟩ := cells5 hr31
          go_wp2_with fail
          refine (HS.out B7 cm7 _ _ v22 hs7 hle7).mono ?_
          rintro e v23 ⟨rfl, hb⟩
          have z23 := hb.size
          have BX := below_of BX hb BX.size
          have hr31 := rowB hr31 hb
          have hs7 := hs7.below hb
          clear hb
          clear e0 e1 e2 e3 e4
          clear HI HS hs7 hle7 hn7 hf7 hr31
          have htt : (tt.toList == tt.toList) = true := by simp
          have hkk : (ok7 == ok7) = true := by simp
          have HBX := Lib.hid BX
          clear BX
          go_wp2
          go_ret
          exact ⟨rfl, HBX.out⟩
end Go.Proofs.YtjkockhldaacbaaDoor
