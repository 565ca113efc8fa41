/-
  The walk of the law FnBirds.
-/
import Derived.Test.YtcecpioiagfoiaaDoorBirdsP
import Derived.Test.YtcecpioiagfoiaaDoorNestD
import Derived.Test.YtcecpioiagfoiaaDoorNestE
import Derived.Test.YtcecpioiagfoiaaDoorNestL
import Derived.Test.YtcecpioiagfoiaaDoorNestT
import Derived.Test.YtcecpioiagfoiaaDoorDrawN
import Derived.Test.YtcecpioiagfoiaaDoorDrawOne
import Derived.Test.YtcecpioiagfoiaaDoorRels
import Derived.Deep.Cut
namespace Go.Proofs.YtcecpioiagfoiaaDoor
open Go.RowKit
set_option linter.unusedVariables false
set_option linter.unusedSimpArgs false
set_option maxRecDepth 100000 in
set_option maxHeartbeats 4000000 in
theorem FnBirds_walk (A0 : Option Addr) (n0 c0 : Nat) (w : World) (hnc0 : n0 ≤ c0) (hcm0 : c0 ≤ maxLen) (hk0 : Code w A0 n0) (ht : Tab w) :
    Calls Tryd.prog 3 #[.slice A0 n0 c0] w fun e w' => e = .returned (.bool true) ∧ Below w.heap.size w w' := by
  by_cases hbig : 65536 < n0
  · go_enter Tryd.func3, Tryd.ntmps3
    go_wp2_with fail
    refine (rBig_any A0 n0 c0 w).mono ?_
    rw [decide_eq_true hbig]
    rintro e w1 ⟨rfl, rfl⟩
    go_wp2
    go_ret
    exact ⟨rfl, Below.refl _ _⟩
  go_enter Tryd.func3, Tryd.ntmps3
  go_wp2_with fail
  refine (rBig_any A0 n0 c0 w).mono ?_
  rw [decide_eq_false hbig]
  rintro e wx ⟨rfl, hwx⟩
  rw [hwx]
  clear hwx wx
  have HTT := Lib.hid ht
  go_wp2_with fail
  refine (DrawNearPairs_any A0 n0 c0 w hk0 (by omega)).mono ?_
  rintro e w1 ⟨A1, m, c1, f, rfl, hm, hd, hB⟩
  have HK : Hid (∀ w', Below w.heap.size w w' → Code w' A0 n0) := fun w' h => hk0.below h
  clear hk0
  go_wp2_with fail
  refine (NearPairs_any A1 m c1 _ _ f _ hd.own.sl (by omega) hd.le hd.max).mono ?_
  rintro e w2 ⟨Ap, cp, rfl, hcp, hcpm, hp, hb⟩
  have hB := below_of hB hb hB.size
  have hd := hd.below hb
  clear hb
  go_wp2_with fail
  refine (sNearPairs_any A1 m c1 _ _ f _ hd.own.sl (by omega) hd.le hd.max).mono ?_
  rintro e w3 ⟨As, cs, rfl, hcs, hcsm, hs, hb⟩
  have hB := below_of hB hb hB.size
  have hd := hd.below hb
  have hp := hp.below hb
  clear hb
  go_wp2_with fail
  refine (rTable_same _ _ _ _ _ _ _ _ _ _ _ hp hs (npRes_len f m)).mono ?_
  rintro e w4 ⟨rfl, hb⟩
  have hB := below_of hB hb hB.size
  have hd := hd.below hb
  clear hb
  clear hs hcs hcsm hp hcp hcpm
  go_wp2_with fail
  refine (NestAll_any A1 m c1 _ _ f _ hd.own.sl (by omega) hd.le).mono ?_
  rintro e w5 ⟨rfl, hb⟩
  have hB := below_of hB hb hB.size
  clear hb
  clear hd
  go_wp2_with fail
  refine (DrawNearestNest_any A0 n0 c0 _ (HK.out _ hB) (by omega)).mono ?_
  rintro e w6 ⟨A2, m2, c2, g, z0, z1, rfl, hm2, hd, hb⟩
  have hB := below_of hB hb hB.size
  clear hb
  by_cases hq : goodNests g m2 = true ∧ 0 < m2 ∧ inR z0 0 999 = true ∧ inR z1 0 999 = true
  · obtain ⟨hg, hm0, hx, hy⟩ := hq
    go_wp2_with fail
    refine (NearestNest_yes A2 m2 c2 _ _ g z0 z1 _ hd.own.sl (by omega) hd.le hg hm0 hx hy).mono ?_
    rintro e w7 ⟨rfl, hb⟩
    have hB := below_of hB hb hB.size
    have hd := hd.below hb
    clear hb
    go_wp2_with fail
    refine (sNearestNest_yes A2 m2 c2 _ _ g z0 z1 _ hd.own.sl (by omega) hd.le hg hm0 hx hy).mono ?_
    rintro e w8 ⟨rfl, hb⟩
    have hB := below_of hB hb hB.size
    have hd := hd.below hb
    clear hb
    have HM : ∀ i, i < m2 → sqAt g z0 z1 (nearTo g z0 z1 m2) ≤ sqAt g z0 z1 i := fun i h => near_min g m2 z0 z1 i h
    have HI : ∀ i, i < m2 → g (i * 7) = g (nearTo g z0 z1 m2 * 7) → sqAt g z0 z1 i = sqAt g z0 z1 (nearTo g z0 z1 m2) := fun i h e => near_id hg h e
    generalize sqAt g z0 z1 (nearTo g z0 z1 m2) = SQ at HM HI ⊢
    generalize g (nearTo g z0 z1 m2 * 7) = BI at HI ⊢
    have HM := Lib.hid HM
    have HI := Lib.hid HI
    have HD := Lib.hid hd
    have HB := Lib.hid hB
    clear hd hB hx hy hg
    go_wp2_with fail
    go_loopw [17] (fun iv wr => (∃ i : Nat, i ≤ m2 ∧ iv = .int .i64 i) ∧ Below w8.heap.size w8 wr) (fun iv _ => m2 - (intOf iv).toNat)
    case atStart => exact ⟨⟨0, Nat.zero_le _, rfl⟩, Below.refl _ _⟩
    case round =>
    obtain ⟨⟨i, hi, rfl⟩, hbel⟩ := hrel
    by_cases hlt : i < m2
    · obtain ⟨b, off, eA, hbw, HC⟩ := HD.out.own.sl.open_ hbel (by omega)
      obtain ⟨e0, e1, e2, e3, e4, e5, e6⟩ := cell7 HC hlt
      subst eA
      have hi0 : (0 : Int) ≤ (i : Int) := by omega
      have hi1 : (i : Int) < (m2 : Int) := by omega
      have hm1 := HM.out i hlt
      have hm3 := HI.out i hlt
      unfold sqAt sqV at hm1 hm3
      clear HC e1 e2 e3 e4
      have hF : ∀ w', Below wr.heap.size wr w' → w'.cell? ⟨b, off + i * 7, none⟩ = some (.int .i64 (g (i * 7))) := fun w' hq => (hq.cell (p := ⟨b, off + i * 7, none⟩) hbw).trans e0
      have hF := Lib.hid hF
      have hm1 := Lib.hid hm1
      have hm3 := Lib.hid hm3
      go_wp2
      go_quiet (fail)
      have hbq := below_drewN hbel
      have hm1 := hm1.out
      have hm3 := hm3.out
      generalize wrap64 (wrap64 (wrap64 (g (i * 7 + 5) - z0) * wrap64 (g (i * 7 + 5) - z0)) + wrap64 (wrap64 (g (i * 7 + 6) - z1) * wrap64 (g (i * 7 + 6) - z1))) = Q at hm1 hm3 ⊢
      have t1 : decide (Q < SQ) = false := by simp; omega
      by_cases hid : g (i * 7) = BI
      · have t2 : (g (i * 7) == BI) = true := by simp [hid]
        have t3 : (Q == SQ) = true := by simp [hm3 hid]
        clear hm1 hm3 hid
        go_wp2
        go_roundw
        case rel => exact ⟨⟨i + 1, by omega, by go_num⟩, hbq _⟩
        case measure => simp [intOf]; omega
      · have t2 : (g (i * 7) == BI) = false := by simp [hid]
        clear hm1 hm3 hid
        go_wp2
        go_roundw
        case rel => exact ⟨⟨i + 1, by omega, by go_num⟩, hbq _⟩
        case measure => simp [intOf]; omega
    have hi1 : ¬ ((i : Int) < (m2 : Int)) := by omega
    have hB := below_of HB.out hbel HB.out.size
    clear HD HB HM HI hbel
    go_wp2_with fail
    refine (DrawPathPast_any A0 n0 c0 _ (HK.out _ hB) (by omega)).mono ?_
    rintro e x1 ⟨A3, m3, c3, h, z2, z3, rfl, hm3, hd, hb⟩
    have hB := below_of hB hb hB.size
    clear hb
    have H1 := fun lo hi W hs => PathPast_any A3 m3 c3 lo hi h z2 z3 W hs (by omega) hd.le
    have H2 := fun lo hi W hs => sPathPast_any A3 m3 c3 lo hi h z2 z3 W hs (by omega) hd.le
    have H3 := fun lo hi W hs => AliveOn_any A3 m3 c3 lo hi h z3 W hs (by omega) hd.le
    have HPH : ∀ k, k < (pastRes h m3 z2 z3).length → _ := fun k hk => past_has (f := h) (n := m3) (x := z2) (day := z3) hk
    have hl1 := pastRes_len h m3 z2 z3
    have hl2 : (aliveRes h m3 z3).length ≤ 1048576 := by
      unfold aliveRes; split
      · have := pick_len (aliveAt h z3) (idAt h) m3; omega
      · simp
    generalize pastRes h m3 z2 z3 = L1 at H1 H2 HPH hl1
    generalize aliveRes h m3 z3 = L2 at H3 HPH hl2
    generalize pastOk h m3 z2 z3 = o1 at H1 H2
    generalize aliveOk h m3 z3 = o2 at H3 HPH
    have H1 := Lib.hid H1
    have H2 := Lib.hid H2
    have H3 := Lib.hid H3
    have HPH := Lib.hid HPH
    go_wp2_with fail
    refine (H1.out _ _ _ hd.own.sl).mono ?_
    rintro e x2 ⟨Ap, cp, rfl, hcp, hcpm, hp, hb⟩
    have hB := below_of hB hb hB.size
    have hd := hd.below hb
    clear hb
    go_wp2_with fail
    refine (H2.out _ _ _ hd.own.sl).mono ?_
    rintro e x3 ⟨As, cs, rfl, hcs, hcsm, hs, hb⟩
    have hB := below_of hB hb hB.size
    have hd := hd.below hb
    have hp := hp.below hb
    clear hb
    go_wp2_with fail
    refine (rInts_same _ _ _ _ _ _ _ _ _ _ _ hp.sl hs.sl (by omega)).mono ?_
    rintro e x4 ⟨rfl, hb⟩
    have hB := below_of hB hb hB.size
    have hd := hd.below hb
    have hp := hp.below hb
    clear hb
    clear hs hcs hcsm H1 H2
    go_wp2_with fail
    refine (H3.out _ _ _ hd.own.sl).mono ?_
    rintro e x5 ⟨Aa, ca, rfl, hca, hcam, ha, hb⟩
    have hB := below_of hB hb hB.size
    have hp := hp.below hb
    clear hb
    clear hd H3
    have HP := Lib.hid hp
    have HA := Lib.hid ha
    have HB := Lib.hid hB
    clear hp ha hB
    go_wp2_with fail
    go_loop [28] (fun iv => ∃ i : Nat, i ≤ L1.length ∧ iv = .int .i64 i) (fun iv => L1.length - (intOf iv).toNat)
    case atStart => exact ⟨0, Nat.zero_le _, rfl⟩
    case round =>
    obtain ⟨i, hi, rfl⟩ := hrel
    by_cases hlt : i < L1.length
    · obtain ⟨rfl, hh⟩ := HPH.out i hlt
      have hA := HA.out
      obtain ⟨b, off, eA, hbw, HC⟩ := HP.out.sl.open_ (Below.refl _ _) (by omega)
      have c0' := HC.out i (by omega)
      subst eA
      have hi0 : (0 : Int) ≤ (i : Int) := by omega
      have hi1 : (i : Int) < (L1.length : Int) := by omega
      have HHA := fun W hs => rHas_any Aa L2.length ca x4.heap.size x5.heap.size (fun j => L2.getD j 0) (L1.getD i 0) W hs hl2
      rw [hh] at HHA
      have HHA := Lib.hid HHA
      have HA1 := Lib.hid hA
      clear HC hh hA HPH
      generalize L1.getD i 0 = V at c0' HHA
      go_wp2_with fail
      refine (HHA.out _ HA1.out.sl).mono ?_
      rintro e wx ⟨rfl, hwx⟩
      rw [hwx]
      clear hwx wx
      go_wp2
      go_round
      case rel => exact ⟨i + 1, by omega, by go_num⟩
      case measure => simp [intOf]; omega
    have hi1 : ¬ ((i : Int) < (L1.length : Int)) := by omega
    have hB := HB.out
    clear HP HA HB HPH
    go_wp2_with fail
    refine (DrawKindsAt_any A0 n0 c0 _ (HK.out _ hB) (by omega)).mono ?_
    rintro e y1 ⟨A4, m4, c4, v, z4, rfl, hm4, hd, hb⟩
    have hB := below_of hB hb hB.size
    clear hb
    have H1 := fun lo hi W hs => KindsAt_any A4 m4 c4 lo hi v z4 W hs (by omega) hd.le
    have H2 := fun lo hi W hs => sKindsAt_any A4 m4 c4 lo hi v z4 W hs (by omega) hd.le
    have hl3 : (kindsRes v m4 z4).length ≤ 1048576 := by
      unfold kindsRes; split
      · have := onceL_len (pick (atPond v z4) (kindAt v) m4); have := pick_len (atPond v z4) (kindAt v) m4; omega
      · simp
    generalize kindsRes v m4 z4 = L3 at H1 H2 hl3
    generalize kindsOk v m4 z4 = o3 at H1 H2
    have H1 := Lib.hid H1
    have H2 := Lib.hid H2
    go_wp2_with fail
    refine (H1.out _ _ _ hd.own.sl).mono ?_
    rintro e y2 ⟨Ak, ck, rfl, hck, hckm, hk, hb⟩
    have hB := below_of hB hb hB.size
    have hd := hd.below hb
    clear hb
    go_wp2_with fail
    refine (H2.out _ _ _ hd.own.sl).mono ?_
    rintro e y3 ⟨As, cs, rfl, hcs, hcsm, hs, hb⟩
    have hB := below_of hB hb hB.size
    have hk := hk.below hb
    clear hb
    clear hd H1 H2
    go_wp2_with fail
    refine (DrawNestText_any A0 n0 c0 _ (HK.out _ hB) (by omega)).mono ?_
    rintro e y4 ⟨a0, a1, a2, a3, a4, a5, a6, rfl, hb⟩
    have hB := below_of hB hb hB.size
    have hk := hk.below hb
    have hs := hs.below hb
    clear hb
    go_wp2_with fail
    refine nameC ?_
    intro y5 hy5
    have hX : Blk y5 y4.heap.size 36 [a0, a1, a2, a3, a4, a5, a6] := by rw [hy5]; exact Blk.new [a0, a1, a2, a3, a4, a5, a6] rfl
    have hb : Below y4.heap.size y4 y5 := by rw [hy5]; exact (Below.refl _ _).alloc (Nat.le_refl _) _
    have hB := below_of hB hb hB.size
    have hk := hk.below hb
    have hs := hs.below hb
    clear hb hy5
    generalize y4.heap.size = bx at hX ⊢
    have H1 := fun W ht => NestText_any a0 a1 a2 a3 a4 a5 a6 W ht
    have H2 := fun W => sNestText_any a0 a1 a2 a3 a4 a5 a6 W
    have H3 := fun W => NestOne_any a0 a1 a2 a3 a4 a5 a6 W
    generalize (if okNest a0 a1 a2 a3 a4 a5 a6 = true then nestText a1 a2 a3 a4 a5 a6 else ⟨#[]⟩) = ST at H1 H2
    generalize okNest a0 a1 a2 a3 a4 a5 a6 = bk at H1 H2 H3
    have H1 := Lib.hid H1
    have H2 := Lib.hid H2
    have H3 := Lib.hid H3
    refine (H1.out _ (ht.below hB)).mono ?_
    rintro e y6 ⟨rfl, hb⟩
    have hX : Blk _ bx 36 [a0, a1, a2, a3, a4, a5, a6] := (hb.block bx hX.lt).trans hX
    have hB := below_of hB hb hB.size
    have hk := hk.below hb
    have hs := hs.below hb
    clear hb
    have x0 : y6.cell? ⟨bx, 0, none⟩ = some (.int .i64 a0) := hX.cell (j := 0) (by simp)
    have x1 : y6.cell? ⟨bx, 1, none⟩ = some (.int .i64 a1) := hX.cell (j := 1) (by simp)
    have x2 : y6.cell? ⟨bx, 2, none⟩ = some (.int .i64 a2) := hX.cell (j := 2) (by simp)
    have x3 : y6.cell? ⟨bx, 3, none⟩ = some (.int .i64 a3) := hX.cell (j := 3) (by simp)
    have x4 : y6.cell? ⟨bx, 4, none⟩ = some (.int .i64 a4) := hX.cell (j := 4) (by simp)
    have x5 : y6.cell? ⟨bx, 5, none⟩ = some (.int .i64 a5) := hX.cell (j := 5) (by simp)
    have x6 : y6.cell? ⟨bx, 6, none⟩ = some (.int .i64 a6) := hX.cell (j := 6) (by simp)
    go_wp2_with fail
    clear x0 x1 x2 x3 x4 x5 x6
    refine (H2.out _).mono ?_
    rintro e y7 ⟨rfl, hb⟩
    have hX : Blk _ bx 36 [a0, a1, a2, a3, a4, a5, a6] := (hb.block bx hX.lt).trans hX
    have hB := below_of hB hb hB.size
    have hk := hk.below hb
    have hs := hs.below hb
    clear hb
    have x0 : y7.cell? ⟨bx, 0, none⟩ = some (.int .i64 a0) := hX.cell (j := 0) (by simp)
    have x1 : y7.cell? ⟨bx, 1, none⟩ = some (.int .i64 a1) := hX.cell (j := 1) (by simp)
    have x2 : y7.cell? ⟨bx, 2, none⟩ = some (.int .i64 a2) := hX.cell (j := 2) (by simp)
    have x3 : y7.cell? ⟨bx, 3, none⟩ = some (.int .i64 a3) := hX.cell (j := 3) (by simp)
    have x4 : y7.cell? ⟨bx, 4, none⟩ = some (.int .i64 a4) := hX.cell (j := 4) (by simp)
    have x5 : y7.cell? ⟨bx, 5, none⟩ = some (.int .i64 a5) := hX.cell (j := 5) (by simp)
    have x6 : y7.cell? ⟨bx, 6, none⟩ = some (.int .i64 a6) := hX.cell (j := 6) (by simp)
    go_wp2_with fail
    refine (rInts_same _ _ _ _ _ _ _ _ _ _ _ hk.sl hs.sl hl3).mono ?_
    rintro e y8 ⟨rfl, hb⟩
    have hX : Blk _ bx 36 [a0, a1, a2, a3, a4, a5, a6] := (hb.block bx hX.lt).trans hX
    have hB := below_of hB hb hB.size
    clear hb hk hs
    clear x0 x1 x2 x3 x4 x5 x6
    have x0 : y8.cell? ⟨bx, 0, none⟩ = some (.int .i64 a0) := hX.cell (j := 0) (by simp)
    have x1 : y8.cell? ⟨bx, 1, none⟩ = some (.int .i64 a1) := hX.cell (j := 1) (by simp)
    have x2 : y8.cell? ⟨bx, 2, none⟩ = some (.int .i64 a2) := hX.cell (j := 2) (by simp)
    have x3 : y8.cell? ⟨bx, 3, none⟩ = some (.int .i64 a3) := hX.cell (j := 3) (by simp)
    have x4 : y8.cell? ⟨bx, 4, none⟩ = some (.int .i64 a4) := hX.cell (j := 4) (by simp)
    have x5 : y8.cell? ⟨bx, 5, none⟩ = some (.int .i64 a5) := hX.cell (j := 5) (by simp)
    have x6 : y8.cell? ⟨bx, 6, none⟩ = some (.int .i64 a6) := hX.cell (j := 6) (by simp)
    go_wp2_with fail
    clear x0 x1 x2 x3 x4 x5 x6
    refine (H3.out _).mono ?_
    rintro e y9 ⟨rfl, hb⟩
    have hX : Blk _ bx 36 [a0, a1, a2, a3, a4, a5, a6] := (hb.block bx hX.lt).trans hX
    have hB := below_of hB hb hB.size
    clear hb
    go_wp2
    go_ret
    exact ⟨by first | rfl | simp, hB⟩
  · have hno : goodNests g m2 = false ∨ m2 = 0 ∨ inR z0 0 999 = false ∨ inR z1 0 999 = false := by
      cases h1 : goodNests g m2 with
      | false => exact Or.inl rfl
      | true =>
        cases h2 : inR z0 0 999 with
        | false => exact Or.inr (Or.inr (Or.inl rfl))
        | true =>
          cases h3 : inR z1 0 999 with
          | false => exact Or.inr (Or.inr (Or.inr rfl))
          | true => exact Or.inr (Or.inl (by by_cases h0 : 0 < m2; · exact absurd ⟨h1, h0, h2, h3⟩ hq
                                             · omega))
    go_wp2_with fail
    refine (NearestNest_no A2 m2 c2 _ _ g z0 z1 _ hd.own.sl (by omega) hd.le hno).mono ?_
    rintro e w7 ⟨rfl, hb⟩
    have hB := below_of hB hb hB.size
    have hd := hd.below hb
    clear hb
    go_wp2_with fail
    refine (sNearestNest_no A2 m2 c2 _ _ g z0 z1 _ hd.own.sl (by omega) hd.le hno).mono ?_
    rintro e w8 ⟨rfl, hb⟩
    have hB := below_of hB hb hB.size
    clear hb
    clear hd hno hq
    have HB := Lib.hid hB
    clear hB
    by_cases hm0 : 0 < m2
    · have hmi : (0 : Int) < (m2 : Int) := by omega
      go_wp2_with fail
      go_loop [17] (fun iv => iv = .int .i64 0) (fun _ => 0)
      case atStart => rfl
      case round =>
      subst hrel
      have hB := HB.out
      clear HB
      go_wp2_with fail
      refine (DrawPathPast_any A0 n0 c0 _ (HK.out _ hB) (by omega)).mono ?_
      rintro e x1 ⟨A3, m3, c3, h, z2, z3, rfl, hm3, hd, hb⟩
      have hB := below_of hB hb hB.size
      clear hb
      have H1 := fun lo hi W hs => PathPast_any A3 m3 c3 lo hi h z2 z3 W hs (by omega) hd.le
      have H2 := fun lo hi W hs => sPathPast_any A3 m3 c3 lo hi h z2 z3 W hs (by omega) hd.le
      have H3 := fun lo hi W hs => AliveOn_any A3 m3 c3 lo hi h z3 W hs (by omega) hd.le
      have HPH : ∀ k, k < (pastRes h m3 z2 z3).length → _ := fun k hk => past_has (f := h) (n := m3) (x := z2) (day := z3) hk
      have hl1 := pastRes_len h m3 z2 z3
      have hl2 : (aliveRes h m3 z3).length ≤ 1048576 := by
        unfold aliveRes; split
        · have := pick_len (aliveAt h z3) (idAt h) m3; omega
        · simp
      generalize pastRes h m3 z2 z3 = L1 at H1 H2 HPH hl1
      generalize aliveRes h m3 z3 = L2 at H3 HPH hl2
      generalize pastOk h m3 z2 z3 = o1 at H1 H2
      generalize aliveOk h m3 z3 = o2 at H3 HPH
      have H1 := Lib.hid H1
      have H2 := Lib.hid H2
      have H3 := Lib.hid H3
      have HPH := Lib.hid HPH
      go_wp2_with fail
      refine (H1.out _ _ _ hd.own.sl).mono ?_
      rintro e x2 ⟨Ap, cp, rfl, hcp, hcpm, hp, hb⟩
      have hB := below_of hB hb hB.size
      have hd := hd.below hb
      clear hb
      go_wp2_with fail
      refine (H2.out _ _ _ hd.own.sl).mono ?_
      rintro e x3 ⟨As, cs, rfl, hcs, hcsm, hs, hb⟩
      have hB := below_of hB hb hB.size
      have hd := hd.below hb
      have hp := hp.below hb
      clear hb
      go_wp2_with fail
      refine (rInts_same _ _ _ _ _ _ _ _ _ _ _ hp.sl hs.sl (by omega)).mono ?_
      rintro e x4 ⟨rfl, hb⟩
      have hB := below_of hB hb hB.size
      have hd := hd.below hb
      have hp := hp.below hb
      clear hb
      clear hs hcs hcsm H1 H2
      go_wp2_with fail
      refine (H3.out _ _ _ hd.own.sl).mono ?_
      rintro e x5 ⟨Aa, ca, rfl, hca, hcam, ha, hb⟩
      have hB := below_of hB hb hB.size
      have hp := hp.below hb
      clear hb
      clear hd H3
      have HP := Lib.hid hp
      have HA := Lib.hid ha
      have HB := Lib.hid hB
      clear hp ha hB
      go_wp2_with fail
      go_loop [28] (fun iv => ∃ i : Nat, i ≤ L1.length ∧ iv = .int .i64 i) (fun iv => L1.length - (intOf iv).toNat)
      case atStart => exact ⟨0, Nat.zero_le _, rfl⟩
      case round =>
      obtain ⟨i, hi, rfl⟩ := hrel
      by_cases hlt : i < L1.length
      · obtain ⟨rfl, hh⟩ := HPH.out i hlt
        have hA := HA.out
        obtain ⟨b, off, eA, hbw, HC⟩ := HP.out.sl.open_ (Below.refl _ _) (by omega)
        have c0' := HC.out i (by omega)
        subst eA
        have hi0 : (0 : Int) ≤ (i : Int) := by omega
        have hi1 : (i : Int) < (L1.length : Int) := by omega
        have HHA := fun W hs => rHas_any Aa L2.length ca x4.heap.size x5.heap.size (fun j => L2.getD j 0) (L1.getD i 0) W hs hl2
        rw [hh] at HHA
        have HHA := Lib.hid HHA
        have HA1 := Lib.hid hA
        clear HC hh hA HPH
        generalize L1.getD i 0 = V at c0' HHA
        go_wp2_with fail
        refine (HHA.out _ HA1.out.sl).mono ?_
        rintro e wx ⟨rfl, hwx⟩
        rw [hwx]
        clear hwx wx
        go_wp2
        go_round
        case rel => exact ⟨i + 1, by omega, by go_num⟩
        case measure => simp [intOf]; omega
      have hi1 : ¬ ((i : Int) < (L1.length : Int)) := by omega
      have hB := HB.out
      clear HP HA HB HPH
      go_wp2_with fail
      refine (DrawKindsAt_any A0 n0 c0 _ (HK.out _ hB) (by omega)).mono ?_
      rintro e y1 ⟨A4, m4, c4, v, z4, rfl, hm4, hd, hb⟩
      have hB := below_of hB hb hB.size
      clear hb
      have H1 := fun lo hi W hs => KindsAt_any A4 m4 c4 lo hi v z4 W hs (by omega) hd.le
      have H2 := fun lo hi W hs => sKindsAt_any A4 m4 c4 lo hi v z4 W hs (by omega) hd.le
      have hl3 : (kindsRes v m4 z4).length ≤ 1048576 := by
        unfold kindsRes; split
        · have := onceL_len (pick (atPond v z4) (kindAt v) m4); have := pick_len (atPond v z4) (kindAt v) m4; omega
        · simp
      generalize kindsRes v m4 z4 = L3 at H1 H2 hl3
      generalize kindsOk v m4 z4 = o3 at H1 H2
      have H1 := Lib.hid H1
      have H2 := Lib.hid H2
      go_wp2_with fail
      refine (H1.out _ _ _ hd.own.sl).mono ?_
      rintro e y2 ⟨Ak, ck, rfl, hck, hckm, hk, hb⟩
      have hB := below_of hB hb hB.size
      have hd := hd.below hb
      clear hb
      go_wp2_with fail
      refine (H2.out _ _ _ hd.own.sl).mono ?_
      rintro e y3 ⟨As, cs, rfl, hcs, hcsm, hs, hb⟩
      have hB := below_of hB hb hB.size
      have hk := hk.below hb
      clear hb
      clear hd H1 H2
      go_wp2_with fail
      refine (DrawNestText_any A0 n0 c0 _ (HK.out _ hB) (by omega)).mono ?_
      rintro e y4 ⟨a0, a1, a2, a3, a4, a5, a6, rfl, hb⟩
      have hB := below_of hB hb hB.size
      have hk := hk.below hb
      have hs := hs.below hb
      clear hb
      go_wp2_with fail
      refine nameC ?_
      intro y5 hy5
      have hX : Blk y5 y4.heap.size 36 [a0, a1, a2, a3, a4, a5, a6] := by rw [hy5]; exact Blk.new [a0, a1, a2, a3, a4, a5, a6] rfl
      have hb : Below y4.heap.size y4 y5 := by rw [hy5]; exact (Below.refl _ _).alloc (Nat.le_refl _) _
      have hB := below_of hB hb hB.size
      have hk := hk.below hb
      have hs := hs.below hb
      clear hb hy5
      generalize y4.heap.size = bx at hX ⊢
      have H1 := fun W ht => NestText_any a0 a1 a2 a3 a4 a5 a6 W ht
      have H2 := fun W => sNestText_any a0 a1 a2 a3 a4 a5 a6 W
      have H3 := fun W => NestOne_any a0 a1 a2 a3 a4 a5 a6 W
      generalize (if okNest a0 a1 a2 a3 a4 a5 a6 = true then nestText a1 a2 a3 a4 a5 a6 else ⟨#[]⟩) = ST at H1 H2
      generalize okNest a0 a1 a2 a3 a4 a5 a6 = bk at H1 H2 H3
      have H1 := Lib.hid H1
      have H2 := Lib.hid H2
      have H3 := Lib.hid H3
      refine (H1.out _ (ht.below hB)).mono ?_
      rintro e y6 ⟨rfl, hb⟩
      have hX : Blk _ bx 36 [a0, a1, a2, a3, a4, a5, a6] := (hb.block bx hX.lt).trans hX
      have hB := below_of hB hb hB.size
      have hk := hk.below hb
      have hs := hs.below hb
      clear hb
      have x0 : y6.cell? ⟨bx, 0, none⟩ = some (.int .i64 a0) := hX.cell (j := 0) (by simp)
      have x1 : y6.cell? ⟨bx, 1, none⟩ = some (.int .i64 a1) := hX.cell (j := 1) (by simp)
      have x2 : y6.cell? ⟨bx, 2, none⟩ = some (.int .i64 a2) := hX.cell (j := 2) (by simp)
      have x3 : y6.cell? ⟨bx, 3, none⟩ = some (.int .i64 a3) := hX.cell (j := 3) (by simp)
      have x4 : y6.cell? ⟨bx, 4, none⟩ = some (.int .i64 a4) := hX.cell (j := 4) (by simp)
      have x5 : y6.cell? ⟨bx, 5, none⟩ = some (.int .i64 a5) := hX.cell (j := 5) (by simp)
      have x6 : y6.cell? ⟨bx, 6, none⟩ = some (.int .i64 a6) := hX.cell (j := 6) (by simp)
      go_wp2_with fail
      clear x0 x1 x2 x3 x4 x5 x6
      refine (H2.out _).mono ?_
      rintro e y7 ⟨rfl, hb⟩
      have hX : Blk _ bx 36 [a0, a1, a2, a3, a4, a5, a6] := (hb.block bx hX.lt).trans hX
      have hB := below_of hB hb hB.size
      have hk := hk.below hb
      have hs := hs.below hb
      clear hb
      have x0 : y7.cell? ⟨bx, 0, none⟩ = some (.int .i64 a0) := hX.cell (j := 0) (by simp)
      have x1 : y7.cell? ⟨bx, 1, none⟩ = some (.int .i64 a1) := hX.cell (j := 1) (by simp)
      have x2 : y7.cell? ⟨bx, 2, none⟩ = some (.int .i64 a2) := hX.cell (j := 2) (by simp)
      have x3 : y7.cell? ⟨bx, 3, none⟩ = some (.int .i64 a3) := hX.cell (j := 3) (by simp)
      have x4 : y7.cell? ⟨bx, 4, none⟩ = some (.int .i64 a4) := hX.cell (j := 4) (by simp)
      have x5 : y7.cell? ⟨bx, 5, none⟩ = some (.int .i64 a5) := hX.cell (j := 5) (by simp)
      have x6 : y7.cell? ⟨bx, 6, none⟩ = some (.int .i64 a6) := hX.cell (j := 6) (by simp)
      go_wp2_with fail
      refine (rInts_same _ _ _ _ _ _ _ _ _ _ _ hk.sl hs.sl hl3).mono ?_
      rintro e y8 ⟨rfl, hb⟩
      have hX : Blk _ bx 36 [a0, a1, a2, a3, a4, a5, a6] := (hb.block bx hX.lt).trans hX
      have hB := below_of hB hb hB.size
      clear hb hk hs
      clear x0 x1 x2 x3 x4 x5 x6
      have x0 : y8.cell? ⟨bx, 0, none⟩ = some (.int .i64 a0) := hX.cell (j := 0) (by simp)
      have x1 : y8.cell? ⟨bx, 1, none⟩ = some (.int .i64 a1) := hX.cell (j := 1) (by simp)
      have x2 : y8.cell? ⟨bx, 2, none⟩ = some (.int .i64 a2) := hX.cell (j := 2) (by simp)
      have x3 : y8.cell? ⟨bx, 3, none⟩ = some (.int .i64 a3) := hX.cell (j := 3) (by simp)
      have x4 : y8.cell? ⟨bx, 4, none⟩ = some (.int .i64 a4) := hX.cell (j := 4) (by simp)
      have x5 : y8.cell? ⟨bx, 5, none⟩ = some (.int .i64 a5) := hX.cell (j := 5) (by simp)
      have x6 : y8.cell? ⟨bx, 6, none⟩ = some (.int .i64 a6) := hX.cell (j := 6) (by simp)
      go_wp2_with fail
      clear x0 x1 x2 x3 x4 x5 x6
      refine (H3.out _).mono ?_
      rintro e y9 ⟨rfl, hb⟩
      have hX : Blk _ bx 36 [a0, a1, a2, a3, a4, a5, a6] := (hb.block bx hX.lt).trans hX
      have hB := below_of hB hb hB.size
      clear hb
      go_wp2
      go_ret
      exact ⟨by first | rfl | simp, hB⟩
    · obtain rfl : m2 = 0 := by omega
      go_wp2_with fail
      go_loop [17] (fun iv => iv = .int .i64 0) (fun _ => 0)
      case atStart => rfl
      case round =>
      subst hrel
      have hB := HB.out
      clear HB
      go_wp2_with fail
      refine (DrawPathPast_any A0 n0 c0 _ (HK.out _ hB) (by omega)).mono ?_
      rintro e x1 ⟨A3, m3, c3, h, z2, z3, rfl, hm3, hd, hb⟩
      have hB := below_of hB hb hB.size
      clear hb
      have H1 := fun lo hi W hs => PathPast_any A3 m3 c3 lo hi h z2 z3 W hs (by omega) hd.le
      have H2 := fun lo hi W hs => sPathPast_any A3 m3 c3 lo hi h z2 z3 W hs (by omega) hd.le
      have H3 := fun lo hi W hs => AliveOn_any A3 m3 c3 lo hi h z3 W hs (by omega) hd.le
      have HPH : ∀ k, k < (pastRes h m3 z2 z3).length → _ := fun k hk => past_has (f := h) (n := m3) (x := z2) (day := z3) hk
      have hl1 := pastRes_len h m3 z2 z3
      have hl2 : (aliveRes h m3 z3).length ≤ 1048576 := by
        unfold aliveRes; split
        · have := pick_len (aliveAt h z3) (idAt h) m3; omega
        · simp
      generalize pastRes h m3 z2 z3 = L1 at H1 H2 HPH hl1
      generalize aliveRes h m3 z3 = L2 at H3 HPH hl2
      generalize pastOk h m3 z2 z3 = o1 at H1 H2
      generalize aliveOk h m3 z3 = o2 at H3 HPH
      have H1 := Lib.hid H1
      have H2 := Lib.hid H2
      have H3 := Lib.hid H3
      have HPH := Lib.hid HPH
      go_wp2_with fail
      refine (H1.out _ _ _ hd.own.sl).mono ?_
      rintro e x2 ⟨Ap, cp, rfl, hcp, hcpm, hp, hb⟩
      have hB := below_of hB hb hB.size
      have hd := hd.below hb
      clear hb
      go_wp2_with fail
      refine (H2.out _ _ _ hd.own.sl).mono ?_
      rintro e x3 ⟨As, cs, rfl, hcs, hcsm, hs, hb⟩
      have hB := below_of hB hb hB.size
      have hd := hd.below hb
      have hp := hp.below hb
      clear hb
      go_wp2_with fail
      refine (rInts_same _ _ _ _ _ _ _ _ _ _ _ hp.sl hs.sl (by omega)).mono ?_
      rintro e x4 ⟨rfl, hb⟩
      have hB := below_of hB hb hB.size
      have hd := hd.below hb
      have hp := hp.below hb
      clear hb
      clear hs hcs hcsm H1 H2
      go_wp2_with fail
      refine (H3.out _ _ _ hd.own.sl).mono ?_
      rintro e x5 ⟨Aa, ca, rfl, hca, hcam, ha, hb⟩
      have hB := below_of hB hb hB.size
      have hp := hp.below hb
      clear hb
      clear hd H3
      have HP := Lib.hid hp
      have HA := Lib.hid ha
      have HB := Lib.hid hB
      clear hp ha hB
      go_wp2_with fail
      go_loop [28] (fun iv => ∃ i : Nat, i ≤ L1.length ∧ iv = .int .i64 i) (fun iv => L1.length - (intOf iv).toNat)
      case atStart => exact ⟨0, Nat.zero_le _, rfl⟩
      case round =>
      obtain ⟨i, hi, rfl⟩ := hrel
      by_cases hlt : i < L1.length
      · obtain ⟨rfl, hh⟩ := HPH.out i hlt
        have hA := HA.out
        obtain ⟨b, off, eA, hbw, HC⟩ := HP.out.sl.open_ (Below.refl _ _) (by omega)
        have c0' := HC.out i (by omega)
        subst eA
        have hi0 : (0 : Int) ≤ (i : Int) := by omega
        have hi1 : (i : Int) < (L1.length : Int) := by omega
        have HHA := fun W hs => rHas_any Aa L2.length ca x4.heap.size x5.heap.size (fun j => L2.getD j 0) (L1.getD i 0) W hs hl2
        rw [hh] at HHA
        have HHA := Lib.hid HHA
        have HA1 := Lib.hid hA
        clear HC hh hA HPH
        generalize L1.getD i 0 = V at c0' HHA
        go_wp2_with fail
        refine (HHA.out _ HA1.out.sl).mono ?_
        rintro e wx ⟨rfl, hwx⟩
        rw [hwx]
        clear hwx wx
        go_wp2
        go_round
        case rel => exact ⟨i + 1, by omega, by go_num⟩
        case measure => simp [intOf]; omega
      have hi1 : ¬ ((i : Int) < (L1.length : Int)) := by omega
      have hB := HB.out
      clear HP HA HB HPH
      go_wp2_with fail
      refine (DrawKindsAt_any A0 n0 c0 _ (HK.out _ hB) (by omega)).mono ?_
      rintro e y1 ⟨A4, m4, c4, v, z4, rfl, hm4, hd, hb⟩
      have hB := below_of hB hb hB.size
      clear hb
      have H1 := fun lo hi W hs => KindsAt_any A4 m4 c4 lo hi v z4 W hs (by omega) hd.le
      have H2 := fun lo hi W hs => sKindsAt_any A4 m4 c4 lo hi v z4 W hs (by omega) hd.le
      have hl3 : (kindsRes v m4 z4).length ≤ 1048576 := by
        unfold kindsRes; split
        · have := onceL_len (pick (atPond v z4) (kindAt v) m4); have := pick_len (atPond v z4) (kindAt v) m4; omega
        · simp
      generalize kindsRes v m4 z4 = L3 at H1 H2 hl3
      generalize kindsOk v m4 z4 = o3 at H1 H2
      have H1 := Lib.hid H1
      have H2 := Lib.hid H2
      go_wp2_with fail
      refine (H1.out _ _ _ hd.own.sl).mono ?_
      rintro e y2 ⟨Ak, ck, rfl, hck, hckm, hk, hb⟩
      have hB := below_of hB hb hB.size
      have hd := hd.below hb
      clear hb
      go_wp2_with fail
      refine (H2.out _ _ _ hd.own.sl).mono ?_
      rintro e y3 ⟨As, cs, rfl, hcs, hcsm, hs, hb⟩
      have hB := below_of hB hb hB.size
      have hk := hk.below hb
      clear hb
      clear hd H1 H2
      go_wp2_with fail
      refine (DrawNestText_any A0 n0 c0 _ (HK.out _ hB) (by omega)).mono ?_
      rintro e y4 ⟨a0, a1, a2, a3, a4, a5, a6, rfl, hb⟩
      have hB := below_of hB hb hB.size
      have hk := hk.below hb
      have hs := hs.below hb
      clear hb
      go_wp2_with fail
      refine nameC ?_
      intro y5 hy5
      have hX : Blk y5 y4.heap.size 36 [a0, a1, a2, a3, a4, a5, a6] := by rw [hy5]; exact Blk.new [a0, a1, a2, a3, a4, a5, a6] rfl
      have hb : Below y4.heap.size y4 y5 := by rw [hy5]; exact (Below.refl _ _).alloc (Nat.le_refl _) _
      have hB := below_of hB hb hB.size
      have hk := hk.below hb
      have hs := hs.below hb
      clear hb hy5
      generalize y4.heap.size = bx at hX ⊢
      have H1 := fun W ht => NestText_any a0 a1 a2 a3 a4 a5 a6 W ht
      have H2 := fun W => sNestText_any a0 a1 a2 a3 a4 a5 a6 W
      have H3 := fun W => NestOne_any a0 a1 a2 a3 a4 a5 a6 W
      generalize (if okNest a0 a1 a2 a3 a4 a5 a6 = true then nestText a1 a2 a3 a4 a5 a6 else ⟨#[]⟩) = ST at H1 H2
      generalize okNest a0 a1 a2 a3 a4 a5 a6 = bk at H1 H2 H3
      have H1 := Lib.hid H1
      have H2 := Lib.hid H2
      have H3 := Lib.hid H3
      refine (H1.out _ (ht.below hB)).mono ?_
      rintro e y6 ⟨rfl, hb⟩
      have hX : Blk _ bx 36 [a0, a1, a2, a3, a4, a5, a6] := (hb.block bx hX.lt).trans hX
      have hB := below_of hB hb hB.size
      have hk := hk.below hb
      have hs := hs.below hb
      clear hb
      have x0 : y6.cell? ⟨bx, 0, none⟩ = some (.int .i64 a0) := hX.cell (j := 0) (by simp)
      have x1 : y6.cell? ⟨bx, 1, none⟩ = some (.int .i64 a1) := hX.cell (j := 1) (by simp)
      have x2 : y6.cell? ⟨bx, 2, none⟩ = some (.int .i64 a2) := hX.cell (j := 2) (by simp)
      have x3 : y6.cell? ⟨bx, 3, none⟩ = some (.int .i64 a3) := hX.cell (j := 3) (by simp)
      have x4 : y6.cell? ⟨bx, 4, none⟩ = some (.int .i64 a4) := hX.cell (j := 4) (by simp)
      have x5 : y6.cell? ⟨bx, 5, none⟩ = some (.int .i64 a5) := hX.cell (j := 5) (by simp)
      have x6 : y6.cell? ⟨bx, 6, none⟩ = some (.int .i64 a6) := hX.cell (j := 6) (by simp)
      go_wp2_with fail
      clear x0 x1 x2 x3 x4 x5 x6
      refine (H2.out _).mono ?_
      rintro e y7 ⟨rfl, hb⟩
      have hX : Blk _ bx 36 [a0, a1, a2, a3, a4, a5, a6] := (hb.block bx hX.lt).trans hX
      have hB := below_of hB hb hB.size
      have hk := hk.below hb
      have hs := hs.below hb
      clear hb
      have x0 : y7.cell? ⟨bx, 0, none⟩ = some (.int .i64 a0) := hX.cell (j := 0) (by simp)
      have x1 : y7.cell? ⟨bx, 1, none⟩ = some (.int .i64 a1) := hX.cell (j := 1) (by simp)
      have x2 : y7.cell? ⟨bx, 2, none⟩ = some (.int .i64 a2) := hX.cell (j := 2) (by simp)
      have x3 : y7.cell? ⟨bx, 3, none⟩ = some (.int .i64 a3) := hX.cell (j := 3) (by simp)
      have x4 : y7.cell? ⟨bx, 4, none⟩ = some (.int .i64 a4) := hX.cell (j := 4) (by simp)
      have x5 : y7.cell? ⟨bx, 5, none⟩ = some (.int .i64 a5) := hX.cell (j := 5) (by simp)
      have x6 : y7.cell? ⟨bx, 6, none⟩ = some (.int .i64 a6) := hX.cell (j := 6) (by simp)
      go_wp2_with fail
      refine (rInts_same _ _ _ _ _ _ _ _ _ _ _ hk.sl hs.sl hl3).mono ?_
      rintro e y8 ⟨rfl, hb⟩
      have hX : Blk _ bx 36 [a0, a1, a2, a3, a4, a5, a6] := (hb.block bx hX.lt).trans hX
      have hB := below_of hB hb hB.size
      clear hb hk hs
      clear x0 x1 x2 x3 x4 x5 x6
      have x0 : y8.cell? ⟨bx, 0, none⟩ = some (.int .i64 a0) := hX.cell (j := 0) (by simp)
      have x1 : y8.cell? ⟨bx, 1, none⟩ = some (.int .i64 a1) := hX.cell (j := 1) (by simp)
      have x2 : y8.cell? ⟨bx, 2, none⟩ = some (.int .i64 a2) := hX.cell (j := 2) (by simp)
      have x3 : y8.cell? ⟨bx, 3, none⟩ = some (.int .i64 a3) := hX.cell (j := 3) (by simp)
      have x4 : y8.cell? ⟨bx, 4, none⟩ = some (.int .i64 a4) := hX.cell (j := 4) (by simp)
      have x5 : y8.cell? ⟨bx, 5, none⟩ = some (.int .i64 a5) := hX.cell (j := 5) (by simp)
      have x6 : y8.cell? ⟨bx, 6, none⟩ = some (.int .i64 a6) := hX.cell (j := 6) (by simp)
      go_wp2_with fail
      clear x0 x1 x2 x3 x4 x5 x6
      refine (H3.out _).mono ?_
      rintro e y9 ⟨rfl, hb⟩
      have hX : Blk _ bx 36 [a0, a1, a2, a3, a4, a5, a6] := (hb.block bx hX.lt).trans hX
      have hB := below_of hB hb hB.size
      clear hb
      go_wp2
      go_ret
      exact ⟨by first | rfl | simp, hB⟩
end Go.Proofs.YtcecpioiagfoiaaDoor
