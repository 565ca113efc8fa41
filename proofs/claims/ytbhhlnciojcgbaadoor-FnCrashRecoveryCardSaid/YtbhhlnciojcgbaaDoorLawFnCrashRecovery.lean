/-
  The walk of the law FnCrashRecovery.
-/
import Derived.Test.YtbhhlnciojcgbaaDoorLinesR
import Derived.Test.YtbhhlnciojcgbaaDoorDrawCrash
import Derived.Test.YtbhhlnciojcgbaaDoorLogH
import Derived.Test.YtbhhlnciojcgbaaDoorLogK
import Derived.Test.YtbhhlnciojcgbaaDoorRels
import Derived.Test.YtbhhlnciojcgbaaDoorRegion
import Derived.Deep.Cut
namespace Go.Proofs.YtbhhlnciojcgbaaDoor
open Go.RowKit
set_option linter.unusedVariables false
set_option linter.unusedSimpArgs false
set_option maxRecDepth 100000 in
set_option maxHeartbeats 4000000 in
theorem FnCrashRecovery_walk (A0 : Option Addr) (n0 c0 : Nat) (w : World) (hnc0 : n0 ≤ c0) (hcm0 : c0 ≤ maxLen) (hk0 : Code w A0 n0) (ht : Tab w) (hm : Mx w) :
    Calls Tryd.prog 5 #[.slice A0 n0 c0] w fun e w' => e = .returned (.bool true) ∧ Below w.heap.size w w' := by
  by_cases hbig : 65536 < n0
  · go_enter Tryd.func5, Tryd.ntmps5
    go_wp2_with fail
    refine (vBig_any A0 n0 c0 w).mono ?_
    rw [decide_eq_true hbig]
    rintro e w1 ⟨rfl, rfl⟩
    go_wp2
    go_ret
    exact ⟨rfl, Below.refl _ _⟩
  go_enter Tryd.func5, Tryd.ntmps5
  go_wp2_with fail
  refine (vBig_any A0 n0 c0 w).mono ?_
  rw [decide_eq_false hbig]
  rintro e wx ⟨rfl, hwx⟩
  rw [hwx]
  clear hwx wx
  go_wp2_with fail
  refine (DrawCrashLog_any A0 n0 c0 w hk0 (by omega)).mono ?_
  rintro e w1 ⟨D, P, z, k, torn, rfl, hsz, hB⟩
  clear hk0
  go_upto_region 4 with fail
  refine nameW0 ?_
  intro w2 hw
  have h3 : w2.heap[w1.heap.size]? = some (.cells #[.string D, .string P, .int .i64 z] 25 (0, 0)) := by rw [hw]; exact heap_alloc_new w1 _
  have hB := (by rw [hw]; exact hB.alloc hB.size _ : Below w.heap.size w w2)
  clear hw
  generalize w1.heap.size = b3 at h3 ⊢
  have H1 := fun W ht hm => CrashLog_any D P z k torn (by omega) (by omega) W ht hm
  have H2 := fun W => sCrashLog_any D P z k torn (by omega) (by omega) W
  obtain ⟨s, hs⟩ : ∃ s, s = crS D P z k torn := ⟨_, rfl⟩
  rw [← hs] at H1 H2
  obtain ⟨ok, hok⟩ : ∃ ok, ok = crT D P z k := ⟨_, rfl⟩
  rw [← hok] at H1 H2
  have H1 := Lib.hid H1
  have H2 := Lib.hid H2
  have HS := Lib.hid hs
  have HOK := Lib.hid hok
  clear hs hok
  obtain ⟨p0, p1, p2, p3, p4, p5⟩ := row3 h3
  go_wp2_with fail
  clear p0 p1 p2 p3 p4 p5
  refine (H1.out _ (ht.below hB) (hm.below hB)).mono ?_
  rintro e w3 ⟨rfl, hb⟩
  have hB := below_of hB hb hB.size
  have h3 := rowB h3 hb
  clear hb
  obtain ⟨p0, p1, p2, p3, p4, p5⟩ := row3 h3
  go_wp2_with fail
  clear p0 p1 p2 p3 p4 p5
  refine (H2.out _).mono ?_
  rintro e w4 ⟨rfl, hb⟩
  have hB := below_of hB hb hB.size
  have h3 := rowB h3 hb
  clear hb
  clear H1 H2
  cases ok with
  | false =>
    have hs0 := crash_no HS.out HOK.out.symm
    subst hs0
    clear HS HOK h3
    go_wp2
    go_ret
    exact ⟨by first | rfl | simp, hB⟩
  | true =>
    obtain ⟨n, m, R, hlo, hss, hnE, hmE, hmn, hn60, hEq, hR, hDR, hRs, hx, hro, hlo2, hds⟩ := crash_yes HS.out HOK.out.symm
    clear HS HOK
    have G1 := fun W ht hm => RecoverLog_any s (by omega) W ht hm
    have G2 := fun W ht hm => LogRecords_any (recD s) ⟨#[]⟩ (recC s) (by omega) (by decide) W ht hm
    have G3 := fun W => sLogRecords_any D P z (by omega) (by omega) W
    have G4 := fun W ht hm => IsValidLog_any (recD s) ⟨#[]⟩ (recC s) (by omega) (by decide) W ht hm
    rw [hR, hro] at G1
    rw [hmE, hlo2] at G2
    rw [hnE, hlo] at G3
    rw [hlo2] at G4
    generalize lrF (recD s) ⟨#[]⟩ = F1 at G2 hEq
    generalize lrF D P = F0 at G3 hEq
    clear hR hro hmE hnE hlo hlo2
    generalize recD s = d at G1 G2 G4 hx hds
    generalize recC s = C at G1 G2 G4
    have G1 := Lib.hid G1
    have G2 := Lib.hid G2
    have G3 := Lib.hid G3
    have G4 := Lib.hid G4
    have HEQ := Lib.hid hEq
    clear hEq
    go_wp2_with fail
    refine (G1.out _ (ht.below hB) (hm.below hB)).mono ?_
    rintro e w5 ⟨rfl, hb⟩
    have hB := below_of hB hb hB.size
    have h3 := rowB h3 hb
    clear hb
    go_upto_region 11 with fail
    refine nameW0 ?_
    intro w6 hw
    have h10 : w6.heap[w5.heap.size]? = some (.cells #[.string d, .string ⟨#[]⟩, .int .i64 C] 25 (0, 0)) := by rw [hw]; exact heap_alloc_new w5 _
    have h3 := (by rw [hw]; exact rowAl h3 _ : w6.heap[b3]? = some (.cells #[.string D, .string P, .int .i64 z] 25 (0, 0)))
    have hB := (by rw [hw]; exact hB.alloc hB.size _ : Below w.heap.size w w6)
    clear hw
    generalize w5.heap.size = b10 at h10 ⊢
    obtain ⟨q0, q1, q2, q3, q4, q5⟩ := row3 h10
    go_wp2_with fail
    refine (G2.out _ (ht.below hB) (hm.below hB)).mono ?_
    rintro e w7 ⟨A1, c1, rfl, hc1, hcm1, hr1, hb⟩
    have hB := below_of hB hb hB.size
    have h3 := rowB h3 hb
    have h10 := rowB h10 hb
    clear hb q0 q1 q2 q3 q4 q5
    obtain ⟨p0, p1, p2, p3, p4, p5⟩ := row3 h3
    go_wp2_with fail
    refine (G3.out _).mono ?_
    rintro e w8 ⟨A2, c2, rfl, hc2, hcm2, hr2, hb⟩
    have hB := below_of hB hb hB.size
    have h3 := rowB h3 hb
    have h10 := rowB h10 hb
    have hr1 := hr1.below hb
    clear hb p0 p1 p2 p3 p4 p5
    have hRs0 : (R : Int) ≤ (s.size : Int) := by omega
    have hRs1 : ¬ ((s.size : Int) < (R : Int)) := by omega
    have hDR1 : ¬ ((R : Int) < (D.size : Int)) := by omega
    have hmn1 : ¬ ((n : Int) < (m : Int)) := by omega
    have hR0 : (0 : Int) ≤ (R : Int) := by omega
    obtain ⟨p0, p1, p2, p3, p4, p5⟩ := row3 h3
    obtain ⟨q0, q1, q2, q3, q4, q5⟩ := row3 h10
    have H10 := Lib.hid h10
    have HR1 := Lib.hid hr1
    have HR2 := Lib.hid hr2
    have HB := Lib.hid hB
    clear h3 h10 hr1 hr2 hB
    go_wp2_with fail
    go_loopw [17] (fun iv wr => (∃ i : Nat, i ≤ m ∧ iv = .int .i64 i) ∧ Below w8.heap.size w8 wr) (fun iv _ => m - (intOf iv).toNat)
    case atStart => exact ⟨⟨0, Nat.zero_le _, rfl⟩, Below.refl _ _⟩
    case round =>
    obtain ⟨⟨i, hi, rfl⟩, hbel⟩ := hrel
    by_cases hlt : i < m
    · obtain ⟨g1, o1, eA1, hbw1, HC1⟩ := HR1.out.sl.open_ hbel (by omega)
      obtain ⟨g2, o2, eA2, hbw2, HC2⟩ := HR2.out.sl.open_ hbel (by omega)
      have d0 : wr.cell? ⟨g1, o1 + i * 2, none⟩ = some (.string (F0 (i * 2))) := by rw [← HEQ.out _ (by omega)]; exact HC1.out (i * 2) (by omega)
      have d1 : wr.cell? ⟨g1, o1 + i * 2 + 1, none⟩ = some (.string (F0 (i * 2 + 1))) := by rw [← HEQ.out _ (by omega)]; exact HC1.out (i * 2 + 1) (by omega)
      have e0 : wr.cell? ⟨g2, o2 + i * 2, none⟩ = some (.string (F0 (i * 2))) := HC2.out (i * 2) (by omega)
      have e1 : wr.cell? ⟨g2, o2 + i * 2 + 1, none⟩ = some (.string (F0 (i * 2 + 1))) := HC2.out (i * 2 + 1) (by omega)
      subst eA1 eA2
      have hi0 : (0 : Int) ≤ (i : Int) := by omega
      have hi1 : (i : Int) < (m : Int) := by omega
      have hi2 : (i : Int) < (n : Int) := by omega
      clear HC1 HC2 p0 p1 p2 p3 p4 p5 q0 q1 q2 q3 q4 q5
      go_wp2
      go_quiet (fail)
      go_wp2
      go_roundw
      case rel => exact ⟨⟨i + 1, by omega, by go_num⟩, below_drewN hbel _⟩
      case measure => simp [intOf]; omega
    obtain rfl : i = m := by omega
    have hi1 : ¬ ((i : Int) < (i : Int)) := by omega
    have h10 := rowB H10.out hbel
    have HF : Hid (∀ w', Below wr.heap.size wr w' → w'.cell? ⟨b10, 0, none⟩ = some (.string d) ∧ w'.cell? ⟨b10, 1, none⟩ = some (.string ⟨#[]⟩) ∧ w'.cell? ⟨b10, 2, none⟩ = some (.int .i64 C)) := by
      intro w' hq
      obtain ⟨k0, k1, k2, _, _, _⟩ := row3 (rowB h10 hq)
      exact ⟨k0, k1, k2⟩
    have hB := below_of HB.out hbel HB.out.size
    have HB2 := Lib.hid hB
    clear p0 p1 p2 p3 p4 p5 q0 q1 q2 q3 q4 q5 h10 hB hbel HR1 HR2 HEQ
    have HDX := Lib.hid hx
    clear hx
    go_upto_region 20 with fail
    refine wp_region_held_drew (S := fun w' => Below (wr).heap.size (wr) w') (by kernel_rfl) ((Below.refl _ _).drew) (fun hHeld => ?_)
    refine wpAnyH_takeD (i := 0) (d := 105) (v := ?_) rfl (by kernel_rfl) (by kernel_rfl) (by kernel_rfl) (fun _ _ _ h => h) (by rfl) ?_ hHeld ?_
    rotate_left
    · intro wS hS
      have eF := HF.out wS hS
      go_simp
      try with_reducible rfl
    simp only [Act.put, List.setIfInBounds_toArray, List.set_cons_zero, List.set_cons_succ]
    refine wpAnyH_ready (rs := [1]) (by kernel_rfl) (by simp) ?_
    refine AllReadyH.cons rfl (fun K hK => ?_) AllReadyH.nil
    go_simp
    (refine (G4.out _ (ht.below (below_of HB2.out hHeld HB2.out.size)) (hm.below (below_of HB2.out hHeld HB2.out.size))).mono ?_; rintro e wa ⟨rfl, hb2⟩)
    refine hK.out _ _ (hHeld.trans (hb2.mono hHeld.size)) (fun hHeld => ?_)
    clear hK K hb2
    refine wpAnyH_takeD (i := 2) (d := 107) (v := ?_) rfl (by kernel_rfl) (by kernel_rfl) (by kernel_rfl) (fun _ _ _ h => h) (by rfl) ?_ hHeld ?_
    rotate_left
    · intro wS hS
      have eF := HF.out wS hS
      go_simp
      try with_reducible rfl
    simp only [Act.put, List.setIfInBounds_toArray, List.set_cons_zero, List.set_cons_succ]
    refine wpAnyH_takeD (i := 3) (d := 108) (v := ?_) rfl (by kernel_rfl) (by kernel_rfl) (by kernel_rfl) (fun _ _ _ h => h) (by rfl) ?_ hHeld ?_
    rotate_left
    · intro wS hS
      have eF := HF.out wS hS
      go_simp
      try with_reducible rfl
    simp only [Act.put, List.setIfInBounds_toArray, List.set_cons_zero, List.set_cons_succ]
    refine wpAnyH_takeD (i := 4) (d := 109) (v := ?_) rfl (by kernel_rfl) (by kernel_rfl) (by kernel_rfl) (fun _ _ _ h => h) (by rfl) ?_ hHeld ?_
    rotate_left
    · intro wS hS
      have eF := HF.out wS hS
      go_simp
      try with_reducible rfl
    simp only [Act.put, List.setIfInBounds_toArray, List.set_cons_zero, List.set_cons_succ]
    refine wpAnyH_takeD (i := 5) (d := 110) (v := ?_) rfl (by kernel_rfl) (by kernel_rfl) (by kernel_rfl) (fun _ _ _ h => h) (by rfl) ?_ hHeld ?_
    rotate_left
    · intro wS hS
      have eF := HF.out wS hS
      go_simp
      try with_reducible rfl
    simp only [Act.put, List.setIfInBounds_toArray, List.set_cons_zero, List.set_cons_succ]
    refine wpAnyH_takeD (i := 6) (d := 111) (v := ?_) rfl (by kernel_rfl) (by kernel_rfl) (by kernel_rfl) (fun _ _ _ h => h) (by rfl) ?_ hHeld ?_
    rotate_left
    · intro wS hS
      have eF := HF.out wS hS
      go_simp
      try with_reducible rfl
    simp only [Act.put, List.setIfInBounds_toArray, List.set_cons_zero, List.set_cons_succ]
    refine wpAnyH_takeD (i := 7) (d := 112) (v := ?_) rfl (by kernel_rfl) (by kernel_rfl) (by kernel_rfl) (fun _ _ _ h => h) (by rfl) ?_ hHeld ?_
    rotate_left
    · intro wS hS
      have eF := HF.out wS hS
      go_simp
      try with_reducible rfl
    simp only [Act.put, List.setIfInBounds_toArray, List.set_cons_zero, List.set_cons_succ]
    refine wpAnyH_takeD (i := 8) (d := 113) (v := ?_) rfl (by kernel_rfl) (by kernel_rfl) (by kernel_rfl) (fun _ _ _ h => h) (by rfl) ?_ hHeld ?_
    rotate_left
    · intro wS hS
      have eF := HF.out wS hS
      go_simp
      try with_reducible rfl
    simp only [Act.put, List.setIfInBounds_toArray, List.set_cons_zero, List.set_cons_succ]
    refine wpAnyH_takeD (i := 9) (d := 114) (v := ?_) rfl (by kernel_rfl) (by kernel_rfl) (by kernel_rfl) (fun _ _ _ h => h) (by rfl) ?_ hHeld ?_
    rotate_left
    · intro wS hS
      have eF := HF.out wS hS
      go_simp
      try with_reducible rfl
    simp only [Act.put, List.setIfInBounds_toArray, List.set_cons_zero, List.set_cons_succ]
    refine wpAnyH_takeD (i := 10) (d := 2) (v := ?_) rfl (by kernel_rfl) (by kernel_rfl) (by kernel_rfl) (fun _ _ _ h => h) (by rfl) ?_ hHeld ?_
    rotate_left
    · intro wS hS
      have eF := HF.out wS hS
      go_simp
      try with_reducible rfl
    simp only [Act.put, List.setIfInBounds_toArray, List.set_cons_zero, List.set_cons_succ]
    refine wpAnyH_done (by kernel_rfl) ?_ _
    have hB := below_of HB2.out hHeld HB2.out.size
    go_wp2
    go_ret
    exact ⟨by rw [HDX.out]; first | rfl | simp, hB⟩
end Go.Proofs.YtbhhlnciojcgbaaDoor
