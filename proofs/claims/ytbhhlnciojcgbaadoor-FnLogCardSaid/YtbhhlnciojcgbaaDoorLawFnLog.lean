/-
  The walk of the law FnLog.
-/
import Derived.Test.YtbhhlnciojcgbaaDoorLinesQ
import Derived.Test.YtbhhlnciojcgbaaDoorDrawApp
import Derived.Test.YtbhhlnciojcgbaaDoorLogH
import Derived.Test.YtbhhlnciojcgbaaDoorLogK
import Derived.Test.YtbhhlnciojcgbaaDoorRels
import Derived.Test.YtbhhlnciojcgbaaDoorRegion
import Derived.Deep.Cut
namespace Go.Proofs.YtbhhlnciojcgbaaDoor
open Go.RowKit
set_option linter.unusedVariables false
set_option linter.unusedSimpArgs false
theorem app_facts {D P c r : BA} {z : Int} (hsz : D.size + P.size ≤ 61000) :
    (apK D P z c r ≠ 0 ∧ apP D P z c r = P ∧ apZ D P z c r = z) ∨ (apK D P z c r = 0 ∧ logOk D P z = true ∧ goodRec c r = true ∧ z ≠ 60 ∧ apP D P z c r = P ++ lineB z c r ∧ apZ D P z c r = z + 1) := by
  unfold apK apP apZ apT
  cases h1 : logOk D P z <;> cases h2 : goodRec c r <;> by_cases h3 : z = 60 <;> simp [h3]
theorem flatR_app (L : List (BA × BA)) (e : BA × BA) : flatR (L ++ [e]) = flatR L ++ [e.1, e.2] := by
  induction L with
  | nil => rfl
  | cons a L ih => simp [flatR, ih]
theorem flatR_len (L : List (BA × BA)) : (flatR L).length = L.length * 2 := by
  induction L with
  | nil => rfl
  | cons a L ih => simp [flatR, ih]; omega
theorem log_facts {D P x y P' : BA} {z Z : Int} (hlo : logOk D P z = true) (hgo : goodRec x y = true) (hz : z ≠ 60) (hP' : P' = P ++ lineB z x y) (hZ : Z = z + 1) :
    ∃ n : Nat, n ≤ 59 ∧ lrN D P z = n ∧ lrN D P' Z = n + 1 ∧ Z = ((n + 1 : Nat) : Int) ∧ (∀ j, j < n * 2 → lrF D P' j = lrF D P j) ∧ lrF D P' (n * 2) = x ∧ lrF D P' (n * 2 + 1) = y ∧ logOk D P' Z = true ∧
      recD (D ++ P') = D ++ P' ∧ recC (D ++ P') = Z ∧ recR (D ++ P') = ((D ++ P').size : Int) ∧ recOk (D ++ P') = true ∧ (D ++ P').size ≤ 30000 := by
  subst hP' hZ
  have hr := app_read hlo hgo hz
  have hok := app_ok hlo hgo hz
  have hc := logOk_cnt hlo
  have hs := logOk_size hlo
  have hl := lineB_size (k := z) hc.1 (by omega) hgo
  have hsm : (D ++ (P ++ lineB z x y)).size ≤ 30000 := by simp only [ByteArray.size_append']; omega
  have hzl : z = ((readN (D ++ P) 60).1.length : Nat) := by
    simp only [logOk, Bool.and_eq_true, decide_eq_true_eq] at hlo; exact hlo.2
  have hro : recOk (D ++ (P ++ lineB z x y)) = true := by simp [recOk]; simpa using hsm
  have hfl := flatR_len (readN (D ++ P) 60).1
  refine ⟨(readN (D ++ P) 60).1.length, by omega, by simp [lrN, hlo], by simp [lrN, hok, hr], by omega, ?_, ?_, ?_, hok, ?_, ?_, ?_, hro, hsm⟩
  · intro j hj
    simp only [lrF, hr, flatR_app]
    simp only [List.getD]; rw [List.getElem?_append_left (by omega)]
  · simp only [lrF, hr, flatR_app]
    simp only [List.getD]; rw [List.getElem?_append_right (by omega), hfl]
    simp
  · simp only [lrF, hr, flatR_app]
    simp only [List.getD]; rw [List.getElem?_append_right (by omega), hfl]
    simp
  · simp only [recD, hro, if_true, hr]; exact extract_all _
  · simp only [recC, hro, if_true, hr]; simp; omega
  · simp only [recR, hro, if_true, hr]
set_option maxRecDepth 100000 in
set_option maxHeartbeats 4000000 in
theorem FnLog_walk (A0 : Option Addr) (n0 c0 : Nat) (w : World) (hnc0 : n0 ≤ c0) (hcm0 : c0 ≤ maxLen) (hk0 : Code w A0 n0) (ht : Tab w) (hm : Mx w) :
    Calls Tryd.prog 3 #[.slice A0 n0 c0] w fun e w' => e = .returned (.bool true) ∧ Below w.heap.size w w' := by
  by_cases hbig : 65536 < n0
  · go_enter Tryd.func3, Tryd.ntmps3
    go_wp2_with fail
    refine (vBig_any A0 n0 c0 w).mono ?_
    rw [decide_eq_true hbig]
    rintro e w1 ⟨rfl, rfl⟩
    go_wp2
    go_ret
    exact ⟨rfl, Below.refl _ _⟩
  go_enter Tryd.func3, Tryd.ntmps3
  go_wp2_with fail
  refine (vBig_any A0 n0 c0 w).mono ?_
  rw [decide_eq_false hbig]
  rintro e wx ⟨rfl, hwx⟩
  rw [hwx]
  clear hwx wx
  go_wp2_with fail
  refine (DrawAppendRecord_any A0 n0 c0 w hk0 (by omega)).mono ?_
  rintro e w1 ⟨D, P, z, x, y, rfl, hsz, hx, hy, hB⟩
  clear hk0
  go_upto_region 4 with fail
  refine nameW0 ?_
  intro w2 hw
  have h3 : w2.heap[w1.heap.size]? = some (.cells #[.string D, .string P, .int .i64 z] 25 (0, 0)) := by rw [hw]; exact heap_alloc2 w1 _ _
  have h4 : w2.heap[(w1.heap.size + 1)]? = some (.cells #[.string x, .string y] 27 (0, 0)) := by
    rw [hw]
    have h := heap_alloc_new (w1.alloc (.cells #[.string D, .string P, .int .i64 z] 25)) (.cells #[.string x, .string y] 27)
    simpa using h
  have hB := (by rw [hw]; exact (hB.alloc hB.size _).alloc (Below.size (hB.alloc hB.size _)) _ : Below w.heap.size w w2)
  clear hw
  generalize hb4 : w1.heap.size + 1 = b4 at h4 ⊢
  generalize w1.heap.size = b3 at h3 hb4 ⊢
  have n34 : b3 ≠ b4 := by omega
  clear hb4
  have H1 := fun W ht hm => AppendRecord_any D P z x y (by omega) (by omega) (by omega) (by omega) W ht hm
  have H2 := fun W => sAppendRecord_any D P z x y (by omega) (by omega) (by omega) (by omega) W
  have hap := app_facts (D := D) (P := P) (z := z) (c := x) (r := y) hsz
  generalize apP D P z x y = P' at H1 H2 hap
  generalize apZ D P z x y = Z at H1 H2 hap
  generalize apK D P z x y = K at H1 H2 hap
  have H1 := Lib.hid H1
  have H2 := Lib.hid H2
  have HAP := Lib.hid hap
  clear hap
  obtain ⟨p0, p1, p2, p3, p4, p5⟩ := row3 h3
  obtain ⟨r0, r1, _, _⟩ := row2 h4
  go_wp2_with fail
  clear p0 p1 p2 p3 p4 p5 r0 r1
  refine (H1.out _ (ht.below hB) (hm.below hB)).mono ?_
  rintro e w3 ⟨rfl, hb⟩
  have hB := below_of hB hb hB.size
  have h3 := rowB h3 hb
  have h4 := rowB h4 hb
  clear hb
  go_upto_region 5 with fail
  refine nameW0 ?_
  intro w4 hw
  have h5 : w4.heap[w3.heap.size]? = some (.cells #[.string D, .string P', .int .i64 Z] 25 (0, 0)) := by rw [hw]; exact heap_alloc_new w3 _
  have h3 := (by rw [hw]; exact rowAl h3 _ : w4.heap[b3]? = some (.cells #[.string D, .string P, .int .i64 z] 25 (0, 0)))
  have h4 := (by rw [hw]; exact rowAl h4 _ : w4.heap[b4]? = some (.cells #[.string x, .string y] 27 (0, 0)))
  have hB := (by rw [hw]; exact hB.alloc hB.size _ : Below w.heap.size w w4)
  clear hw
  generalize w3.heap.size = b5 at h5 ⊢
  obtain ⟨p0, p1, p2, p3, p4, p5⟩ := row3 h3
  obtain ⟨r0, r1, _, _⟩ := row2 h4
  go_wp2_with fail
  clear p0 p1 p2 p3 p4 p5 r0 r1
  refine (H2.out _).mono ?_
  rintro e w5 ⟨rfl, hb⟩
  have hB := below_of hB hb hB.size
  have h3 := rowB h3 hb
  have h4 := rowB h4 hb
  have h5 := rowB h5 hb
  clear hb
  go_upto_region 6 with fail
  refine nameW0 ?_
  intro w6 hw
  have h7 : w6.heap[w5.heap.size]? = some (.cells #[.string D, .string P', .int .i64 Z] 25 (0, 0)) := by rw [hw]; exact heap_alloc_new w5 _
  have h3 := (by rw [hw]; exact rowAl h3 _ : w6.heap[b3]? = some (.cells #[.string D, .string P, .int .i64 z] 25 (0, 0)))
  have h4 := (by rw [hw]; exact rowAl h4 _ : w6.heap[b4]? = some (.cells #[.string x, .string y] 27 (0, 0)))
  have h5 := (by rw [hw]; exact rowAl h5 _ : w6.heap[b5]? = some (.cells #[.string D, .string P', .int .i64 Z] 25 (0, 0)))
  have hB := (by rw [hw]; exact hB.alloc hB.size _ : Below w.heap.size w w6)
  clear hw
  generalize w5.heap.size = b7 at h7 ⊢
  clear H1 H2
  have G1 := fun W ht hm => IsValidLog_any D P z (by omega) (by omega) W ht hm
  have G2 := fun W => sIsValidLog_any D P z (by omega) (by omega) W
  have G3 := fun W => IsValidRecord_any x y (by omega) (by omega) W
  have G4 := fun W => sIsValidRecord_any x y (by omega) (by omega) W
  generalize logOk D P z = lo at G1 G2
  generalize goodRec x y = go at G3 G4
  have G1 := Lib.hid G1
  have G2 := Lib.hid G2
  have G3 := Lib.hid G3
  have G4 := Lib.hid G4
  have HF : Hid (∀ w', Below w6.heap.size w6 w' → w'.cell? ⟨b3, 0, none⟩ = some (.string D) ∧ w'.cell? ⟨b3, 1, none⟩ = some (.string P) ∧ w'.cell? ⟨b3, 2, none⟩ = some (.int .i64 z) ∧ w'.cell? ⟨b4, 0, none⟩ = some (.string x) ∧ w'.cell? ⟨b4, 1, none⟩ = some (.string y) ∧ w'.cell? ⟨b5, 0, none⟩ = some (.string D) ∧ w'.cell? ⟨b5, 1, none⟩ = some (.string P') ∧ w'.cell? ⟨b5, 2, none⟩ = some (.int .i64 Z) ∧ w'.cell? ⟨b7, 0, none⟩ = some (.string D) ∧ w'.cell? ⟨b7, 1, none⟩ = some (.string P') ∧ w'.cell? ⟨b7, 2, none⟩ = some (.int .i64 Z)) := by
    intro w' hq
    obtain ⟨i0, i1, i2, _, _, _⟩ := row3 (rowB h3 hq)
    obtain ⟨j0, j1, _, _⟩ := row2 (rowB h4 hq)
    obtain ⟨k0, k1, k2, _, _, _⟩ := row3 (rowB h5 hq)
    obtain ⟨l0, l1, l2, _, _, _⟩ := row3 (rowB h7 hq)
    exact ⟨i0, i1, i2, j0, j1, k0, k1, k2, l0, l1, l2⟩
  have H3 := Lib.hid h3
  have H4 := Lib.hid h4
  have H5 := Lib.hid h5
  have HB := Lib.hid hB
  clear h3 h4 h5 h7 hB
  go_upto_region 6 with fail
  refine wp_region_held_drew (S := fun w' => Below (w6).heap.size (w6) w') (by kernel_rfl) ((Below.refl _ _).drew) (fun hHeld => ?_)
  refine wpAnyH_takeD (i := 0) (d := 38) (v := ?_) rfl (by kernel_rfl) (by kernel_rfl) (by kernel_rfl) (fun _ _ _ h => h) (by rfl) ?_ hHeld ?_
  rotate_left
  · intro wS hS
    have eF := HF.out wS hS
    go_simp
    try with_reducible rfl
  simp only [Act.put, List.setIfInBounds_toArray, List.set_cons_zero, List.set_cons_succ]
  refine wpAnyH_takeD (i := 1) (d := 39) (v := ?_) rfl (by kernel_rfl) (by kernel_rfl) (by kernel_rfl) (fun _ _ _ h => h) (by rfl) ?_ hHeld ?_
  rotate_left
  · intro wS hS
    have eF := HF.out wS hS
    go_simp
    try with_reducible rfl
  simp only [Act.put, List.setIfInBounds_toArray, List.set_cons_zero, List.set_cons_succ]
  refine wpAnyH_takeD (i := 2) (d := 40) (v := ?_) rfl (by kernel_rfl) (by kernel_rfl) (by kernel_rfl) (fun _ _ _ h => h) (by rfl) ?_ hHeld ?_
  rotate_left
  · intro wS hS
    have eF := HF.out wS hS
    go_simp
    try with_reducible rfl
  simp only [Act.put, List.setIfInBounds_toArray, List.set_cons_zero, List.set_cons_succ]
  refine wpAnyH_takeD (i := 3) (d := 41) (v := ?_) rfl (by kernel_rfl) (by kernel_rfl) (by kernel_rfl) (fun _ _ _ h => h) (by rfl) ?_ hHeld ?_
  rotate_left
  · intro wS hS
    have eF := HF.out wS hS
    go_simp
    try with_reducible rfl
  simp only [Act.put, List.setIfInBounds_toArray, List.set_cons_zero, List.set_cons_succ]
  refine wpAnyH_takeD (i := 4) (d := 42) (v := ?_) rfl (by kernel_rfl) (by kernel_rfl) (by kernel_rfl) (fun _ _ _ h => h) (by rfl) ?_ hHeld ?_
  rotate_left
  · intro wS hS
    have eF := HF.out wS hS
    go_simp
    try with_reducible rfl
  simp only [Act.put, List.setIfInBounds_toArray, List.set_cons_zero, List.set_cons_succ]
  refine wpAnyH_takeD (i := 5) (d := 43) (v := ?_) rfl (by kernel_rfl) (by kernel_rfl) (by kernel_rfl) (fun _ _ _ h => h) (by rfl) ?_ hHeld ?_
  rotate_left
  · intro wS hS
    have eF := HF.out wS hS
    go_simp
    try with_reducible rfl
  simp only [Act.put, List.setIfInBounds_toArray, List.set_cons_zero, List.set_cons_succ]
  refine wpAnyH_takeD (i := 6) (d := 44) (v := ?_) rfl (by kernel_rfl) (by kernel_rfl) (by kernel_rfl) (fun _ _ _ h => h) (by rfl) ?_ hHeld ?_
  rotate_left
  · intro wS hS
    have eF := HF.out wS hS
    go_simp
    try with_reducible rfl
  simp only [Act.put, List.setIfInBounds_toArray, List.set_cons_zero, List.set_cons_succ]
  refine wpAnyH_takeD (i := 7) (d := 45) (v := ?_) rfl (by kernel_rfl) (by kernel_rfl) (by kernel_rfl) (fun _ _ _ h => h) (by rfl) ?_ hHeld ?_
  rotate_left
  · intro wS hS
    have eF := HF.out wS hS
    go_simp
    try with_reducible rfl
  simp only [Act.put, List.setIfInBounds_toArray, List.set_cons_zero, List.set_cons_succ]
  refine wpAnyH_takeD (i := 8) (d := 46) (v := ?_) rfl (by kernel_rfl) (by kernel_rfl) (by kernel_rfl) (fun _ _ _ h => h) (by rfl) ?_ hHeld ?_
  rotate_left
  · intro wS hS
    have eF := HF.out wS hS
    go_simp
    try with_reducible rfl
  simp only [Act.put, List.setIfInBounds_toArray, List.set_cons_zero, List.set_cons_succ]
  refine wpAnyH_takeD (i := 9) (d := 47) (v := ?_) rfl (by kernel_rfl) (by kernel_rfl) (by kernel_rfl) (fun _ _ _ h => h) (by rfl) ?_ hHeld ?_
  rotate_left
  · intro wS hS
    have eF := HF.out wS hS
    go_simp
    try with_reducible rfl
  simp only [Act.put, List.setIfInBounds_toArray, List.set_cons_zero, List.set_cons_succ]
  refine wpAnyH_takeD (i := 11) (d := 49) (v := ?_) rfl (by kernel_rfl) (by kernel_rfl) (by kernel_rfl) (fun _ _ _ h => h) (by rfl) ?_ hHeld ?_
  rotate_left
  · intro wS hS
    have eF := HF.out wS hS
    go_simp
    try with_reducible rfl
  simp only [Act.put, List.setIfInBounds_toArray, List.set_cons_zero, List.set_cons_succ]
  refine wpAnyH_ready (rs := [10]) (by kernel_rfl) (by simp) ?_
  refine AllReadyH.cons rfl (fun K hK => ?_) AllReadyH.nil
  go_simp
  (refine (G1.out _ (ht.below (below_of HB.out hHeld HB.out.size)) (hm.below (below_of HB.out hHeld HB.out.size))).mono ?_; rintro e wa ⟨rfl, hb2⟩)
  refine hK.out _ _ (hHeld.trans (hb2.mono hHeld.size)) (fun hHeld => ?_)
  clear hK K hb2
  refine wpAnyH_ready (rs := [12]) (by kernel_rfl) (by simp) ?_
  refine AllReadyH.cons rfl (fun K hK => ?_) AllReadyH.nil
  go_simp
  (refine (G2.out _).mono ?_; rintro e wb ⟨rfl, hb2⟩)
  refine hK.out _ _ (hHeld.trans (hb2.mono hHeld.size)) (fun hHeld => ?_)
  clear hK K hb2
  refine wpAnyH_takeD (i := 13) (d := 51) (v := ?_) rfl (by kernel_rfl) (by kernel_rfl) (by kernel_rfl) (fun _ _ _ h => h) (by rfl) ?_ hHeld ?_
  rotate_left
  · intro wS hS
    have eF := HF.out wS hS
    go_simp
    try with_reducible rfl
  simp only [Act.put, List.setIfInBounds_toArray, List.set_cons_zero, List.set_cons_succ]
  refine wpAnyH_takeD (i := 14) (d := 52) (v := ?_) rfl (by kernel_rfl) (by kernel_rfl) (by kernel_rfl) (fun _ _ _ h => h) (by rfl) ?_ hHeld ?_
  rotate_left
  · intro wS hS
    have eF := HF.out wS hS
    go_simp
    try with_reducible rfl
  simp only [Act.put, List.setIfInBounds_toArray, List.set_cons_zero, List.set_cons_succ]
  refine wpAnyH_takeD (i := 15) (d := 53) (v := ?_) rfl (by kernel_rfl) (by kernel_rfl) (by kernel_rfl) (fun _ _ _ h => h) (by rfl) ?_ hHeld ?_
  rotate_left
  · intro wS hS
    have eF := HF.out wS hS
    go_simp
    try with_reducible rfl
  simp only [Act.put, List.setIfInBounds_toArray, List.set_cons_zero, List.set_cons_succ]
  refine wpAnyH_takeD (i := 16) (d := 54) (v := ?_) rfl (by kernel_rfl) (by kernel_rfl) (by kernel_rfl) (fun _ _ _ h => h) (by rfl) ?_ hHeld ?_
  rotate_left
  · intro wS hS
    have eF := HF.out wS hS
    go_simp
    try with_reducible rfl
  simp only [Act.put, List.setIfInBounds_toArray, List.set_cons_zero, List.set_cons_succ]
  refine wpAnyH_takeD (i := 18) (d := 56) (v := ?_) rfl (by kernel_rfl) (by kernel_rfl) (by kernel_rfl) (fun _ _ _ h => h) (by rfl) ?_ hHeld ?_
  rotate_left
  · intro wS hS
    have eF := HF.out wS hS
    go_simp
    try with_reducible rfl
  simp only [Act.put, List.setIfInBounds_toArray, List.set_cons_zero, List.set_cons_succ]
  refine wpAnyH_ready (rs := [17]) (by kernel_rfl) (by simp) ?_
  refine AllReadyH.cons rfl (fun K hK => ?_) AllReadyH.nil
  go_simp
  (refine (G3.out _).mono ?_; rintro e wc ⟨rfl, hb2⟩)
  refine hK.out _ _ (hHeld.trans (hb2.mono hHeld.size)) (fun hHeld => ?_)
  clear hK K hb2
  refine wpAnyH_ready (rs := [19]) (by kernel_rfl) (by simp) ?_
  refine AllReadyH.cons rfl (fun K hK => ?_) AllReadyH.nil
  go_simp
  (refine (G4.out _).mono ?_; rintro e wd ⟨rfl, hb2⟩)
  refine hK.out _ _ (hHeld.trans (hb2.mono hHeld.size)) (fun hHeld => ?_)
  clear hK K hb2
  refine wpAnyH_takeD (i := 20) (d := 58) (v := ?_) rfl (by kernel_rfl) (by kernel_rfl) (by kernel_rfl) (fun _ _ _ h => h) (by rfl) ?_ hHeld ?_
  rotate_left
  · intro wS hS
    have eF := HF.out wS hS
    go_simp
    try with_reducible rfl
  simp only [Act.put, List.setIfInBounds_toArray, List.set_cons_zero, List.set_cons_succ]
  refine wpAnyH_takeD (i := 21) (d := 59) (v := ?_) rfl (by kernel_rfl) (by kernel_rfl) (by kernel_rfl) (fun _ _ _ h => h) (by rfl) ?_ hHeld ?_
  rotate_left
  · intro wS hS
    have eF := HF.out wS hS
    go_simp
    try with_reducible rfl
  simp only [Act.put, List.setIfInBounds_toArray, List.set_cons_zero, List.set_cons_succ]
  refine wpAnyH_done (by kernel_rfl) ?_ _
  have h3 := rowB H3.out hHeld
  have h5 := rowB H5.out hHeld
  have h4 := rowB H4.out hHeld
  have hB := below_of HB.out hHeld HB.out.size
  clear HF H3 H4 H5 HB hHeld G1 G2 G3 G4
  rcases HAP.out with ⟨hK, rfl, rfl⟩ | ⟨hK, hlo, hgo, hz, hP', hZ⟩
  · have hKb : (K == 0) = false := by simp [hK]
    obtain ⟨p0, p1, p2, p3, p4, p5⟩ := row3 h3
    obtain ⟨q0, q1, q2, q3, q4, q5⟩ := row3 h5
    clear HAP h3 h4 h5 hK
    go_wp2
    go_ret
    exact ⟨by first | rfl | simp, hB⟩
  · subst hK
    obtain ⟨n, hn59, hn0, hn1, hZn, hEq, hX, hY, hok2, hrD, hrC, hrR, hrO, hsm⟩ := log_facts hlo hgo hz hP' hZ
    clear hP' hZ hz hgo
    have hZn2 : Z = (n : Int) + 1 := by omega
    clear hZn
    subst hZn2
    have hszi : (D.size : Int) + (P'.size : Int) ≤ 30000 := by simp only [ByteArray.size_append'] at hsm; omega
    have G1 := fun W ht hm => LogRecords_any D P' ((n : Int) + 1) (by omega) (by omega) W ht hm
    have G2 := fun W ht hm => LogRecords_any D P z (by omega) (by omega) W ht hm
    rw [hn1, hok2] at G1
    rw [hn0, hlo] at G2
    have G3 := fun W ht hm => RecoverLog_any (D ++ P') (by omega) W ht hm
    have G4 := fun W ht hm => SyncLog_any D P' ((n : Int) + 1) (by omega) (by omega) W ht hm
    have G5 := fun W ht hm => IsValidLog_any D P' ((n : Int) + 1) (by omega) (by omega) W ht hm
    rw [hrD, hrC, hrR, hrO] at G3
    rw [hok2] at G4 G5
    simp only [if_true] at G4
    generalize lrF D P' = F1 at G1 hEq hX hY
    generalize lrF D P = F0 at G2 hEq
    have G1 := Lib.hid G1
    have G2 := Lib.hid G2
    have G3 := Lib.hid G3
    have G4 := Lib.hid G4
    have G5 := Lib.hid G5
    have HX := Lib.hid hX
    have HY := Lib.hid hY
    have HEQ := Lib.hid hEq
    clear hlo hn0 hn1 hok2 hrD hrC hrR hrO HAP hX hY hEq
    obtain ⟨q0, q1, q2, q3, q4, q5⟩ := row3 h5
    obtain ⟨p0, p1, p2, p3, p4, p5⟩ := row3 h3
    go_wp2_with fail
    refine (G1.out _ (ht.below hB) (hm.below hB)).mono ?_
    rintro e v1 ⟨A1, c1, rfl, hc1, hcm1, hr1, hb⟩
    have hB := below_of hB hb hB.size
    have h3 := rowB h3 hb
    have h4 := rowB h4 hb
    have h5 := rowB h5 hb
    clear hb q0 q1 q2 q3 q4 q5 p0 p1 p2 p3 p4 p5
    obtain ⟨p0, p1, p2, p3, p4, p5⟩ := row3 h3
    go_wp2_with fail
    refine (G2.out _ (ht.below hB) (hm.below hB)).mono ?_
    rintro e v2 ⟨A2, c2, rfl, hc2, hcm2, hr2, hb⟩
    have hB := below_of hB hb hB.size
    have h4 := rowB h4 hb
    have h5 := rowB h5 hb
    have hr1 := hr1.below hb
    clear hb p0 p1 p2 p3 p4 p5 h3
    obtain ⟨q0, q1, q2, q3, q4, q5⟩ := row3 h5
    go_wp2_with fail
    refine (G3.out _ (ht.below hB) (hm.below hB)).mono ?_
    rintro e v3 ⟨rfl, hb⟩
    have hB := below_of hB hb hB.size
    have h4 := rowB h4 hb
    have h5 := rowB h5 hb
    have hr1 := hr1.below hb
    have hr2 := hr2.below hb
    clear hb q0 q1 q2 q3 q4 q5
    go_upto_region 13 with fail
    refine nameW0 ?_
    intro v4 hw
    have h13 : v4.heap[v3.heap.size]? = some (.cells #[.string (D ++ P'), .string ⟨#[]⟩, .int .i64 ((n : Int) + 1)] 25 (0, 0)) := by rw [hw]; exact heap_alloc_new v3 _
    have hb : Below v3.heap.size v3 v4 := by rw [hw]; exact (Below.refl _ _).alloc (Nat.le_refl _) _
    have hB := below_of hB hb hB.size
    have h4 := rowB h4 hb
    have h5 := rowB h5 hb
    have hr1 := hr1.below hb
    have hr2 := hr2.below hb
    clear hb hw
    generalize v3.heap.size = b13 at h13 ⊢
    obtain ⟨q0, q1, q2, q3, q4, q5⟩ := row3 h5
    go_wp2_with fail
    refine (G4.out _ (ht.below hB) (hm.below hB)).mono ?_
    rintro e v5 ⟨rfl, hb⟩
    have hB := below_of hB hb hB.size
    have h4 := rowB h4 hb
    have h5 := rowB h5 hb
    have h13 := rowB h13 hb
    have hr1 := hr1.below hb
    have hr2 := hr2.below hb
    clear hb q0 q1 q2 q3 q4 q5
    go_upto_region 14 with fail
    refine nameW0 ?_
    intro v6 hw
    have h16 : v6.heap[v5.heap.size]? = some (.cells #[.string (D ++ P'), .string ⟨#[]⟩, .int .i64 ((n : Int) + 1)] 25 (0, 0)) := by rw [hw]; exact heap_alloc_new v5 _
    have hb : Below v5.heap.size v5 v6 := by rw [hw]; exact (Below.refl _ _).alloc (Nat.le_refl _) _
    have hB := below_of hB hb hB.size
    have h4 := rowB h4 hb
    have h5 := rowB h5 hb
    have h13 := rowB h13 hb
    have hr1 := hr1.below hb
    have hr2 := hr2.below hb
    clear hb hw
    generalize v5.heap.size = b16 at h16 ⊢
    obtain ⟨q0, q1, q2, q3, q4, q5⟩ := row3 h5
    have hnw : IntKind.i64.wrap ((n : Int) + 1) = ((n + 1 : Nat) : Int) := by rw [IntWalk.i64_in _ (by omega)]; omega
    have hnc : ((n + 1 : Nat) : Int) = (n : Int) + 1 := by omega
    have H4 := Lib.hid h4
    have H5 := Lib.hid h5
    have H13 := Lib.hid h13
    have H16 := Lib.hid h16
    have HR1 := Lib.hid hr1
    have HR2 := Lib.hid hr2
    have HB := Lib.hid hB
    clear h4 h5 h13 h16 hr1 hr2 hB
    go_wp2_with fail
    go_loopw [18] (fun iv wr => (∃ i : Nat, i ≤ n ∧ iv = .int .i64 i) ∧ Below v6.heap.size v6 wr) (fun iv _ => n - (intOf iv).toNat)
    case atStart => exact ⟨⟨0, Nat.zero_le _, rfl⟩, Below.refl _ _⟩
    case round =>
    obtain ⟨⟨i, hi, rfl⟩, hbel⟩ := hrel
    by_cases hlt : i < n
    · obtain ⟨g1, o1, eA1, hbw1, HC1⟩ := HR1.out.sl.open_ hbel (by omega)
      obtain ⟨g2, o2, eA2, hbw2, HC2⟩ := HR2.out.sl.open_ hbel (by omega)
      have d0 : wr.cell? ⟨g1, o1 + i * 2, none⟩ = some (.string (F0 (i * 2))) := by rw [← HEQ.out _ (by omega)]; exact HC1.out (i * 2) (by omega)
      have d1 : wr.cell? ⟨g1, o1 + i * 2 + 1, none⟩ = some (.string (F0 (i * 2 + 1))) := by rw [← HEQ.out _ (by omega)]; exact HC1.out (i * 2 + 1) (by omega)
      have e0 : wr.cell? ⟨g2, o2 + i * 2, none⟩ = some (.string (F0 (i * 2))) := HC2.out (i * 2) (by omega)
      have e1 : wr.cell? ⟨g2, o2 + i * 2 + 1, none⟩ = some (.string (F0 (i * 2 + 1))) := HC2.out (i * 2 + 1) (by omega)
      subst eA1 eA2
      have hi0 : (0 : Int) ≤ (i : Int) := by omega
      have hi1 : (i : Int) < (n : Int) := by omega
      have hi2 : (i : Int) < (n : Int) + 1 := by omega
      clear HC1 HC2 hnc
      go_wp2
      go_quiet (fail)
      go_wp2
      go_roundw
      case rel => exact ⟨⟨i + 1, by omega, by go_num⟩, below_drewN hbel _⟩
      case measure => simp [intOf]; omega
    obtain rfl : i = n := by omega
    have hi1 : ¬ ((i : Int) < (i : Int)) := by omega
    have hi2 : (i : Int) < (i : Int) + 1 := by omega
    have hi0 : (0 : Int) ≤ (i : Int) := by omega
    obtain ⟨g1, o1, eA1, hbw1, HC1⟩ := HR1.out.sl.open_ hbel (by omega)
    have d0 : wr.cell? ⟨g1, o1 + i * 2, none⟩ = some (.string x) := by rw [← HX.out]; exact HC1.out (i * 2) (by omega)
    have d1 : wr.cell? ⟨g1, o1 + i * 2 + 1, none⟩ = some (.string y) := by rw [← HY.out]; exact HC1.out (i * 2 + 1) (by omega)
    subst eA1
    have h4 := rowB H4.out hbel
    have h5 := rowB H5.out hbel
    have h13 := rowB H13.out hbel
    have h16 := rowB H16.out hbel
    have HF : Hid (∀ w', Below wr.heap.size wr w' → w'.cell? ⟨g1, o1 + i * 2, none⟩ = some (.string x) ∧ w'.cell? ⟨g1, o1 + i * 2 + 1, none⟩ = some (.string y) ∧ w'.cell? ⟨b4, 0, none⟩ = some (.string x) ∧ w'.cell? ⟨b4, 1, none⟩ = some (.string y) ∧ w'.cell? ⟨b5, 0, none⟩ = some (.string D) ∧ w'.cell? ⟨b5, 1, none⟩ = some (.string P') ∧ w'.cell? ⟨b5, 2, none⟩ = some (.int .i64 ((i : Int) + 1)) ∧ w'.cell? ⟨b13, 0, none⟩ = some (.string (D ++ P')) ∧ w'.cell? ⟨b13, 1, none⟩ = some (.string ⟨#[]⟩) ∧ w'.cell? ⟨b13, 2, none⟩ = some (.int .i64 ((i : Int) + 1)) ∧ w'.cell? ⟨b16, 0, none⟩ = some (.string (D ++ P')) ∧ w'.cell? ⟨b16, 1, none⟩ = some (.string ⟨#[]⟩) ∧ w'.cell? ⟨b16, 2, none⟩ = some (.int .i64 ((i : Int) + 1))) := by
      intro w' hq
      obtain ⟨j0, j1, _, _⟩ := row2 (rowB h4 hq)
      obtain ⟨k0, k1, k2, _, _, _⟩ := row3 (rowB h5 hq)
      obtain ⟨l0, l1, l2, _, _, _⟩ := row3 (rowB h13 hq)
      obtain ⟨m0, m1, m2, _, _, _⟩ := row3 (rowB h16 hq)
      exact ⟨(hq.cell (p := ⟨g1, o1 + i * 2, none⟩) hbw1).trans d0, (hq.cell (p := ⟨g1, o1 + i * 2 + 1, none⟩) hbw1).trans d1, j0, j1, k0, k1, k2, l0, l1, l2, m0, m1, m2⟩
    have hB := below_of HB.out hbel HB.out.size
    have HB2 := Lib.hid hB
    clear HC1 d0 d1 h4 h5 h13 h16 hB hnc hbel
    go_upto_region 21 with fail
    refine wp_region_held_drew (S := fun w' => Below (wr).heap.size (wr) w') (by kernel_rfl) ((Below.refl _ _).drew) (fun hHeld => ?_)
    refine wpAnyH_takeD (i := 0) (d := 122) (v := ?_) rfl (by kernel_rfl) (by kernel_rfl) (by kernel_rfl) (fun _ _ _ h => h) (by rfl) ?_ hHeld ?_
    rotate_left
    · intro wS hS
      have eF := HF.out wS hS
      go_simp
      try with_reducible rfl
    simp only [Act.put, List.setIfInBounds_toArray, List.set_cons_zero, List.set_cons_succ]
    refine wpAnyH_takeD (i := 1) (d := 123) (v := ?_) rfl (by kernel_rfl) (by kernel_rfl) (by kernel_rfl) (fun _ _ _ h => h) (by rfl) ?_ hHeld ?_
    rotate_left
    · intro wS hS
      have eF := HF.out wS hS
      go_simp
      try with_reducible rfl
    simp only [Act.put, List.setIfInBounds_toArray, List.set_cons_zero, List.set_cons_succ]
    refine wpAnyH_takeD (i := 5) (d := 127) (v := ?_) rfl (by kernel_rfl) (by kernel_rfl) (by kernel_rfl) (fun _ _ _ h => h) (by rfl) ?_ hHeld ?_
    rotate_left
    · intro wS hS
      have eF := HF.out wS hS
      go_simp
      try with_reducible rfl
    simp only [Act.put, List.setIfInBounds_toArray, List.set_cons_zero, List.set_cons_succ]
    refine wpAnyH_ready (rs := [2]) (by kernel_rfl) (by simp) ?_
    refine AllReadyH.cons rfl (fun K hK => ?_) AllReadyH.nil
    go_simp
    refine hK.out _ _ hHeld (fun hHeld => ?_)
    clear hK K
    refine wpAnyH_takeD (i := 3) (d := 125) (v := ?_) rfl (by kernel_rfl) (by kernel_rfl) (by kernel_rfl) (fun _ _ _ h => h) (by rfl) ?_ hHeld ?_
    rotate_left
    · intro wS hS
      have eF := HF.out wS hS
      go_simp
      try with_reducible rfl
    simp only [Act.put, List.setIfInBounds_toArray, List.set_cons_zero, List.set_cons_succ]
    refine wpAnyH_takeD (i := 4) (d := 126) (v := ?_) rfl (by kernel_rfl) (by kernel_rfl) (by kernel_rfl) (fun _ _ _ h => h) (by rfl) ?_ hHeld ?_
    rotate_left
    · intro wS hS
      have eF := HF.out wS hS
      go_simp
      try with_reducible rfl
    simp only [Act.put, List.setIfInBounds_toArray, List.set_cons_zero, List.set_cons_succ]
    refine wpAnyH_takeD (i := 6) (d := 128) (v := ?_) rfl (by kernel_rfl) (by kernel_rfl) (by kernel_rfl) (fun _ _ _ h => h) (by rfl) ?_ hHeld ?_
    rotate_left
    · intro wS hS
      have eF := HF.out wS hS
      go_simp
      try with_reducible rfl
    simp only [Act.put, List.setIfInBounds_toArray, List.set_cons_zero, List.set_cons_succ]
    refine wpAnyH_takeD (i := 7) (d := 129) (v := ?_) rfl (by kernel_rfl) (by kernel_rfl) (by kernel_rfl) (fun _ _ _ h => h) (by rfl) ?_ hHeld ?_
    rotate_left
    · intro wS hS
      have eF := HF.out wS hS
      go_simp
      try with_reducible rfl
    simp only [Act.put, List.setIfInBounds_toArray, List.set_cons_zero, List.set_cons_succ]
    refine wpAnyH_takeD (i := 8) (d := 130) (v := ?_) rfl (by kernel_rfl) (by kernel_rfl) (by kernel_rfl) (fun _ _ _ h => h) (by rfl) ?_ hHeld ?_
    rotate_left
    · intro wS hS
      have eF := HF.out wS hS
      go_simp
      try with_reducible rfl
    simp only [Act.put, List.setIfInBounds_toArray, List.set_cons_zero, List.set_cons_succ]
    refine wpAnyH_takeD (i := 9) (d := 131) (v := ?_) rfl (by kernel_rfl) (by kernel_rfl) (by kernel_rfl) (fun _ _ _ h => h) (by rfl) ?_ hHeld ?_
    rotate_left
    · intro wS hS
      have eF := HF.out wS hS
      go_simp
      try with_reducible rfl
    simp only [Act.put, List.setIfInBounds_toArray, List.set_cons_zero, List.set_cons_succ]
    refine wpAnyH_takeD (i := 10) (d := 132) (v := ?_) rfl (by kernel_rfl) (by kernel_rfl) (by kernel_rfl) (fun _ _ _ h => h) (by rfl) ?_ hHeld ?_
    rotate_left
    · intro wS hS
      have eF := HF.out wS hS
      go_simp
      try with_reducible rfl
    simp only [Act.put, List.setIfInBounds_toArray, List.set_cons_zero, List.set_cons_succ]
    refine wpAnyH_takeD (i := 11) (d := 133) (v := ?_) rfl (by kernel_rfl) (by kernel_rfl) (by kernel_rfl) (fun _ _ _ h => h) (by rfl) ?_ hHeld ?_
    rotate_left
    · intro wS hS
      have eF := HF.out wS hS
      go_simp
      try with_reducible rfl
    simp only [Act.put, List.setIfInBounds_toArray, List.set_cons_zero, List.set_cons_succ]
    refine wpAnyH_takeD (i := 12) (d := 134) (v := ?_) rfl (by kernel_rfl) (by kernel_rfl) (by kernel_rfl) (fun _ _ _ h => h) (by rfl) ?_ hHeld ?_
    rotate_left
    · intro wS hS
      have eF := HF.out wS hS
      go_simp
      try with_reducible rfl
    simp only [Act.put, List.setIfInBounds_toArray, List.set_cons_zero, List.set_cons_succ]
    refine wpAnyH_takeD (i := 13) (d := 135) (v := ?_) rfl (by kernel_rfl) (by kernel_rfl) (by kernel_rfl) (fun _ _ _ h => h) (by rfl) ?_ hHeld ?_
    rotate_left
    · intro wS hS
      have eF := HF.out wS hS
      go_simp
      try with_reducible rfl
    simp only [Act.put, List.setIfInBounds_toArray, List.set_cons_zero, List.set_cons_succ]
    refine wpAnyH_takeD (i := 14) (d := 136) (v := ?_) rfl (by kernel_rfl) (by kernel_rfl) (by kernel_rfl) (fun _ _ _ h => h) (by rfl) ?_ hHeld ?_
    rotate_left
    · intro wS hS
      have eF := HF.out wS hS
      go_simp
      try with_reducible rfl
    simp only [Act.put, List.setIfInBounds_toArray, List.set_cons_zero, List.set_cons_succ]
    refine wpAnyH_takeD (i := 15) (d := 137) (v := ?_) rfl (by kernel_rfl) (by kernel_rfl) (by kernel_rfl) (fun _ _ _ h => h) (by rfl) ?_ hHeld ?_
    rotate_left
    · intro wS hS
      have eF := HF.out wS hS
      go_simp
      try with_reducible rfl
    simp only [Act.put, List.setIfInBounds_toArray, List.set_cons_zero, List.set_cons_succ]
    refine wpAnyH_takeD (i := 16) (d := 138) (v := ?_) rfl (by kernel_rfl) (by kernel_rfl) (by kernel_rfl) (fun _ _ _ h => h) (by rfl) ?_ hHeld ?_
    rotate_left
    · intro wS hS
      refine run_add_strP ⟨_, _, rfl, rfl, by omega, ?_⟩
      with_reducible rfl
    simp only [Act.put, List.setIfInBounds_toArray, List.set_cons_zero, List.set_cons_succ]
    refine wpAnyH_ready (rs := [17]) (by kernel_rfl) (by simp) ?_
    refine AllReadyH.cons rfl (fun K hK => ?_) AllReadyH.nil
    go_simp
    refine hK.out _ _ hHeld (fun hHeld => ?_)
    clear hK K
    refine wpAnyH_takeD (i := 18) (d := 140) (v := ?_) rfl (by kernel_rfl) (by kernel_rfl) (by kernel_rfl) (fun _ _ _ h => h) (by rfl) ?_ hHeld ?_
    rotate_left
    · intro wS hS
      have eF := HF.out wS hS
      go_simp
      try with_reducible rfl
    simp only [Act.put, List.setIfInBounds_toArray, List.set_cons_zero, List.set_cons_succ]
    refine wpAnyH_takeD (i := 19) (d := 141) (v := ?_) rfl (by kernel_rfl) (by kernel_rfl) (by kernel_rfl) (fun _ _ _ h => h) (by rfl) ?_ hHeld ?_
    rotate_left
    · intro wS hS
      have eF := HF.out wS hS
      go_simp
      try with_reducible rfl
    simp only [Act.put, List.setIfInBounds_toArray, List.set_cons_zero, List.set_cons_succ]
    refine wpAnyH_takeD (i := 20) (d := 142) (v := ?_) rfl (by kernel_rfl) (by kernel_rfl) (by kernel_rfl) (fun _ _ _ h => h) (by rfl) ?_ hHeld ?_
    rotate_left
    · intro wS hS
      have eF := HF.out wS hS
      go_simp
      try with_reducible rfl
    simp only [Act.put, List.setIfInBounds_toArray, List.set_cons_zero, List.set_cons_succ]
    refine wpAnyH_takeD (i := 21) (d := 143) (v := ?_) rfl (by kernel_rfl) (by kernel_rfl) (by kernel_rfl) (fun _ _ _ h => h) (by rfl) ?_ hHeld ?_
    rotate_left
    · intro wS hS
      have eF := HF.out wS hS
      go_simp
      try with_reducible rfl
    simp only [Act.put, List.setIfInBounds_toArray, List.set_cons_zero, List.set_cons_succ]
    refine wpAnyH_takeD (i := 22) (d := 144) (v := ?_) rfl (by kernel_rfl) (by kernel_rfl) (by kernel_rfl) (fun _ _ _ h => h) (by rfl) ?_ hHeld ?_
    rotate_left
    · intro wS hS
      have eF := HF.out wS hS
      go_simp
      try with_reducible rfl
    simp only [Act.put, List.setIfInBounds_toArray, List.set_cons_zero, List.set_cons_succ]
    refine wpAnyH_takeD (i := 23) (d := 145) (v := ?_) rfl (by kernel_rfl) (by kernel_rfl) (by kernel_rfl) (fun _ _ _ h => h) (by rfl) ?_ hHeld ?_
    rotate_left
    · intro wS hS
      have eF := HF.out wS hS
      go_simp
      try with_reducible rfl
    simp only [Act.put, List.setIfInBounds_toArray, List.set_cons_zero, List.set_cons_succ]
    refine wpAnyH_takeD (i := 24) (d := 146) (v := ?_) rfl (by kernel_rfl) (by kernel_rfl) (by kernel_rfl) (fun _ _ _ h => h) (by rfl) ?_ hHeld ?_
    rotate_left
    · intro wS hS
      have eF := HF.out wS hS
      go_simp
      try with_reducible rfl
    simp only [Act.put, List.setIfInBounds_toArray, List.set_cons_zero, List.set_cons_succ]
    refine wpAnyH_takeD (i := 25) (d := 147) (v := ?_) rfl (by kernel_rfl) (by kernel_rfl) (by kernel_rfl) (fun _ _ _ h => h) (by rfl) ?_ hHeld ?_
    rotate_left
    · intro wS hS
      have eF := HF.out wS hS
      go_simp
      try with_reducible rfl
    simp only [Act.put, List.setIfInBounds_toArray, List.set_cons_zero, List.set_cons_succ]
    refine wpAnyH_takeD (i := 26) (d := 148) (v := ?_) rfl (by kernel_rfl) (by kernel_rfl) (by kernel_rfl) (fun _ _ _ h => h) (by rfl) ?_ hHeld ?_
    rotate_left
    · intro wS hS
      have eF := HF.out wS hS
      go_simp
      try with_reducible rfl
    simp only [Act.put, List.setIfInBounds_toArray, List.set_cons_zero, List.set_cons_succ]
    refine wpAnyH_takeD (i := 27) (d := 149) (v := ?_) rfl (by kernel_rfl) (by kernel_rfl) (by kernel_rfl) (fun _ _ _ h => h) (by rfl) ?_ hHeld ?_
    rotate_left
    · intro wS hS
      have eF := HF.out wS hS
      go_simp
      try with_reducible rfl
    simp only [Act.put, List.setIfInBounds_toArray, List.set_cons_zero, List.set_cons_succ]
    refine wpAnyH_takeD (i := 28) (d := 150) (v := ?_) rfl (by kernel_rfl) (by kernel_rfl) (by kernel_rfl) (fun _ _ _ h => h) (by rfl) ?_ hHeld ?_
    rotate_left
    · intro wS hS
      have eF := HF.out wS hS
      go_simp
      try with_reducible rfl
    simp only [Act.put, List.setIfInBounds_toArray, List.set_cons_zero, List.set_cons_succ]
    refine wpAnyH_takeD (i := 29) (d := 151) (v := ?_) rfl (by kernel_rfl) (by kernel_rfl) (by kernel_rfl) (fun _ _ _ h => h) (by rfl) ?_ hHeld ?_
    rotate_left
    · intro wS hS
      have eF := HF.out wS hS
      go_simp
      try with_reducible rfl
    simp only [Act.put, List.setIfInBounds_toArray, List.set_cons_zero, List.set_cons_succ]
    refine wpAnyH_ready (rs := [30]) (by kernel_rfl) (by simp) ?_
    refine AllReadyH.cons rfl (fun K hK => ?_) AllReadyH.nil
    go_simp
    (refine (G5.out _ (ht.below (below_of HB2.out hHeld HB2.out.size)) (hm.below (below_of HB2.out hHeld HB2.out.size))).mono ?_; rintro e wa ⟨rfl, hb2⟩)
    refine hK.out _ _ (hHeld.trans (hb2.mono hHeld.size)) (fun hHeld => ?_)
    clear hK K hb2
    refine wpAnyH_takeD (i := 31) (d := 153) (v := ?_) rfl (by kernel_rfl) (by kernel_rfl) (by kernel_rfl) (fun _ _ _ h => h) (by rfl) ?_ hHeld ?_
    rotate_left
    · intro wS hS
      have eF := HF.out wS hS
      go_simp
      try with_reducible rfl
    simp only [Act.put, List.setIfInBounds_toArray, List.set_cons_zero, List.set_cons_succ]
    refine wpAnyH_takeD (i := 32) (d := 2) (v := ?_) rfl (by kernel_rfl) (by kernel_rfl) (by kernel_rfl) (fun _ _ _ h => h) (by rfl) ?_ hHeld ?_
    rotate_left
    · intro wS hS
      have eF := HF.out wS hS
      go_simp
      try with_reducible rfl
    simp only [Act.put, List.setIfInBounds_toArray, List.set_cons_zero, List.set_cons_succ]
    refine wpAnyH_done (by kernel_rfl) ?_ _
    have hB := below_of HB2.out hHeld HB2.out.size
    go_wp2
    go_ret
    exact ⟨by first | rfl | simp, hB⟩
end Go.Proofs.YtbhhlnciojcgbaaDoor
