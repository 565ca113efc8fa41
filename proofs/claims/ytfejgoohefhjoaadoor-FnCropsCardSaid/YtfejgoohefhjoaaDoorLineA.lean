/-
  cropLine, l26Line; CropLine: the line of a row, the same on both sides.
-/
import Derived.Test.YtfejgoohefhjoaaDoorCropA
import Derived.Test.YtfejgoohefhjoaaDoorNum
import Derived.Test.YtfejgoohefhjoaaDoorOwn5
namespace Go.Proofs.YtfejgoohefhjoaaDoor
open Go.RowKit
set_option linter.unusedVariables false
set_option linter.unusedSimpArgs false
attribute [local go_sem ↓] Go.wp_at_zero Go.wp_at_succ
def lineHead (y d t : Int) : ByteArray := (((((numB y ++ ⟨#[58, 32]⟩) ++ numB t) ++ ⟨#[32, 116, 32, 105, 110, 32]⟩) ++ numB d) ++ ⟨#[32, 100, 97, 121]⟩)
def lineDay (y d t : Int) : ByteArray := if d = 1 then lineHead y d t else lineHead y d t ++ ⟨#[115]⟩
def pctV (t l : Int) : Int := (100 * l + t - 1) / t
def lineText (y d t l : Int) : ByteArray := if 0 < l then ((lineDay y d t ++ ⟨#[44, 32]⟩) ++ numB (pctV t l)) ++ ⟨#[37, 32, 108, 111, 115, 116]⟩ else lineDay y d t
theorem lineHead_size {y d t : Int} (h : 0 ≤ y ∧ y ≤ 10000 ∧ 0 ≤ d ∧ d ≤ 10000 ∧ 0 ≤ t ∧ t ≤ 10000000) : (lineHead y d t).size ≤ 80 := by
  have h1 := numB_size (n := y) (by omega) (by omega)
  have h2 := numB_size (n := d) (by omega) (by omega)
  have h3 := numB_size (n := t) (by omega) (by omega)
  simp only [lineHead, ByteArray.size_append', ByteArray.size_mk', List.size_toArray, List.length_cons, List.length_nil]
  omega
theorem pctV_ok {t l : Int} (h0 : 0 < t) (h1 : 0 ≤ l) (h2 : l ≤ t) (h3 : t ≤ 1000000) : 0 ≤ pctV t l ∧ pctV t l ≤ 1000 := by
  unfold pctV
  constructor
  · exact Int.ediv_nonneg (by omega) (by omega)
  · have : (100 * l + t - 1) / t < 1001 := Int.ediv_lt_of_lt_mul h0 (by omega)
    omega
theorem okRow_facts {y d t l p : Int} (h : okRow y d t l p = true) : 1800 ≤ y ∧ y ≤ 2100 ∧ 0 ≤ d ∧ d ≤ 366 ∧ 0 ≤ t ∧ t ≤ 1000000 ∧ 0 ≤ l ∧ l ≤ t ∧ 0 ≤ p ∧ p ≤ 9999 := by
  simp only [okRow, decide_eq_true_eq] at h
  omega
theorem lineText_size {y d t l p : Int} (h : okRow y d t l p = true) : (lineText y d t l).size ≤ 120 := by
  obtain ⟨_, _, _, _, _, _, _, _, _, _⟩ := okRow_facts h
  have h0 := lineHead_size (y := y) (d := d) (t := t) (by omega)
  have h1 : (lineDay y d t).size ≤ 81 := by
    unfold lineDay
    split
    · omega
    · simp only [ByteArray.size_append', ByteArray.size_mk', List.size_toArray, List.length_cons, List.length_nil]; omega
  unfold lineText
  split
  · obtain ⟨a, b⟩ := pctV_ok (t := t) (l := l) (by omega) (by omega) (by omega) (by omega)
    have h2 := numB_size (n := pctV t l) (by omega) (by omega)
    simp only [ByteArray.size_append', ByteArray.size_mk', List.size_toArray, List.length_cons, List.length_nil]
    omega
  · omega
theorem ceilDiv_any (a b : Int) (w : World) (h0 : 0 ≤ a) (h1 : a ≤ 1000000000000) (hb : 0 < b ∧ b ≤ 1000000000000) :
    Calls Tryd.prog 32 #[.int .i64 a, .int .i64 b] w fun e w' => e = .returned (.int .i64 (Int.tdiv (a + b - 1) b)) ∧ w = w' := by
  have hw1 : IntKind.i64.wrap (a + b) = a + b := IntWalk.i64_in _ (by omega)
  have hw2 : IntKind.i64.wrap (a + b - 1) = a + b - 1 := IntWalk.i64_in _ (by omega)
  have hb0 : b ≠ 0 := by omega
  go_enter Tryd.func32, Tryd.ntmps32
  go_wp2
  go_ret
  exact ⟨ret_int (Int.tdiv_eq_ediv_of_nonneg (by omega)).symm, rfl⟩
set_option maxHeartbeats 2000000 in
theorem cropLine_any (y d t l p : Int) (hok : okRow y d t l p = true) (w : World) (ht : Tab w) :
    Calls Tryd.prog 24 #[.agg #[.int .i64 y, .int .i64 d, .int .i64 t, .int .i64 l, .int .i64 p]] w fun e w' => e = .returned (.string (lineText y d t l)) ∧ Below w.heap.size w w' := by
  obtain ⟨hy0, hy1, hd0, hd1, ht0, ht1, hl0, hl1, _, _⟩ := okRow_facts hok
  clear hok
  have hz1 := numB_size (n := y) (by omega) (by omega)
  have hz2 := numB_size (n := d) (by omega) (by omega)
  have hz3 := numB_size (n := t) (by omega) (by omega)
  have hzh := lineHead_size (y := y) (d := d) (t := t) (by omega)
  have HAL : Below w.heap.size w (w.alloc (.cells #[.int .i64 y, .int .i64 d, .int .i64 t, .int .i64 l, .int .i64 p] 36)) := (Below.refl _ w).alloc (Nat.le_refl _) _
  have HT : Hid (Tab (w.alloc (.cells #[.int .i64 y, .int .i64 d, .int .i64 t, .int .i64 l, .int .i64 p] 36))) := ht.below HAL
  have HF : Hid (∀ w', Below (w.alloc (.cells #[.int .i64 y, .int .i64 d, .int .i64 t, .int .i64 l, .int .i64 p] 36)).heap.size (w.alloc (.cells #[.int .i64 y, .int .i64 d, .int .i64 t, .int .i64 l, .int .i64 p] 36)) w' → w'.cell? ⟨w.heap.size, 0, none⟩ = some (.int .i64 y) ∧ w'.cell? ⟨w.heap.size, 1, none⟩ = some (.int .i64 d) ∧ w'.cell? ⟨w.heap.size, 2, none⟩ = some (.int .i64 t) ∧ w'.cell? ⟨w.heap.size, 3, none⟩ = some (.int .i64 l) ∧ w'.cell? ⟨w.heap.size, 4, none⟩ = some (.int .i64 p)) := by
    intro w' hq
    exact ⟨(hq.cell (p := ⟨w.heap.size, 0, none⟩) (by simp)).trans (by simp), (hq.cell (p := ⟨w.heap.size, 1, none⟩) (by simp)).trans (by simp), (hq.cell (p := ⟨w.heap.size, 2, none⟩) (by simp)).trans (by simp), (hq.cell (p := ⟨w.heap.size, 3, none⟩) (by simp)).trans (by simp), (hq.cell (p := ⟨w.heap.size, 4, none⟩) (by simp)).trans (by simp)⟩
  go_enter Tryd.func24, Tryd.ntmps24
  go_wp2_with fail
  refine wp_region_class (C := fun w' => Below ((w.alloc (.cells #[.int .i64 y, .int .i64 d, .int .i64 t, .int .i64 l, .int .i64 p] 36))).heap.size ((w.alloc (.cells #[.int .i64 y, .int .i64 d, .int .i64 t, .int .i64 l, .int .i64 p] 36))) w') (by kernel_rfl) (by kernel_rfl) ((Below.refl _ _).drew) ?_
  refine wpQuiet_take (d := 4) (v := ?_) (by rfl) ?_ ?_
  rotate_left
  · intro wS hS
    have eF := HF.out wS hS
    go_simp
    try with_reducible rfl
  simp only [Act.put, List.setIfInBounds_toArray, List.set_cons_zero, List.set_cons_succ]
  refine wpQuiet_take (d := 5) (v := ?_) (by rfl) ?_ ?_
  rotate_left
  · intro wS hS
    have eF := HF.out wS hS
    go_simp
    try with_reducible rfl
  simp only [Act.put, List.setIfInBounds_toArray, List.set_cons_zero, List.set_cons_succ]
  refine wpQuiet_meet (d := 6) (v := ?_) ?_ ?_ (by rfl) ?_ ?_ ?_
  rotate_left
  rotate_left
  rotate_left
  · intro wS hS
    have eF := HF.out wS hS
    go_simp
    first | with_reducible rfl | (refine ⟨?_, ?_⟩ <;> with_reducible rfl)
  · intro wS hS
    refine (decimal_any y (by omega) (by omega) wS (HT.out.below hS)).mono ?_
    rintro e w2 ⟨rfl, hb2⟩
    refine ⟨?_, hS.trans (hb2.mono hS.size)⟩
    with_reducible rfl
  simp only [Act.put, List.setIfInBounds_toArray, List.set_cons_zero, List.set_cons_succ]
  refine wpQuiet_take (d := 7) (v := ?_) (by rfl) ?_ ?_
  rotate_left
  · intro wS hS
    refine run_add_strP ⟨_, _, rfl, rfl, by simp only [ByteArray.size_append', ByteArray.size_mk', List.size_toArray, List.length_cons, List.length_nil]; have := hz1; have := hz2; have := hz3; omega, ?_⟩
    with_reducible rfl
  simp only [Act.put, List.setIfInBounds_toArray, List.set_cons_zero, List.set_cons_succ]
  refine wpQuiet_take (d := 8) (v := ?_) (by rfl) ?_ ?_
  rotate_left
  · intro wS hS
    have eF := HF.out wS hS
    go_simp
    try with_reducible rfl
  simp only [Act.put, List.setIfInBounds_toArray, List.set_cons_zero, List.set_cons_succ]
  refine wpQuiet_take (d := 9) (v := ?_) (by rfl) ?_ ?_
  rotate_left
  · intro wS hS
    have eF := HF.out wS hS
    go_simp
    try with_reducible rfl
  simp only [Act.put, List.setIfInBounds_toArray, List.set_cons_zero, List.set_cons_succ]
  refine wpQuiet_meet (d := 10) (v := ?_) ?_ ?_ (by rfl) ?_ ?_ ?_
  rotate_left
  rotate_left
  rotate_left
  · intro wS hS
    have eF := HF.out wS hS
    go_simp
    first | with_reducible rfl | (refine ⟨?_, ?_⟩ <;> with_reducible rfl)
  · intro wS hS
    refine (decimal_any t (by omega) (by omega) wS (HT.out.below hS)).mono ?_
    rintro e w2 ⟨rfl, hb2⟩
    refine ⟨?_, hS.trans (hb2.mono hS.size)⟩
    with_reducible rfl
  simp only [Act.put, List.setIfInBounds_toArray, List.set_cons_zero, List.set_cons_succ]
  refine wpQuiet_take (d := 11) (v := ?_) (by rfl) ?_ ?_
  rotate_left
  · intro wS hS
    refine run_add_strP ⟨_, _, rfl, rfl, by simp only [ByteArray.size_append', ByteArray.size_mk', List.size_toArray, List.length_cons, List.length_nil]; have := hz1; have := hz2; have := hz3; omega, ?_⟩
    with_reducible rfl
  simp only [Act.put, List.setIfInBounds_toArray, List.set_cons_zero, List.set_cons_succ]
  refine wpQuiet_take (d := 12) (v := ?_) (by rfl) ?_ ?_
  rotate_left
  · intro wS hS
    refine run_add_strP ⟨_, _, rfl, rfl, by simp only [ByteArray.size_append', ByteArray.size_mk', List.size_toArray, List.length_cons, List.length_nil]; have := hz1; have := hz2; have := hz3; omega, ?_⟩
    with_reducible rfl
  simp only [Act.put, List.setIfInBounds_toArray, List.set_cons_zero, List.set_cons_succ]
  refine wpQuiet_take (d := 13) (v := ?_) (by rfl) ?_ ?_
  rotate_left
  · intro wS hS
    have eF := HF.out wS hS
    go_simp
    try with_reducible rfl
  simp only [Act.put, List.setIfInBounds_toArray, List.set_cons_zero, List.set_cons_succ]
  refine wpQuiet_take (d := 14) (v := ?_) (by rfl) ?_ ?_
  rotate_left
  · intro wS hS
    have eF := HF.out wS hS
    go_simp
    try with_reducible rfl
  simp only [Act.put, List.setIfInBounds_toArray, List.set_cons_zero, List.set_cons_succ]
  refine wpQuiet_meet (d := 15) (v := ?_) ?_ ?_ (by rfl) ?_ ?_ ?_
  rotate_left
  rotate_left
  rotate_left
  · intro wS hS
    have eF := HF.out wS hS
    go_simp
    first | with_reducible rfl | (refine ⟨?_, ?_⟩ <;> with_reducible rfl)
  · intro wS hS
    refine (decimal_any d (by omega) (by omega) wS (HT.out.below hS)).mono ?_
    rintro e w2 ⟨rfl, hb2⟩
    refine ⟨?_, hS.trans (hb2.mono hS.size)⟩
    with_reducible rfl
  simp only [Act.put, List.setIfInBounds_toArray, List.set_cons_zero, List.set_cons_succ]
  refine wpQuiet_take (d := 16) (v := ?_) (by rfl) ?_ ?_
  rotate_left
  · intro wS hS
    refine run_add_strP ⟨_, _, rfl, rfl, by simp only [ByteArray.size_append', ByteArray.size_mk', List.size_toArray, List.length_cons, List.length_nil]; have := hz1; have := hz2; have := hz3; omega, ?_⟩
    with_reducible rfl
  simp only [Act.put, List.setIfInBounds_toArray, List.set_cons_zero, List.set_cons_succ]
  refine wpQuiet_take (d := 17) (v := ?_) (by rfl) ?_ ?_
  rotate_left
  · intro wS hS
    refine run_add_strP ⟨_, _, rfl, rfl, by simp only [ByteArray.size_append', ByteArray.size_mk', List.size_toArray, List.length_cons, List.length_nil]; have := hz1; have := hz2; have := hz3; omega, ?_⟩
    with_reducible rfl
  simp only [Act.put, List.setIfInBounds_toArray, List.set_cons_zero, List.set_cons_succ]
  refine wpQuiet_take (d := 3) (v := ?_) (by rfl) ?_ ?_
  rotate_left
  · intro wS hS
    have eF := HF.out wS hS
    go_simp
    try with_reducible rfl
  simp only [Act.put, List.setIfInBounds_toArray, List.set_cons_zero, List.set_cons_succ]
  refine wpQuiet_nil (fun wq hHeld => ?_)
  have hS0 : (((((numB y ++ ⟨#[58, 32]⟩) ++ numB t) ++ ⟨#[32, 116, 32, 105, 110, 32]⟩) ++ numB d) ++ ⟨#[32, 100, 97, 121]⟩) = lineHead y d t := rfl
  rw [hS0]
  clear hS0
  obtain ⟨_, c1, c2, c3, _⟩ := HF.out wq hHeld
  have HB : Hid (Below w.heap.size w wq) := HAL.trans (hHeld.mono (by simp))
  have HTq : Hid (Tab wq) := HT.out.below hHeld
  generalize hLH : lineHead y d t = LH at *
  clear HF HAL hHeld HT
  by_cases hlp : 0 < l
  · obtain ⟨hp0, hp1⟩ := pctV_ok (t := t) (l := l) (by omega) (by omega) (by omega) (by omega)
    have hz4 := numB_size (n := pctV t l) (by omega) (by omega)
    have hq : Int.tdiv (100 * l + t - 1) t = pctV t l := Int.tdiv_eq_ediv_of_nonneg (by omega)
    by_cases hd : d = 1
    · subst hd
      have HE : Hid (lineText y 1 t l = ((LH ++ ⟨#[44, 32]⟩) ++ numB (pctV t l)) ++ ⟨#[37, 32, 108, 111, 115, 116]⟩) := by show _ = _; unfold lineText lineDay; rw [if_pos hlp, if_pos rfl, hLH]
      clear hLH
      go_wp2_with (first | (go_at_call 32; refine (ceilDiv_any _ _ _ (by omega) (by omega) (by omega)).mono ?_; rintro e w4 ⟨rfl, rfl⟩) | (go_at_call 25; refine (decimal_any (pctV t l) (by omega) (by omega) _ (HTq.out)).mono ?_; rintro e w5 ⟨rfl, hb5⟩))
      go_ret
      exact ⟨by rw [HE.out]; simp only [ByteArray.append_assoc]; rfl, below_of HB.out hb5 HB.out.size⟩
    · have HE : Hid (lineText y d t l = (((LH ++ ⟨#[115]⟩) ++ ⟨#[44, 32]⟩) ++ numB (pctV t l)) ++ ⟨#[37, 32, 108, 111, 115, 116]⟩) := by show _ = _; unfold lineText lineDay; rw [if_pos hlp, if_neg hd, hLH]
      clear hLH
      go_wp2_with (first | (go_at_call 32; refine (ceilDiv_any _ _ _ (by omega) (by omega) (by omega)).mono ?_; rintro e w4 ⟨rfl, rfl⟩) | (go_at_call 25; refine (decimal_any (pctV t l) (by omega) (by omega) _ (HTq.out)).mono ?_; rintro e w5 ⟨rfl, hb5⟩))
      go_ret
      exact ⟨by rw [HE.out]; simp only [ByteArray.append_assoc]; rfl, below_of HB.out hb5 HB.out.size⟩
  · by_cases hd : d = 1
    · subst hd
      have HE : Hid (lineText y 1 t l = LH) := by show _ = _; unfold lineText lineDay; rw [if_neg hlp, if_pos rfl, hLH]
      clear hLH
      go_wp2_with fail
      go_ret
      exact ⟨by first | (rw [HE.out]; rfl) | rw [HE.out], HB.out⟩
    · have HE : Hid (lineText y d t l = LH ++ ⟨#[115]⟩) := by show _ = _; unfold lineText lineDay; rw [if_neg hlp, if_neg hd, hLH]
      clear hLH
      go_wp2_with fail
      go_ret
      exact ⟨by first | (rw [HE.out]; rfl) | rw [HE.out], HB.out⟩
set_option maxHeartbeats 2000000 in
theorem l26Line_any (y d t l p : Int) (hok : okRow y d t l p = true) (w : World) :
    Calls Tryd.prog 26 #[.agg #[.int .i64 y, .int .i64 d, .int .i64 t, .int .i64 l, .int .i64 p]] w fun e w' => e = .returned (.string (lineText y d t l)) ∧ Below w.heap.size w w' := by
  obtain ⟨hy0, hy1, hd0, hd1, ht0, ht1, hl0, hl1, _, _⟩ := okRow_facts hok
  clear hok
  have hz1 := numB_size (n := y) (by omega) (by omega)
  have hz2 := numB_size (n := d) (by omega) (by omega)
  have hz3 := numB_size (n := t) (by omega) (by omega)
  have hzh := lineHead_size (y := y) (d := d) (t := t) (by omega)
  have HAL : Below w.heap.size w (w.alloc (.cells #[.int .i64 y, .int .i64 d, .int .i64 t, .int .i64 l, .int .i64 p] 36)) := (Below.refl _ w).alloc (Nat.le_refl _) _
  
  have HF : Hid (∀ w', Below (w.alloc (.cells #[.int .i64 y, .int .i64 d, .int .i64 t, .int .i64 l, .int .i64 p] 36)).heap.size (w.alloc (.cells #[.int .i64 y, .int .i64 d, .int .i64 t, .int .i64 l, .int .i64 p] 36)) w' → w'.cell? ⟨w.heap.size, 0, none⟩ = some (.int .i64 y) ∧ w'.cell? ⟨w.heap.size, 1, none⟩ = some (.int .i64 d) ∧ w'.cell? ⟨w.heap.size, 2, none⟩ = some (.int .i64 t) ∧ w'.cell? ⟨w.heap.size, 3, none⟩ = some (.int .i64 l) ∧ w'.cell? ⟨w.heap.size, 4, none⟩ = some (.int .i64 p)) := by
    intro w' hq
    exact ⟨(hq.cell (p := ⟨w.heap.size, 0, none⟩) (by simp)).trans (by simp), (hq.cell (p := ⟨w.heap.size, 1, none⟩) (by simp)).trans (by simp), (hq.cell (p := ⟨w.heap.size, 2, none⟩) (by simp)).trans (by simp), (hq.cell (p := ⟨w.heap.size, 3, none⟩) (by simp)).trans (by simp), (hq.cell (p := ⟨w.heap.size, 4, none⟩) (by simp)).trans (by simp)⟩
  go_enter Tryd.func26, Tryd.ntmps26
  go_wp2_with fail
  refine wp_region_class (C := fun w' => Below ((w.alloc (.cells #[.int .i64 y, .int .i64 d, .int .i64 t, .int .i64 l, .int .i64 p] 36))).heap.size ((w.alloc (.cells #[.int .i64 y, .int .i64 d, .int .i64 t, .int .i64 l, .int .i64 p] 36))) w') (by kernel_rfl) (by kernel_rfl) ((Below.refl _ _).drew) ?_
  refine wpQuiet_take (d := 4) (v := ?_) (by rfl) ?_ ?_
  rotate_left
  · intro wS hS
    have eF := HF.out wS hS
    go_simp
    try with_reducible rfl
  simp only [Act.put, List.setIfInBounds_toArray, List.set_cons_zero, List.set_cons_succ]
  refine wpQuiet_take (d := 5) (v := ?_) (by rfl) ?_ ?_
  rotate_left
  · intro wS hS
    have eF := HF.out wS hS
    go_simp
    try with_reducible rfl
  simp only [Act.put, List.setIfInBounds_toArray, List.set_cons_zero, List.set_cons_succ]
  refine wpQuiet_meet (d := 6) (v := ?_) ?_ ?_ (by rfl) ?_ ?_ ?_
  rotate_left
  rotate_left
  rotate_left
  · intro wS hS
    have eF := HF.out wS hS
    go_simp
    first | with_reducible rfl | (refine ⟨?_, ?_⟩ <;> with_reducible rfl)
  · intro wS hS
    refine (l1Num_any y (by omega) (by omega) wS).mono ?_
    rintro e w2 ⟨rfl, hb2⟩
    refine ⟨?_, hS.trans (hb2.mono hS.size)⟩
    with_reducible rfl
  simp only [Act.put, List.setIfInBounds_toArray, List.set_cons_zero, List.set_cons_succ]
  refine wpQuiet_take (d := 7) (v := ?_) (by rfl) ?_ ?_
  rotate_left
  · intro wS hS
    refine run_add_strP ⟨_, _, rfl, rfl, by simp only [ByteArray.size_append', ByteArray.size_mk', List.size_toArray, List.length_cons, List.length_nil]; have := hz1; have := hz2; have := hz3; omega, ?_⟩
    with_reducible rfl
  simp only [Act.put, List.setIfInBounds_toArray, List.set_cons_zero, List.set_cons_succ]
  refine wpQuiet_take (d := 8) (v := ?_) (by rfl) ?_ ?_
  rotate_left
  · intro wS hS
    have eF := HF.out wS hS
    go_simp
    try with_reducible rfl
  simp only [Act.put, List.setIfInBounds_toArray, List.set_cons_zero, List.set_cons_succ]
  refine wpQuiet_take (d := 9) (v := ?_) (by rfl) ?_ ?_
  rotate_left
  · intro wS hS
    have eF := HF.out wS hS
    go_simp
    try with_reducible rfl
  simp only [Act.put, List.setIfInBounds_toArray, List.set_cons_zero, List.set_cons_succ]
  refine wpQuiet_meet (d := 10) (v := ?_) ?_ ?_ (by rfl) ?_ ?_ ?_
  rotate_left
  rotate_left
  rotate_left
  · intro wS hS
    have eF := HF.out wS hS
    go_simp
    first | with_reducible rfl | (refine ⟨?_, ?_⟩ <;> with_reducible rfl)
  · intro wS hS
    refine (l1Num_any t (by omega) (by omega) wS).mono ?_
    rintro e w2 ⟨rfl, hb2⟩
    refine ⟨?_, hS.trans (hb2.mono hS.size)⟩
    with_reducible rfl
  simp only [Act.put, List.setIfInBounds_toArray, List.set_cons_zero, List.set_cons_succ]
  refine wpQuiet_take (d := 11) (v := ?_) (by rfl) ?_ ?_
  rotate_left
  · intro wS hS
    refine run_add_strP ⟨_, _, rfl, rfl, by simp only [ByteArray.size_append', ByteArray.size_mk', List.size_toArray, List.length_cons, List.length_nil]; have := hz1; have := hz2; have := hz3; omega, ?_⟩
    with_reducible rfl
  simp only [Act.put, List.setIfInBounds_toArray, List.set_cons_zero, List.set_cons_succ]
  refine wpQuiet_take (d := 12) (v := ?_) (by rfl) ?_ ?_
  rotate_left
  · intro wS hS
    refine run_add_strP ⟨_, _, rfl, rfl, by simp only [ByteArray.size_append', ByteArray.size_mk', List.size_toArray, List.length_cons, List.length_nil]; have := hz1; have := hz2; have := hz3; omega, ?_⟩
    with_reducible rfl
  simp only [Act.put, List.setIfInBounds_toArray, List.set_cons_zero, List.set_cons_succ]
  refine wpQuiet_take (d := 13) (v := ?_) (by rfl) ?_ ?_
  rotate_left
  · intro wS hS
    have eF := HF.out wS hS
    go_simp
    try with_reducible rfl
  simp only [Act.put, List.setIfInBounds_toArray, List.set_cons_zero, List.set_cons_succ]
  refine wpQuiet_take (d := 14) (v := ?_) (by rfl) ?_ ?_
  rotate_left
  · intro wS hS
    have eF := HF.out wS hS
    go_simp
    try with_reducible rfl
  simp only [Act.put, List.setIfInBounds_toArray, List.set_cons_zero, List.set_cons_succ]
  refine wpQuiet_meet (d := 15) (v := ?_) ?_ ?_ (by rfl) ?_ ?_ ?_
  rotate_left
  rotate_left
  rotate_left
  · intro wS hS
    have eF := HF.out wS hS
    go_simp
    first | with_reducible rfl | (refine ⟨?_, ?_⟩ <;> with_reducible rfl)
  · intro wS hS
    refine (l1Num_any d (by omega) (by omega) wS).mono ?_
    rintro e w2 ⟨rfl, hb2⟩
    refine ⟨?_, hS.trans (hb2.mono hS.size)⟩
    with_reducible rfl
  simp only [Act.put, List.setIfInBounds_toArray, List.set_cons_zero, List.set_cons_succ]
  refine wpQuiet_take (d := 16) (v := ?_) (by rfl) ?_ ?_
  rotate_left
  · intro wS hS
    refine run_add_strP ⟨_, _, rfl, rfl, by simp only [ByteArray.size_append', ByteArray.size_mk', List.size_toArray, List.length_cons, List.length_nil]; have := hz1; have := hz2; have := hz3; omega, ?_⟩
    with_reducible rfl
  simp only [Act.put, List.setIfInBounds_toArray, List.set_cons_zero, List.set_cons_succ]
  refine wpQuiet_take (d := 17) (v := ?_) (by rfl) ?_ ?_
  rotate_left
  · intro wS hS
    refine run_add_strP ⟨_, _, rfl, rfl, by simp only [ByteArray.size_append', ByteArray.size_mk', List.size_toArray, List.length_cons, List.length_nil]; have := hz1; have := hz2; have := hz3; omega, ?_⟩
    with_reducible rfl
  simp only [Act.put, List.setIfInBounds_toArray, List.set_cons_zero, List.set_cons_succ]
  refine wpQuiet_take (d := 3) (v := ?_) (by rfl) ?_ ?_
  rotate_left
  · intro wS hS
    have eF := HF.out wS hS
    go_simp
    try with_reducible rfl
  simp only [Act.put, List.setIfInBounds_toArray, List.set_cons_zero, List.set_cons_succ]
  refine wpQuiet_nil (fun wq hHeld => ?_)
  have hS0 : (((((numB y ++ ⟨#[58, 32]⟩) ++ numB t) ++ ⟨#[32, 116, 32, 105, 110, 32]⟩) ++ numB d) ++ ⟨#[32, 100, 97, 121]⟩) = lineHead y d t := rfl
  rw [hS0]
  clear hS0
  obtain ⟨_, c1, c2, c3, _⟩ := HF.out wq hHeld
  have HB : Hid (Below w.heap.size w wq) := HAL.trans (hHeld.mono (by simp))
  
  generalize hLH : lineHead y d t = LH at *
  clear HF HAL hHeld
  by_cases hlp : 0 < l
  · obtain ⟨hp0, hp1⟩ := pctV_ok (t := t) (l := l) (by omega) (by omega) (by omega) (by omega)
    have hz4 := numB_size (n := pctV t l) (by omega) (by omega)
    have hq : Int.tdiv (100 * l + t - 1) t = pctV t l := Int.tdiv_eq_ediv_of_nonneg (by omega)
    by_cases hd : d = 1
    · subst hd
      have HE : Hid (lineText y 1 t l = ((LH ++ ⟨#[44, 32]⟩) ++ numB (pctV t l)) ++ ⟨#[37, 32, 108, 111, 115, 116]⟩) := by show _ = _; unfold lineText lineDay; rw [if_pos hlp, if_pos rfl, hLH]
      clear hLH
      go_wp2_with ((go_at_call 27; refine (l1Num_any (pctV t l) (by omega) (by omega) _).mono ?_; rintro e w5 ⟨rfl, hb5⟩))
      go_ret
      exact ⟨by rw [HE.out]; rfl, below_of HB.out hb5 HB.out.size⟩
    · have HE : Hid (lineText y d t l = (((LH ++ ⟨#[115]⟩) ++ ⟨#[44, 32]⟩) ++ numB (pctV t l)) ++ ⟨#[37, 32, 108, 111, 115, 116]⟩) := by show _ = _; unfold lineText lineDay; rw [if_pos hlp, if_neg hd, hLH]
      clear hLH
      go_wp2_with ((go_at_call 27; refine (l1Num_any (pctV t l) (by omega) (by omega) _).mono ?_; rintro e w5 ⟨rfl, hb5⟩))
      go_ret
      exact ⟨by rw [HE.out]; rfl, below_of HB.out hb5 HB.out.size⟩
  · by_cases hd : d = 1
    · subst hd
      have HE : Hid (lineText y 1 t l = LH) := by show _ = _; unfold lineText lineDay; rw [if_neg hlp, if_pos rfl, hLH]
      clear hLH
      go_wp2_with fail
      go_ret
      exact ⟨by first | (rw [HE.out]; rfl) | rw [HE.out], HB.out⟩
    · have HE : Hid (lineText y d t l = LH ++ ⟨#[115]⟩) := by show _ = _; unfold lineText lineDay; rw [if_neg hlp, if_neg hd, hLH]
      clear hLH
      go_wp2_with fail
      go_ret
      exact ⟨by first | (rw [HE.out]; rfl) | rw [HE.out], HB.out⟩
set_option maxHeartbeats 1000000 in
theorem CropLine_any (y d t l p : Int) (w : World) (ht : Tab w) :
    Calls Tryd.prog 17 #[.agg #[.int .i64 y, .int .i64 d, .int .i64 t, .int .i64 l, .int .i64 p]] w fun e w' => e = .returned (.tuple #[.string (if okRow y d t l p then lineText y d t l else ⟨#[]⟩), .bool (okRow y d t l p)]) ∧ Below w.heap.size w w' := by
  have HAL : Below w.heap.size w (w.alloc (.cells #[.int .i64 y, .int .i64 d, .int .i64 t, .int .i64 l, .int .i64 p] 36)) := (Below.refl _ w).alloc (Nat.le_refl _) _
  have hK := own_new5 w 36 y d t l p (fun j => if j = 0 then y else if j = 1 then d else if j = 2 then t else if j = 3 then l else p) rfl rfl rfl rfl rfl
  cases hok : okRow y d t l p with
  | false =>
    go_enter Tryd.func17, Tryd.ntmps17
    go_wp2_with (go_at_call 19; refine (IsCropRow_any _ _ _ _ _ _).mono ?_; rw [hok]; rintro e w1 ⟨rfl, hb1⟩)
    go_ret2
    exact ⟨rfl, HAL.trans (hb1.mono (by simp))⟩
  | true =>
    go_enter Tryd.func17, Tryd.ntmps17
    go_wp2_with fail
    refine (IsCropRow_any _ _ _ _ _ _).mono ?_
    rw [hok]
    rintro e w1 ⟨rfl, hb1⟩
    obtain ⟨q0, q1, q2, q3, q4, _, _⟩ := (hK.below hb1).cells5
    simp only [if_pos, if_neg, reduceCtorEq, Nat.reduceEqDiff, if_true, if_false] at q0 q1 q2 q3 q4
    have HB1 : Below w.heap.size w w1 := HAL.trans (hb1.mono (by simp))
    have HT1 : Tab w1 := ht.below HB1
    go_wp2_with fail
    refine (cropLine_any _ _ _ _ p hok _ HT1).mono ?_
    rintro e w2 ⟨rfl, hb2⟩
    go_wp2
    go_ret2
    exact ⟨rfl, below_of HB1 hb2 HB1.size⟩
set_option maxHeartbeats 1000000 in
theorem sCropLine_any (y d t l p : Int) (w : World) :
    Calls Tryd.prog 18 #[.agg #[.int .i64 y, .int .i64 d, .int .i64 t, .int .i64 l, .int .i64 p]] w fun e w' => e = .returned (.tuple #[.string (if okRow y d t l p then lineText y d t l else ⟨#[]⟩), .bool (okRow y d t l p)]) ∧ Below w.heap.size w w' := by
  have HAL : Below w.heap.size w (w.alloc (.cells #[.int .i64 y, .int .i64 d, .int .i64 t, .int .i64 l, .int .i64 p] 36)) := (Below.refl _ w).alloc (Nat.le_refl _) _
  have hK := own_new5 w 36 y d t l p (fun j => if j = 0 then y else if j = 1 then d else if j = 2 then t else if j = 3 then l else p) rfl rfl rfl rfl rfl
  cases hok : okRow y d t l p with
  | false =>
    go_enter Tryd.func18, Tryd.ntmps18
    go_wp2_with (go_at_call 29; refine (l26One_any _ _ _ _ _ _).mono ?_; rw [hok]; rintro e w1 ⟨rfl, hb1⟩)
    go_ret2
    exact ⟨rfl, HAL.trans (hb1.mono (by simp))⟩
  | true =>
    go_enter Tryd.func18, Tryd.ntmps18
    go_wp2_with fail
    refine (l26One_any _ _ _ _ _ _).mono ?_
    rw [hok]
    rintro e w1 ⟨rfl, hb1⟩
    obtain ⟨q0, q1, q2, q3, q4, _, _⟩ := (hK.below hb1).cells5
    simp only [if_pos, if_neg, reduceCtorEq, Nat.reduceEqDiff, if_true, if_false] at q0 q1 q2 q3 q4
    have HB1 : Below w.heap.size w w1 := HAL.trans (hb1.mono (by simp))
    
    go_wp2_with fail
    refine (l26Line_any _ _ _ _ p hok _).mono ?_
    rintro e w2 ⟨rfl, hb2⟩
    go_wp2
    go_ret2
    exact ⟨rfl, below_of HB1 hb2 HB1.size⟩
end Go.Proofs.YtfejgoohefhjoaaDoor
