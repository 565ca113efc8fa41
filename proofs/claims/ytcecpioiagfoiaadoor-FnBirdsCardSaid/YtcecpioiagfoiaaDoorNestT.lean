/-
  NestText: the text of a nest, the same on both sides.
-/
import Derived.Test.YtcecpioiagfoiaaDoorNestA
import Derived.Test.YtcecpioiagfoiaaDoorNum
namespace Go.Proofs.YtcecpioiagfoiaaDoor
open Go.RowKit
set_option linter.unusedVariables false
set_option linter.unusedSimpArgs false
attribute [local go_sem ↓] Go.wp_at_zero Go.wp_at_succ
def nestText (k p d b x y : Int) : ByteArray := ((((((((((⟨#[107, 105, 110, 100, 32]⟩ ++ numB k) ++ ⟨#[32, 97, 116, 32, 112, 111, 110, 100, 32]⟩) ++ numB p) ++ ⟨#[32, 40]⟩) ++ numB x) ++ ⟨#[44]⟩) ++ numB y) ++ ⟨#[41, 32, 100, 97, 121, 115, 32]⟩) ++ numB d) ++ ⟨#[45]⟩) ++ numB (d + b - 1)
theorem okNest_facts {i k p d b x y : Int} (h : okNest i k p d b x y = true) : 1 ≤ k ∧ k ≤ 10 ∧ 0 ≤ p ∧ p ≤ 100 ∧ 0 ≤ d ∧ d ≤ 5000 ∧ 1 ≤ b ∧ b ≤ 100 ∧ 0 ≤ x ∧ x ≤ 1000 ∧ 0 ≤ y ∧ y ≤ 1000 := by
  simp only [okNest, decide_eq_true_eq] at h
  omega
theorem last_small (i k p d b x y : Int) (hd : 0 ≤ d ∧ d ≤ 5000) (hb : 1 ≤ b ∧ b ≤ 100) (w : World) :
    Calls Tryd.prog 52 #[.agg #[.int .i64 i, .int .i64 k, .int .i64 p, .int .i64 d, .int .i64 b, .int .i64 x, .int .i64 y]] w fun e w' => e = .returned (.int .i64 (d + b - 1)) ∧ Below w.heap.size w w' := by
  have h1 : IntKind.i64.wrap (d + b) = d + b := IntWalk.i64_in _ (by omega)
  have h2 : IntKind.i64.wrap (d + b - 1) = d + b - 1 := IntWalk.i64_in _ (by omega)
  obtain ⟨hd0, hd1⟩ := hd
  obtain ⟨hb0, hb1⟩ := hb
  go_enter Tryd.func52, Tryd.ntmps52
  go_wp2
  go_ret
  exact ⟨ret_int (by first | rfl | omega), by go_grown⟩
set_option maxRecDepth 100000 in
set_option maxHeartbeats 2000000 in
theorem NestText_any (i k p d b x y : Int) (w : World) (ht : Tab w) :
    Calls Tryd.prog 23 #[.agg #[.int .i64 i, .int .i64 k, .int .i64 p, .int .i64 d, .int .i64 b, .int .i64 x, .int .i64 y]] w fun e w' => e = .returned (.tuple #[.string (if okNest i k p d b x y then nestText k p d b x y else ⟨#[]⟩), .bool (okNest i k p d b x y)]) ∧ Below w.heap.size w w' := by
  have HAL : Below w.heap.size w (w.alloc (.cells #[.int .i64 i, .int .i64 k, .int .i64 p, .int .i64 d, .int .i64 b, .int .i64 x, .int .i64 y] 36)) := (Below.refl _ w).alloc (Nat.le_refl _) _
  cases hok : okNest i k p d b x y with
  | false =>
    go_enter Tryd.func23, Tryd.ntmps23
    go_wp2_with (go_at_call 25; refine (NestOne_any _ _ _ _ _ _ _ _).mono ?_; rw [hok]; rintro e w1 ⟨rfl, hb1⟩)
    go_ret2
    exact ⟨rfl, HAL.trans (hb1.mono (by simp))⟩
  | true =>
    obtain ⟨k0, k1, p0, p1, d0, d1, b0, b1, x0, x1, y0, y1⟩ := okNest_facts hok
    have hz1 := numB_size (n := k) (by omega) (by omega)
    have hz2 := numB_size (n := p) (by omega) (by omega)
    have hz3 := numB_size (n := x) (by omega) (by omega)
    have hz4 := numB_size (n := y) (by omega) (by omega)
    have hz5 := numB_size (n := d) (by omega) (by omega)
    have hz6 := numB_size (n := d + b - 1) (by omega) (by omega)
    have hw1 : IntKind.i64.wrap (d + b) = d + b := IntWalk.i64_in _ (by omega)
    have hw2 : IntKind.i64.wrap (d + b - 1) = d + b - 1 := IntWalk.i64_in _ (by omega)
    have HT : Hid (Tab (w.alloc (.cells #[.int .i64 i, .int .i64 k, .int .i64 p, .int .i64 d, .int .i64 b, .int .i64 x, .int .i64 y] 36))) := ht.below HAL
    have HF0 : Hid (∀ w', Below (w.alloc (.cells #[.int .i64 i, .int .i64 k, .int .i64 p, .int .i64 d, .int .i64 b, .int .i64 x, .int .i64 y] 36)).heap.size (w.alloc (.cells #[.int .i64 i, .int .i64 k, .int .i64 p, .int .i64 d, .int .i64 b, .int .i64 x, .int .i64 y] 36)) w' → w'.cell? ⟨w.heap.size, 0, none⟩ = some (.int .i64 i) ∧ w'.cell? ⟨w.heap.size, 1, none⟩ = some (.int .i64 k) ∧ w'.cell? ⟨w.heap.size, 2, none⟩ = some (.int .i64 p) ∧ w'.cell? ⟨w.heap.size, 3, none⟩ = some (.int .i64 d) ∧ w'.cell? ⟨w.heap.size, 4, none⟩ = some (.int .i64 b) ∧ w'.cell? ⟨w.heap.size, 5, none⟩ = some (.int .i64 x) ∧ w'.cell? ⟨w.heap.size, 6, none⟩ = some (.int .i64 y)) := by
      intro w' hq
      exact ⟨(hq.cell (p := ⟨w.heap.size, 0, none⟩) (by simp)).trans (by simp), (hq.cell (p := ⟨w.heap.size, 1, none⟩) (by simp)).trans (by simp), (hq.cell (p := ⟨w.heap.size, 2, none⟩) (by simp)).trans (by simp), (hq.cell (p := ⟨w.heap.size, 3, none⟩) (by simp)).trans (by simp), (hq.cell (p := ⟨w.heap.size, 4, none⟩) (by simp)).trans (by simp), (hq.cell (p := ⟨w.heap.size, 5, none⟩) (by simp)).trans (by simp), (hq.cell (p := ⟨w.heap.size, 6, none⟩) (by simp)).trans (by simp)⟩
    go_enter Tryd.func23, Tryd.ntmps23
    go_wp2_with fail
    refine (NestOne_any _ _ _ _ _ _ _ _).mono ?_
    rw [hok]
    rintro e w1 ⟨rfl, hb1⟩
    have HF : Hid (∀ w', Below w1.heap.size w1 w' → w'.cell? ⟨w.heap.size, 0, none⟩ = some (.int .i64 i) ∧ w'.cell? ⟨w.heap.size, 1, none⟩ = some (.int .i64 k) ∧ w'.cell? ⟨w.heap.size, 2, none⟩ = some (.int .i64 p) ∧ w'.cell? ⟨w.heap.size, 3, none⟩ = some (.int .i64 d) ∧ w'.cell? ⟨w.heap.size, 4, none⟩ = some (.int .i64 b) ∧ w'.cell? ⟨w.heap.size, 5, none⟩ = some (.int .i64 x) ∧ w'.cell? ⟨w.heap.size, 6, none⟩ = some (.int .i64 y)) := fun w' hq => HF0.out w' (hb1.trans (hq.mono hb1.size))
    clear HF0
    go_wp2_with fail
    refine wp_region_class (C := fun w' => Below (w1).heap.size (w1) w') (by kernel_rfl) (by kernel_rfl) ((Below.refl _ _).drew) ?_
    refine wpQuiet_take (d := 7) (v := ?_) (by rfl) ?_ ?_
    rotate_left
    · intro wS hS
      have eF := HF.out wS hS
      go_simp
      try with_reducible rfl
    simp only [Act.put, List.setIfInBounds_toArray, List.set_cons_zero, List.set_cons_succ]
    refine wpQuiet_take (d := 8) (v := ?_) (by rfl) ?_ ?_
    rotate_left
    · intro wS hS
      have eF := HF.out wS hS
      go_simp
      try with_reducible rfl
    simp only [Act.put, List.setIfInBounds_toArray, List.set_cons_zero, List.set_cons_succ]
    refine wpQuiet_meet (d := 9) (v := ?_) ?_ ?_ (by rfl) ?_ ?_ ?_
    rotate_left
    rotate_left
    rotate_left
    · intro wS hS
      have eF := HF.out wS hS
      go_simp
      first | with_reducible rfl | (refine ⟨?_, ?_⟩ <;> with_reducible rfl)
    · intro wS hS
      refine (decimal_any k (by omega) (by omega) wS (HT.out.below (hb1.trans (hS.mono hb1.size)))).mono ?_
      rintro e w2 ⟨rfl, hb2⟩
      refine ⟨?_, hS.trans (hb2.mono hS.size)⟩
      with_reducible rfl
    simp only [Act.put, List.setIfInBounds_toArray, List.set_cons_zero, List.set_cons_succ]
    refine wpQuiet_take (d := 10) (v := ?_) (by rfl) ?_ ?_
    rotate_left
    · intro wS hS
      refine run_add_strP ⟨_, _, rfl, rfl, by simp only [ByteArray.size_append', ByteArray.size_mk', List.size_toArray, List.length_cons, List.length_nil]; omega, ?_⟩
      with_reducible rfl
    simp only [Act.put, List.setIfInBounds_toArray, List.set_cons_zero, List.set_cons_succ]
    refine wpQuiet_take (d := 11) (v := ?_) (by rfl) ?_ ?_
    rotate_left
    · intro wS hS
      refine run_add_strP ⟨_, _, rfl, rfl, by simp only [ByteArray.size_append', ByteArray.size_mk', List.size_toArray, List.length_cons, List.length_nil]; omega, ?_⟩
      with_reducible rfl
    simp only [Act.put, List.setIfInBounds_toArray, List.set_cons_zero, List.set_cons_succ]
    refine wpQuiet_take (d := 12) (v := ?_) (by rfl) ?_ ?_
    rotate_left
    · intro wS hS
      have eF := HF.out wS hS
      go_simp
      try with_reducible rfl
    simp only [Act.put, List.setIfInBounds_toArray, List.set_cons_zero, List.set_cons_succ]
    refine wpQuiet_take (d := 13) (v := ?_) (by rfl) ?_ ?_
    rotate_left
    · intro wS hS
      have eF := HF.out wS hS
      go_simp
      try with_reducible rfl
    simp only [Act.put, List.setIfInBounds_toArray, List.set_cons_zero, List.set_cons_succ]
    refine wpQuiet_meet (d := 14) (v := ?_) ?_ ?_ (by rfl) ?_ ?_ ?_
    rotate_left
    rotate_left
    rotate_left
    · intro wS hS
      have eF := HF.out wS hS
      go_simp
      first | with_reducible rfl | (refine ⟨?_, ?_⟩ <;> with_reducible rfl)
    · intro wS hS
      refine (decimal_any p (by omega) (by omega) wS (HT.out.below (hb1.trans (hS.mono hb1.size)))).mono ?_
      rintro e w2 ⟨rfl, hb2⟩
      refine ⟨?_, hS.trans (hb2.mono hS.size)⟩
      with_reducible rfl
    simp only [Act.put, List.setIfInBounds_toArray, List.set_cons_zero, List.set_cons_succ]
    refine wpQuiet_take (d := 15) (v := ?_) (by rfl) ?_ ?_
    rotate_left
    · intro wS hS
      refine run_add_strP ⟨_, _, rfl, rfl, by simp only [ByteArray.size_append', ByteArray.size_mk', List.size_toArray, List.length_cons, List.length_nil]; omega, ?_⟩
      with_reducible rfl
    simp only [Act.put, List.setIfInBounds_toArray, List.set_cons_zero, List.set_cons_succ]
    refine wpQuiet_take (d := 16) (v := ?_) (by rfl) ?_ ?_
    rotate_left
    · intro wS hS
      refine run_add_strP ⟨_, _, rfl, rfl, by simp only [ByteArray.size_append', ByteArray.size_mk', List.size_toArray, List.length_cons, List.length_nil]; omega, ?_⟩
      with_reducible rfl
    simp only [Act.put, List.setIfInBounds_toArray, List.set_cons_zero, List.set_cons_succ]
    refine wpQuiet_take (d := 17) (v := ?_) (by rfl) ?_ ?_
    rotate_left
    · intro wS hS
      have eF := HF.out wS hS
      go_simp
      try with_reducible rfl
    simp only [Act.put, List.setIfInBounds_toArray, List.set_cons_zero, List.set_cons_succ]
    refine wpQuiet_take (d := 18) (v := ?_) (by rfl) ?_ ?_
    rotate_left
    · intro wS hS
      have eF := HF.out wS hS
      go_simp
      try with_reducible rfl
    simp only [Act.put, List.setIfInBounds_toArray, List.set_cons_zero, List.set_cons_succ]
    refine wpQuiet_meet (d := 19) (v := ?_) ?_ ?_ (by rfl) ?_ ?_ ?_
    rotate_left
    rotate_left
    rotate_left
    · intro wS hS
      have eF := HF.out wS hS
      go_simp
      first | with_reducible rfl | (refine ⟨?_, ?_⟩ <;> with_reducible rfl)
    · intro wS hS
      refine (decimal_any x (by omega) (by omega) wS (HT.out.below (hb1.trans (hS.mono hb1.size)))).mono ?_
      rintro e w2 ⟨rfl, hb2⟩
      refine ⟨?_, hS.trans (hb2.mono hS.size)⟩
      with_reducible rfl
    simp only [Act.put, List.setIfInBounds_toArray, List.set_cons_zero, List.set_cons_succ]
    refine wpQuiet_take (d := 20) (v := ?_) (by rfl) ?_ ?_
    rotate_left
    · intro wS hS
      refine run_add_strP ⟨_, _, rfl, rfl, by simp only [ByteArray.size_append', ByteArray.size_mk', List.size_toArray, List.length_cons, List.length_nil]; omega, ?_⟩
      with_reducible rfl
    simp only [Act.put, List.setIfInBounds_toArray, List.set_cons_zero, List.set_cons_succ]
    refine wpQuiet_take (d := 21) (v := ?_) (by rfl) ?_ ?_
    rotate_left
    · intro wS hS
      refine run_add_strP ⟨_, _, rfl, rfl, by simp only [ByteArray.size_append', ByteArray.size_mk', List.size_toArray, List.length_cons, List.length_nil]; omega, ?_⟩
      with_reducible rfl
    simp only [Act.put, List.setIfInBounds_toArray, List.set_cons_zero, List.set_cons_succ]
    refine wpQuiet_take (d := 22) (v := ?_) (by rfl) ?_ ?_
    rotate_left
    · intro wS hS
      have eF := HF.out wS hS
      go_simp
      try with_reducible rfl
    simp only [Act.put, List.setIfInBounds_toArray, List.set_cons_zero, List.set_cons_succ]
    refine wpQuiet_take (d := 23) (v := ?_) (by rfl) ?_ ?_
    rotate_left
    · intro wS hS
      have eF := HF.out wS hS
      go_simp
      try with_reducible rfl
    simp only [Act.put, List.setIfInBounds_toArray, List.set_cons_zero, List.set_cons_succ]
    refine wpQuiet_meet (d := 24) (v := ?_) ?_ ?_ (by rfl) ?_ ?_ ?_
    rotate_left
    rotate_left
    rotate_left
    · intro wS hS
      have eF := HF.out wS hS
      go_simp
      first | with_reducible rfl | (refine ⟨?_, ?_⟩ <;> with_reducible rfl)
    · intro wS hS
      refine (decimal_any y (by omega) (by omega) wS (HT.out.below (hb1.trans (hS.mono hb1.size)))).mono ?_
      rintro e w2 ⟨rfl, hb2⟩
      refine ⟨?_, hS.trans (hb2.mono hS.size)⟩
      with_reducible rfl
    simp only [Act.put, List.setIfInBounds_toArray, List.set_cons_zero, List.set_cons_succ]
    refine wpQuiet_take (d := 25) (v := ?_) (by rfl) ?_ ?_
    rotate_left
    · intro wS hS
      refine run_add_strP ⟨_, _, rfl, rfl, by simp only [ByteArray.size_append', ByteArray.size_mk', List.size_toArray, List.length_cons, List.length_nil]; omega, ?_⟩
      with_reducible rfl
    simp only [Act.put, List.setIfInBounds_toArray, List.set_cons_zero, List.set_cons_succ]
    refine wpQuiet_take (d := 26) (v := ?_) (by rfl) ?_ ?_
    rotate_left
    · intro wS hS
      refine run_add_strP ⟨_, _, rfl, rfl, by simp only [ByteArray.size_append', ByteArray.size_mk', List.size_toArray, List.length_cons, List.length_nil]; omega, ?_⟩
      with_reducible rfl
    simp only [Act.put, List.setIfInBounds_toArray, List.set_cons_zero, List.set_cons_succ]
    refine wpQuiet_take (d := 27) (v := ?_) (by rfl) ?_ ?_
    rotate_left
    · intro wS hS
      have eF := HF.out wS hS
      go_simp
      try with_reducible rfl
    simp only [Act.put, List.setIfInBounds_toArray, List.set_cons_zero, List.set_cons_succ]
    refine wpQuiet_take (d := 28) (v := ?_) (by rfl) ?_ ?_
    rotate_left
    · intro wS hS
      have eF := HF.out wS hS
      go_simp
      try with_reducible rfl
    simp only [Act.put, List.setIfInBounds_toArray, List.set_cons_zero, List.set_cons_succ]
    refine wpQuiet_meet (d := 29) (v := ?_) ?_ ?_ (by rfl) ?_ ?_ ?_
    rotate_left
    rotate_left
    rotate_left
    · intro wS hS
      have eF := HF.out wS hS
      go_simp
      first | with_reducible rfl | (refine ⟨?_, ?_⟩ <;> with_reducible rfl)
    · intro wS hS
      refine (decimal_any d (by omega) (by omega) wS (HT.out.below (hb1.trans (hS.mono hb1.size)))).mono ?_
      rintro e w2 ⟨rfl, hb2⟩
      refine ⟨?_, hS.trans (hb2.mono hS.size)⟩
      with_reducible rfl
    simp only [Act.put, List.setIfInBounds_toArray, List.set_cons_zero, List.set_cons_succ]
    refine wpQuiet_take (d := 30) (v := ?_) (by rfl) ?_ ?_
    rotate_left
    · intro wS hS
      refine run_add_strP ⟨_, _, rfl, rfl, by simp only [ByteArray.size_append', ByteArray.size_mk', List.size_toArray, List.length_cons, List.length_nil]; omega, ?_⟩
      with_reducible rfl
    simp only [Act.put, List.setIfInBounds_toArray, List.set_cons_zero, List.set_cons_succ]
    refine wpQuiet_take (d := 31) (v := ?_) (by rfl) ?_ ?_
    rotate_left
    · intro wS hS
      refine run_add_strP ⟨_, _, rfl, rfl, by simp only [ByteArray.size_append', ByteArray.size_mk', List.size_toArray, List.length_cons, List.length_nil]; omega, ?_⟩
      with_reducible rfl
    simp only [Act.put, List.setIfInBounds_toArray, List.set_cons_zero, List.set_cons_succ]
    refine wpQuiet_take (d := 32) (v := ?_) (by rfl) ?_ ?_
    rotate_left
    · intro wS hS
      have eF := HF.out wS hS
      go_simp
      try with_reducible rfl
    simp only [Act.put, List.setIfInBounds_toArray, List.set_cons_zero, List.set_cons_succ]
    refine wpQuiet_meet (d := 33) (v := ?_) ?_ ?_ (by rfl) ?_ ?_ ?_
    rotate_left
    rotate_left
    rotate_left
    · intro wS hS
      have eF := HF.out wS hS
      go_simp
      first | with_reducible rfl | (refine ⟨?_, ?_⟩ <;> with_reducible rfl)
    · intro wS hS
      refine (last_small i k p d b x y (by omega) (by omega) wS).mono ?_
      rintro e w2 ⟨rfl, hb2⟩
      refine ⟨?_, hS.trans (hb2.mono hS.size)⟩
      with_reducible rfl
    simp only [Act.put, List.setIfInBounds_toArray, List.set_cons_zero, List.set_cons_succ]
    refine wpQuiet_meet (d := 34) (v := ?_) ?_ ?_ (by rfl) ?_ ?_ ?_
    rotate_left
    rotate_left
    rotate_left
    · intro wS hS
      have eF := HF.out wS hS
      go_simp
      first | with_reducible rfl | (refine ⟨?_, ?_⟩ <;> with_reducible rfl)
    · intro wS hS
      refine (decimal_any (d + b - 1) (by omega) (by omega) wS (HT.out.below (hb1.trans (hS.mono hb1.size)))).mono ?_
      rintro e w2 ⟨rfl, hb2⟩
      refine ⟨?_, hS.trans (hb2.mono hS.size)⟩
      with_reducible rfl
    simp only [Act.put, List.setIfInBounds_toArray, List.set_cons_zero, List.set_cons_succ]
    refine wpQuiet_take (d := 35) (v := ?_) (by rfl) ?_ ?_
    rotate_left
    · intro wS hS
      refine run_add_strP ⟨_, _, rfl, rfl, by simp only [ByteArray.size_append', ByteArray.size_mk', List.size_toArray, List.length_cons, List.length_nil]; omega, ?_⟩
      with_reducible rfl
    simp only [Act.put, List.setIfInBounds_toArray, List.set_cons_zero, List.set_cons_succ]
    refine wpQuiet_take (d := 2) (v := ?_) (by rfl) ?_ ?_
    rotate_left
    · intro wS hS
      have eF := HF.out wS hS
      go_simp
      try with_reducible rfl
    simp only [Act.put, List.setIfInBounds_toArray, List.set_cons_zero, List.set_cons_succ]
    refine wpQuiet_take (d := 3) (v := ?_) (by rfl) ?_ ?_
    rotate_left
    · intro wS hS
      have eF := HF.out wS hS
      go_simp
      try with_reducible rfl
    simp only [Act.put, List.setIfInBounds_toArray, List.set_cons_zero, List.set_cons_succ]
    refine wpQuiet_nil (fun wq hHeld => ?_)
    go_wp2_with fail
    go_ret2
    exact ⟨rfl, HAL.trans ((hb1.trans (hHeld.mono hb1.size)).mono (by simp))⟩
set_option maxRecDepth 100000 in
set_option maxHeartbeats 2000000 in
theorem sNestText_any (i k p d b x y : Int) (w : World) :
    Calls Tryd.prog 24 #[.agg #[.int .i64 i, .int .i64 k, .int .i64 p, .int .i64 d, .int .i64 b, .int .i64 x, .int .i64 y]] w fun e w' => e = .returned (.tuple #[.string (if okNest i k p d b x y then nestText k p d b x y else ⟨#[]⟩), .bool (okNest i k p d b x y)]) ∧ Below w.heap.size w w' := by
  have HAL : Below w.heap.size w (w.alloc (.cells #[.int .i64 i, .int .i64 k, .int .i64 p, .int .i64 d, .int .i64 b, .int .i64 x, .int .i64 y] 36)) := (Below.refl _ w).alloc (Nat.le_refl _) _
  cases hok : okNest i k p d b x y with
  | false =>
    go_enter Tryd.func24, Tryd.ntmps24
    go_wp2_with (go_at_call 53; refine (sNestOne_any _ _ _ _ _ _ _ _).mono ?_; rw [hok]; rintro e w1 ⟨rfl, hb1⟩)
    go_ret2
    exact ⟨rfl, HAL.trans (hb1.mono (by simp))⟩
  | true =>
    obtain ⟨k0, k1, p0, p1, d0, d1, b0, b1, x0, x1, y0, y1⟩ := okNest_facts hok
    have hz1 := numB_size (n := k) (by omega) (by omega)
    have hz2 := numB_size (n := p) (by omega) (by omega)
    have hz3 := numB_size (n := x) (by omega) (by omega)
    have hz4 := numB_size (n := y) (by omega) (by omega)
    have hz5 := numB_size (n := d) (by omega) (by omega)
    have hz6 := numB_size (n := d + b - 1) (by omega) (by omega)
    have hw1 : IntKind.i64.wrap (d + b) = d + b := IntWalk.i64_in _ (by omega)
    have hw2 : IntKind.i64.wrap (d + b - 1) = d + b - 1 := IntWalk.i64_in _ (by omega)
    
    have HF0 : Hid (∀ w', Below (w.alloc (.cells #[.int .i64 i, .int .i64 k, .int .i64 p, .int .i64 d, .int .i64 b, .int .i64 x, .int .i64 y] 36)).heap.size (w.alloc (.cells #[.int .i64 i, .int .i64 k, .int .i64 p, .int .i64 d, .int .i64 b, .int .i64 x, .int .i64 y] 36)) w' → w'.cell? ⟨w.heap.size, 0, none⟩ = some (.int .i64 i) ∧ w'.cell? ⟨w.heap.size, 1, none⟩ = some (.int .i64 k) ∧ w'.cell? ⟨w.heap.size, 2, none⟩ = some (.int .i64 p) ∧ w'.cell? ⟨w.heap.size, 3, none⟩ = some (.int .i64 d) ∧ w'.cell? ⟨w.heap.size, 4, none⟩ = some (.int .i64 b) ∧ w'.cell? ⟨w.heap.size, 5, none⟩ = some (.int .i64 x) ∧ w'.cell? ⟨w.heap.size, 6, none⟩ = some (.int .i64 y)) := by
      intro w' hq
      exact ⟨(hq.cell (p := ⟨w.heap.size, 0, none⟩) (by simp)).trans (by simp), (hq.cell (p := ⟨w.heap.size, 1, none⟩) (by simp)).trans (by simp), (hq.cell (p := ⟨w.heap.size, 2, none⟩) (by simp)).trans (by simp), (hq.cell (p := ⟨w.heap.size, 3, none⟩) (by simp)).trans (by simp), (hq.cell (p := ⟨w.heap.size, 4, none⟩) (by simp)).trans (by simp), (hq.cell (p := ⟨w.heap.size, 5, none⟩) (by simp)).trans (by simp), (hq.cell (p := ⟨w.heap.size, 6, none⟩) (by simp)).trans (by simp)⟩
    go_enter Tryd.func24, Tryd.ntmps24
    go_wp2_with fail
    refine (sNestOne_any _ _ _ _ _ _ _ _).mono ?_
    rw [hok]
    rintro e w1 ⟨rfl, hb1⟩
    have HF : Hid (∀ w', Below w1.heap.size w1 w' → w'.cell? ⟨w.heap.size, 0, none⟩ = some (.int .i64 i) ∧ w'.cell? ⟨w.heap.size, 1, none⟩ = some (.int .i64 k) ∧ w'.cell? ⟨w.heap.size, 2, none⟩ = some (.int .i64 p) ∧ w'.cell? ⟨w.heap.size, 3, none⟩ = some (.int .i64 d) ∧ w'.cell? ⟨w.heap.size, 4, none⟩ = some (.int .i64 b) ∧ w'.cell? ⟨w.heap.size, 5, none⟩ = some (.int .i64 x) ∧ w'.cell? ⟨w.heap.size, 6, none⟩ = some (.int .i64 y)) := fun w' hq => HF0.out w' (hb1.trans (hq.mono hb1.size))
    clear HF0
    go_wp2_with fail
    refine wp_region_class (C := fun w' => Below (w1).heap.size (w1) w') (by kernel_rfl) (by kernel_rfl) ((Below.refl _ _).drew) ?_
    refine wpQuiet_take (d := 7) (v := ?_) (by rfl) ?_ ?_
    rotate_left
    · intro wS hS
      have eF := HF.out wS hS
      go_simp
      try with_reducible rfl
    simp only [Act.put, List.setIfInBounds_toArray, List.set_cons_zero, List.set_cons_succ]
    refine wpQuiet_take (d := 8) (v := ?_) (by rfl) ?_ ?_
    rotate_left
    · intro wS hS
      have eF := HF.out wS hS
      go_simp
      try with_reducible rfl
    simp only [Act.put, List.setIfInBounds_toArray, List.set_cons_zero, List.set_cons_succ]
    refine wpQuiet_meet (d := 9) (v := ?_) ?_ ?_ (by rfl) ?_ ?_ ?_
    rotate_left
    rotate_left
    rotate_left
    · intro wS hS
      have eF := HF.out wS hS
      go_simp
      first | with_reducible rfl | (refine ⟨?_, ?_⟩ <;> with_reducible rfl)
    · intro wS hS
      refine (l1Num_any k (by omega) (by omega) wS).mono ?_
      rintro e w2 ⟨rfl, hb2⟩
      refine ⟨?_, hS.trans (hb2.mono hS.size)⟩
      with_reducible rfl
    simp only [Act.put, List.setIfInBounds_toArray, List.set_cons_zero, List.set_cons_succ]
    refine wpQuiet_take (d := 10) (v := ?_) (by rfl) ?_ ?_
    rotate_left
    · intro wS hS
      refine run_add_strP ⟨_, _, rfl, rfl, by simp only [ByteArray.size_append', ByteArray.size_mk', List.size_toArray, List.length_cons, List.length_nil]; omega, ?_⟩
      with_reducible rfl
    simp only [Act.put, List.setIfInBounds_toArray, List.set_cons_zero, List.set_cons_succ]
    refine wpQuiet_take (d := 11) (v := ?_) (by rfl) ?_ ?_
    rotate_left
    · intro wS hS
      refine run_add_strP ⟨_, _, rfl, rfl, by simp only [ByteArray.size_append', ByteArray.size_mk', List.size_toArray, List.length_cons, List.length_nil]; omega, ?_⟩
      with_reducible rfl
    simp only [Act.put, List.setIfInBounds_toArray, List.set_cons_zero, List.set_cons_succ]
    refine wpQuiet_take (d := 12) (v := ?_) (by rfl) ?_ ?_
    rotate_left
    · intro wS hS
      have eF := HF.out wS hS
      go_simp
      try with_reducible rfl
    simp only [Act.put, List.setIfInBounds_toArray, List.set_cons_zero, List.set_cons_succ]
    refine wpQuiet_take (d := 13) (v := ?_) (by rfl) ?_ ?_
    rotate_left
    · intro wS hS
      have eF := HF.out wS hS
      go_simp
      try with_reducible rfl
    simp only [Act.put, List.setIfInBounds_toArray, List.set_cons_zero, List.set_cons_succ]
    refine wpQuiet_meet (d := 14) (v := ?_) ?_ ?_ (by rfl) ?_ ?_ ?_
    rotate_left
    rotate_left
    rotate_left
    · intro wS hS
      have eF := HF.out wS hS
      go_simp
      first | with_reducible rfl | (refine ⟨?_, ?_⟩ <;> with_reducible rfl)
    · intro wS hS
      refine (l1Num_any p (by omega) (by omega) wS).mono ?_
      rintro e w2 ⟨rfl, hb2⟩
      refine ⟨?_, hS.trans (hb2.mono hS.size)⟩
      with_reducible rfl
    simp only [Act.put, List.setIfInBounds_toArray, List.set_cons_zero, List.set_cons_succ]
    refine wpQuiet_take (d := 15) (v := ?_) (by rfl) ?_ ?_
    rotate_left
    · intro wS hS
      refine run_add_strP ⟨_, _, rfl, rfl, by simp only [ByteArray.size_append', ByteArray.size_mk', List.size_toArray, List.length_cons, List.length_nil]; omega, ?_⟩
      with_reducible rfl
    simp only [Act.put, List.setIfInBounds_toArray, List.set_cons_zero, List.set_cons_succ]
    refine wpQuiet_take (d := 16) (v := ?_) (by rfl) ?_ ?_
    rotate_left
    · intro wS hS
      refine run_add_strP ⟨_, _, rfl, rfl, by simp only [ByteArray.size_append', ByteArray.size_mk', List.size_toArray, List.length_cons, List.length_nil]; omega, ?_⟩
      with_reducible rfl
    simp only [Act.put, List.setIfInBounds_toArray, List.set_cons_zero, List.set_cons_succ]
    refine wpQuiet_take (d := 17) (v := ?_) (by rfl) ?_ ?_
    rotate_left
    · intro wS hS
      have eF := HF.out wS hS
      go_simp
      try with_reducible rfl
    simp only [Act.put, List.setIfInBounds_toArray, List.set_cons_zero, List.set_cons_succ]
    refine wpQuiet_take (d := 18) (v := ?_) (by rfl) ?_ ?_
    rotate_left
    · intro wS hS
      have eF := HF.out wS hS
      go_simp
      try with_reducible rfl
    simp only [Act.put, List.setIfInBounds_toArray, List.set_cons_zero, List.set_cons_succ]
    refine wpQuiet_meet (d := 19) (v := ?_) ?_ ?_ (by rfl) ?_ ?_ ?_
    rotate_left
    rotate_left
    rotate_left
    · intro wS hS
      have eF := HF.out wS hS
      go_simp
      first | with_reducible rfl | (refine ⟨?_, ?_⟩ <;> with_reducible rfl)
    · intro wS hS
      refine (l1Num_any x (by omega) (by omega) wS).mono ?_
      rintro e w2 ⟨rfl, hb2⟩
      refine ⟨?_, hS.trans (hb2.mono hS.size)⟩
      with_reducible rfl
    simp only [Act.put, List.setIfInBounds_toArray, List.set_cons_zero, List.set_cons_succ]
    refine wpQuiet_take (d := 20) (v := ?_) (by rfl) ?_ ?_
    rotate_left
    · intro wS hS
      refine run_add_strP ⟨_, _, rfl, rfl, by simp only [ByteArray.size_append', ByteArray.size_mk', List.size_toArray, List.length_cons, List.length_nil]; omega, ?_⟩
      with_reducible rfl
    simp only [Act.put, List.setIfInBounds_toArray, List.set_cons_zero, List.set_cons_succ]
    refine wpQuiet_take (d := 21) (v := ?_) (by rfl) ?_ ?_
    rotate_left
    · intro wS hS
      refine run_add_strP ⟨_, _, rfl, rfl, by simp only [ByteArray.size_append', ByteArray.size_mk', List.size_toArray, List.length_cons, List.length_nil]; omega, ?_⟩
      with_reducible rfl
    simp only [Act.put, List.setIfInBounds_toArray, List.set_cons_zero, List.set_cons_succ]
    refine wpQuiet_take (d := 22) (v := ?_) (by rfl) ?_ ?_
    rotate_left
    · intro wS hS
      have eF := HF.out wS hS
      go_simp
      try with_reducible rfl
    simp only [Act.put, List.setIfInBounds_toArray, List.set_cons_zero, List.set_cons_succ]
    refine wpQuiet_take (d := 23) (v := ?_) (by rfl) ?_ ?_
    rotate_left
    · intro wS hS
      have eF := HF.out wS hS
      go_simp
      try with_reducible rfl
    simp only [Act.put, List.setIfInBounds_toArray, List.set_cons_zero, List.set_cons_succ]
    refine wpQuiet_meet (d := 24) (v := ?_) ?_ ?_ (by rfl) ?_ ?_ ?_
    rotate_left
    rotate_left
    rotate_left
    · intro wS hS
      have eF := HF.out wS hS
      go_simp
      first | with_reducible rfl | (refine ⟨?_, ?_⟩ <;> with_reducible rfl)
    · intro wS hS
      refine (l1Num_any y (by omega) (by omega) wS).mono ?_
      rintro e w2 ⟨rfl, hb2⟩
      refine ⟨?_, hS.trans (hb2.mono hS.size)⟩
      with_reducible rfl
    simp only [Act.put, List.setIfInBounds_toArray, List.set_cons_zero, List.set_cons_succ]
    refine wpQuiet_take (d := 25) (v := ?_) (by rfl) ?_ ?_
    rotate_left
    · intro wS hS
      refine run_add_strP ⟨_, _, rfl, rfl, by simp only [ByteArray.size_append', ByteArray.size_mk', List.size_toArray, List.length_cons, List.length_nil]; omega, ?_⟩
      with_reducible rfl
    simp only [Act.put, List.setIfInBounds_toArray, List.set_cons_zero, List.set_cons_succ]
    refine wpQuiet_take (d := 26) (v := ?_) (by rfl) ?_ ?_
    rotate_left
    · intro wS hS
      refine run_add_strP ⟨_, _, rfl, rfl, by simp only [ByteArray.size_append', ByteArray.size_mk', List.size_toArray, List.length_cons, List.length_nil]; omega, ?_⟩
      with_reducible rfl
    simp only [Act.put, List.setIfInBounds_toArray, List.set_cons_zero, List.set_cons_succ]
    refine wpQuiet_take (d := 27) (v := ?_) (by rfl) ?_ ?_
    rotate_left
    · intro wS hS
      have eF := HF.out wS hS
      go_simp
      try with_reducible rfl
    simp only [Act.put, List.setIfInBounds_toArray, List.set_cons_zero, List.set_cons_succ]
    refine wpQuiet_take (d := 28) (v := ?_) (by rfl) ?_ ?_
    rotate_left
    · intro wS hS
      have eF := HF.out wS hS
      go_simp
      try with_reducible rfl
    simp only [Act.put, List.setIfInBounds_toArray, List.set_cons_zero, List.set_cons_succ]
    refine wpQuiet_meet (d := 29) (v := ?_) ?_ ?_ (by rfl) ?_ ?_ ?_
    rotate_left
    rotate_left
    rotate_left
    · intro wS hS
      have eF := HF.out wS hS
      go_simp
      first | with_reducible rfl | (refine ⟨?_, ?_⟩ <;> with_reducible rfl)
    · intro wS hS
      refine (l1Num_any d (by omega) (by omega) wS).mono ?_
      rintro e w2 ⟨rfl, hb2⟩
      refine ⟨?_, hS.trans (hb2.mono hS.size)⟩
      with_reducible rfl
    simp only [Act.put, List.setIfInBounds_toArray, List.set_cons_zero, List.set_cons_succ]
    refine wpQuiet_take (d := 30) (v := ?_) (by rfl) ?_ ?_
    rotate_left
    · intro wS hS
      refine run_add_strP ⟨_, _, rfl, rfl, by simp only [ByteArray.size_append', ByteArray.size_mk', List.size_toArray, List.length_cons, List.length_nil]; omega, ?_⟩
      with_reducible rfl
    simp only [Act.put, List.setIfInBounds_toArray, List.set_cons_zero, List.set_cons_succ]
    refine wpQuiet_take (d := 31) (v := ?_) (by rfl) ?_ ?_
    rotate_left
    · intro wS hS
      refine run_add_strP ⟨_, _, rfl, rfl, by simp only [ByteArray.size_append', ByteArray.size_mk', List.size_toArray, List.length_cons, List.length_nil]; omega, ?_⟩
      with_reducible rfl
    simp only [Act.put, List.setIfInBounds_toArray, List.set_cons_zero, List.set_cons_succ]
    refine wpQuiet_take (d := 32) (v := ?_) (by rfl) ?_ ?_
    rotate_left
    · intro wS hS
      have eF := HF.out wS hS
      go_simp
      try with_reducible rfl
    simp only [Act.put, List.setIfInBounds_toArray, List.set_cons_zero, List.set_cons_succ]
    refine wpQuiet_take (d := 33) (v := ?_) (by rfl) ?_ ?_
    rotate_left
    · intro wS hS
      have eF := HF.out wS hS
      go_simp
      try with_reducible rfl
    simp only [Act.put, List.setIfInBounds_toArray, List.set_cons_zero, List.set_cons_succ]
    refine wpQuiet_take (d := 34) (v := ?_) (by rfl) ?_ ?_
    rotate_left
    · intro wS hS
      have eF := HF.out wS hS
      go_simp
      try with_reducible rfl
    simp only [Act.put, List.setIfInBounds_toArray, List.set_cons_zero, List.set_cons_succ]
    refine wpQuiet_take (d := 35) (v := ?_) (by rfl) ?_ ?_
    rotate_left
    · intro wS hS
      have eF := HF.out wS hS
      go_simp
      try with_reducible rfl
    simp only [Act.put, List.setIfInBounds_toArray, List.set_cons_zero, List.set_cons_succ]
    refine wpQuiet_take (d := 36) (v := ?_) (by rfl) ?_ ?_
    rotate_left
    · intro wS hS
      have eF := HF.out wS hS
      go_simp
      try with_reducible rfl
    simp only [Act.put, List.setIfInBounds_toArray, List.set_cons_zero, List.set_cons_succ]
    refine wpQuiet_take (d := 37) (v := ?_) (by rfl) ?_ ?_
    rotate_left
    · intro wS hS
      have eF := HF.out wS hS
      go_simp
      try with_reducible rfl
    simp only [Act.put, List.setIfInBounds_toArray, List.set_cons_zero, List.set_cons_succ]
    refine wpQuiet_meet (d := 38) (v := ?_) ?_ ?_ (by rfl) ?_ ?_ ?_
    rotate_left
    rotate_left
    rotate_left
    · intro wS hS
      have eF := HF.out wS hS
      go_simp
      first | with_reducible rfl | (refine ⟨?_, ?_⟩ <;> with_reducible rfl)
    · intro wS hS
      refine (l1Num_any (d + b - 1) (by omega) (by omega) wS).mono ?_
      rintro e w2 ⟨rfl, hb2⟩
      refine ⟨?_, hS.trans (hb2.mono hS.size)⟩
      with_reducible rfl
    simp only [Act.put, List.setIfInBounds_toArray, List.set_cons_zero, List.set_cons_succ]
    refine wpQuiet_take (d := 39) (v := ?_) (by rfl) ?_ ?_
    rotate_left
    · intro wS hS
      refine run_add_strP ⟨_, _, rfl, rfl, by simp only [ByteArray.size_append', ByteArray.size_mk', List.size_toArray, List.length_cons, List.length_nil]; omega, ?_⟩
      with_reducible rfl
    simp only [Act.put, List.setIfInBounds_toArray, List.set_cons_zero, List.set_cons_succ]
    refine wpQuiet_take (d := 2) (v := ?_) (by rfl) ?_ ?_
    rotate_left
    · intro wS hS
      have eF := HF.out wS hS
      go_simp
      try with_reducible rfl
    simp only [Act.put, List.setIfInBounds_toArray, List.set_cons_zero, List.set_cons_succ]
    refine wpQuiet_take (d := 3) (v := ?_) (by rfl) ?_ ?_
    rotate_left
    · intro wS hS
      have eF := HF.out wS hS
      go_simp
      try with_reducible rfl
    simp only [Act.put, List.setIfInBounds_toArray, List.set_cons_zero, List.set_cons_succ]
    refine wpQuiet_nil (fun wq hHeld => ?_)
    go_wp2_with fail
    go_ret2
    exact ⟨rfl, HAL.trans ((hb1.trans (hHeld.mono hb1.size)).mono (by simp))⟩
end Go.Proofs.YtcecpioiagfoiaaDoor
