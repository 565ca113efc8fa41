/-
  The text of a pan: the program's and the reference's return the same.
-/
import Derived.Test.YtjkockhldaacbaaDoorPk1
import Derived.Test.YtjkockhldaacbaaDoorWorksC
import Derived.Test.YtjkockhldaacbaaDoorNum
namespace Go.Proofs.YtjkockhldaacbaaDoor
open Go.RowKit
set_option linter.unusedVariables false
set_option linter.unusedSimpArgs false
attribute [local go_sem ↓] Go.wp_at_zero Go.wp_at_succ
def brineB (wt s : Int) : ByteArray := ((⟨#[119]⟩ ++ numB wt) ++ ⟨#[32, 115]⟩) ++ numB s
def panB (h wt s : Int) : ByteArray := (brineB wt s ++ ⟨#[32, 111, 102, 32]⟩) ++ numB h
theorem good_pan {f : Nat → Int} {n : Nat} {I H S P : Int} (hg : goodWorks f n I H S P = true) {j : Nat} (hj : j < n) : (1 ≤ f (j * 4 + 1) ∧ f (j * 4 + 1) ≤ 100000) ∧ (0 ≤ f (j * 4 + 2) ∧ f (j * 4 + 2) ≤ 1000000) ∧ (0 ≤ f (j * 4 + 3) ∧ f (j * 4 + 3) ≤ 1000000) ∧ okBrine (f (j * 4 + 2)) (f (j * 4 + 3)) = true ∧ n ≤ 6 := by
  simp only [goodWorks, pansOk, Bool.and_eq_true, decide_eq_true_eq] at hg
  have h := allTo_at hj hg.1.1.1
  simp only [panStep, okPanAt, okPan, Bool.and_eq_true, decide_eq_true_eq] at h
  have h2 := h.1.1.2
  simp only [okBrine, inR, Bool.and_eq_true, decide_eq_true_eq] at h2
  have h3 := h.1.1.1.2
  simp only [inR, decide_eq_true_eq] at h3
  refine ⟨h3, h2.1, h2.2, h.1.1.2, hg.1.1.2⟩
theorem brineB_size {wt s : Int} (h1 : 0 ≤ wt ∧ wt ≤ 1000000) (h2 : 0 ≤ s ∧ s ≤ 1000000) : (brineB wt s).size ≤ 50 := by
  have := numB_size (n := wt) (by omega) (by omega)
  have := numB_size (n := s) (by omega) (by omega)
  simp only [brineB, ByteArray.size_append', ByteArray.size_mk', List.size_toArray, List.length_cons, List.length_nil]
  omega
set_option maxRecDepth 100000 in
set_option maxHeartbeats 1000000 in
theorem BrineText_yes (wt s : Int) (hok : okBrine wt s = true) (w : World) (ht : Tab w) :
    Calls Tryd.prog 44 #[.agg #[.int .i64 wt, .int .i64 s]] w fun e w' => e = .returned (.tuple #[.string (brineB wt s), .bool true]) ∧ Below w.heap.size w w' := by
  have HAL : Below w.heap.size w (w.alloc (.cells #[.int .i64 wt, .int .i64 s] 46)) := (Below.refl _ w).alloc (Nat.le_refl _) _
  have hw : (0 ≤ wt ∧ wt ≤ 1000000) ∧ 0 ≤ s ∧ s ≤ 1000000 := by simpa [okBrine, inR] using hok
  obtain ⟨⟨hw0, hw1⟩, hs0, hs1⟩ := hw
  have hz1 := numB_size (n := wt) (by omega) (by omega)
  have hz2 := numB_size (n := s) (by omega) (by omega)
  have HT : Hid (Tab (w.alloc (.cells #[.int .i64 wt, .int .i64 s] 46))) := ht.below HAL
  have HF0 : Hid (∀ w', Below (w.alloc (.cells #[.int .i64 wt, .int .i64 s] 46)).heap.size (w.alloc (.cells #[.int .i64 wt, .int .i64 s] 46)) w' → w'.cell? ⟨w.heap.size, 0, none⟩ = some (.int .i64 wt) ∧ w'.cell? ⟨w.heap.size, 1, none⟩ = some (.int .i64 s)) := by
    intro w' hq
    exact ⟨(hq.cell (p := ⟨w.heap.size, 0, none⟩) (by simp)).trans (by simp), (hq.cell (p := ⟨w.heap.size, 1, none⟩) (by simp)).trans (by simp)⟩
  go_enter Tryd.func44, Tryd.ntmps44
  go_wp2_with fail
  refine (IsBrine_any wt s _).mono ?_
  rw [hok]
  rintro e w1 ⟨rfl, hb1⟩
  have HF : Hid (∀ w', Below w1.heap.size w1 w' → w'.cell? ⟨w.heap.size, 0, none⟩ = some (.int .i64 wt) ∧ w'.cell? ⟨w.heap.size, 1, none⟩ = some (.int .i64 s)) := fun w' hq => HF0.out w' (hb1.trans (hq.mono hb1.size))
  clear HF0
  go_wp2_with fail
  refine wp_region_class (C := fun w' => Below (w1).heap.size (w1) w') (by kernel_rfl) (by kernel_rfl) ((Below.refl _ _).drew) ?_
  refine tq (v := ?_) 7 HF ?_ ?_
  rotate_left; · (intro _ _ _; go_simp; try with_reducible rfl)
  simp only [Act.put, p1, p2, p3]
  refine tq (v := ?_) 8 HF ?_ ?_
  rotate_left; · (intro _ _ _; go_simp; try with_reducible rfl)
  simp only [Act.put, p1, p2, p3]
  refine wpQuiet_meet (d := 9) (v := ?_) ?_ ?_ (by rfl) ?_ ?_ ?_
  rotate_left
  rotate_left
  rotate_left
  · intro wS hS
    have eF := HF.out wS hS
    go_simp
    first | with_reducible rfl | (refine ⟨?_, ?_⟩ <;> with_reducible rfl)
  · intro wS hS
    refine (decimal_any wt (by omega) (by omega) wS (HT.out.below (hb1.trans (hS.mono hb1.size)))).mono ?_
    rintro e w2 ⟨rfl, hb2⟩
    refine ⟨?_, hS.trans (hb2.mono hS.size)⟩
    with_reducible rfl
  simp only [Act.put, p1, p2, p3]
  refine wpQuiet_take (d := 10) (v := ?_) (by rfl) ?_ ?_
  rotate_left
  · intro wS hS
    refine run_add_strP ⟨_, _, rfl, rfl, by (try simp only [ByteArray.size_append', ByteArray.size_mk', List.size_toArray, List.length_cons, List.length_nil]); omega, ?_⟩
    with_reducible rfl
  simp only [Act.put, p1, p2, p3]
  refine wpQuiet_take (d := 11) (v := ?_) (by rfl) ?_ ?_
  rotate_left
  · intro wS hS
    refine run_add_strP ⟨_, _, rfl, rfl, by (try simp only [ByteArray.size_append', ByteArray.size_mk', List.size_toArray, List.length_cons, List.length_nil]); omega, ?_⟩
    with_reducible rfl
  simp only [Act.put, p1, p2, p3]
  refine tq (v := ?_) 12 HF ?_ ?_
  rotate_left; · (intro _ _ _; go_simp; try with_reducible rfl)
  simp only [Act.put, p1, p2, p3]
  refine tq (v := ?_) 13 HF ?_ ?_
  rotate_left; · (intro _ _ _; go_simp; try with_reducible rfl)
  simp only [Act.put, p1, p2, p3]
  refine wpQuiet_meet (d := 14) (v := ?_) ?_ ?_ (by rfl) ?_ ?_ ?_
  rotate_left
  rotate_left
  rotate_left
  · intro wS hS
    have eF := HF.out wS hS
    go_simp
    first | with_reducible rfl | (refine ⟨?_, ?_⟩ <;> with_reducible rfl)
  · intro wS hS
    refine (decimal_any s (by omega) (by omega) wS (HT.out.below (hb1.trans (hS.mono hb1.size)))).mono ?_
    rintro e w2 ⟨rfl, hb2⟩
    refine ⟨?_, hS.trans (hb2.mono hS.size)⟩
    with_reducible rfl
  simp only [Act.put, p1, p2, p3]
  refine wpQuiet_take (d := 15) (v := ?_) (by rfl) ?_ ?_
  rotate_left
  · intro wS hS
    refine run_add_strP ⟨_, _, rfl, rfl, by (try simp only [ByteArray.size_append', ByteArray.size_mk', List.size_toArray, List.length_cons, List.length_nil]); omega, ?_⟩
    with_reducible rfl
  simp only [Act.put, p1, p2, p3]
  refine tq (v := ?_) 2 HF ?_ ?_
  rotate_left; · (intro _ _ _; go_simp; try with_reducible rfl)
  simp only [Act.put, p1, p2, p3]
  refine tq (v := ?_) 3 HF ?_ ?_
  rotate_left; · (intro _ _ _; go_simp; try with_reducible rfl)
  simp only [Act.put, p1, p2, p3]
  refine wpQuiet_nil (fun wq hHeld => ?_)
  go_wp2_with fail
  go_ret2
  exact ⟨rfl, HAL.trans ((hb1.trans (hHeld.mono hb1.size)).mono (by simp))⟩
set_option maxRecDepth 100000 in
set_option maxHeartbeats 1000000 in
theorem l2Text_any (wt s : Int) (hw : 0 ≤ wt ∧ wt ≤ 1000000) (hs : 0 ≤ s ∧ s ≤ 1000000) (w : World) :
    Calls Tryd.prog 69 #[.agg #[.int .i64 wt, .int .i64 s]] w fun e w' => e = .returned (.string (brineB wt s)) ∧ Below w.heap.size w w' := by
  have HAL : Below w.heap.size w (w.alloc (.cells #[.int .i64 wt, .int .i64 s] 46)) := (Below.refl _ w).alloc (Nat.le_refl _) _
  obtain ⟨hw0, hw1⟩ := hw
  obtain ⟨hs0, hs1⟩ := hs
  have hz1 := numB_size (n := wt) (by omega) (by omega)
  have hz2 := numB_size (n := s) (by omega) (by omega)
  have HF : Hid (∀ w', Below (w.alloc (.cells #[.int .i64 wt, .int .i64 s] 46)).heap.size (w.alloc (.cells #[.int .i64 wt, .int .i64 s] 46)) w' → w'.cell? ⟨w.heap.size, 0, none⟩ = some (.int .i64 wt) ∧ w'.cell? ⟨w.heap.size, 1, none⟩ = some (.int .i64 s)) := by
    intro w' hq
    exact ⟨(hq.cell (p := ⟨w.heap.size, 0, none⟩) (by simp)).trans (by simp), (hq.cell (p := ⟨w.heap.size, 1, none⟩) (by simp)).trans (by simp)⟩
  go_enter Tryd.func69, Tryd.ntmps69
  go_wp2_with fail
  refine wp_region_class (C := fun w' => Below ((w.alloc (.cells #[.int .i64 wt, .int .i64 s] 46))).heap.size ((w.alloc (.cells #[.int .i64 wt, .int .i64 s] 46))) w') (by kernel_rfl) (by kernel_rfl) ((Below.refl _ _).drew) ?_
  refine tq (v := ?_) 3 HF ?_ ?_
  rotate_left; · (intro _ _ _; go_simp; try with_reducible rfl)
  simp only [Act.put, p1, p2, p3]
  refine tq (v := ?_) 4 HF ?_ ?_
  rotate_left; · (intro _ _ _; go_simp; try with_reducible rfl)
  simp only [Act.put, p1, p2, p3]
  refine wpQuiet_meet (d := 5) (v := ?_) ?_ ?_ (by rfl) ?_ ?_ ?_
  rotate_left
  rotate_left
  rotate_left
  · intro wS hS
    have eF := HF.out wS hS
    go_simp
    first | with_reducible rfl | (refine ⟨?_, ?_⟩ <;> with_reducible rfl)
  · intro wS hS
    refine (l1Num_any wt (by omega) (by omega) wS).mono ?_
    rintro e w2 ⟨rfl, hb2⟩
    refine ⟨?_, hS.trans (hb2.mono hS.size)⟩
    with_reducible rfl
  simp only [Act.put, p1, p2, p3]
  refine wpQuiet_take (d := 6) (v := ?_) (by rfl) ?_ ?_
  rotate_left
  · intro wS hS
    refine run_add_strP ⟨_, _, rfl, rfl, by (try simp only [ByteArray.size_append', ByteArray.size_mk', List.size_toArray, List.length_cons, List.length_nil]); omega, ?_⟩
    with_reducible rfl
  simp only [Act.put, p1, p2, p3]
  refine wpQuiet_take (d := 7) (v := ?_) (by rfl) ?_ ?_
  rotate_left
  · intro wS hS
    refine run_add_strP ⟨_, _, rfl, rfl, by (try simp only [ByteArray.size_append', ByteArray.size_mk', List.size_toArray, List.length_cons, List.length_nil]); omega, ?_⟩
    with_reducible rfl
  simp only [Act.put, p1, p2, p3]
  refine tq (v := ?_) 8 HF ?_ ?_
  rotate_left; · (intro _ _ _; go_simp; try with_reducible rfl)
  simp only [Act.put, p1, p2, p3]
  refine tq (v := ?_) 9 HF ?_ ?_
  rotate_left; · (intro _ _ _; go_simp; try with_reducible rfl)
  simp only [Act.put, p1, p2, p3]
  refine wpQuiet_meet (d := 10) (v := ?_) ?_ ?_ (by rfl) ?_ ?_ ?_
  rotate_left
  rotate_left
  rotate_left
  · intro wS hS
    have eF := HF.out wS hS
    go_simp
    first | with_reducible rfl | (refine ⟨?_, ?_⟩ <;> with_reducible rfl)
  · intro wS hS
    refine (l1Num_any s (by omega) (by omega) wS).mono ?_
    rintro e w2 ⟨rfl, hb2⟩
    refine ⟨?_, hS.trans (hb2.mono hS.size)⟩
    with_reducible rfl
  simp only [Act.put, p1, p2, p3]
  refine wpQuiet_take (d := 11) (v := ?_) (by rfl) ?_ ?_
  rotate_left
  · intro wS hS
    refine run_add_strP ⟨_, _, rfl, rfl, by (try simp only [ByteArray.size_append', ByteArray.size_mk', List.size_toArray, List.length_cons, List.length_nil]); omega, ?_⟩
    with_reducible rfl
  simp only [Act.put, p1, p2, p3]
  refine tq (v := ?_) 2 HF ?_ ?_
  rotate_left; · (intro _ _ _; go_simp; try with_reducible rfl)
  simp only [Act.put, p1, p2, p3]
  refine wpQuiet_nil (fun wq hHeld => ?_)
  go_wp2_with fail
  go_ret
  exact ⟨rfl, HAL.trans (hHeld.mono (by simp))⟩
set_option maxRecDepth 100000 in
set_option maxHeartbeats 1000000 in
theorem l25Text_any (i h wt s : Int) (hh : 1 ≤ h ∧ h ≤ 100000) (hw : 0 ≤ wt ∧ wt ≤ 1000000) (hs : 0 ≤ s ∧ s ≤ 1000000) (w : World) :
    Calls Tryd.prog 46 #[.agg #[.int .i64 i, .int .i64 h, .int .i64 wt, .int .i64 s]] w fun e w' => e = .returned (.string (panB h wt s)) ∧ Below w.heap.size w w' := by
  have HAL : Below w.heap.size w (w.alloc (.cells #[.int .i64 i, .int .i64 h, .int .i64 wt, .int .i64 s] 48)) := (Below.refl _ w).alloc (Nat.le_refl _) _
  obtain ⟨hh0, hh1⟩ := hh
  have hz1 := numB_size (n := h) (by omega) (by omega)
  have hz2 := brineB_size hw hs
  have HF : Hid (∀ w', Below (w.alloc (.cells #[.int .i64 i, .int .i64 h, .int .i64 wt, .int .i64 s] 48)).heap.size (w.alloc (.cells #[.int .i64 i, .int .i64 h, .int .i64 wt, .int .i64 s] 48)) w' → w'.cell? ⟨w.heap.size, 1, none⟩ = some (.int .i64 h) ∧ w'.cell? ⟨w.heap.size, 2, none⟩ = some (.int .i64 wt) ∧ w'.cell? ⟨w.heap.size, 3, none⟩ = some (.int .i64 s)) := by
    intro w' hq
    exact ⟨(hq.cell (p := ⟨w.heap.size, 1, none⟩) (by simp)).trans (by simp), (hq.cell (p := ⟨w.heap.size, 2, none⟩) (by simp)).trans (by simp), (hq.cell (p := ⟨w.heap.size, 3, none⟩) (by simp)).trans (by simp)⟩
  go_enter Tryd.func46, Tryd.ntmps46
  go_wp2_with fail
  refine wp_region_class (C := fun w' => Below ((w.alloc (.cells #[.int .i64 i, .int .i64 h, .int .i64 wt, .int .i64 s] 48))).heap.size ((w.alloc (.cells #[.int .i64 i, .int .i64 h, .int .i64 wt, .int .i64 s] 48))) w') (by kernel_rfl) (by kernel_rfl) ((Below.refl _ _).drew) ?_
  refine tq (v := ?_) 3 HF ?_ ?_
  rotate_left; · (intro _ _ _; go_simp; try with_reducible rfl)
  simp only [Act.put, p1, p2, p3]
  refine tq (v := ?_) 4 HF ?_ ?_
  rotate_left; · (intro _ _ _; go_simp; try with_reducible rfl)
  simp only [Act.put, p1, p2, p3]
  refine wpQuiet_meet (d := 5) (v := ?_) ?_ ?_ (by rfl) ?_ ?_ ?_
  rotate_left
  rotate_left
  rotate_left
  · intro wS hS
    have eF := HF.out wS hS
    go_simp
    first | with_reducible rfl | (refine ⟨?_, ?_⟩ <;> with_reducible rfl)
  · intro wS hS
    refine (l2Text_any wt s hw hs wS).mono ?_
    rintro e w2 ⟨rfl, hb2⟩
    refine ⟨?_, hS.trans (hb2.mono hS.size)⟩
    with_reducible rfl
  simp only [Act.put, p1, p2, p3]
  refine wpQuiet_take (d := 6) (v := ?_) (by rfl) ?_ ?_
  rotate_left
  · intro wS hS
    refine run_add_strP ⟨_, _, rfl, rfl, by (try simp only [ByteArray.size_append', ByteArray.size_mk', List.size_toArray, List.length_cons, List.length_nil]); omega, ?_⟩
    with_reducible rfl
  simp only [Act.put, p1, p2, p3]
  refine tq (v := ?_) 7 HF ?_ ?_
  rotate_left; · (intro _ _ _; go_simp; try with_reducible rfl)
  simp only [Act.put, p1, p2, p3]
  refine tq (v := ?_) 8 HF ?_ ?_
  rotate_left; · (intro _ _ _; go_simp; try with_reducible rfl)
  simp only [Act.put, p1, p2, p3]
  refine wpQuiet_meet (d := 9) (v := ?_) ?_ ?_ (by rfl) ?_ ?_ ?_
  rotate_left
  rotate_left
  rotate_left
  · intro wS hS
    have eF := HF.out wS hS
    go_simp
    first | with_reducible rfl | (refine ⟨?_, ?_⟩ <;> with_reducible rfl)
  · intro wS hS
    refine (l1Num_any h (by omega) (by omega) wS).mono ?_
    rintro e w2 ⟨rfl, hb2⟩
    refine ⟨?_, hS.trans (hb2.mono hS.size)⟩
    with_reducible rfl
  simp only [Act.put, p1, p2, p3]
  refine wpQuiet_take (d := 10) (v := ?_) (by rfl) ?_ ?_
  rotate_left
  · intro wS hS
    refine run_add_strP ⟨_, _, rfl, rfl, by (try simp only [ByteArray.size_append', ByteArray.size_mk', List.size_toArray, List.length_cons, List.length_nil]); omega, ?_⟩
    with_reducible rfl
  simp only [Act.put, p1, p2, p3]
  refine tq (v := ?_) 2 HF ?_ ?_
  rotate_left; · (intro _ _ _; go_simp; try with_reducible rfl)
  simp only [Act.put, p1, p2, p3]
  refine wpQuiet_nil (fun wq hHeld => ?_)
  go_wp2_with fail
  go_ret
  exact ⟨rfl, HAL.trans (hHeld.mono (by simp))⟩
theorem PanText_no (A : Option Addr) (n c lo hi : Nat) (f : Nat → Int) (I H S P : Int) (z : Int) (w : World) (hs : Sl w lo hi 4 A n f) (hn : n ≤ 1048576) (hnc : n ≤ c) (ht : Tab w) (h : goodWorks f n I H S P = false ∨ findV (pid f) z n 0 = -1) :
    Calls Tryd.prog 20 #[.agg #[.slice A n c, .int .i64 I, .int .i64 H, .int .i64 S, .int .i64 P], .int .i64 z] w fun e w' => e = .returned (.tuple #[.string ⟨#[]⟩, .bool false]) ∧ Below w.heap.size w w' := by
  have HS : Hid (Sl (w.alloc (.cells #[.slice A n c, .int .i64 I, .int .i64 H, .int .i64 S, .int .i64 P] 26)) lo hi 4 A n f) := hs.below ((Below.refl _ w).alloc (Nat.le_refl _) _)
  clear hs
  cases hg : goodWorks f n I H S P with
  | false =>
    clear h
    generalize hfd : findV (pid f) z n 0 = r
    go_enter Tryd.func20, Tryd.ntmps20
    go_wp2_with fail
    refine (panAt_any A n c lo hi f I H S P z _ HS.out hn hnc).mono ?_
    rw [hfd]
    rintro e w2 ⟨rfl, hb2⟩
    have b0 : w2.cell? ⟨w.heap.size, 0, none⟩ = some (.slice A n c) := (hb2.cell (p := ⟨w.heap.size, 0, none⟩) (by simp)).trans (by simp); have b1 : w2.cell? ⟨w.heap.size, 1, none⟩ = some (.int .i64 I) := (hb2.cell (p := ⟨w.heap.size, 1, none⟩) (by simp)).trans (by simp); have b2 : w2.cell? ⟨w.heap.size, 2, none⟩ = some (.int .i64 H) := (hb2.cell (p := ⟨w.heap.size, 2, none⟩) (by simp)).trans (by simp); have b3 : w2.cell? ⟨w.heap.size, 3, none⟩ = some (.int .i64 S) := (hb2.cell (p := ⟨w.heap.size, 3, none⟩) (by simp)).trans (by simp); have b4 : w2.cell? ⟨w.heap.size, 4, none⟩ = some (.int .i64 P) := (hb2.cell (p := ⟨w.heap.size, 4, none⟩) (by simp)).trans (by simp)
    have HS2 := HS.out.below hb2
    go_wp2_with fail
    refine (isWorks_any A n c lo hi f I H S P _ HS2 hn hnc).mono ?_
    rw [hg]
    rintro e w3 ⟨rfl, hb3⟩
    have B3 := below_of hb2 hb3 hb2.size
    clear b0 b1 b2 b3 b4 HS2 hb2 hb3
    go_wp2
    go_ret2
    exact ⟨rfl, ((Below.refl _ w).alloc (Nat.le_refl _) _).trans (B3.mono (by simp))⟩
  | true =>
    have hfd : findV (pid f) z n 0 = -1 := by simpa [hg] using h
    clear h
    go_enter Tryd.func20, Tryd.ntmps20
    go_wp2_with fail
    refine (panAt_any A n c lo hi f I H S P z _ HS.out hn hnc).mono ?_
    rw [hfd]
    rintro e w2 ⟨rfl, hb2⟩
    have b0 : w2.cell? ⟨w.heap.size, 0, none⟩ = some (.slice A n c) := (hb2.cell (p := ⟨w.heap.size, 0, none⟩) (by simp)).trans (by simp); have b1 : w2.cell? ⟨w.heap.size, 1, none⟩ = some (.int .i64 I) := (hb2.cell (p := ⟨w.heap.size, 1, none⟩) (by simp)).trans (by simp); have b2 : w2.cell? ⟨w.heap.size, 2, none⟩ = some (.int .i64 H) := (hb2.cell (p := ⟨w.heap.size, 2, none⟩) (by simp)).trans (by simp); have b3 : w2.cell? ⟨w.heap.size, 3, none⟩ = some (.int .i64 S) := (hb2.cell (p := ⟨w.heap.size, 3, none⟩) (by simp)).trans (by simp); have b4 : w2.cell? ⟨w.heap.size, 4, none⟩ = some (.int .i64 P) := (hb2.cell (p := ⟨w.heap.size, 4, none⟩) (by simp)).trans (by simp)
    have HS2 := HS.out.below hb2
    go_wp2_with fail
    refine (isWorks_any A n c lo hi f I H S P _ HS2 hn hnc).mono ?_
    rw [hg]
    rintro e w3 ⟨rfl, hb3⟩
    have B3 := below_of hb2 hb3 hb2.size
    clear b0 b1 b2 b3 b4 HS2 hb2 hb3
    go_wp2
    go_ret2
    exact ⟨rfl, ((Below.refl _ w).alloc (Nat.le_refl _) _).trans (B3.mono (by simp))⟩
set_option maxRecDepth 100000 in
set_option maxHeartbeats 1000000 in
theorem PanText_yes (A : Option Addr) (n c lo hi : Nat) (f : Nat → Int) (I H S P : Int) (z : Int) (w : World) (hs : Sl w lo hi 4 A n f) (hn : n ≤ 1048576) (hnc : n ≤ c) (ht : Tab w) (hg : goodWorks f n I H S P = true) (j : Nat) (hj : j < n) (hfd : findV (pid f) z n 0 = (j : Int)) :
    Calls Tryd.prog 20 #[.agg #[.slice A n c, .int .i64 I, .int .i64 H, .int .i64 S, .int .i64 P], .int .i64 z] w fun e w' => e = .returned (.tuple #[.string (panB (f (j * 4 + 1)) (f (j * 4 + 2)) (f (j * 4 + 3))), .bool true]) ∧ Below w.heap.size w w' := by
  have HS : Hid (Sl (w.alloc (.cells #[.slice A n c, .int .i64 I, .int .i64 H, .int .i64 S, .int .i64 P] 26)) lo hi 4 A n f) := hs.below ((Below.refl _ w).alloc (Nat.le_refl _) _)
  clear hs
  have hj0 : ¬ ((j : Int) < 0) := by omega
  have hk0i : (0 : Int) ≤ (j : Int) := by omega
  have hkni : (j : Int) < (n : Int) := by omega
  · skip
    go_enter Tryd.func20, Tryd.ntmps20
    go_wp2_with fail
    refine (panAt_any A n c lo hi f I H S P z _ HS.out hn hnc).mono ?_
    rw [hfd]
    rintro e w2 ⟨rfl, hb2⟩
    have b0 : w2.cell? ⟨w.heap.size, 0, none⟩ = some (.slice A n c) := (hb2.cell (p := ⟨w.heap.size, 0, none⟩) (by simp)).trans (by simp); have b1 : w2.cell? ⟨w.heap.size, 1, none⟩ = some (.int .i64 I) := (hb2.cell (p := ⟨w.heap.size, 1, none⟩) (by simp)).trans (by simp); have b2 : w2.cell? ⟨w.heap.size, 2, none⟩ = some (.int .i64 H) := (hb2.cell (p := ⟨w.heap.size, 2, none⟩) (by simp)).trans (by simp); have b3 : w2.cell? ⟨w.heap.size, 3, none⟩ = some (.int .i64 S) := (hb2.cell (p := ⟨w.heap.size, 3, none⟩) (by simp)).trans (by simp); have b4 : w2.cell? ⟨w.heap.size, 4, none⟩ = some (.int .i64 P) := (hb2.cell (p := ⟨w.heap.size, 4, none⟩) (by simp)).trans (by simp)
    have HS2 := HS.out.below hb2
    go_wp2_with fail
    refine (isWorks_any A n c lo hi f I H S P _ HS2 hn hnc).mono ?_
    rw [hg]
    rintro e w3 ⟨rfl, hb3⟩
    have B3 := below_of hb2 hb3 hb2.size
    clear b0 b1 b2 b3 b4 HS2 hb2 hb3
    have b0 : w3.cell? ⟨w.heap.size, 0, none⟩ = some (.slice A n c) := (B3.cell (p := ⟨w.heap.size, 0, none⟩) (by simp)).trans (by simp)
    obtain ⟨b, off, rfl, hbw, HC⟩ := HS.out.open_ B3 (by omega)
    obtain ⟨c0, c1, c2, c3⟩ := cell4 HC hj
    have hbz : w.heap.size < w3.heap.size := by have := B3.size; simp at this; omega
    have HF : Hid (∀ w', Below w3.heap.size w3 w' → w'.cell? ⟨w.heap.size, 0, none⟩ = some (.slice (some ⟨b, off, none⟩) n c) ∧ w'.cell? ⟨b, off + j * 4 + 1, none⟩ = some (.int .i64 (f (j * 4 + 1))) ∧ w'.cell? ⟨b, off + j * 4 + 2, none⟩ = some (.int .i64 (f (j * 4 + 2))) ∧ w'.cell? ⟨b, off + j * 4 + 3, none⟩ = some (.int .i64 (f (j * 4 + 3)))) := fun w' hq => ⟨(hq.cell (p := ⟨w.heap.size, 0, none⟩) hbz).trans b0, (hq.cell (p := ⟨b, off + j * 4 + 1, none⟩) hbw).trans c1, (hq.cell (p := ⟨b, off + j * 4 + 2, none⟩) hbw).trans c2, (hq.cell (p := ⟨b, off + j * 4 + 3, none⟩) hbw).trans c3⟩
    have HT3 : Hid (Tab w3) := ht.below (((Below.refl _ w).alloc (Nat.le_refl _) _).trans (B3.mono (by simp)))
    clear HC HS
    obtain ⟨_, hw, hs, hob, hn6⟩ := good_pan hg hj
    have hz1 := brineB_size hw hs
    obtain ⟨hh, _, _, _, _⟩ := good_pan hg hj
    have hz2 := numB_size (n := f (j * 4 + 1)) (by omega) (by omega)
    go_wp2_with fail
    refine (BrineText_yes _ _ hob _ HT3.out).mono ?_
    rintro e w4 ⟨rfl, hb4⟩
    obtain ⟨d0, d1, d2, d3⟩ := HF.out w4 hb4
    clear c1 c2 c3 b0 hob
    go_wp2_with fail
    refine (decimal_any _ (by omega) (by omega) _ (HT3.out.below hb4)).mono ?_
    rintro e w5 ⟨rfl, hb5⟩
    have B5 := below_of (below_of B3 hb4 B3.size) hb5 (by have := hb4.size; have := B3.size; omega)
    go_wp2_with fail
    go_ret2
    exact ⟨rfl, ((Below.refl _ w).alloc (Nat.le_refl _) _).trans (B5.mono (by simp))⟩
theorem sPanText_no (A : Option Addr) (n c lo hi : Nat) (f : Nat → Int) (I H S P : Int) (z : Int) (w : World) (hs : Sl w lo hi 4 A n f) (hn : n ≤ 1048576) (hnc : n ≤ c) (h : goodWorks f n I H S P = false ∨ findV (pid f) z n 0 = -1) :
    Calls Tryd.prog 21 #[.agg #[.slice A n c, .int .i64 I, .int .i64 H, .int .i64 S, .int .i64 P], .int .i64 z] w fun e w' => e = .returned (.tuple #[.string ⟨#[]⟩, .bool false]) ∧ Below w.heap.size w w' := by
  have HS : Hid (Sl (w.alloc (.cells #[.slice A n c, .int .i64 I, .int .i64 H, .int .i64 S, .int .i64 P] 26)) lo hi 4 A n f) := hs.below ((Below.refl _ w).alloc (Nat.le_refl _) _)
  clear hs
  cases hg : goodWorks f n I H S P with
  | false =>
    clear h
    generalize hfd : findV (pid f) z n 0 = r
    go_enter Tryd.func21, Tryd.ntmps21
    go_wp2_with fail
    refine (l25Find_any A n c lo hi f I H S P z _ HS.out hn hnc).mono ?_
    rw [hfd]
    rintro e w2 ⟨rfl, hb2⟩
    have b0 : w2.cell? ⟨w.heap.size, 0, none⟩ = some (.slice A n c) := (hb2.cell (p := ⟨w.heap.size, 0, none⟩) (by simp)).trans (by simp); have b1 : w2.cell? ⟨w.heap.size, 1, none⟩ = some (.int .i64 I) := (hb2.cell (p := ⟨w.heap.size, 1, none⟩) (by simp)).trans (by simp); have b2 : w2.cell? ⟨w.heap.size, 2, none⟩ = some (.int .i64 H) := (hb2.cell (p := ⟨w.heap.size, 2, none⟩) (by simp)).trans (by simp); have b3 : w2.cell? ⟨w.heap.size, 3, none⟩ = some (.int .i64 S) := (hb2.cell (p := ⟨w.heap.size, 3, none⟩) (by simp)).trans (by simp); have b4 : w2.cell? ⟨w.heap.size, 4, none⟩ = some (.int .i64 P) := (hb2.cell (p := ⟨w.heap.size, 4, none⟩) (by simp)).trans (by simp)
    have HS2 := HS.out.below hb2
    go_wp2_with fail
    refine (l25Good_any A n c lo hi f I H S P _ HS2 hn hnc).mono ?_
    rw [hg]
    rintro e w3 ⟨rfl, hb3⟩
    have B3 := below_of hb2 hb3 hb2.size
    clear b0 b1 b2 b3 b4 HS2 hb2 hb3
    go_wp2
    go_ret2
    exact ⟨rfl, ((Below.refl _ w).alloc (Nat.le_refl _) _).trans (B3.mono (by simp))⟩
  | true =>
    have hfd : findV (pid f) z n 0 = -1 := by simpa [hg] using h
    clear h
    go_enter Tryd.func21, Tryd.ntmps21
    go_wp2_with fail
    refine (l25Find_any A n c lo hi f I H S P z _ HS.out hn hnc).mono ?_
    rw [hfd]
    rintro e w2 ⟨rfl, hb2⟩
    have b0 : w2.cell? ⟨w.heap.size, 0, none⟩ = some (.slice A n c) := (hb2.cell (p := ⟨w.heap.size, 0, none⟩) (by simp)).trans (by simp); have b1 : w2.cell? ⟨w.heap.size, 1, none⟩ = some (.int .i64 I) := (hb2.cell (p := ⟨w.heap.size, 1, none⟩) (by simp)).trans (by simp); have b2 : w2.cell? ⟨w.heap.size, 2, none⟩ = some (.int .i64 H) := (hb2.cell (p := ⟨w.heap.size, 2, none⟩) (by simp)).trans (by simp); have b3 : w2.cell? ⟨w.heap.size, 3, none⟩ = some (.int .i64 S) := (hb2.cell (p := ⟨w.heap.size, 3, none⟩) (by simp)).trans (by simp); have b4 : w2.cell? ⟨w.heap.size, 4, none⟩ = some (.int .i64 P) := (hb2.cell (p := ⟨w.heap.size, 4, none⟩) (by simp)).trans (by simp)
    have HS2 := HS.out.below hb2
    go_wp2_with fail
    refine (l25Good_any A n c lo hi f I H S P _ HS2 hn hnc).mono ?_
    rw [hg]
    rintro e w3 ⟨rfl, hb3⟩
    have B3 := below_of hb2 hb3 hb2.size
    clear b0 b1 b2 b3 b4 HS2 hb2 hb3
    go_wp2
    go_ret2
    exact ⟨rfl, ((Below.refl _ w).alloc (Nat.le_refl _) _).trans (B3.mono (by simp))⟩
set_option maxRecDepth 100000 in
set_option maxHeartbeats 1000000 in
theorem sPanText_yes (A : Option Addr) (n c lo hi : Nat) (f : Nat → Int) (I H S P : Int) (z : Int) (w : World) (hs : Sl w lo hi 4 A n f) (hn : n ≤ 1048576) (hnc : n ≤ c) (hg : goodWorks f n I H S P = true) (j : Nat) (hj : j < n) (hfd : findV (pid f) z n 0 = (j : Int)) :
    Calls Tryd.prog 21 #[.agg #[.slice A n c, .int .i64 I, .int .i64 H, .int .i64 S, .int .i64 P], .int .i64 z] w fun e w' => e = .returned (.tuple #[.string (panB (f (j * 4 + 1)) (f (j * 4 + 2)) (f (j * 4 + 3))), .bool true]) ∧ Below w.heap.size w w' := by
  have HS : Hid (Sl (w.alloc (.cells #[.slice A n c, .int .i64 I, .int .i64 H, .int .i64 S, .int .i64 P] 26)) lo hi 4 A n f) := hs.below ((Below.refl _ w).alloc (Nat.le_refl _) _)
  clear hs
  have hj0 : ¬ ((j : Int) < 0) := by omega
  have hk0i : (0 : Int) ≤ (j : Int) := by omega
  have hkni : (j : Int) < (n : Int) := by omega
  · skip
    go_enter Tryd.func21, Tryd.ntmps21
    go_wp2_with fail
    refine (l25Find_any A n c lo hi f I H S P z _ HS.out hn hnc).mono ?_
    rw [hfd]
    rintro e w2 ⟨rfl, hb2⟩
    have b0 : w2.cell? ⟨w.heap.size, 0, none⟩ = some (.slice A n c) := (hb2.cell (p := ⟨w.heap.size, 0, none⟩) (by simp)).trans (by simp); have b1 : w2.cell? ⟨w.heap.size, 1, none⟩ = some (.int .i64 I) := (hb2.cell (p := ⟨w.heap.size, 1, none⟩) (by simp)).trans (by simp); have b2 : w2.cell? ⟨w.heap.size, 2, none⟩ = some (.int .i64 H) := (hb2.cell (p := ⟨w.heap.size, 2, none⟩) (by simp)).trans (by simp); have b3 : w2.cell? ⟨w.heap.size, 3, none⟩ = some (.int .i64 S) := (hb2.cell (p := ⟨w.heap.size, 3, none⟩) (by simp)).trans (by simp); have b4 : w2.cell? ⟨w.heap.size, 4, none⟩ = some (.int .i64 P) := (hb2.cell (p := ⟨w.heap.size, 4, none⟩) (by simp)).trans (by simp)
    have HS2 := HS.out.below hb2
    go_wp2_with fail
    refine (l25Good_any A n c lo hi f I H S P _ HS2 hn hnc).mono ?_
    rw [hg]
    rintro e w3 ⟨rfl, hb3⟩
    have B3 := below_of hb2 hb3 hb2.size
    clear b0 b1 b2 b3 b4 HS2 hb2 hb3
    have b0 : w3.cell? ⟨w.heap.size, 0, none⟩ = some (.slice A n c) := (B3.cell (p := ⟨w.heap.size, 0, none⟩) (by simp)).trans (by simp)
    obtain ⟨b, off, rfl, hbw, HC⟩ := HS.out.open_ B3 (by omega)
    obtain ⟨c0, c1, c2, c3⟩ := cell4 HC hj
    have hbz : w.heap.size < w3.heap.size := by have := B3.size; simp at this; omega
    have HF : Hid (∀ w', Below w3.heap.size w3 w' → w'.cell? ⟨w.heap.size, 0, none⟩ = some (.slice (some ⟨b, off, none⟩) n c) ∧ w'.cell? ⟨b, off + j * 4 + 1, none⟩ = some (.int .i64 (f (j * 4 + 1))) ∧ w'.cell? ⟨b, off + j * 4 + 2, none⟩ = some (.int .i64 (f (j * 4 + 2))) ∧ w'.cell? ⟨b, off + j * 4 + 3, none⟩ = some (.int .i64 (f (j * 4 + 3)))) := fun w' hq => ⟨(hq.cell (p := ⟨w.heap.size, 0, none⟩) hbz).trans b0, (hq.cell (p := ⟨b, off + j * 4 + 1, none⟩) hbw).trans c1, (hq.cell (p := ⟨b, off + j * 4 + 2, none⟩) hbw).trans c2, (hq.cell (p := ⟨b, off + j * 4 + 3, none⟩) hbw).trans c3⟩
    clear HC HS HF
    obtain ⟨hh, hw, hs, hob, hn6⟩ := good_pan hg hj
    go_wp2_with fail
    refine (l25Text_any _ _ _ _ hh hw hs _).mono ?_
    rintro e w4 ⟨rfl, hb4⟩
    have B4 := below_of B3 hb4 B3.size
    go_wp2_with fail
    go_ret2
    exact ⟨rfl, ((Below.refl _ w).alloc (Nat.le_refl _) _).trans (B4.mono (by simp))⟩
end Go.Proofs.YtjkockhldaacbaaDoor
