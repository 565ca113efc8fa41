/-
  IsValidConsole: the same on both sides; the laws' helpers for consoles.
-/
import Derived.Test.YtegklcapfjigaaaDoorConH
import Derived.Deep.Cut
namespace Go.Proofs.YtegklcapfjigaaaDoor
open Go.RowKit
set_option linter.unusedVariables false
set_option linter.unusedSimpArgs false
set_option maxRecDepth 100000 in
set_option maxHeartbeats 2000000 in
theorem IsValidConsole_any (A : Option Addr) (n c lo hi : Nat) (f : Nat → Int) (I H S P : Int) (D Q : ByteArray) (z : Int) (w : World) (hs : Sl w lo hi 4 A n f) (hn : n ≤ 1048576) (hnc : n ≤ c) (hD : D.size ≤ 1048576) (hQ : Q.size ≤ 1048576) (ht : Tab w) (hm : Mx w) :
    Calls Tryd.prog 8 #[.agg #[.slice A n c, .int .i64 I, .int .i64 H, .int .i64 S, .int .i64 P, .string D, .string Q, .int .i64 z]] w fun e w' => e = .returned (.bool (goodWorks f n I H S P && logOk D Q z)) ∧ Below w.heap.size w w' := by
  have hX : Below w.heap.size w (w.alloc (.cells #[.slice A n c, .int .i64 I, .int .i64 H, .int .i64 S, .int .i64 P, .string D, .string Q, .int .i64 z] 36)) := (Below.refl _ w).alloc (Nat.le_refl _) _
  have h0 : (w.alloc (.cells #[.slice A n c, .int .i64 I, .int .i64 H, .int .i64 S, .int .i64 P, .string D, .string Q, .int .i64 z] 36)).heap[w.heap.size]? = some (.cells #[.slice A n c, .int .i64 I, .int .i64 H, .int .i64 S, .int .i64 P, .string D, .string Q, .int .i64 z] 36 (0, 0)) := heap_alloc_new w _
  have hS := hs.below hX
  clear hs
  go_enter Tryd.func8, Tryd.ntmps8
  go_upto_region 1 with fail
  refine name_wp ?_
  intro w1 hw1
  rw [← hw1] at hX h0 hS
  clear hw1
  have e0 : w1.cell? ⟨w.heap.size, 0, none⟩ = some (.slice A n c) := by rw [cell_of_row w1 (w.heap.size) 0 _ _ (0, 0) h0]; rfl
  have e1 : w1.cell? ⟨w.heap.size, 1, none⟩ = some (.int .i64 I) := by rw [cell_of_row w1 (w.heap.size) 1 _ _ (0, 0) h0]; rfl
  have e2 : w1.cell? ⟨w.heap.size, 2, none⟩ = some (.int .i64 H) := by rw [cell_of_row w1 (w.heap.size) 2 _ _ (0, 0) h0]; rfl
  have e3 : w1.cell? ⟨w.heap.size, 3, none⟩ = some (.int .i64 S) := by rw [cell_of_row w1 (w.heap.size) 3 _ _ (0, 0) h0]; rfl
  have e4 : w1.cell? ⟨w.heap.size, 4, none⟩ = some (.int .i64 P) := by rw [cell_of_row w1 (w.heap.size) 4 _ _ (0, 0) h0]; rfl
  have e5 : w1.cell? ⟨w.heap.size, 5, none⟩ = some (.string D) := by rw [cell_of_row w1 (w.heap.size) 5 _ _ (0, 0) h0]; rfl
  have e6 : w1.cell? ⟨w.heap.size, 6, none⟩ = some (.string Q) := by rw [cell_of_row w1 (w.heap.size) 6 _ _ (0, 0) h0]; rfl
  have e7 : w1.cell? ⟨w.heap.size, 7, none⟩ = some (.int .i64 z) := by rw [cell_of_row w1 (w.heap.size) 7 _ _ (0, 0) h0]; rfl
  go_wp2_with fail
  refine (isWorks_any A n c lo hi f I H S P w1 hS hn hnc).mono ?_
  rintro e w2 ⟨rfl, hb⟩
  have h0 := rowC h0 hb
  have hX := below_of hX hb hX.size
  clear hb e0 e1 e2 e3 e4 e5 e6 e7
  have e0 : w2.cell? ⟨w.heap.size, 0, none⟩ = some (.slice A n c) := by rw [cell_of_row w2 (w.heap.size) 0 _ _ (0, 0) h0]; rfl
  have e1 : w2.cell? ⟨w.heap.size, 1, none⟩ = some (.int .i64 I) := by rw [cell_of_row w2 (w.heap.size) 1 _ _ (0, 0) h0]; rfl
  have e2 : w2.cell? ⟨w.heap.size, 2, none⟩ = some (.int .i64 H) := by rw [cell_of_row w2 (w.heap.size) 2 _ _ (0, 0) h0]; rfl
  have e3 : w2.cell? ⟨w.heap.size, 3, none⟩ = some (.int .i64 S) := by rw [cell_of_row w2 (w.heap.size) 3 _ _ (0, 0) h0]; rfl
  have e4 : w2.cell? ⟨w.heap.size, 4, none⟩ = some (.int .i64 P) := by rw [cell_of_row w2 (w.heap.size) 4 _ _ (0, 0) h0]; rfl
  have e5 : w2.cell? ⟨w.heap.size, 5, none⟩ = some (.string D) := by rw [cell_of_row w2 (w.heap.size) 5 _ _ (0, 0) h0]; rfl
  have e6 : w2.cell? ⟨w.heap.size, 6, none⟩ = some (.string Q) := by rw [cell_of_row w2 (w.heap.size) 6 _ _ (0, 0) h0]; rfl
  have e7 : w2.cell? ⟨w.heap.size, 7, none⟩ = some (.int .i64 z) := by rw [cell_of_row w2 (w.heap.size) 7 _ _ (0, 0) h0]; rfl
  have HX := Lib.hid hX
  cases hg : goodWorks f n I H S P with
  | false =>
    clear h0 hX
    go_wp2
    go_ret
    exact ⟨ret_bool (by simp [hg]), HX.out⟩
  | true =>
    have HL := Lib.hid (IsValidLog_any D Q z hD hQ w2 (ht.below hX) (hm.below hX))
    clear h0 hX
    go_wp2_with fail
    refine HL.out.mono ?_
    rintro e w3 ⟨rfl, hb⟩
    have hX := below_of HX.out hb HX.out.size
    go_wp2
    go_ret
    exact ⟨ret_bool (by simp [hg]), hX⟩
set_option maxRecDepth 100000 in
set_option maxHeartbeats 2000000 in
theorem l28Good_any (A : Option Addr) (n c lo hi : Nat) (f : Nat → Int) (I H S P : Int) (D Q : ByteArray) (z : Int) (w : World) (hs : Sl w lo hi 4 A n f) (hn : n ≤ 1048576) (hnc : n ≤ c) (hD : D.size ≤ 1048576) (hQ : Q.size ≤ 1048576) :
    Calls Tryd.prog 14 #[.agg #[.slice A n c, .int .i64 I, .int .i64 H, .int .i64 S, .int .i64 P, .string D, .string Q, .int .i64 z]] w fun e w' => e = .returned (.bool (goodWorks f n I H S P && logOk D Q z)) ∧ Below w.heap.size w w' := by
  have hX : Below w.heap.size w (w.alloc (.cells #[.slice A n c, .int .i64 I, .int .i64 H, .int .i64 S, .int .i64 P, .string D, .string Q, .int .i64 z] 36)) := (Below.refl _ w).alloc (Nat.le_refl _) _
  have h0 : (w.alloc (.cells #[.slice A n c, .int .i64 I, .int .i64 H, .int .i64 S, .int .i64 P, .string D, .string Q, .int .i64 z] 36)).heap[w.heap.size]? = some (.cells #[.slice A n c, .int .i64 I, .int .i64 H, .int .i64 S, .int .i64 P, .string D, .string Q, .int .i64 z] 36 (0, 0)) := heap_alloc_new w _
  have hS := hs.below hX
  clear hs
  go_enter Tryd.func14, Tryd.ntmps14
  go_upto_region 1 with fail
  refine name_wp ?_
  intro w1 hw1
  rw [← hw1] at hX h0 hS
  clear hw1
  have e0 : w1.cell? ⟨w.heap.size, 0, none⟩ = some (.slice A n c) := by rw [cell_of_row w1 (w.heap.size) 0 _ _ (0, 0) h0]; rfl
  have e1 : w1.cell? ⟨w.heap.size, 1, none⟩ = some (.int .i64 I) := by rw [cell_of_row w1 (w.heap.size) 1 _ _ (0, 0) h0]; rfl
  have e2 : w1.cell? ⟨w.heap.size, 2, none⟩ = some (.int .i64 H) := by rw [cell_of_row w1 (w.heap.size) 2 _ _ (0, 0) h0]; rfl
  have e3 : w1.cell? ⟨w.heap.size, 3, none⟩ = some (.int .i64 S) := by rw [cell_of_row w1 (w.heap.size) 3 _ _ (0, 0) h0]; rfl
  have e4 : w1.cell? ⟨w.heap.size, 4, none⟩ = some (.int .i64 P) := by rw [cell_of_row w1 (w.heap.size) 4 _ _ (0, 0) h0]; rfl
  have e5 : w1.cell? ⟨w.heap.size, 5, none⟩ = some (.string D) := by rw [cell_of_row w1 (w.heap.size) 5 _ _ (0, 0) h0]; rfl
  have e6 : w1.cell? ⟨w.heap.size, 6, none⟩ = some (.string Q) := by rw [cell_of_row w1 (w.heap.size) 6 _ _ (0, 0) h0]; rfl
  have e7 : w1.cell? ⟨w.heap.size, 7, none⟩ = some (.int .i64 z) := by rw [cell_of_row w1 (w.heap.size) 7 _ _ (0, 0) h0]; rfl
  go_wp2_with fail
  refine (l25Good_any A n c lo hi f I H S P w1 hS hn hnc).mono ?_
  rintro e w2 ⟨rfl, hb⟩
  have h0 := rowC h0 hb
  have hX := below_of hX hb hX.size
  clear hb e0 e1 e2 e3 e4 e5 e6 e7
  have e0 : w2.cell? ⟨w.heap.size, 0, none⟩ = some (.slice A n c) := by rw [cell_of_row w2 (w.heap.size) 0 _ _ (0, 0) h0]; rfl
  have e1 : w2.cell? ⟨w.heap.size, 1, none⟩ = some (.int .i64 I) := by rw [cell_of_row w2 (w.heap.size) 1 _ _ (0, 0) h0]; rfl
  have e2 : w2.cell? ⟨w.heap.size, 2, none⟩ = some (.int .i64 H) := by rw [cell_of_row w2 (w.heap.size) 2 _ _ (0, 0) h0]; rfl
  have e3 : w2.cell? ⟨w.heap.size, 3, none⟩ = some (.int .i64 S) := by rw [cell_of_row w2 (w.heap.size) 3 _ _ (0, 0) h0]; rfl
  have e4 : w2.cell? ⟨w.heap.size, 4, none⟩ = some (.int .i64 P) := by rw [cell_of_row w2 (w.heap.size) 4 _ _ (0, 0) h0]; rfl
  have e5 : w2.cell? ⟨w.heap.size, 5, none⟩ = some (.string D) := by rw [cell_of_row w2 (w.heap.size) 5 _ _ (0, 0) h0]; rfl
  have e6 : w2.cell? ⟨w.heap.size, 6, none⟩ = some (.string Q) := by rw [cell_of_row w2 (w.heap.size) 6 _ _ (0, 0) h0]; rfl
  have e7 : w2.cell? ⟨w.heap.size, 7, none⟩ = some (.int .i64 z) := by rw [cell_of_row w2 (w.heap.size) 7 _ _ (0, 0) h0]; rfl
  have HX := Lib.hid hX
  cases hg : goodWorks f n I H S P with
  | false =>
    clear h0 hX
    go_wp2
    go_ret
    exact ⟨ret_bool (by simp [hg]), HX.out⟩
  | true =>
    have HL := Lib.hid (l27Log_any D Q z hD hQ w2)
    clear h0 hX
    go_wp2_with fail
    refine HL.out.mono ?_
    rintro e w3 ⟨rfl, hb⟩
    have hX := below_of HX.out hb HX.out.size
    go_wp2
    go_ret
    exact ⟨ret_bool (by simp [hg]), hX⟩
theorem sIsValidConsole_any (A : Option Addr) (n c lo hi : Nat) (f : Nat → Int) (I H S P : Int) (D Q : ByteArray) (z : Int) (w : World) (hs : Sl w lo hi 4 A n f) (hn : n ≤ 1048576) (hnc : n ≤ c) (hD : D.size ≤ 1048576) (hQ : Q.size ≤ 1048576) :
    Calls Tryd.prog 6 #[.agg #[.slice A n c, .int .i64 I, .int .i64 H, .int .i64 S, .int .i64 P, .string D, .string Q, .int .i64 z]] w fun e w' => e = .returned (.bool (goodWorks f n I H S P && logOk D Q z)) ∧ Below w.heap.size w w' := by
  have hX : Below w.heap.size w (w.alloc (.cells #[.slice A n c, .int .i64 I, .int .i64 H, .int .i64 S, .int .i64 P, .string D, .string Q, .int .i64 z] 36)) := (Below.refl _ w).alloc (Nat.le_refl _) _
  have hS := hs.below hX
  go_enter Tryd.func6, Tryd.ntmps6
  go_wp2_with fail
  refine (l28Good_any A n c lo hi f I H S P D Q z _ hS hn hnc hD hQ).mono ?_
  rintro e w1 ⟨rfl, hb⟩
  have hX := below_of hX hb hX.size
  clear hb hS hs
  go_wp2
  go_ret
  exact ⟨rfl, hX⟩
end Go.Proofs.YtegklcapfjigaaaDoor
