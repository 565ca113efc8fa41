/-
  IsValidConsole: the same on both sides; the laws' helpers for consoles.
-/
import Derived.Test.YtegklcapfjigaaaDoorConH
import Derived.Deep.Cut
namespace Go.Proofs.YtegklcapfjigaaaDoor
open Go.RowKit
set_option linter.unusedVariables false
set_option linter.unusedSimpArgs false
set_option maxRecDepth 100000 in
set_option maxHeartbeats 2000000 in
theorem eqConsole_same (A A' : Option Addr) (n c d lo hi lo' hi' : Nat) (f : Nat → Int) (I H S P : Int) (D Q : ByteArray) (z : Int) (w : World) (hs : Sl w lo hi 4 A n f) (ht : Sl w lo' hi' 4 A' n f) (hn : n ≤ 1048576) (hnc : n ≤ c) (hnd : n ≤ d) :
    Calls Tryd.prog 9 #[.agg #[.slice A n c, .int .i64 I, .int .i64 H, .int .i64 S, .int .i64 P, .string D, .string Q, .int .i64 z], .agg #[.slice A' n d, .int .i64 I, .int .i64 H, .int .i64 S, .int .i64 P, .string D, .string Q, .int .i64 z]] w fun e w' => e = .returned (.bool true) ∧ Below w.heap.size w w' := by
  have hX : Below w.heap.size w ((w.alloc (.cells #[.slice A n c, .int .i64 I, .int .i64 H, .int .i64 S, .int .i64 P, .string D, .string Q, .int .i64 z] 36)).alloc (.cells #[.slice A' n d, .int .i64 I, .int .i64 H, .int .i64 S, .int .i64 P, .string D, .string Q, .int .i64 z] 36)) := ((Below.refl _ w).alloc (Nat.le_refl _) _).alloc (by simp) _
  have HS := Lib.hid (hs.below hX)
  have HT := Lib.hid (ht.below hX)
  have h1 : ((w.alloc (.cells #[.slice A n c, .int .i64 I, .int .i64 H, .int .i64 S, .int .i64 P, .string D, .string Q, .int .i64 z] 36)).alloc (.cells #[.slice A' n d, .int .i64 I, .int .i64 H, .int .i64 S, .int .i64 P, .string D, .string Q, .int .i64 z] 36)).heap[w.heap.size]? = some (.cells #[.slice A n c, .int .i64 I, .int .i64 H, .int .i64 S, .int .i64 P, .string D, .string Q, .int .i64 z] 36 (0, 0)) := by
    rw [heap_alloc_old _ _ (by simp)]
    exact heap_alloc_new w _
  have h2 : ((w.alloc (.cells #[.slice A n c, .int .i64 I, .int .i64 H, .int .i64 S, .int .i64 P, .string D, .string Q, .int .i64 z] 36)).alloc (.cells #[.slice A' n d, .int .i64 I, .int .i64 H, .int .i64 S, .int .i64 P, .string D, .string Q, .int .i64 z] 36)).heap[w.heap.size + 1]? = some (.cells #[.slice A' n d, .int .i64 I, .int .i64 H, .int .i64 S, .int .i64 P, .string D, .string Q, .int .i64 z] 36 (0, 0)) := by
    have h := heap_alloc_new (w.alloc (.cells #[.slice A n c, .int .i64 I, .int .i64 H, .int .i64 S, .int .i64 P, .string D, .string Q, .int .i64 z] 36)) (.cells #[.slice A' n d, .int .i64 I, .int .i64 H, .int .i64 S, .int .i64 P, .string D, .string Q, .int .i64 z] 36)
    simpa using h
  clear hs ht
  go_enter Tryd.func9, Tryd.ntmps9
  go_upto_region 1 with fail
  refine name_wp ?_
  intro w1 hw1
  rw [← hw1] at HS HT hX h1 h2
  clear hw1
  have e0 : w1.cell? ⟨w.heap.size, 0, none⟩ = some (.slice A n c) := by rw [cell_of_row w1 (w.heap.size) 0 _ _ (0, 0) h1]; rfl
  have e1 : w1.cell? ⟨w.heap.size, 1, none⟩ = some (.int .i64 I) := by rw [cell_of_row w1 (w.heap.size) 1 _ _ (0, 0) h1]; rfl
  have e2 : w1.cell? ⟨w.heap.size, 2, none⟩ = some (.int .i64 H) := by rw [cell_of_row w1 (w.heap.size) 2 _ _ (0, 0) h1]; rfl
  have e3 : w1.cell? ⟨w.heap.size, 3, none⟩ = some (.int .i64 S) := by rw [cell_of_row w1 (w.heap.size) 3 _ _ (0, 0) h1]; rfl
  have e4 : w1.cell? ⟨w.heap.size, 4, none⟩ = some (.int .i64 P) := by rw [cell_of_row w1 (w.heap.size) 4 _ _ (0, 0) h1]; rfl
  have e5 : w1.cell? ⟨w.heap.size, 5, none⟩ = some (.string D) := by rw [cell_of_row w1 (w.heap.size) 5 _ _ (0, 0) h1]; rfl
  have e6 : w1.cell? ⟨w.heap.size, 6, none⟩ = some (.string Q) := by rw [cell_of_row w1 (w.heap.size) 6 _ _ (0, 0) h1]; rfl
  have e7 : w1.cell? ⟨w.heap.size, 7, none⟩ = some (.int .i64 z) := by rw [cell_of_row w1 (w.heap.size) 7 _ _ (0, 0) h1]; rfl
  have y0 : w1.cell? ⟨w.heap.size + 1, 0, none⟩ = some (.slice A' n d) := by rw [cell_of_row w1 (w.heap.size + 1) 0 _ _ (0, 0) h2]; rfl
  have y1 : w1.cell? ⟨w.heap.size + 1, 1, none⟩ = some (.int .i64 I) := by rw [cell_of_row w1 (w.heap.size + 1) 1 _ _ (0, 0) h2]; rfl
  have y2 : w1.cell? ⟨w.heap.size + 1, 2, none⟩ = some (.int .i64 H) := by rw [cell_of_row w1 (w.heap.size + 1) 2 _ _ (0, 0) h2]; rfl
  have y3 : w1.cell? ⟨w.heap.size + 1, 3, none⟩ = some (.int .i64 S) := by rw [cell_of_row w1 (w.heap.size + 1) 3 _ _ (0, 0) h2]; rfl
  have y4 : w1.cell? ⟨w.heap.size + 1, 4, none⟩ = some (.int .i64 P) := by rw [cell_of_row w1 (w.heap.size + 1) 4 _ _ (0, 0) h2]; rfl
  have y5 : w1.cell? ⟨w.heap.size + 1, 5, none⟩ = some (.string D) := by rw [cell_of_row w1 (w.heap.size + 1) 5 _ _ (0, 0) h2]; rfl
  have y6 : w1.cell? ⟨w.heap.size + 1, 6, none⟩ = some (.string Q) := by rw [cell_of_row w1 (w.heap.size + 1) 6 _ _ (0, 0) h2]; rfl
  have y7 : w1.cell? ⟨w.heap.size + 1, 7, none⟩ = some (.int .i64 z) := by rw [cell_of_row w1 (w.heap.size + 1) 7 _ _ (0, 0) h2]; rfl
  go_wp2_with fail
  refine (eqWorks_same A A' n c d lo hi lo' hi' f I H S P w1 HS.out HT.out hn hnc hnd).mono ?_
  rintro e w2 ⟨rfl, hb⟩
  have h1 := rowC h1 hb
  have h2 := rowC h2 hb
  have B2 := below_of hX hb hX.size
  clear hb hX e0 e1 e2 e3 e4 e5 e6 e7 y0 y1 y2 y3 y4 y5 y6 y7
  have e0 : w2.cell? ⟨w.heap.size, 0, none⟩ = some (.slice A n c) := by rw [cell_of_row w2 (w.heap.size) 0 _ _ (0, 0) h1]; rfl
  have e1 : w2.cell? ⟨w.heap.size, 1, none⟩ = some (.int .i64 I) := by rw [cell_of_row w2 (w.heap.size) 1 _ _ (0, 0) h1]; rfl
  have e2 : w2.cell? ⟨w.heap.size, 2, none⟩ = some (.int .i64 H) := by rw [cell_of_row w2 (w.heap.size) 2 _ _ (0, 0) h1]; rfl
  have e3 : w2.cell? ⟨w.heap.size, 3, none⟩ = some (.int .i64 S) := by rw [cell_of_row w2 (w.heap.size) 3 _ _ (0, 0) h1]; rfl
  have e4 : w2.cell? ⟨w.heap.size, 4, none⟩ = some (.int .i64 P) := by rw [cell_of_row w2 (w.heap.size) 4 _ _ (0, 0) h1]; rfl
  have e5 : w2.cell? ⟨w.heap.size, 5, none⟩ = some (.string D) := by rw [cell_of_row w2 (w.heap.size) 5 _ _ (0, 0) h1]; rfl
  have e6 : w2.cell? ⟨w.heap.size, 6, none⟩ = some (.string Q) := by rw [cell_of_row w2 (w.heap.size) 6 _ _ (0, 0) h1]; rfl
  have e7 : w2.cell? ⟨w.heap.size, 7, none⟩ = some (.int .i64 z) := by rw [cell_of_row w2 (w.heap.size) 7 _ _ (0, 0) h1]; rfl
  have y0 : w2.cell? ⟨w.heap.size + 1, 0, none⟩ = some (.slice A' n d) := by rw [cell_of_row w2 (w.heap.size + 1) 0 _ _ (0, 0) h2]; rfl
  have y1 : w2.cell? ⟨w.heap.size + 1, 1, none⟩ = some (.int .i64 I) := by rw [cell_of_row w2 (w.heap.size + 1) 1 _ _ (0, 0) h2]; rfl
  have y2 : w2.cell? ⟨w.heap.size + 1, 2, none⟩ = some (.int .i64 H) := by rw [cell_of_row w2 (w.heap.size + 1) 2 _ _ (0, 0) h2]; rfl
  have y3 : w2.cell? ⟨w.heap.size + 1, 3, none⟩ = some (.int .i64 S) := by rw [cell_of_row w2 (w.heap.size + 1) 3 _ _ (0, 0) h2]; rfl
  have y4 : w2.cell? ⟨w.heap.size + 1, 4, none⟩ = some (.int .i64 P) := by rw [cell_of_row w2 (w.heap.size + 1) 4 _ _ (0, 0) h2]; rfl
  have y5 : w2.cell? ⟨w.heap.size + 1, 5, none⟩ = some (.string D) := by rw [cell_of_row w2 (w.heap.size + 1) 5 _ _ (0, 0) h2]; rfl
  have y6 : w2.cell? ⟨w.heap.size + 1, 6, none⟩ = some (.string Q) := by rw [cell_of_row w2 (w.heap.size + 1) 6 _ _ (0, 0) h2]; rfl
  have y7 : w2.cell? ⟨w.heap.size + 1, 7, none⟩ = some (.int .i64 z) := by rw [cell_of_row w2 (w.heap.size + 1) 7 _ _ (0, 0) h2]; rfl
  have HB := Lib.hid B2
  clear h1 h2 B2
  go_wp2_with fail
  refine (eqLog_same D Q z w2).mono ?_
  rintro e w3 ⟨rfl, hb⟩
  have B3 := below_of HB.out hb HB.out.size
  go_wp2
  go_ret
  exact ⟨rfl, B3⟩
end Go.Proofs.YtegklcapfjigaaaDoor
