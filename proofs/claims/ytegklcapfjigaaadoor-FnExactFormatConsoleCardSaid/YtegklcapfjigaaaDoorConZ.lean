/-
  IsValidConsole: the same on both sides; the laws' helpers for consoles.
-/
import Derived.Test.YtegklcapfjigaaaDoorConH
import Derived.Deep.Cut
namespace Go.Proofs.YtegklcapfjigaaaDoor
open Go.RowKit
set_option linter.unusedVariables false
set_option linter.unusedSimpArgs false
theorem szLog_at (D Q : ByteArray) (z L : Int) (w : World) (hL : 0 ≤ L) (hM : L ≤ 1048576) (h : (D.size : Int) + (Q.size : Int) ≤ L) :
    Calls Tryd.prog 13 #[.agg #[.string D, .string Q, .int .i64 z], .int .i64 L] w fun e w' => e = .returned (.int .i64 (L - D.size - Q.size)) ∧ Below w.heap.size w w' := by
  go_enter Tryd.func13, Tryd.ntmps13
  go_wp2
  go_ret
  exact ⟨rfl, by go_grown⟩
theorem szLog_no (D Q : ByteArray) (z L : Int) (w : World) (hL : 0 ≤ L) (hM : L ≤ 1048576) (hc : (D.size : Int) ≤ 9223372036854775807) (hr : (Q.size : Int) ≤ 9223372036854775807) (h : L < (D.size : Int) + (Q.size : Int)) :
    Calls Tryd.prog 13 #[.agg #[.string D, .string Q, .int .i64 z], .int .i64 L] w fun e w' => e = .returned (.int .i64 (-1)) ∧ Below w.heap.size w w' := by
  by_cases h1 : L < (D.size : Int)
  · go_enter Tryd.func13, Tryd.ntmps13
    go_wp2
    go_ret
    exact ⟨rfl, by go_grown⟩
  · go_enter Tryd.func13, Tryd.ntmps13
    go_wp2
    go_ret
    exact ⟨rfl, by go_grown⟩
set_option maxHeartbeats 1000000 in
theorem szConsole_works (A : Option Addr) (n c : Nat) (I H S P : Int) (D Q : ByteArray) (z : Int) (w : World) (hm0 : (n : Int) ≤ 9223372036854775807) (h : 1048576 < (n : Int)) :
    Calls Tryd.prog 5 #[.agg #[.slice A n c, .int .i64 I, .int .i64 H, .int .i64 S, .int .i64 P, .string D, .string Q, .int .i64 z], .int .i64 1048576] w fun e w' => e = .returned (.int .i64 (-1)) ∧ Below w.heap.size w w' := by
  have hX : Below w.heap.size w (w.alloc (.cells #[.slice A n c, .int .i64 I, .int .i64 H, .int .i64 S, .int .i64 P, .string D, .string Q, .int .i64 z] 28)) := (Below.refl _ w).alloc (Nat.le_refl _) _
  have h0 : (w.alloc (.cells #[.slice A n c, .int .i64 I, .int .i64 H, .int .i64 S, .int .i64 P, .string D, .string Q, .int .i64 z] 28)).heap[w.heap.size]? = some (.cells #[.slice A n c, .int .i64 I, .int .i64 H, .int .i64 S, .int .i64 P, .string D, .string Q, .int .i64 z] 28 (0, 0)) := heap_alloc_new w _
  go_enter Tryd.func5, Tryd.ntmps5
  go_upto_region 1 with fail
  refine name_wp ?_
  intro w1 hw1
  rw [← hw1] at hX h0
  clear hw1
  have e0 : w1.cell? ⟨w.heap.size, 0, none⟩ = some (.slice A n c) := by rw [cell_of_row w1 (w.heap.size) 0 _ _ (0, 0) h0]; rfl
  have e1 : w1.cell? ⟨w.heap.size, 1, none⟩ = some (.int .i64 I) := by rw [cell_of_row w1 (w.heap.size) 1 _ _ (0, 0) h0]; rfl
  have e2 : w1.cell? ⟨w.heap.size, 2, none⟩ = some (.int .i64 H) := by rw [cell_of_row w1 (w.heap.size) 2 _ _ (0, 0) h0]; rfl
  have e3 : w1.cell? ⟨w.heap.size, 3, none⟩ = some (.int .i64 S) := by rw [cell_of_row w1 (w.heap.size) 3 _ _ (0, 0) h0]; rfl
  have e4 : w1.cell? ⟨w.heap.size, 4, none⟩ = some (.int .i64 P) := by rw [cell_of_row w1 (w.heap.size) 4 _ _ (0, 0) h0]; rfl
  have e5 : w1.cell? ⟨w.heap.size, 5, none⟩ = some (.string D) := by rw [cell_of_row w1 (w.heap.size) 5 _ _ (0, 0) h0]; rfl
  have e6 : w1.cell? ⟨w.heap.size, 6, none⟩ = some (.string Q) := by rw [cell_of_row w1 (w.heap.size) 6 _ _ (0, 0) h0]; rfl
  have e7 : w1.cell? ⟨w.heap.size, 7, none⟩ = some (.int .i64 z) := by rw [cell_of_row w1 (w.heap.size) 7 _ _ (0, 0) h0]; rfl
  go_wp2_with fail
  refine (szWorks_big A n c I H S P 1048576 w1 hm0 (by omega) (by omega) h).mono ?_
  rintro e w2 ⟨rfl, hb⟩
  have hX := below_of hX hb hX.size
  go_wp2
  go_ret
  exact ⟨rfl, hX⟩
set_option maxHeartbeats 1000000 in
theorem szConsole_log (A : Option Addr) (n c : Nat) (I H S P : Int) (D Q : ByteArray) (z : Int) (w : World) (hn : (n : Int) ≤ 1048576) (hc : (D.size : Int) ≤ 9223372036854775807) (hr : (Q.size : Int) ≤ 9223372036854775807) (h : 1048576 - (n : Int) < (D.size : Int) + (Q.size : Int)) :
    Calls Tryd.prog 5 #[.agg #[.slice A n c, .int .i64 I, .int .i64 H, .int .i64 S, .int .i64 P, .string D, .string Q, .int .i64 z], .int .i64 1048576] w fun e w' => e = .returned (.int .i64 (-1)) ∧ Below w.heap.size w w' := by
  have hX : Below w.heap.size w (w.alloc (.cells #[.slice A n c, .int .i64 I, .int .i64 H, .int .i64 S, .int .i64 P, .string D, .string Q, .int .i64 z] 28)) := (Below.refl _ w).alloc (Nat.le_refl _) _
  have h0 : (w.alloc (.cells #[.slice A n c, .int .i64 I, .int .i64 H, .int .i64 S, .int .i64 P, .string D, .string Q, .int .i64 z] 28)).heap[w.heap.size]? = some (.cells #[.slice A n c, .int .i64 I, .int .i64 H, .int .i64 S, .int .i64 P, .string D, .string Q, .int .i64 z] 28 (0, 0)) := heap_alloc_new w _
  go_enter Tryd.func5, Tryd.ntmps5
  go_upto_region 1 with fail
  refine name_wp ?_
  intro w1 hw1
  rw [← hw1] at hX h0
  clear hw1
  have e0 : w1.cell? ⟨w.heap.size, 0, none⟩ = some (.slice A n c) := by rw [cell_of_row w1 (w.heap.size) 0 _ _ (0, 0) h0]; rfl
  have e1 : w1.cell? ⟨w.heap.size, 1, none⟩ = some (.int .i64 I) := by rw [cell_of_row w1 (w.heap.size) 1 _ _ (0, 0) h0]; rfl
  have e2 : w1.cell? ⟨w.heap.size, 2, none⟩ = some (.int .i64 H) := by rw [cell_of_row w1 (w.heap.size) 2 _ _ (0, 0) h0]; rfl
  have e3 : w1.cell? ⟨w.heap.size, 3, none⟩ = some (.int .i64 S) := by rw [cell_of_row w1 (w.heap.size) 3 _ _ (0, 0) h0]; rfl
  have e4 : w1.cell? ⟨w.heap.size, 4, none⟩ = some (.int .i64 P) := by rw [cell_of_row w1 (w.heap.size) 4 _ _ (0, 0) h0]; rfl
  have e5 : w1.cell? ⟨w.heap.size, 5, none⟩ = some (.string D) := by rw [cell_of_row w1 (w.heap.size) 5 _ _ (0, 0) h0]; rfl
  have e6 : w1.cell? ⟨w.heap.size, 6, none⟩ = some (.string Q) := by rw [cell_of_row w1 (w.heap.size) 6 _ _ (0, 0) h0]; rfl
  have e7 : w1.cell? ⟨w.heap.size, 7, none⟩ = some (.int .i64 z) := by rw [cell_of_row w1 (w.heap.size) 7 _ _ (0, 0) h0]; rfl
  go_wp2_with fail
  refine (szWorks_ok A n c I H S P 1048576 w1 (by omega) (by omega) hn).mono ?_
  rintro e w2 ⟨rfl, hb⟩
  have h0 := rowC h0 hb
  have hX := below_of hX hb hX.size
  clear hb e0 e1 e2 e3 e4 e5 e6 e7
  have e0 : w2.cell? ⟨w.heap.size, 0, none⟩ = some (.slice A n c) := by rw [cell_of_row w2 (w.heap.size) 0 _ _ (0, 0) h0]; rfl
  have e1 : w2.cell? ⟨w.heap.size, 1, none⟩ = some (.int .i64 I) := by rw [cell_of_row w2 (w.heap.size) 1 _ _ (0, 0) h0]; rfl
  have e2 : w2.cell? ⟨w.heap.size, 2, none⟩ = some (.int .i64 H) := by rw [cell_of_row w2 (w.heap.size) 2 _ _ (0, 0) h0]; rfl
  have e3 : w2.cell? ⟨w.heap.size, 3, none⟩ = some (.int .i64 S) := by rw [cell_of_row w2 (w.heap.size) 3 _ _ (0, 0) h0]; rfl
  have e4 : w2.cell? ⟨w.heap.size, 4, none⟩ = some (.int .i64 P) := by rw [cell_of_row w2 (w.heap.size) 4 _ _ (0, 0) h0]; rfl
  have e5 : w2.cell? ⟨w.heap.size, 5, none⟩ = some (.string D) := by rw [cell_of_row w2 (w.heap.size) 5 _ _ (0, 0) h0]; rfl
  have e6 : w2.cell? ⟨w.heap.size, 6, none⟩ = some (.string Q) := by rw [cell_of_row w2 (w.heap.size) 6 _ _ (0, 0) h0]; rfl
  have e7 : w2.cell? ⟨w.heap.size, 7, none⟩ = some (.int .i64 z) := by rw [cell_of_row w2 (w.heap.size) 7 _ _ (0, 0) h0]; rfl
  have hL0 : ¬ (1048576 - (n : Int) < 0) := by omega
  go_wp2_with fail
  refine (szLog_no D Q z (1048576 - (n : Int)) w2 (by omega) (by omega) hc hr h).mono ?_
  rintro e w3 ⟨rfl, hb⟩
  have hX := below_of hX hb hX.size
  go_wp2
  go_ret
  exact ⟨rfl, hX⟩
set_option maxHeartbeats 1000000 in
theorem szConsole_ok (A : Option Addr) (n c : Nat) (I H S P : Int) (D Q : ByteArray) (z : Int) (w : World) (hn : (n : Int) ≤ 1048576) (h : (D.size : Int) + (Q.size : Int) ≤ 1048576 - (n : Int)) :
    Calls Tryd.prog 5 #[.agg #[.slice A n c, .int .i64 I, .int .i64 H, .int .i64 S, .int .i64 P, .string D, .string Q, .int .i64 z], .int .i64 1048576] w fun e w' => e = .returned (.int .i64 (1048576 - (n : Int) - D.size - Q.size)) ∧ Below w.heap.size w w' := by
  have hX : Below w.heap.size w (w.alloc (.cells #[.slice A n c, .int .i64 I, .int .i64 H, .int .i64 S, .int .i64 P, .string D, .string Q, .int .i64 z] 28)) := (Below.refl _ w).alloc (Nat.le_refl _) _
  have h0 : (w.alloc (.cells #[.slice A n c, .int .i64 I, .int .i64 H, .int .i64 S, .int .i64 P, .string D, .string Q, .int .i64 z] 28)).heap[w.heap.size]? = some (.cells #[.slice A n c, .int .i64 I, .int .i64 H, .int .i64 S, .int .i64 P, .string D, .string Q, .int .i64 z] 28 (0, 0)) := heap_alloc_new w _
  go_enter Tryd.func5, Tryd.ntmps5
  go_upto_region 1 with fail
  refine name_wp ?_
  intro w1 hw1
  rw [← hw1] at hX h0
  clear hw1
  have e0 : w1.cell? ⟨w.heap.size, 0, none⟩ = some (.slice A n c) := by rw [cell_of_row w1 (w.heap.size) 0 _ _ (0, 0) h0]; rfl
  have e1 : w1.cell? ⟨w.heap.size, 1, none⟩ = some (.int .i64 I) := by rw [cell_of_row w1 (w.heap.size) 1 _ _ (0, 0) h0]; rfl
  have e2 : w1.cell? ⟨w.heap.size, 2, none⟩ = some (.int .i64 H) := by rw [cell_of_row w1 (w.heap.size) 2 _ _ (0, 0) h0]; rfl
  have e3 : w1.cell? ⟨w.heap.size, 3, none⟩ = some (.int .i64 S) := by rw [cell_of_row w1 (w.heap.size) 3 _ _ (0, 0) h0]; rfl
  have e4 : w1.cell? ⟨w.heap.size, 4, none⟩ = some (.int .i64 P) := by rw [cell_of_row w1 (w.heap.size) 4 _ _ (0, 0) h0]; rfl
  have e5 : w1.cell? ⟨w.heap.size, 5, none⟩ = some (.string D) := by rw [cell_of_row w1 (w.heap.size) 5 _ _ (0, 0) h0]; rfl
  have e6 : w1.cell? ⟨w.heap.size, 6, none⟩ = some (.string Q) := by rw [cell_of_row w1 (w.heap.size) 6 _ _ (0, 0) h0]; rfl
  have e7 : w1.cell? ⟨w.heap.size, 7, none⟩ = some (.int .i64 z) := by rw [cell_of_row w1 (w.heap.size) 7 _ _ (0, 0) h0]; rfl
  go_wp2_with fail
  refine (szWorks_ok A n c I H S P 1048576 w1 (by omega) (by omega) hn).mono ?_
  rintro e w2 ⟨rfl, hb⟩
  have h0 := rowC h0 hb
  have hX := below_of hX hb hX.size
  clear hb e0 e1 e2 e3 e4 e5 e6 e7
  have e0 : w2.cell? ⟨w.heap.size, 0, none⟩ = some (.slice A n c) := by rw [cell_of_row w2 (w.heap.size) 0 _ _ (0, 0) h0]; rfl
  have e1 : w2.cell? ⟨w.heap.size, 1, none⟩ = some (.int .i64 I) := by rw [cell_of_row w2 (w.heap.size) 1 _ _ (0, 0) h0]; rfl
  have e2 : w2.cell? ⟨w.heap.size, 2, none⟩ = some (.int .i64 H) := by rw [cell_of_row w2 (w.heap.size) 2 _ _ (0, 0) h0]; rfl
  have e3 : w2.cell? ⟨w.heap.size, 3, none⟩ = some (.int .i64 S) := by rw [cell_of_row w2 (w.heap.size) 3 _ _ (0, 0) h0]; rfl
  have e4 : w2.cell? ⟨w.heap.size, 4, none⟩ = some (.int .i64 P) := by rw [cell_of_row w2 (w.heap.size) 4 _ _ (0, 0) h0]; rfl
  have e5 : w2.cell? ⟨w.heap.size, 5, none⟩ = some (.string D) := by rw [cell_of_row w2 (w.heap.size) 5 _ _ (0, 0) h0]; rfl
  have e6 : w2.cell? ⟨w.heap.size, 6, none⟩ = some (.string Q) := by rw [cell_of_row w2 (w.heap.size) 6 _ _ (0, 0) h0]; rfl
  have e7 : w2.cell? ⟨w.heap.size, 7, none⟩ = some (.int .i64 z) := by rw [cell_of_row w2 (w.heap.size) 7 _ _ (0, 0) h0]; rfl
  have hL0 : ¬ (1048576 - (n : Int) < 0) := by omega
  go_wp2_with fail
  refine (szLog_at D Q z (1048576 - (n : Int)) w2 (by omega) (by omega) h).mono ?_
  rintro e w3 ⟨rfl, hb⟩
  have hX := below_of hX hb hX.size
  have hL1 : ¬ (1048576 - (n : Int) - (D.size : Int) - (Q.size : Int) < 0) := by omega
  go_wp2
  go_ret
  exact ⟨rfl, hX⟩
end Go.Proofs.YtegklcapfjigaaaDoor
