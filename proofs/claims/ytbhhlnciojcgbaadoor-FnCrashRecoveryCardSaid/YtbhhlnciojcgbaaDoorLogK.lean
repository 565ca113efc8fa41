/-
  LogRecords: the same on both sides.
-/
import Derived.Test.YtbhhlnciojcgbaaDoorFlatRec
namespace Go.Proofs.YtbhhlnciojcgbaaDoor
open Go.RowKit
set_option linter.unusedVariables false
set_option linter.unusedSimpArgs false
attribute [local go_sem ↓] Go.wp_at_zero Go.wp_at_succ
def flatR : List (BA × BA) → List BA
  | [] => []
  | e :: L => e.1 :: e.2 :: flatR L
theorem recCells_flat (L : List (BA × BA)) : recCells L = (flatR L).map Value.string := by
  induction L with
  | nil => rfl
  | cons e L ih => simp [recCells, flatR, ih]
def lrN (D P : BA) (z : Int) : Nat := if logOk D P z then (readN (D ++ P) 60).1.length else 0
def lrF (D P : BA) (j : Nat) : BA := (flatR (readN (D ++ P) 60).1).getD j ⟨#[]⟩
theorem lrN_le (D P : BA) (z : Int) : lrN D P z ≤ 60 := by
  unfold lrN
  split
  · exact readN_len _ _
  · omega
theorem own_rec {w : World} {base : Nat} {v : Value} {D P : BA} (h : w.ownsRow base 27 2 v (readN (D ++ P) 60).1.length (recCells (readN (D ++ P) 60).1)) :
    ∃ A c, v = .slice A (readN (D ++ P) 60).1.length c ∧ (readN (D ++ P) 60).1.length ≤ c ∧ c ≤ maxLen ∧ OwnT w base w.heap.size 27 2 A (readN (D ++ P) 60).1.length (lrF D P) := by
  rw [recCells_flat] at h
  exact ownT_of_row h
set_option maxHeartbeats 1000000 in
theorem LogRecords_any (D P : BA) (z : Int) (hD : D.size ≤ 1048576) (hP : P.size ≤ 1048576) (w : World) (ht : Tab w) (hm : Mx w) :
    Calls Tryd.prog 14 #[.agg #[.string D, .string P, .int .i64 z]] w fun e w' => ∃ A c, e = .returned (.tuple #[.slice A (lrN D P z) c, .bool (logOk D P z)]) ∧ lrN D P z ≤ c ∧ c ≤ maxLen ∧ OwnT w' w.heap.size w'.heap.size 27 2 A (lrN D P z) (lrF D P) ∧ Below w.heap.size w w' := by
  have HAL : Below w.heap.size w (w.alloc (.cells #[.string D, .string P, .int .i64 z] 25)) := (Below.refl _ w).alloc (Nat.le_refl _) _
  have HC := Lib.hid (recordsOf_any D P z hD hP (w.alloc (.cells #[.string D, .string P, .int .i64 z] 25)) (ht.below HAL) (hm.below HAL))
  cases hk : logOk D P z with
  | false =>
    have e1 : lrN D P z = 0 := by simp [lrN, hk]
    rw [hk] at HC
    rw [e1]
    go_enter Tryd.func14, Tryd.ntmps14
    go_wp2_with fail
    refine HC.out.mono ?_
    rintro e w1 ⟨v, rfl, _, hb1⟩
    have B1 := HAL.trans (hb1.mono (by simp))
    clear HC HAL e1 hk ht hm hD hP
    go_wp2_with fail
    go_ret2
    exact ⟨none, 0, rfl, Nat.le_refl _, by unfold maxLen; omega, OwnT.none_ (Nat.le_refl _), B1⟩
  | true =>
    have e1 : lrN D P z = (readN (D ++ P) 60).1.length := by simp [lrN, hk]
    rw [hk] at HC
    rw [e1]
    go_enter Tryd.func14, Tryd.ntmps14
    go_wp2_with fail
    refine HC.out.mono ?_
    rintro e w1 ⟨v, rfl, hown, hb1⟩
    have B1 := HAL.trans (hb1.mono (by simp))
    obtain ⟨A, c, rfl, hc1, hc2, ho⟩ := own_rec hown
    have HO := Lib.hid (ho.lo_le (lo' := w.heap.size) (by simp))
    clear HC HAL e1 hk ht hm hD hP hown ho
    go_wp2_with fail
    go_ret2
    exact ⟨A, c, rfl, hc1, hc2, HO.out, B1⟩
set_option maxHeartbeats 1000000 in
theorem sLogRecords_any (D P : BA) (z : Int) (hD : D.size ≤ 1048576) (hP : P.size ≤ 1048576) (w : World) :
    Calls Tryd.prog 25 #[.agg #[.string D, .string P, .int .i64 z]] w fun e w' => ∃ A c, e = .returned (.tuple #[.slice A (lrN D P z) c, .bool (logOk D P z)]) ∧ lrN D P z ≤ c ∧ c ≤ maxLen ∧ OwnT w' w.heap.size w'.heap.size 27 2 A (lrN D P z) (lrF D P) ∧ Below w.heap.size w w' := by
  have HAL : Below w.heap.size w (w.alloc (.cells #[.string D, .string P, .int .i64 z] 25)) := (Below.refl _ w).alloc (Nat.le_refl _) _
  have HC := Lib.hid (l27Log_any D P z hD hP (w.alloc (.cells #[.string D, .string P, .int .i64 z] 25)))
  have hX : (w.alloc (.cells #[.string D, .string P, .int .i64 z] 25)).heap[w.heap.size]? = some (.cells #[.string D, .string P, .int .i64 z] 25 (0, 0)) := heap_alloc_new w _
  cases hk : logOk D P z with
  | false =>
    have e1 : lrN D P z = 0 := by simp [lrN, hk]
    rw [hk] at HC
    rw [e1]
    go_enter Tryd.func25, Tryd.ntmps25
    go_wp2_with fail
    refine HC.out.mono ?_
    rintro e w1 ⟨rfl, hb1⟩
    have B1 := HAL.trans (hb1.mono (by simp))
    clear HC HAL e1 hk hD hP hX
    go_wp2_with fail
    go_ret2
    exact ⟨_, 0, rfl, Nat.le_refl _, by unfold maxLen; omega, OwnT.none_ (Nat.le_refl _), by first | exact B1 | exact B1.alloc B1.size _⟩
  | true =>
    have e1 : lrN D P z = (readN (D ++ P) 60).1.length := by simp [lrN, hk]
    have hsz := logOk_size hk
    have hsum : D.size + P.size ≤ 4000000 := by omega
    have hszt : (D ++ P).size ≤ 4000000 := by rw [size_app]; omega
    have HR := Lib.hid (fun W => l27Open_any (D ++ P) hszt W)
    rw [hk] at HC
    rw [e1]
    go_enter Tryd.func25, Tryd.ntmps25
    go_wp2_with fail
    refine HC.out.mono ?_
    rintro e w1 ⟨rfl, hb1⟩
    have B1 := HAL.trans (hb1.mono (by simp))
    obtain ⟨l0, l1, l2, _, _, _⟩ := row3 (rowB hX hb1)
    clear HC HAL e1 hk hD hP hX hsz hszt
    go_wp2_with fail
    refine (HR.out w1).mono ?_
    rintro e w2 ⟨v, rfl, hown, hb2⟩
    have B2 := below_of B1 hb2 B1.size
    obtain ⟨A, c, rfl, hc1, hc2, ho⟩ := own_rec hown
    have HO := Lib.hid (ho.lo_le (lo' := w.heap.size) B1.size)
    clear hown ho hb2 HR
    go_wp2_with fail
    go_ret2
    exact ⟨A, c, rfl, hc1, hc2, HO.out, B2⟩
end Go.Proofs.YtbhhlnciojcgbaaDoor
