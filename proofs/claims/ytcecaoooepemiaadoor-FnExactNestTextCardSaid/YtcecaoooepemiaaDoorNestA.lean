/-
  impl.IsNest and impl.AreNests: the program's and the reference's return the same test.
-/
import Derived.Test.YtcecaoooepemiaaDoorProg
import Derived.Test.YtcecaoooepemiaaDoorMem
import Derived.Test.YtcecaoooepemiaaDoorRegion
import Derived.Test.YtcecaoooepemiaaDoorBase
import Derived.BigGuardPart
import Derived.Handy
import Derived.Deep.RegionWith
import Derived.Deep.RegionHeld3
import Derived.Deep.DrawnRows
namespace Go.Proofs.YtcecaoooepemiaaDoor
open Go.RowKit
set_option linter.unusedVariables false
set_option linter.unusedSimpArgs false
attribute [local go_sem ↓] Go.wp_at_zero Go.wp_at_succ

def okNest (i k p d b x y : Int) : Bool := decide (1 ≤ i ∧ i ≤ 999 ∧ 1 ≤ k ∧ k ≤ 6 ∧ 1 ≤ p ∧ p ≤ 99 ∧ 0 ≤ d ∧ d ≤ 4000 ∧ 10 ≤ b ∧ b ≤ 60 ∧ 0 ≤ x ∧ x ≤ 999 ∧ 0 ≤ y ∧ y ≤ 999)
def okNestAt (f : Nat → Int) (k : Nat) : Bool := okNest (f (k * 7)) (f (k * 7 + 1)) (f (k * 7 + 2)) (f (k * 7 + 3)) (f (k * 7 + 4)) (f (k * 7 + 5)) (f (k * 7 + 6))
def okNestStep (f : Nat → Int) (k : Nat) : Bool := okNestAt f k && (decide (k = 0) || decide (f ((k - 1) * 7) < f (k * 7)))
def goodNests (f : Nat → Int) (n : Nat) : Bool := allTo (okNestStep f) n && decide (n ≤ 12)
theorem goodNests_no {f : Nat → Int} {n k : Nat} (hk : k < n) (h : okNestStep f k = false) : goodNests f n = false := by simp [goodNests, allTo_false hk h]
theorem goodNests_row {f : Nat → Int} {n k : Nat} (h : goodNests f n = true) (hk : k < n) : okNestAt f k = true := by
  simp only [goodNests, Bool.and_eq_true] at h
  have := allTo_at hk h.1
  simp only [okNestStep, Bool.and_eq_true] at this
  exact this.1
theorem goodNests_len {f : Nat → Int} {n : Nat} (h : goodNests f n = true) : n ≤ 12 := by
  simp only [goodNests, Bool.and_eq_true, decide_eq_true_eq] at h
  exact h.2

theorem NestOne_any (i k p d b x y : Int) (w : World) :
    Calls Tryd.prog 9 #[.agg #[.int .i64 i, .int .i64 k, .int .i64 p, .int .i64 d, .int .i64 b, .int .i64 x, .int .i64 y]] w fun e w' => e = .returned (.bool (okNest i k p d b x y)) ∧ Below w.heap.size w w' := by
  go_enter Tryd.func9, Tryd.ntmps9
  go_wp2
  all_goals
    go_ret
    refine ⟨ret_bool ?_, by go_grown⟩
    rw [Bool.eq_iff_iff]
    simp only [okNest, decide_eq_true_eq, Bool.false_eq_true, true_iff, false_iff, eq_self, or_true, true_and]
    omega
theorem sNestOne_any (i k p d b x y : Int) (w : World) :
    Calls Tryd.prog 7 #[.agg #[.int .i64 i, .int .i64 k, .int .i64 p, .int .i64 d, .int .i64 b, .int .i64 x, .int .i64 y]] w fun e w' => e = .returned (.bool (okNest i k p d b x y)) ∧ Below w.heap.size w w' := by
  go_enter Tryd.func7, Tryd.ntmps7
  go_wp2
  all_goals
    go_ret
    refine ⟨ret_bool ?_, by go_grown⟩
    rw [Bool.eq_iff_iff]
    simp only [okNest, decide_eq_true_eq, Bool.false_eq_true, true_iff, false_iff, eq_self, or_true, true_and]
    omega
end Go.Proofs.YtcecaoooepemiaaDoor
