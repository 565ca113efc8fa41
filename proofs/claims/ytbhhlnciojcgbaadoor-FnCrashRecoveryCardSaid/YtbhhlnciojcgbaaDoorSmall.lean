/-
  Small tests: a number lies in a range.
-/
import Derived.Test.YtbhhlnciojcgbaaDoorProg
import Derived.Test.YtbhhlnciojcgbaaDoorBase
import Derived.BigGuardPart
namespace Go.Proofs.YtbhhlnciojcgbaaDoor
open Go.RowKit
set_option linter.unusedVariables false
set_option linter.unusedSimpArgs false
theorem within_any (n lo hi : Int) (w : World) : Calls Tryd.prog 34 #[.int .i64 n, .int .i64 lo, .int .i64 hi] w fun e w' => e = .returned (.bool (inR n lo hi)) ∧ w = w' := by
  go_enter Tryd.func34, Tryd.ntmps34
  go_wp2
  all_goals
    go_ret
    refine ⟨ret_bool ?_, rfl⟩
    rw [Bool.eq_iff_iff]
    simp only [inR, decide_eq_true_eq, Bool.false_eq_true, true_iff, false_iff, eq_self, or_true, true_and]
    omega
theorem l1In_any (n lo hi : Int) (w : World) : Calls Tryd.prog 41 #[.int .i64 n, .int .i64 lo, .int .i64 hi] w fun e w' => e = .returned (.bool (inR n lo hi)) ∧ w = w' := by
  go_enter Tryd.func41, Tryd.ntmps41
  go_wp2
  all_goals
    go_ret
    refine ⟨ret_bool ?_, rfl⟩
    rw [Bool.eq_iff_iff]
    simp only [inR, decide_eq_true_eq, Bool.false_eq_true, true_iff, false_iff, eq_self, or_true, true_and]
    omega
end Go.Proofs.YtbhhlnciojcgbaaDoor
