/-
  Small tests: a number lies in a range.
-/
import Derived.Test.YtfejgoohefhjoaaProg
import Derived.Test.YtfejgoohefhjoaaBase
import Derived.BigGuardPart
namespace Go.Proofs.Ytfejgoohefhjoaa
open Go.RowKit
set_option linter.unusedVariables false
set_option linter.unusedSimpArgs false
theorem within_any (n lo hi : Int) (w : World) : Calls Try.prog 32 #[.int .i64 n, .int .i64 lo, .int .i64 hi] w fun e w' => e = .returned (.bool (inR n lo hi)) ∧ w = w' := by
  go_enter Try.func32, Try.ntmps32
  go_wp2
  all_goals
    go_ret
    refine ⟨ret_bool ?_, rfl⟩
    rw [Bool.eq_iff_iff]
    simp only [inR, decide_eq_true_eq, Bool.false_eq_true, true_iff, false_iff, eq_self, or_true, true_and]
    omega
theorem l1In_any (n lo hi : Int) (w : World) : Calls Try.prog 35 #[.int .i64 n, .int .i64 lo, .int .i64 hi] w fun e w' => e = .returned (.bool (inR n lo hi)) ∧ w = w' := by
  go_enter Try.func35, Try.ntmps35
  go_wp2
  all_goals
    go_ret
    refine ⟨ret_bool ?_, rfl⟩
    rw [Bool.eq_iff_iff]
    simp only [inR, decide_eq_true_eq, Bool.false_eq_true, true_iff, false_iff, eq_self, or_true, true_and]
    omega
end Go.Proofs.Ytfejgoohefhjoaa
