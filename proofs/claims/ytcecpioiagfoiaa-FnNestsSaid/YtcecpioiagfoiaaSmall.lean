/-
  Small tests: a number lies in a range.
-/
import Derived.Test.YtcecpioiagfoiaaProg
import Derived.Test.YtcecpioiagfoiaaBase
import Derived.BigGuardPart
namespace Go.Proofs.Ytcecpioiagfoiaa
open Go.RowKit
set_option linter.unusedVariables false
set_option linter.unusedSimpArgs false
theorem within_any (n lo hi : Int) (w : World) : Calls Try.prog 35 #[.int .i64 n, .int .i64 lo, .int .i64 hi] w fun e w' => e = .returned (.bool (inR n lo hi)) ∧ w = w' := by
  go_enter Try.func35, Try.ntmps35
  go_wp2
  all_goals
    go_ret
    refine ⟨ret_bool ?_, rfl⟩
    rw [Bool.eq_iff_iff]
    simp only [inR, decide_eq_true_eq, Bool.false_eq_true, true_iff, false_iff, eq_self, or_true, true_and]
    omega
theorem l1In_any (n lo hi : Int) (w : World) : Calls Try.prog 40 #[.int .i64 n, .int .i64 lo, .int .i64 hi] w fun e w' => e = .returned (.bool (inR n lo hi)) ∧ w = w' := by
  go_enter Try.func40, Try.ntmps40
  go_wp2
  all_goals
    go_ret
    refine ⟨ret_bool ?_, rfl⟩
    rw [Bool.eq_iff_iff]
    simp only [inR, decide_eq_true_eq, Bool.false_eq_true, true_iff, false_iff, eq_self, or_true, true_and]
    omega
theorem isPlace_any (n : Int) (w : World) : Calls Try.prog 49 #[.int .i64 n] w fun e w' => e = .returned (.bool (inR n 0 999)) ∧ w = w' := by
  go_enter Try.func49, Try.ntmps49
  go_wp2
  all_goals
    go_ret
    refine ⟨ret_bool ?_, rfl⟩
    rw [Bool.eq_iff_iff]
    simp only [inR, decide_eq_true_eq, Bool.false_eq_true, true_iff, false_iff, eq_self, or_true, true_and]
    omega
theorem l24Meter_any (n : Int) (w : World) : Calls Try.prog 52 #[.int .i64 n] w fun e w' => e = .returned (.bool (inR n 0 999)) ∧ w = w' := by
  go_enter Try.func52, Try.ntmps52
  go_wp2
  all_goals
    go_ret
    refine ⟨ret_bool ?_, rfl⟩
    rw [Bool.eq_iff_iff]
    simp only [inR, decide_eq_true_eq, Bool.false_eq_true, true_iff, false_iff, eq_self, or_true, true_and]
    omega
theorem isDay_any (n : Int) (w : World) : Calls Try.prog 19 #[.int .i64 n] w fun e w' => e = .returned (.bool (inR n 0 4000)) ∧ w = w' := by
  go_enter Try.func19, Try.ntmps19
  go_wp2
  all_goals
    go_ret
    refine ⟨ret_bool ?_, rfl⟩
    rw [Bool.eq_iff_iff]
    simp only [inR, decide_eq_true_eq, Bool.false_eq_true, true_iff, false_iff, eq_self, or_true, true_and]
    omega
theorem l2Day_any (n : Int) (w : World) : Calls Try.prog 23 #[.int .i64 n] w fun e w' => e = .returned (.bool (inR n 0 4000)) ∧ w = w' := by
  go_enter Try.func23, Try.ntmps23
  go_wp2
  all_goals
    go_ret
    refine ⟨ret_bool ?_, rfl⟩
    rw [Bool.eq_iff_iff]
    simp only [inR, decide_eq_true_eq, Bool.false_eq_true, true_iff, false_iff, eq_self, or_true, true_and]
    omega
theorem isId_any (n : Int) (w : World) : Calls Try.prog 26 #[.int .i64 n] w fun e w' => e = .returned (.bool (inR n 1 99)) ∧ w = w' := by
  go_enter Try.func26, Try.ntmps26
  go_wp2
  all_goals
    go_ret
    refine ⟨ret_bool ?_, rfl⟩
    rw [Bool.eq_iff_iff]
    simp only [inR, decide_eq_true_eq, Bool.false_eq_true, true_iff, false_iff, eq_self, or_true, true_and]
    omega
theorem l23Pond_any (n : Int) (w : World) : Calls Try.prog 45 #[.int .i64 n] w fun e w' => e = .returned (.bool (inR n 1 99)) ∧ w = w' := by
  go_enter Try.func45, Try.ntmps45
  go_wp2
  all_goals
    go_ret
    refine ⟨ret_bool ?_, rfl⟩
    rw [Bool.eq_iff_iff]
    simp only [inR, decide_eq_true_eq, Bool.false_eq_true, true_iff, false_iff, eq_self, or_true, true_and]
    omega
end Go.Proofs.Ytcecpioiagfoiaa
