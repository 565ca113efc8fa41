/-
  Small tests: a number lies in a range.
-/
import Derived.Test.YtegklcapfjigaaaDoorProg
import Derived.Test.YtegklcapfjigaaaDoorBase
import Derived.BigGuardPart
namespace Go.Proofs.YtegklcapfjigaaaDoor
open Go.RowKit
set_option linter.unusedVariables false
set_option linter.unusedSimpArgs false
theorem within_any (n lo hi : Int) (w : World) : Calls Tryd.prog 31 #[.int .i64 n, .int .i64 lo, .int .i64 hi] w fun e w' => e = .returned (.bool (inR n lo hi)) ∧ w = w' := by
  go_enter Tryd.func31, Tryd.ntmps31
  go_wp2
  all_goals
    go_ret
    refine ⟨ret_bool ?_, rfl⟩
    rw [Bool.eq_iff_iff]
    simp only [inR, decide_eq_true_eq, Bool.false_eq_true, true_iff, false_iff, eq_self, or_true, true_and]
    omega
theorem l1In_any (n lo hi : Int) (w : World) : Calls Tryd.prog 51 #[.int .i64 n, .int .i64 lo, .int .i64 hi] w fun e w' => e = .returned (.bool (inR n lo hi)) ∧ w = w' := by
  go_enter Tryd.func51, Tryd.ntmps51
  go_wp2
  all_goals
    go_ret
    refine ⟨ret_bool ?_, rfl⟩
    rw [Bool.eq_iff_iff]
    simp only [inR, decide_eq_true_eq, Bool.false_eq_true, true_iff, false_iff, eq_self, or_true, true_and]
    omega
theorem isId_any (n : Int) (w : World) : Calls Tryd.prog 30 #[.int .i64 n] w fun e w' => e = .returned (.bool (inR n 1 99)) ∧ w = w' := by
  go_enter Tryd.func30, Tryd.ntmps30
  go_wp2
  all_goals
    go_ret
    refine ⟨ret_bool ?_, rfl⟩
    rw [Bool.eq_iff_iff]
    simp only [inR, decide_eq_true_eq, Bool.false_eq_true, true_iff, false_iff, eq_self, or_true, true_and]
    omega
theorem isKilos_any (n : Int) (w : World) : Calls Tryd.prog 29 #[.int .i64 n] w fun e w' => e = .returned (.bool (inR n 0 1000000)) ∧ w = w' := by
  go_enter Tryd.func29, Tryd.ntmps29
  go_wp2
  all_goals
    go_ret
    refine ⟨ret_bool ?_, rfl⟩
    rw [Bool.eq_iff_iff]
    simp only [inR, decide_eq_true_eq, Bool.false_eq_true, true_iff, false_iff, eq_self, or_true, true_and]
    omega
theorem l21Kilos_any (n : Int) (w : World) : Calls Tryd.prog 42 #[.int .i64 n] w fun e w' => e = .returned (.bool (inR n 0 1000000)) ∧ w = w' := by
  go_enter Tryd.func42, Tryd.ntmps42
  go_wp2
  all_goals
    go_ret
    refine ⟨ret_bool ?_, rfl⟩
    rw [Bool.eq_iff_iff]
    simp only [inR, decide_eq_true_eq, Bool.false_eq_true, true_iff, false_iff, eq_self, or_true, true_and]
    omega
end Go.Proofs.YtegklcapfjigaaaDoor
