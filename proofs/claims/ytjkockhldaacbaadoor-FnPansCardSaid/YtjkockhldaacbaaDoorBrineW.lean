/-
  The reference's sums, parts and rests of brines.
-/
import Derived.Test.YtjkockhldaacbaaDoorWorksM
namespace Go.Proofs.YtjkockhldaacbaaDoor
open Go.RowKit
set_option linter.unusedVariables false
set_option linter.unusedSimpArgs false
attribute [local go_sem ↓] Go.wp_at_zero Go.wp_at_succ
set_option maxRecDepth 100000 in
theorem l2Sum_any (wa sa wb sb : Int) (w : World) :
    Calls Tryd.prog 80 #[.agg #[.int .i64 wa, .int .i64 sa], .agg #[.int .i64 wb, .int .i64 sb]] w fun e w' => e = .returned (.agg #[.int .i64 (wrap64 (wa + wb)), .int .i64 (wrap64 (sa + sb))]) ∧ Below w.heap.size w w' := by
  go_enter Tryd.func80, Tryd.ntmps80
  go_wp2
  go_returns
  exact ⟨rfl, (((Below.refl _ w).alloc (Nat.le_refl _) _).alloc (by simp) _).alloc (by simp; omega) _⟩
set_option maxRecDepth 100000 in
theorem l2Left_any (wa sa wb sb : Int) (w : World) :
    Calls Tryd.prog 82 #[.agg #[.int .i64 wa, .int .i64 sa], .agg #[.int .i64 wb, .int .i64 sb]] w fun e w' => e = .returned (.agg #[.int .i64 (wrap64 (wa - wb)), .int .i64 (wrap64 (sa - sb))]) ∧ Below w.heap.size w w' := by
  go_enter Tryd.func82, Tryd.ntmps82
  go_wp2
  go_returns
  exact ⟨rfl, (((Below.refl _ w).alloc (Nat.le_refl _) _).alloc (by simp) _).alloc (by simp; omega) _⟩
end Go.Proofs.YtjkockhldaacbaaDoor
