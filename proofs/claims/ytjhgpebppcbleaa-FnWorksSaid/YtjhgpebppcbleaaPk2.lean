/-
  Several short texts in one: Base, Small.
-/
import Derived.WalkKit
import Derived.Test.YtjhgpebppcbleaaProg
import Derived.BigGuardPart
/-
  Small plain words that several texts share.
-/

namespace Go.Proofs.Ytjhgpebppcbleaa
open Go.RowKit
set_option linter.unusedVariables false
theorem ret_bool {a b : Bool} (h : a = b) : Ending.returned (.bool a) = Ending.returned (.bool b) := by rw [h]
theorem ret_int {k : IntKind} {a b : Int} (h : a = b) : Ending.returned (.int k a) = Ending.returned (.int k b) := by rw [h]
def allTo (p : Nat → Bool) : Nat → Bool
  | 0 => true
  | k + 1 => allTo p k && p k
theorem allTo_false {p : Nat → Bool} {k n : Nat} (hk : k < n) (h : p k = false) : allTo p n = false := by
  induction n with
  | zero => omega
  | succ n ih =>
    unfold allTo
    by_cases e : k = n
    · subst e; simp [h]
    · rw [ih (by omega)]; rfl
theorem allTo_at {p : Nat → Bool} {k n : Nat} (hk : k < n) (h : allTo p n = true) : p k = true := by
  cases hp : p k with
  | true => rfl
  | false => rw [allTo_false hk hp] at h; cases h
theorem allTo_succ {p : Nat → Bool} {k : Nat} (h : allTo p k = true) (hp : p k = true) : allTo p (k + 1) = true := by simp [allTo, h, hp]
/-- The first of the greatest among the first k, by the test 'lt'. -/
def bestBy (lt : Nat → Nat → Bool) : Nat → Nat
  | 0 => 0
  | k + 1 => if lt (bestBy lt k) k then k else bestBy lt k
theorem bestBy_lt (lt : Nat → Nat → Bool) {n : Nat} (hn : 0 < n) : ∀ k, k ≤ n → bestBy lt k < n := by
  intro k
  induction k with
  | zero => intro _; exact hn
  | succ k ih =>
    intro hk
    unfold bestBy
    split
    · omega
    · exact ih (by omega)
theorem bestBy_yes {lt : Nat → Nat → Bool} {k : Nat} (h : lt (bestBy lt k) k = true) : bestBy lt (k + 1) = k := by unfold bestBy; rw [if_pos h]
theorem bestBy_no {lt : Nat → Nat → Bool} {k : Nat} (h : lt (bestBy lt k) k = false) : bestBy lt (k + 1) = bestBy lt k := by rw [bestBy, if_neg (by simp [h])]
theorem bestBy_one (lt : Nat → Nat → Bool) : bestBy lt 1 = 0 := by unfold bestBy; split <;> rfl
def inR (n lo hi : Int) : Bool := decide (lo ≤ n ∧ n ≤ hi)
/-- Of the first k, those that t takes, each as g has it. -/
def pick (t : Nat → Bool) (g : Nat → Int) : Nat → List Int
  | 0 => []
  | k + 1 => if t k then pick t g k ++ [g k] else pick t g k
theorem pick_yes {t : Nat → Bool} {g : Nat → Int} {k : Nat} (h : t k = true) : pick t g (k + 1) = pick t g k ++ [g k] := by simp [pick, h]
theorem pick_no {t : Nat → Bool} {g : Nat → Int} {k : Nat} (h : t k = false) : pick t g (k + 1) = pick t g k := by simp [pick, h]
theorem pick_len (t : Nat → Bool) (g : Nat → Int) : ∀ k, (pick t g k).length ≤ k := by
  intro k
  induction k with
  | zero => simp [pick]
  | succ k ih =>
    unfold pick
    split
    · simp; omega
    · omega
theorem pick_congr {t t' : Nat → Bool} {g g' : Nat → Int} : ∀ k, (∀ j, j < k → t j = t' j ∧ g j = g' j) → pick t g k = pick t' g' k := by
  intro k
  induction k with
  | zero => intro _; rfl
  | succ k ih =>
    intro h
    unfold pick
    rw [ih (fun j hj => h j (by omega)), (h k (by omega)).1, (h k (by omega)).2]
end Go.Proofs.Ytjhgpebppcbleaa
/-
  Small tests: a number lies in a range.
-/

namespace Go.Proofs.Ytjhgpebppcbleaa
open Go.RowKit
set_option linter.unusedVariables false
set_option linter.unusedSimpArgs false
theorem within_any (n lo hi : Int) (w : World) : Calls Try.prog 40 #[.int .i64 n, .int .i64 lo, .int .i64 hi] w fun e w' => e = .returned (.bool (inR n lo hi)) ∧ w = w' := by
  go_enter Try.func40, Try.ntmps40
  go_wp2
  all_goals
    go_ret
    refine ⟨ret_bool ?_, rfl⟩
    rw [Bool.eq_iff_iff]
    simp only [inR, decide_eq_true_eq, Bool.false_eq_true, true_iff, false_iff, eq_self, or_true, true_and]
    omega
theorem l1In_any (n lo hi : Int) (w : World) : Calls Try.prog 76 #[.int .i64 n, .int .i64 lo, .int .i64 hi] w fun e w' => e = .returned (.bool (inR n lo hi)) ∧ w = w' := by
  go_enter Try.func76, Try.ntmps76
  go_wp2
  all_goals
    go_ret
    refine ⟨ret_bool ?_, rfl⟩
    rw [Bool.eq_iff_iff]
    simp only [inR, decide_eq_true_eq, Bool.false_eq_true, true_iff, false_iff, eq_self, or_true, true_and]
    omega
theorem isId_any (n : Int) (w : World) : Calls Try.prog 48 #[.int .i64 n] w fun e w' => e = .returned (.bool (inR n 1 99)) ∧ w = w' := by
  go_enter Try.func48, Try.ntmps48
  go_wp2
  all_goals
    go_ret
    refine ⟨ret_bool ?_, rfl⟩
    rw [Bool.eq_iff_iff]
    simp only [inR, decide_eq_true_eq, Bool.false_eq_true, true_iff, false_iff, eq_self, or_true, true_and]
    omega
theorem isKilos_any (n : Int) (w : World) : Calls Try.prog 47 #[.int .i64 n] w fun e w' => e = .returned (.bool (inR n 0 1000000)) ∧ w = w' := by
  go_enter Try.func47, Try.ntmps47
  go_wp2
  all_goals
    go_ret
    refine ⟨ret_bool ?_, rfl⟩
    rw [Bool.eq_iff_iff]
    simp only [inR, decide_eq_true_eq, Bool.false_eq_true, true_iff, false_iff, eq_self, or_true, true_and]
    omega
theorem l21Kilos_any (n : Int) (w : World) : Calls Try.prog 74 #[.int .i64 n] w fun e w' => e = .returned (.bool (inR n 0 1000000)) ∧ w = w' := by
  go_enter Try.func74, Try.ntmps74
  go_wp2
  all_goals
    go_ret
    refine ⟨ret_bool ?_, rfl⟩
    rw [Bool.eq_iff_iff]
    simp only [inR, decide_eq_true_eq, Bool.false_eq_true, true_iff, false_iff, eq_self, or_true, true_and]
    omega
end Go.Proofs.Ytjhgpebppcbleaa
