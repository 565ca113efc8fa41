/-
  Several short texts in one: RowB, Region, Small.
-/
import Derived.Test.YtjkockhldaacbaaDoorMem
import Derived.WalkKit
import Derived.RegionTactic
import Derived.Deep.RegionWith
import Derived.Deep.RegionHeld3
import Derived.Test.YtjkockhldaacbaaDoorProg
import Derived.Test.YtjkockhldaacbaaDoorPk1
import Derived.BigGuardPart
/-
  A block stays as it was where only later blocks are made.
-/

namespace Go.Proofs.YtjkockhldaacbaaDoor
open Go.RowKit
theorem rowB {X w' : World} {g : Nat} {o : Obj} (hX : X.heap[g]? = some o) (h : Below X.heap.size X w') : w'.heap[g]? = some o :=
  (h.block g (Array.getElem?_eq_some_iff.1 hX).1).trans hX
theorem rowLt {w : World} {r : Nat} {o : Obj} (h : w.heap[r]? = some o) : r < w.heap.size := (Array.getElem?_eq_some_iff.1 h).1
theorem name_wp {P : Program} {c : Code} {Q : Exit → Act → World → Prop} {a : Act} {W : World} (h : ∀ w2, w2 = W → c.wp P Q a w2) : c.wp P Q a W := h W rfl
end Go.Proofs.YtjkockhldaacbaaDoor
/-
  Steps through a region whose order is drawn: operations that are not wanted (their guard says no) are passed over in one step.
-/

namespace Go.Proofs.YtjkockhldaacbaaDoor
set_option linter.unusedVariables false
set_option linter.unusedSimpArgs false

def skipL : List (Nat × Nat) → Array Bool → Array Bool
  | [], l => l
  | (i, _) :: L, l => skipL L (l.setIfInBounds i true)
def skipA : List (Nat × Nat) → Act → Act
  | [], a => a
  | (_, d) :: L, a => skipA L (a.put (some d) undef)
def skipsOk (md : Region.Mode) (ops : Array Oper) : List (Nat × Nat) → Array Bool → Act → Bool
  | [], _, _ => true
  | (i, d) :: L, l, a => (match ops[i]? with
      | some o => (o.dst == some d) && !(Region.wanted o (yielded ops a.tmps))
      | none => false) && Region.free md ops l i && (Region.ready md ops l).contains i && skipsOk md ops L (l.setIfInBounds i true) (a.put (some d) undef)

theorem wpAny_skips {P : Program} {md : Region.Mode} {ops : Array Oper} {Q : Exit → Act → World → Prop} {w : World} (hs : Region.noSelect ops = true)
    (hQ : ∀ c a (d : Nat) v w, Q (.panic c) (Act.put a (some d) v) w → Q (.panic c) a w) (L : List (Nat × Nat)) : ∀ (fuel n : Nat) (l : Array Bool) (a : Act), L.length = n →
    skipsOk md ops L l a = true → wpAny P md ops Q fuel (skipL L l) (skipA L a) w → wpAny P md ops Q (fuel + n) l a w := by
  induction L with
  | nil =>
    intro fuel n l a hn _ h
    subst hn
    exact h
  | cons x L ih =>
    intro fuel n l a hn hok h
    obtain ⟨i, d⟩ := x
    subst hn
    simp only [skipsOk, Bool.and_eq_true] at hok
    obtain ⟨⟨⟨h1, h2⟩, h3⟩, h4⟩ := hok
    cases ho : ops[i]? with
    | none => rw [ho] at h1; simp at h1
    | some o =>
      rw [ho] at h1
      simp only [Bool.and_eq_true, beq_iff_eq, Bool.not_eq_true'] at h1
      obtain ⟨hd, hw⟩ := h1
      have := ih fuel L.length (l.setIfInBounds i true) (a.put (some d) undef) rfl h4 h
      rw [← hd] at this
      exact wpAny_take (fuel := fuel + L.length) ho hs h2 h3 (fun c a w hh => by rw [hd] at hh; exact hQ c a _ _ w hh) (Or.inr ⟨hw, rfl⟩) this
theorem wpAnyH_skips {P : Program} {md : Region.Mode} {ops : Array Oper} {Q : Exit → Act → World → Prop} {S : World → Prop} {w : World} (hs : Region.noSelect ops = true)
    (hQ : ∀ c a (d : Nat) v w, Q (.panic c) (Act.put a (some d) v) w → Q (.panic c) a w) (hS : S w) (L : List (Nat × Nat)) : ∀ (fuel n : Nat) (l : Array Bool) (a : Act), L.length = n →
    skipsOk md ops L l a = true → wpAnyH P md ops Q S fuel (skipL L l) (skipA L a) w → wpAnyH P md ops Q S (fuel + n) l a w := by
  induction L with
  | nil =>
    intro fuel n l a hn _ h
    subst hn
    exact h
  | cons x L ih =>
    intro fuel n l a hn hok h
    obtain ⟨i, d⟩ := x
    subst hn
    simp only [skipsOk, Bool.and_eq_true] at hok
    obtain ⟨⟨⟨h1, h2⟩, h3⟩, h4⟩ := hok
    cases ho : ops[i]? with
    | none => rw [ho] at h1; simp at h1
    | some o =>
      rw [ho] at h1
      simp only [Bool.and_eq_true, beq_iff_eq, Bool.not_eq_true'] at h1
      obtain ⟨hd, hw⟩ := h1
      have := ih fuel L.length (l.setIfInBounds i true) (a.put (some d) undef) rfl h4 h
      rw [← hd] at this
      exact wpAnyH_take (fuel := fuel + L.length) ho hs h2 h3 (fun c a w hh => by rw [hd] at hh; exact hQ c a _ _ w hh) (Or.inr ⟨hw, rfl⟩) hS this
/-- As the kit's law, the operation's fields bound one by one: the state behind it then needs no look into the list. -/
theorem wpAnyH_takeD {P : Program} {md : Region.Mode} {ops : Array Oper} {Q : Exit → Act → World → Prop} {S : World → Prop} {i d : Nat} {op : Op} {ty : TypeId} {pos : String} {af : Array Edge} {gd : Option (Nat × Bool)} {v : Value} {fuel : Nat} {listed : Array Bool} {a : Act} {w : World}
    (hi : ops[i]? = some ⟨some d, op, ty, pos, af, gd⟩) (hs : Region.noSelect ops = true) (hf : Region.free md ops listed i = true) (hr : (Region.ready md ops listed).contains i = true)
    (hQ : ∀ c a w, Q (.panic c) (a.put (some d) v) w → Q (.panic c) a w) (hwant : Region.wanted ⟨some d, op, ty, pos, af, gd⟩ (yielded ops a.tmps) = true)
    (hy : ∀ w, S w → (execOp a.eval ⟨some d, op, ty, pos, af, gd⟩).run P w = .ok (.value v) w) (hS : S w)
    (h : wpAnyH P md ops Q S fuel (listed.setIfInBounds i true) (a.put (some d) v) w) : wpAnyH P md ops Q S (fuel + 1) listed a w :=
  wpAnyH_take hi hs hf hr hQ (Or.inl ⟨hwant, hy⟩) hS h
end Go.Proofs.YtjkockhldaacbaaDoor
/-
  Small tests: a number lies in a range.
-/

namespace Go.Proofs.YtjkockhldaacbaaDoor
open Go.RowKit
set_option linter.unusedVariables false
set_option linter.unusedSimpArgs false
theorem within_any (n lo hi : Int) (w : World) : Calls Tryd.prog 29 #[.int .i64 n, .int .i64 lo, .int .i64 hi] w fun e w' => e = .returned (.bool (inR n lo hi)) ∧ w = w' := by
  go_enter Tryd.func29, Tryd.ntmps29
  go_wp2
  all_goals
    go_ret
    refine ⟨ret_bool ?_, rfl⟩
    rw [Bool.eq_iff_iff]
    simp only [inR, decide_eq_true_eq, Bool.false_eq_true, true_iff, false_iff, eq_self, or_true, true_and]
    omega
theorem l1In_any (n lo hi : Int) (w : World) : Calls Tryd.prog 71 #[.int .i64 n, .int .i64 lo, .int .i64 hi] w fun e w' => e = .returned (.bool (inR n lo hi)) ∧ w = w' := by
  go_enter Tryd.func71, Tryd.ntmps71
  go_wp2
  all_goals
    go_ret
    refine ⟨ret_bool ?_, rfl⟩
    rw [Bool.eq_iff_iff]
    simp only [inR, decide_eq_true_eq, Bool.false_eq_true, true_iff, false_iff, eq_self, or_true, true_and]
    omega
theorem isId_any (n : Int) (w : World) : Calls Tryd.prog 50 #[.int .i64 n] w fun e w' => e = .returned (.bool (inR n 1 99)) ∧ w = w' := by
  go_enter Tryd.func50, Tryd.ntmps50
  go_wp2
  all_goals
    go_ret
    refine ⟨ret_bool ?_, rfl⟩
    rw [Bool.eq_iff_iff]
    simp only [inR, decide_eq_true_eq, Bool.false_eq_true, true_iff, false_iff, eq_self, or_true, true_and]
    omega
theorem isKilos_any (n : Int) (w : World) : Calls Tryd.prog 49 #[.int .i64 n] w fun e w' => e = .returned (.bool (inR n 0 1000000)) ∧ w = w' := by
  go_enter Tryd.func49, Tryd.ntmps49
  go_wp2
  all_goals
    go_ret
    refine ⟨ret_bool ?_, rfl⟩
    rw [Bool.eq_iff_iff]
    simp only [inR, decide_eq_true_eq, Bool.false_eq_true, true_iff, false_iff, eq_self, or_true, true_and]
    omega
theorem l21Kilos_any (n : Int) (w : World) : Calls Tryd.prog 54 #[.int .i64 n] w fun e w' => e = .returned (.bool (inR n 0 1000000)) ∧ w = w' := by
  go_enter Tryd.func54, Tryd.ntmps54
  go_wp2
  all_goals
    go_ret
    refine ⟨ret_bool ?_, rfl⟩
    rw [Bool.eq_iff_iff]
    simp only [inR, decide_eq_true_eq, Bool.false_eq_true, true_iff, false_iff, eq_self, or_true, true_and]
    omega
end Go.Proofs.YtjkockhldaacbaaDoor
