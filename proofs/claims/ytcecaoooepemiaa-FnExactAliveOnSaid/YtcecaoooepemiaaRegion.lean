/-
  Steps through a region whose order is drawn: operations that are not wanted (their guard says no) are passed over in one step.
-/
import Derived.WalkKit
import Derived.RegionTactic
import Derived.Deep.RegionWith
namespace Go.Proofs.Ytcecaoooepemiaa
set_option linter.unusedVariables false
set_option linter.unusedSimpArgs false

def skipL : List (Nat × Nat) → Array Bool → Array Bool
  | [], l => l
  | (i, _) :: L, l => skipL L (l.setIfInBounds i true)
def skipA : List (Nat × Nat) → Act → Act
  | [], a => a
  | (_, d) :: L, a => skipA L (a.put (some d) undef)
def skipsOk (md : Region.Mode) (ops : Array Oper) : List (Nat × Nat) → Array Bool → Act → Bool
  | [], _, _ => true
  | (i, d) :: L, l, a => (match ops[i]? with
      | some o => (o.dst == some d) && !(Region.wanted o (yielded ops a.tmps))
      | none => false) && Region.free md ops l i && (Region.ready md ops l).contains i && skipsOk md ops L (l.setIfInBounds i true) (a.put (some d) undef)

theorem wpAny_skips {P : Program} {md : Region.Mode} {ops : Array Oper} {Q : Exit → Act → World → Prop} {w : World} (hs : Region.noSelect ops = true)
    (hQ : ∀ c a (d : Nat) v w, Q (.panic c) (Act.put a (some d) v) w → Q (.panic c) a w) (L : List (Nat × Nat)) : ∀ (fuel n : Nat) (l : Array Bool) (a : Act), L.length = n →
    skipsOk md ops L l a = true → wpAny P md ops Q fuel (skipL L l) (skipA L a) w → wpAny P md ops Q (fuel + n) l a w := by
  induction L with
  | nil =>
    intro fuel n l a hn _ h
    subst hn
    exact h
  | cons x L ih =>
    intro fuel n l a hn hok h
    obtain ⟨i, d⟩ := x
    subst hn
    simp only [skipsOk, Bool.and_eq_true] at hok
    obtain ⟨⟨⟨h1, h2⟩, h3⟩, h4⟩ := hok
    cases ho : ops[i]? with
    | none => rw [ho] at h1; simp at h1
    | some o =>
      rw [ho] at h1
      simp only [Bool.and_eq_true, beq_iff_eq, Bool.not_eq_true'] at h1
      obtain ⟨hd, hw⟩ := h1
      have := ih fuel L.length (l.setIfInBounds i true) (a.put (some d) undef) rfl h4 h
      rw [← hd] at this
      exact wpAny_take (fuel := fuel + L.length) ho hs h2 h3 (fun c a w hh => by rw [hd] at hh; exact hQ c a _ _ w hh) (Or.inr ⟨hw, rfl⟩) this
end Go.Proofs.Ytcecaoooepemiaa
