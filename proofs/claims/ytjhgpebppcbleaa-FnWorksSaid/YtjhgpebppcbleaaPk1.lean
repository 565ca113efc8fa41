/-
  Several short texts in one: Mini, Region.
-/
import Derived.WalkKit
import Derived.RegionTactic
import Derived.Deep.RegionWith
import Derived.Deep.RegionHeld3
import Derived.Deep.Quiet
/-
  Short forms of two steps that stand often in the texts: an operation of a drawn region taken first, and the cells of a block.
-/

namespace Go.Proofs.Ytjhgpebppcbleaa
open Go.RowKit
set_option linter.unusedVariables false
set_option linter.unusedSimpArgs false
theorem p1 {α : Type} {xs : List α} {i : Nat} {x : α} : xs.toArray.setIfInBounds i x = (xs.set i x).toArray := List.setIfInBounds_toArray ..
theorem p2 {α : Type} {x : α} {xs : List α} {a : α} : (x :: xs).set 0 a = a :: xs := List.set_cons_zero
theorem p3 {α : Type} {x : α} {xs : List α} {i : Nat} {a : α} : (x :: xs).set (i + 1) a = x :: xs.set i a := List.set_cons_succ
theorem tk {P : Program} {md : Region.Mode} {ops : Array Oper} {Q : Exit → Act → World → Prop} {S F : World → Prop} (i d : Nat) {op : Op} {ty : TypeId} {pos : String} {af : Array Edge} {gd : Option (Nat × Bool)} {v : Value} {fuel : Nat} {listed : Array Bool} {a : Act} {w : World}
    (HF : Hid (∀ w, S w → F w)) (hi : ops[i]? = some ⟨some d, op, ty, pos, af, gd⟩) (hy : ∀ w, S w → F w → (execOp a.eval ⟨some d, op, ty, pos, af, gd⟩).run P w = .ok (.value v) w) (hS : S w)
    (h : wpAnyH P md ops Q S fuel (listed.setIfInBounds i true) (a.put (some d) v) w) (hs : Region.noSelect ops = true := by kernel_rfl) (hf : Region.free md ops listed i = true := by kernel_rfl) (hr : (Region.ready md ops listed).contains i = true := by kernel_rfl)
    (hQ : ∀ c a w, Q (.panic c) (a.put (some d) v) w → Q (.panic c) a w := by exact fun _ _ _ h => h) (hwant : Region.wanted ⟨some d, op, ty, pos, af, gd⟩ (yielded ops a.tmps) = true := by rfl) : wpAnyH P md ops Q S (fuel + 1) listed a w :=
  wpAnyH_take hi hs hf hr hQ (Or.inl ⟨hwant, fun w hw => hy w hw (HF.out w hw)⟩) hS h
theorem tq {P : Program} {ops : Array Oper} {C F : World → Prop} {Q : Act → Prop} (d : Nat) {op : Op} {ty : TypeId} {pos : String} {af : Array Edge} {gd : Option (Nat × Bool)} {v : Value} {a : Act} {rest : List Oper}
    (HF : Hid (∀ w, C w → F w)) (hy : ∀ w, C w → F w → (execOp a.eval ⟨some d, op, ty, pos, af, gd⟩).run P w = .ok (.value v) w) (h : wpQuiet P ops C Q rest (a.put (some d) v))
    (hw : Region.wanted ⟨some d, op, ty, pos, af, gd⟩ (yielded ops a.tmps) = true := by rfl) : wpQuiet P ops C Q (⟨some d, op, ty, pos, af, gd⟩ :: rest) a := by
  refine wpQuiet_step fun K hK => ?_
  rw [if_pos hw]
  refine ⟨v, fun w hC => ?_, hK _ h⟩
  unfold Oper.quietAt
  rw [hy w hC (HF.out w hC)]
  exact ⟨rfl, rfl⟩
theorem cells2 {w : World} {g : Nat} {a b : Value} {T : TypeId} (h : w.heap[g]? = some (.cells #[a, b] T (0, 0))) : w.cell? ⟨g, 0, none⟩ = some a ∧ w.cell? ⟨g, 1, none⟩ = some b :=
  ⟨by rw [cell_of_row w g 0 _ _ (0, 0) h]; rfl, by rw [cell_of_row w g 1 _ _ (0, 0) h]; rfl⟩
theorem cells3 {w : World} {g : Nat} {a b c : Value} {T : TypeId} (h : w.heap[g]? = some (.cells #[a, b, c] T (0, 0))) : w.cell? ⟨g, 0, none⟩ = some a ∧ w.cell? ⟨g, 1, none⟩ = some b ∧ w.cell? ⟨g, 2, none⟩ = some c :=
  ⟨by rw [cell_of_row w g 0 _ _ (0, 0) h]; rfl, by rw [cell_of_row w g 1 _ _ (0, 0) h]; rfl, by rw [cell_of_row w g 2 _ _ (0, 0) h]; rfl⟩
theorem cells4 {w : World} {g : Nat} {a b c d : Value} {T : TypeId} (h : w.heap[g]? = some (.cells #[a, b, c, d] T (0, 0))) : w.cell? ⟨g, 0, none⟩ = some a ∧ w.cell? ⟨g, 1, none⟩ = some b ∧ w.cell? ⟨g, 2, none⟩ = some c ∧ w.cell? ⟨g, 3, none⟩ = some d :=
  ⟨by rw [cell_of_row w g 0 _ _ (0, 0) h]; rfl, by rw [cell_of_row w g 1 _ _ (0, 0) h]; rfl, by rw [cell_of_row w g 2 _ _ (0, 0) h]; rfl, by rw [cell_of_row w g 3 _ _ (0, 0) h]; rfl⟩
theorem cells5 {w : World} {g : Nat} {a b c d e : Value} {T : TypeId} (h : w.heap[g]? = some (.cells #[a, b, c, d, e] T (0, 0))) : w.cell? ⟨g, 0, none⟩ = some a ∧ w.cell? ⟨g, 1, none⟩ = some b ∧ w.cell? ⟨g, 2, none⟩ = some c ∧ w.cell? ⟨g, 3, none⟩ = some d ∧ w.cell? ⟨g, 4, none⟩ = some e :=
  ⟨by rw [cell_of_row w g 0 _ _ (0, 0) h]; rfl, by rw [cell_of_row w g 1 _ _ (0, 0) h]; rfl, by rw [cell_of_row w g 2 _ _ (0, 0) h]; rfl, by rw [cell_of_row w g 3 _ _ (0, 0) h]; rfl, by rw [cell_of_row w g 4 _ _ (0, 0) h]; rfl⟩
end Go.Proofs.Ytjhgpebppcbleaa
/-
  Steps through a region whose order is drawn: operations that are not wanted (their guard says no) are passed over in one step.
-/

namespace Go.Proofs.Ytjhgpebppcbleaa
set_option linter.unusedVariables false
set_option linter.unusedSimpArgs false

def skipL : List (Nat × Nat) → Array Bool → Array Bool
  | [], l => l
  | (i, _) :: L, l => skipL L (l.setIfInBounds i true)
def skipA : List (Nat × Nat) → Act → Act
  | [], a => a
  | (_, d) :: L, a => skipA L (a.put (some d) undef)
def skipsOk (md : Region.Mode) (ops : Array Oper) : List (Nat × Nat) → Array Bool → Act → Bool
  | [], _, _ => true
  | (i, d) :: L, l, a => (match ops[i]? with
      | some o => (o.dst == some d) && !(Region.wanted o (yielded ops a.tmps))
      | none => false) && Region.free md ops l i && (Region.ready md ops l).contains i && skipsOk md ops L (l.setIfInBounds i true) (a.put (some d) undef)

theorem wpAny_skips {P : Program} {md : Region.Mode} {ops : Array Oper} {Q : Exit → Act → World → Prop} {w : World} (hs : Region.noSelect ops = true)
    (hQ : ∀ c a (d : Nat) v w, Q (.panic c) (Act.put a (some d) v) w → Q (.panic c) a w) (L : List (Nat × Nat)) : ∀ (fuel n : Nat) (l : Array Bool) (a : Act), L.length = n →
    skipsOk md ops L l a = true → wpAny P md ops Q fuel (skipL L l) (skipA L a) w → wpAny P md ops Q (fuel + n) l a w := by
  induction L with
  | nil =>
    intro fuel n l a hn _ h
    subst hn
    exact h
  | cons x L ih =>
    intro fuel n l a hn hok h
    obtain ⟨i, d⟩ := x
    subst hn
    simp only [skipsOk, Bool.and_eq_true] at hok
    obtain ⟨⟨⟨h1, h2⟩, h3⟩, h4⟩ := hok
    cases ho : ops[i]? with
    | none => rw [ho] at h1; simp at h1
    | some o =>
      rw [ho] at h1
      simp only [Bool.and_eq_true, beq_iff_eq, Bool.not_eq_true'] at h1
      obtain ⟨hd, hw⟩ := h1
      have := ih fuel L.length (l.setIfInBounds i true) (a.put (some d) undef) rfl h4 h
      rw [← hd] at this
      exact wpAny_take (fuel := fuel + L.length) ho hs h2 h3 (fun c a w hh => by rw [hd] at hh; exact hQ c a _ _ w hh) (Or.inr ⟨hw, rfl⟩) this
theorem wpAnyH_skips {P : Program} {md : Region.Mode} {ops : Array Oper} {Q : Exit → Act → World → Prop} {S : World → Prop} {w : World} (hs : Region.noSelect ops = true)
    (hQ : ∀ c a (d : Nat) v w, Q (.panic c) (Act.put a (some d) v) w → Q (.panic c) a w) (hS : S w) (L : List (Nat × Nat)) : ∀ (fuel n : Nat) (l : Array Bool) (a : Act), L.length = n →
    skipsOk md ops L l a = true → wpAnyH P md ops Q S fuel (skipL L l) (skipA L a) w → wpAnyH P md ops Q S (fuel + n) l a w := by
  induction L with
  | nil =>
    intro fuel n l a hn _ h
    subst hn
    exact h
  | cons x L ih =>
    intro fuel n l a hn hok h
    obtain ⟨i, d⟩ := x
    subst hn
    simp only [skipsOk, Bool.and_eq_true] at hok
    obtain ⟨⟨⟨h1, h2⟩, h3⟩, h4⟩ := hok
    cases ho : ops[i]? with
    | none => rw [ho] at h1; simp at h1
    | some o =>
      rw [ho] at h1
      simp only [Bool.and_eq_true, beq_iff_eq, Bool.not_eq_true'] at h1
      obtain ⟨hd, hw⟩ := h1
      have := ih fuel L.length (l.setIfInBounds i true) (a.put (some d) undef) rfl h4 h
      rw [← hd] at this
      exact wpAnyH_take (fuel := fuel + L.length) ho hs h2 h3 (fun c a w hh => by rw [hd] at hh; exact hQ c a _ _ w hh) (Or.inr ⟨hw, rfl⟩) hS this
/-- As the kit's law, the operation's fields bound one by one: the state behind it then needs no look into the list. -/
theorem wpAnyH_takeD {P : Program} {md : Region.Mode} {ops : Array Oper} {Q : Exit → Act → World → Prop} {S : World → Prop} {i d : Nat} {op : Op} {ty : TypeId} {pos : String} {af : Array Edge} {gd : Option (Nat × Bool)} {v : Value} {fuel : Nat} {listed : Array Bool} {a : Act} {w : World}
    (hi : ops[i]? = some ⟨some d, op, ty, pos, af, gd⟩) (hs : Region.noSelect ops = true) (hf : Region.free md ops listed i = true) (hr : (Region.ready md ops listed).contains i = true)
    (hQ : ∀ c a w, Q (.panic c) (a.put (some d) v) w → Q (.panic c) a w) (hwant : Region.wanted ⟨some d, op, ty, pos, af, gd⟩ (yielded ops a.tmps) = true)
    (hy : ∀ w, S w → (execOp a.eval ⟨some d, op, ty, pos, af, gd⟩).run P w = .ok (.value v) w) (hS : S w)
    (h : wpAnyH P md ops Q S fuel (listed.setIfInBounds i true) (a.put (some d) v) w) : wpAnyH P md ops Q S (fuel + 1) listed a w :=
  wpAnyH_take hi hs hf hr hQ (Or.inl ⟨hwant, hy⟩) hS h
end Go.Proofs.Ytjhgpebppcbleaa
