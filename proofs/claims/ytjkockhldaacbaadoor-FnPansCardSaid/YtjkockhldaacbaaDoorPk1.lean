/-
  Several short texts in one: Mini, Base, RegionQ.
-/
import Derived.WalkKit
import Derived.RegionTactic
import Derived.Deep.RegionWith
import Derived.Deep.RegionHeld3
import Derived.Deep.Quiet
/-
  Short forms of two steps that stand often in the texts: an operation of a drawn region taken first, and the cells of a block.
-/

namespace Go.Proofs.YtjkockhldaacbaaDoor
open Go.RowKit
set_option linter.unusedVariables false
set_option linter.unusedSimpArgs false
theorem p1 {α : Type} {xs : List α} {i : Nat} {x : α} : xs.toArray.setIfInBounds i x = (xs.set i x).toArray := List.setIfInBounds_toArray ..
theorem p2 {α : Type} {x : α} {xs : List α} {a : α} : (x :: xs).set 0 a = a :: xs := List.set_cons_zero
theorem p3 {α : Type} {x : α} {xs : List α} {i : Nat} {a : α} : (x :: xs).set (i + 1) a = x :: xs.set i a := List.set_cons_succ
theorem tk {P : Program} {md : Region.Mode} {ops : Array Oper} {Q : Exit → Act → World → Prop} {S F : World → Prop} (i d : Nat) {op : Op} {ty : TypeId} {pos : String} {af : Array Edge} {gd : Option (Nat × Bool)} {v : Value} {fuel : Nat} {listed : Array Bool} {a : Act} {w : World}
    (HF : Hid (∀ w, S w → F w)) (hi : ops[i]? = some ⟨some d, op, ty, pos, af, gd⟩) (hy : ∀ w, S w → F w → (execOp a.eval ⟨some d, op, ty, pos, af, gd⟩).run P w = .ok (.value v) w) (hS : S w)
    (h : wpAnyH P md ops Q S fuel (listed.setIfInBounds i true) (a.put (some d) v) w) (hs : Region.noSelect ops = true := by kernel_rfl) (hf : Region.free md ops listed i = true := by kernel_rfl) (hr : (Region.ready md ops listed).contains i = true := by kernel_rfl)
    (hQ : ∀ c a w, Q (.panic c) (a.put (some d) v) w → Q (.panic c) a w := by exact fun _ _ _ h => h) (hwant : Region.wanted ⟨some d, op, ty, pos, af, gd⟩ (yielded ops a.tmps) = true := by rfl) : wpAnyH P md ops Q S (fuel + 1) listed a w :=
  wpAnyH_take hi hs hf hr hQ (Or.inl ⟨hwant, fun w hw => hy w hw (HF.out w hw)⟩) hS h
theorem tq {P : Program} {ops : Array Oper} {C F : World → Prop} {Q : Act → Prop} (d : Nat) {op : Op} {ty : TypeId} {pos : String} {af : Array Edge} {gd : Option (Nat × Bool)} {v : Value} {a : Act} {rest : List Oper}
    (HF : Hid (∀ w, C w → F w)) (hy : ∀ w, C w → F w → (execOp a.eval ⟨some d, op, ty, pos, af, gd⟩).run P w = .ok (.value v) w) (h : wpQuiet P ops C Q rest (a.put (some d) v))
    (hw : Region.wanted ⟨some d, op, ty, pos, af, gd⟩ (yielded ops a.tmps) = true := by rfl) : wpQuiet P ops C Q (⟨some d, op, ty, pos, af, gd⟩ :: rest) a := by
  refine wpQuiet_step fun K hK => ?_
  rw [if_pos hw]
  refine ⟨v, fun w hC => ?_, hK _ h⟩
  unfold Oper.quietAt
  rw [hy w hC (HF.out w hC)]
  exact ⟨rfl, rfl⟩
theorem cells2 {w : World} {g : Nat} {a b : Value} {T : TypeId} (h : w.heap[g]? = some (.cells #[a, b] T (0, 0))) : w.cell? ⟨g, 0, none⟩ = some a ∧ w.cell? ⟨g, 1, none⟩ = some b :=
  ⟨by rw [cell_of_row w g 0 _ _ (0, 0) h]; rfl, by rw [cell_of_row w g 1 _ _ (0, 0) h]; rfl⟩
theorem cells3 {w : World} {g : Nat} {a b c : Value} {T : TypeId} (h : w.heap[g]? = some (.cells #[a, b, c] T (0, 0))) : w.cell? ⟨g, 0, none⟩ = some a ∧ w.cell? ⟨g, 1, none⟩ = some b ∧ w.cell? ⟨g, 2, none⟩ = some c :=
  ⟨by rw [cell_of_row w g 0 _ _ (0, 0) h]; rfl, by rw [cell_of_row w g 1 _ _ (0, 0) h]; rfl, by rw [cell_of_row w g 2 _ _ (0, 0) h]; rfl⟩
theorem cells4 {w : World} {g : Nat} {a b c d : Value} {T : TypeId} (h : w.heap[g]? = some (.cells #[a, b, c, d] T (0, 0))) : w.cell? ⟨g, 0, none⟩ = some a ∧ w.cell? ⟨g, 1, none⟩ = some b ∧ w.cell? ⟨g, 2, none⟩ = some c ∧ w.cell? ⟨g, 3, none⟩ = some d :=
  ⟨by rw [cell_of_row w g 0 _ _ (0, 0) h]; rfl, by rw [cell_of_row w g 1 _ _ (0, 0) h]; rfl, by rw [cell_of_row w g 2 _ _ (0, 0) h]; rfl, by rw [cell_of_row w g 3 _ _ (0, 0) h]; rfl⟩
theorem cells5 {w : World} {g : Nat} {a b c d e : Value} {T : TypeId} (h : w.heap[g]? = some (.cells #[a, b, c, d, e] T (0, 0))) : w.cell? ⟨g, 0, none⟩ = some a ∧ w.cell? ⟨g, 1, none⟩ = some b ∧ w.cell? ⟨g, 2, none⟩ = some c ∧ w.cell? ⟨g, 3, none⟩ = some d ∧ w.cell? ⟨g, 4, none⟩ = some e :=
  ⟨by rw [cell_of_row w g 0 _ _ (0, 0) h]; rfl, by rw [cell_of_row w g 1 _ _ (0, 0) h]; rfl, by rw [cell_of_row w g 2 _ _ (0, 0) h]; rfl, by rw [cell_of_row w g 3 _ _ (0, 0) h]; rfl, by rw [cell_of_row w g 4 _ _ (0, 0) h]; rfl⟩
end Go.Proofs.YtjkockhldaacbaaDoor
/-
  Small plain words that several texts share.
-/

namespace Go.Proofs.YtjkockhldaacbaaDoor
open Go.RowKit
set_option linter.unusedVariables false
theorem ret_bool {a b : Bool} (h : a = b) : Ending.returned (.bool a) = Ending.returned (.bool b) := by rw [h]
theorem ret_int {k : IntKind} {a b : Int} (h : a = b) : Ending.returned (.int k a) = Ending.returned (.int k b) := by rw [h]
def allTo (p : Nat → Bool) : Nat → Bool
  | 0 => true
  | k + 1 => allTo p k && p k
theorem allTo_false {p : Nat → Bool} {k n : Nat} (hk : k < n) (h : p k = false) : allTo p n = false := by
  induction n with
  | zero => omega
  | succ n ih =>
    unfold allTo
    by_cases e : k = n
    · subst e; simp [h]
    · rw [ih (by omega)]; rfl
theorem allTo_at {p : Nat → Bool} {k n : Nat} (hk : k < n) (h : allTo p n = true) : p k = true := by
  cases hp : p k with
  | true => rfl
  | false => rw [allTo_false hk hp] at h; cases h
theorem allTo_succ {p : Nat → Bool} {k : Nat} (h : allTo p k = true) (hp : p k = true) : allTo p (k + 1) = true := by simp [allTo, h, hp]
/-- The first of the greatest among the first k, by the test 'lt'. -/
def bestBy (lt : Nat → Nat → Bool) : Nat → Nat
  | 0 => 0
  | k + 1 => if lt (bestBy lt k) k then k else bestBy lt k
theorem bestBy_lt (lt : Nat → Nat → Bool) {n : Nat} (hn : 0 < n) : ∀ k, k ≤ n → bestBy lt k < n := by
  intro k
  induction k with
  | zero => intro _; exact hn
  | succ k ih =>
    intro hk
    unfold bestBy
    split
    · omega
    · exact ih (by omega)
theorem bestBy_yes {lt : Nat → Nat → Bool} {k : Nat} (h : lt (bestBy lt k) k = true) : bestBy lt (k + 1) = k := by unfold bestBy; rw [if_pos h]
theorem bestBy_no {lt : Nat → Nat → Bool} {k : Nat} (h : lt (bestBy lt k) k = false) : bestBy lt (k + 1) = bestBy lt k := by rw [bestBy, if_neg (by simp [h])]
theorem bestBy_one (lt : Nat → Nat → Bool) : bestBy lt 1 = 0 := by unfold bestBy; split <;> rfl
def inR (n lo hi : Int) : Bool := decide (lo ≤ n ∧ n ≤ hi)
/-- Of the first k, those that t takes, each as g has it. -/
def pick (t : Nat → Bool) (g : Nat → Int) : Nat → List Int
  | 0 => []
  | k + 1 => if t k then pick t g k ++ [g k] else pick t g k
theorem pick_yes {t : Nat → Bool} {g : Nat → Int} {k : Nat} (h : t k = true) : pick t g (k + 1) = pick t g k ++ [g k] := by simp [pick, h]
theorem pick_no {t : Nat → Bool} {g : Nat → Int} {k : Nat} (h : t k = false) : pick t g (k + 1) = pick t g k := by simp [pick, h]
theorem pick_len (t : Nat → Bool) (g : Nat → Int) : ∀ k, (pick t g k).length ≤ k := by
  intro k
  induction k with
  | zero => simp [pick]
  | succ k ih =>
    unfold pick
    split
    · simp; omega
    · omega
theorem pick_congr {t t' : Nat → Bool} {g g' : Nat → Int} : ∀ k, (∀ j, j < k → t j = t' j ∧ g j = g' j) → pick t g k = pick t' g' k := by
  intro k
  induction k with
  | zero => intro _; rfl
  | succ k ih =>
    intro h
    unfold pick
    rw [ih (fun j hj => h j (by omega)), (h k (by omega)).1, (h k (by omega)).2]
end Go.Proofs.YtjkockhldaacbaaDoor
/-
  A region whose own operations only read, walked once in the text's order from every world of a class: step by step.
-/

namespace Go.Proofs.YtjkockhldaacbaaDoor
set_option linter.unusedVariables false
set_option linter.unusedSimpArgs false
/-! A region whose own operations only read: one walk in the text's order, from every world of a class (the kit's Deep/Quiet), step by step. -/
theorem wp_region_class {P : Program} {id : Nat} {Q : Exit → Act → World → Prop} {a : Act} {w : World} {l : List Oper} {C : World → Prop} (hm : P.follows .mixedOrders = true) (hB : Region.lexB .any l.toArray = true) (hC : C w.drew)
    (h : wpQuiet P l.toArray C (fun a' => ∀ w', C w' → Q .normal a' w') l a) : (Code.region id l.toArray true).wp P Q a w :=
  wp_region_quiet (C := C) hm hB hC (by simpa using h)
section
variable {P : Program} {ops : Array Oper} {C : World → Prop} {Q : Act → Prop} {d : Nat} {op : Op} {ty : TypeId} {pos : String} {af : Array Edge} {gd : Option (Nat × Bool)} {v : Value} {a : Act} {rest : List Oper}
theorem wpQuiet_take (hw : Region.wanted ⟨some d, op, ty, pos, af, gd⟩ (yielded ops a.tmps) = true)
    (hy : ∀ w, C w → (execOp a.eval ⟨some d, op, ty, pos, af, gd⟩).run P w = .ok (.value v) w) (h : wpQuiet P ops C Q rest (a.put (some d) v)) : wpQuiet P ops C Q (⟨some d, op, ty, pos, af, gd⟩ :: rest) a := by
  refine wpQuiet_step fun K hK => ?_
  rw [if_pos hw]
  refine ⟨v, fun w hC => ?_, hK _ h⟩
  unfold Oper.quietAt
  rw [hy w hC]
  exact ⟨rfl, rfl⟩
theorem wpQuiet_meet (f : FuncId) (args : Array Value) (hw : Region.wanted ⟨some d, op, ty, pos, af, gd⟩ (yielded ops a.tmps) = true)
    (he : ∀ w, C w → (execOp a.eval ⟨some d, op, ty, pos, af, gd⟩).run P w = .ok (.enter f args) w) (hy : ∀ w, C w → Calls P f args w fun e w' => e = .returned v ∧ C w')
    (h : wpQuiet P ops C Q rest (a.put (some d) v)) : wpQuiet P ops C Q (⟨some d, op, ty, pos, af, gd⟩ :: rest) a := by
  refine wpQuiet_step fun K hK => ?_
  rw [if_pos hw]
  refine ⟨v, fun w hC => ?_, hK _ h⟩
  unfold Oper.quietAt
  rw [he w hC]
  exact ⟨rfl, hy w hC⟩
theorem wpQuiet_pass (hw : Region.wanted ⟨some d, op, ty, pos, af, gd⟩ (yielded ops a.tmps) = false)
    (h : wpQuiet P ops C Q rest (a.put (some d) undef)) : wpQuiet P ops C Q (⟨some d, op, ty, pos, af, gd⟩ :: rest) a := by
  refine wpQuiet_step fun K hK => ?_
  rw [if_neg (by rw [hw]; exact Bool.false_ne_true)]
  exact hK _ h
end
end Go.Proofs.YtjkockhldaacbaaDoor
