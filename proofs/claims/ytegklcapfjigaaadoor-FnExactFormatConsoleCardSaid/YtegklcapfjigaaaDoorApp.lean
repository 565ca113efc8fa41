/-
  Appending one int to a row of the call's own; what a function that returns a slice of ints and a bool leaves.
-/
import Derived.Test.YtegklcapfjigaaaDoorProg
import Derived.Test.YtegklcapfjigaaaDoorMem
namespace Go.Proofs.YtegklcapfjigaaaDoor
open Go.RowKit
set_option linter.unusedVariables false
set_option linter.unusedSimpArgs false

theorem ownsRow_below {w w' : World} {base : Nat} {e : TypeId} {size : Nat} {v : Value} {n : Nat} {xs : List Value} (h : w.ownsRow base e size v n xs) (hb : Below w.heap.size w w') : w'.ownsRow base e size v n xs :=
  h.kept (row := none) ⟨hb.os, hb.tape, hb.output, hb.size, fun k hk _ => hb.block k hk⟩ (by cases hv : v.ownBlock <;> simp)

theorem wpList_append_int1 {P : Program} {ops : Array Oper} {rest : List Oper} {o : Oper} {a : Act} {Q : Exit → Act → World → Prop} (w : World) (hg : o.guard = none) (s x : Operand) (t : TypeId)
    (hop : o.op = Op.call { callee := Callee.builtin Builtin.append, args := #[s, x], argTypes := #[t, t] }) (base : Nat) (e : TypeId) (ht : P.underlying t = some (.slice e))
    (hinfo : (P.info? e).map (fun i => (i.zero, i.size, i.bytes)) = some (some (.int .i64 0), 1, 8)) (zs : List Int) (z : Int) (v : Value) (hs : a.eval s = v)
    (hown : w.ownsRow base e 1 v zs.length (zs.map (Value.int .i64))) (b : Nat) (hx : a.eval x = .slice (some ⟨b, 0, none⟩) 1 1) (hc : w.cell? ⟨b, 0, none⟩ = some (.int .i64 z)) (hlen : zs.length ≤ 100000000) (hbase : base ≤ w.heap.size)
    (h : ∀ v' w', w'.ownsRow base e 1 v' (zs ++ [z]).length ((zs ++ [z]).map (Value.int .i64)) → Below w.heap.size w w' ∨ (∃ g, v.ownBlock = some g ∧ w.grownBy w' (some g)) → w.grownBy w' v.ownBlock → wpList P ops Q rest (a.put o.dst v') w') :
    wpList P ops Q (o :: rest) a w := by
  obtain ⟨i, hi, hz0, hz1, hz2⟩ := info_parts hinfo
  refine wpList_append_own w hg s x t hop base e i (.int .i64 0) 1 8 ht hi hz0 hz1 hz2 rfl (by decide) v zs.length (zs.map (Value.int .i64)) hs hown ⟨b, 0, none⟩ 1 1 [.int .i64 z] hx rfl ?_ ?_ ?_ ?_ hbase ?_
  · intro j u hj
    match j, hj with
    | 0, hj => simp at hj; subst hj; simpa [Addr.add] using hc
  · intro u hu; simp at hu; subst hu; rfl
  · unfold maxLen; omega
  · omega
  · intro v' w' hown' hgrow _
    refine h v' w' (by simpa using hown') ?_ hgrow
    cases hv : v.ownBlock with
    | none => rw [hv] at hgrow; exact Or.inl ⟨hgrow.os, hgrow.tape, hgrow.output, hgrow.size, fun k hk => hgrow.block k hk (by simp)⟩
    | some g => rw [hv] at hgrow; exact Or.inr ⟨g, rfl, hgrow⟩

/-- Below stays behind an append onto a row of the call's own. -/
theorem below_app {W w w' : World} {e : TypeId} {size : Nat} {v : Value} {n : Nat} {xs : List Value} (h : Below W.heap.size W w) (hown : w.ownsRow W.heap.size e size v n xs) (hg : w.grownBy w' v.ownBlock) : Below W.heap.size W w' :=
  h.grown hg h.size (fun k hk => (hown.lt k hk).1)

/-- A new slice of ints and a bool. -/
def IntsPost (e0 : TypeId) (w : World) (zs : List Int) (ok : Bool) (e : Ending) (w' : World) : Prop :=
  ∃ A c, e = .returned (.tuple #[.slice A zs.length c, .bool ok]) ∧ zs.length ≤ c ∧ c ≤ maxLen ∧ Own w' w.heap.size w'.heap.size e0 1 A zs.length (fun j => zs.getD j 0) ∧ Below w.heap.size w w'
theorem IntsPost.mk_ {e0 : TypeId} {w w' : World} {zs : List Int} {ok : Bool} {v : Value} (hown : w'.ownsRow w.heap.size e0 1 v zs.length (zs.map (Value.int .i64))) (hb : Below w.heap.size w w') :
    IntsPost e0 w zs ok (.returned (.tuple #[v, .bool ok])) w' := by
  obtain ⟨A, c, rfl, h1, h2, h3⟩ := own_of_row hown
  exact ⟨A, c, rfl, h1, h2, h3, hb⟩
theorem IntsPost.nil_ {e0 : TypeId} {w w' : World} {ok : Bool} (hb : Below w.heap.size w w') : IntsPost e0 w [] ok (.returned (.tuple #[.slice none 0 0, .bool ok])) w' :=
  ⟨none, 0, rfl, Nat.le_refl _, by unfold maxLen; omega, Own.none_ (Nat.le_refl _), hb⟩
end Go.Proofs.YtegklcapfjigaaaDoor
