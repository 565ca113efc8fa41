/-
  Several short texts in one: App, AppK.
-/
import Derived.Test.YtjkockhldaacbaaDoorProg
import Derived.Test.YtjkockhldaacbaaDoorMem
/-
  Appending one int to a row of the call's own; what a function that returns a slice of ints and a bool leaves.
-/

namespace Go.Proofs.YtjkockhldaacbaaDoor
open Go.RowKit
set_option linter.unusedVariables false
set_option linter.unusedSimpArgs false

theorem ownsRow_below {w w' : World} {base : Nat} {e : TypeId} {size : Nat} {v : Value} {n : Nat} {xs : List Value} (h : w.ownsRow base e size v n xs) (hb : Below w.heap.size w w') : w'.ownsRow base e size v n xs :=
  h.kept (row := none) ⟨hb.os, hb.tape, hb.output, hb.size, fun k hk _ => hb.block k hk⟩ (by cases hv : v.ownBlock <;> simp)

theorem wpList_append_int1 {P : Program} {ops : Array Oper} {rest : List Oper} {o : Oper} {a : Act} {Q : Exit → Act → World → Prop} (w : World) (hg : o.guard = none) (s x : Operand) (t : TypeId)
    (hop : o.op = Op.call { callee := Callee.builtin Builtin.append, args := #[s, x], argTypes := #[t, t] }) (base : Nat) (e : TypeId) (ht : P.underlying t = some (.slice e))
    (hinfo : (P.info? e).map (fun i => (i.zero, i.size, i.bytes)) = some (some (.int .i64 0), 1, 8)) (zs : List Int) (z : Int) (v : Value) (hs : a.eval s = v)
    (hown : w.ownsRow base e 1 v zs.length (zs.map (Value.int .i64))) (b : Nat) (hx : a.eval x = .slice (some ⟨b, 0, none⟩) 1 1) (hc : w.cell? ⟨b, 0, none⟩ = some (.int .i64 z)) (hlen : zs.length ≤ 100000000) (hbase : base ≤ w.heap.size)
    (h : ∀ v' w', w'.ownsRow base e 1 v' (zs ++ [z]).length ((zs ++ [z]).map (Value.int .i64)) → Below w.heap.size w w' ∨ (∃ g, v.ownBlock = some g ∧ w.grownBy w' (some g)) → w.grownBy w' v.ownBlock → wpList P ops Q rest (a.put o.dst v') w') :
    wpList P ops Q (o :: rest) a w := by
  obtain ⟨i, hi, hz0, hz1, hz2⟩ := info_parts hinfo
  refine wpList_append_own w hg s x t hop base e i (.int .i64 0) 1 8 ht hi hz0 hz1 hz2 rfl (by decide) v zs.length (zs.map (Value.int .i64)) hs hown ⟨b, 0, none⟩ 1 1 [.int .i64 z] hx rfl ?_ ?_ ?_ ?_ hbase ?_
  · intro j u hj
    match j, hj with
    | 0, hj => simp at hj; subst hj; simpa [Addr.add] using hc
  · intro u hu; simp at hu; subst hu; rfl
  · unfold maxLen; omega
  · omega
  · intro v' w' hown' hgrow _
    refine h v' w' (by simpa using hown') ?_ hgrow
    cases hv : v.ownBlock with
    | none => rw [hv] at hgrow; exact Or.inl ⟨hgrow.os, hgrow.tape, hgrow.output, hgrow.size, fun k hk => hgrow.block k hk (by simp)⟩
    | some g => rw [hv] at hgrow; exact Or.inr ⟨g, rfl, hgrow⟩

/-- Below stays behind an append onto a row of the call's own. -/
theorem below_app {W w w' : World} {e : TypeId} {size : Nat} {v : Value} {n : Nat} {xs : List Value} (h : Below W.heap.size W w) (hown : w.ownsRow W.heap.size e size v n xs) (hg : w.grownBy w' v.ownBlock) : Below W.heap.size W w' :=
  h.grown hg h.size (fun k hk => (hown.lt k hk).1)

/-- A new slice of ints and a bool. -/
def IntsPost (e0 : TypeId) (w : World) (zs : List Int) (ok : Bool) (e : Ending) (w' : World) : Prop :=
  ∃ A c, e = .returned (.tuple #[.slice A zs.length c, .bool ok]) ∧ zs.length ≤ c ∧ c ≤ maxLen ∧ Own w' w.heap.size w'.heap.size e0 1 A zs.length (fun j => zs.getD j 0) ∧ Below w.heap.size w w'
theorem IntsPost.mk_ {e0 : TypeId} {w w' : World} {zs : List Int} {ok : Bool} {v : Value} (hown : w'.ownsRow w.heap.size e0 1 v zs.length (zs.map (Value.int .i64))) (hb : Below w.heap.size w w') :
    IntsPost e0 w zs ok (.returned (.tuple #[v, .bool ok])) w' := by
  obtain ⟨A, c, rfl, h1, h2, h3⟩ := own_of_row hown
  exact ⟨A, c, rfl, h1, h2, h3, hb⟩
theorem IntsPost.nil_ {e0 : TypeId} {w w' : World} {ok : Bool} (hb : Below w.heap.size w w') : IntsPost e0 w [] ok (.returned (.tuple #[.slice none 0 0, .bool ok])) w' :=
  ⟨none, 0, rfl, Nat.le_refl _, by unfold maxLen; omega, Own.none_ (Nat.le_refl _), hb⟩
end Go.Proofs.YtjkockhldaacbaaDoor
/-
  Appending structs of ints (k cells each) to a row of the call's own.
-/

namespace Go.Proofs.YtjkockhldaacbaaDoor
open Go.RowKit
set_option linter.unusedVariables false
set_option linter.unusedSimpArgs false

theorem run_append_flat {P : Program} (w : World) (t ty : TypeId) (base : Nat) (e : TypeId) (k bytes : Nat) (z : Value) (ht : P.underlying t = some (.slice e))
    (hinfo : (P.info? e).map (fun i => (i.zero, i.size, i.bytes)) = some (some z, k, bytes)) (hzk : z.cells.size = k) (hk : 0 < k) (hkb : bytes ≤ 1000)
    (zs news : List Int) (n m c : Nat) (v : Value) (hown : w.ownsRow base e k v n (zs.map (Value.int .i64))) (ad : Addr) (hl : news.length = m * k)
    (hc : ∀ j u, news[j]? = some u → w.cell? (ad.add j) = some (.int .i64 u)) (hlen : n + m ≤ 100000000) (hbase : base ≤ w.heap.size) :
    ∃ v' w', (Builtin.append_ #[t, t] ty #[v, .slice (some ad) m c]).run P w = .ok v' w' ∧ w'.ownsRow base e k v' (n + m) ((zs ++ news).map (Value.int .i64)) ∧ w.grownBy w' v.ownBlock := by
  obtain ⟨i, hi, hz0, hz1, hz2⟩ := info_parts hinfo
  have hb : (n + m) * bytes ≤ 100000000 * 1000 := Nat.mul_le_mul hlen hkb
  obtain ⟨v', w', hr, hown', hgrow, _⟩ := run_append_own (P := P) w base t ty e i z k bytes ht hi hz0 hz1 hz2 hzk hk v n (zs.map (Value.int .i64)) hown ad m c (news.map (Value.int .i64)) (by simpa using hl)
    (fun j u hu => by
      rw [List.getElem?_map] at hu
      cases hq : news[j]? with
      | none => rw [hq] at hu; simp at hu
      | some q => rw [hq] at hu; simp at hu; subst hu; exact hc j q hq)
    (fun u hu => by obtain ⟨q, _, rfl⟩ := List.mem_map.1 hu; rfl) (by unfold maxLen; omega) (by omega) hbase
  exact ⟨v', w', hr, by simpa using hown', hgrow⟩
theorem wpList_append_flat {P : Program} {ops : Array Oper} {rest : List Oper} {o : Oper} {a : Act} {Q : Exit → Act → World → Prop} (w : World) (hg : o.guard = none) (s x : Operand) (t : TypeId)
    (hop : o.op = Op.call { callee := Callee.builtin Builtin.append, args := #[s, x], argTypes := #[t, t] }) (base : Nat) (e : TypeId) (k bytes : Nat) (z : Value) (ht : P.underlying t = some (.slice e))
    (hinfo : (P.info? e).map (fun i => (i.zero, i.size, i.bytes)) = some (some z, k, bytes)) (hzk : z.cells.size = k) (hk : 0 < k) (hkb : bytes ≤ 1000)
    (zs news : List Int) (n m c : Nat) (v : Value) (hs : a.eval s = v) (hown : w.ownsRow base e k v n (zs.map (Value.int .i64))) (ad : Addr) (hx : a.eval x = .slice (some ad) m c) (hl : news.length = m * k)
    (hc : ∀ j u, news[j]? = some u → w.cell? (ad.add j) = some (.int .i64 u)) (hlen : n + m ≤ 100000000) (hbase : base ≤ w.heap.size)
    (h : ∀ v' w', w'.ownsRow base e k v' (n + m) ((zs ++ news).map (Value.int .i64)) → w.grownBy w' v.ownBlock → wpList P ops Q rest (a.put o.dst v') w') :
    wpList P ops Q (o :: rest) a w := by
  obtain ⟨i, hi, hz0, hz1, hz2⟩ := info_parts hinfo
  have hb : (n + m) * bytes ≤ 100000000 * 1000 := Nat.mul_le_mul hlen hkb
  refine wpList_append_own w hg s x t hop base e i z k bytes ht hi hz0 hz1 hz2 hzk hk v n (zs.map (Value.int .i64)) hs hown ad m c (news.map (Value.int .i64)) hx (by simpa using hl) ?_ ?_ (by unfold maxLen; omega) (by omega) hbase ?_
  · intro j u hu
    rw [List.getElem?_map] at hu
    cases hq : news[j]? with
    | none => rw [hq] at hu; simp at hu
    | some q => rw [hq] at hu; simp at hu; subst hu; exact hc j q hq
  · intro u hu; obtain ⟨q, _, rfl⟩ := List.mem_map.1 hu; rfl
  · intro v' w' hown' hgrow _
    exact h v' w' (by simpa using hown') hgrow
/-- The cells of the rows of f that the list of places names, size cells a row. -/
def rowsOf (f : Nat → Int) (k : Nat) (L : List Nat) : List Int := L.flatMap fun i => (List.range k).map fun j => f (i * k + j)
theorem rowsOf_length (f : Nat → Int) (k : Nat) (L : List Nat) : (rowsOf f k L).length = L.length * k := by
  induction L with
  | nil => simp [rowsOf]
  | cons i L ih =>
    have : rowsOf f k (i :: L) = ((List.range k).map fun j => f (i * k + j)) ++ rowsOf f k L := rfl
    rw [this, List.length_append, ih, List.length_map, List.length_range, List.length_cons, Nat.succ_mul]
    omega
theorem rowsOf_append (f : Nat → Int) (k : Nat) (L M : List Nat) : rowsOf f k (L ++ M) = rowsOf f k L ++ rowsOf f k M := by simp [rowsOf]
theorem rowsOf_get (f : Nat → Int) (k : Nat) (L : List Nat) (i j : Nat) (hi : i < L.length) (hj : j < k) : (rowsOf f k L).getD (i * k + j) 0 = f (L.getD i 0 * k + j) := by
  induction L generalizing i with
  | nil => simp at hi
  | cons a L ih =>
    have e : rowsOf f k (a :: L) = ((List.range k).map fun j => f (a * k + j)) ++ rowsOf f k L := rfl
    have hl : ((List.range k).map fun j => f (a * k + j)).length = k := by simp
    rw [e]
    cases i with
    | zero =>
      simp [List.getD, List.getElem?_append, hj]
    | succ i =>
      have h1 := ih i (by simpa using hi)
      simp only [List.getD] at h1 ⊢
      rw [List.getElem?_append_right (by rw [hl, Nat.succ_mul]; omega), hl, show (i + 1) * k + j - k = i * k + j by rw [Nat.succ_mul]; omega, h1]
      rfl
theorem rowsOf_range (f : Nat → Int) (k n : Nat) : rowsOf f k (List.range n) = (List.range (n * k)).map f := by
  induction n with
  | zero => simp [rowsOf]
  | succ n ih =>
    rw [List.range_succ, rowsOf_append, ih, Nat.succ_mul, List.range_add, List.map_append]
    simp [rowsOf]
end Go.Proofs.YtjkockhldaacbaaDoor
