/-
  Opening an argument that is a struct of a slice of flat structs and four ints.
-/
import Derived.Test.YtegklcapfjigaaaDoorMem
namespace Go.Proofs.YtegklcapfjigaaaDoor
open Go.RowKit Go.ChangeShapes Go.WideShapes Go.Deep
set_option linter.unusedVariables false
section
variable {H : Type} {enc : TypeId × Value → H} {P : Program} {w : World} {base : Nat} {spare : Nat → Bool} {held : Bool}
/-- The cell of a slice of flat structs, as it is read. -/
theorem flat_slice_cell {t e : TypeId} {c0 : Value} {fuel : Nat} {x : DataW H × List MemPlace} (m size : Nat) (ht : P.underlying t = some (.slice e)) (hfl : flatTy P m e = true) (hC : P.cellsOf e = size)
    (hf : DataW.trod enc P w base spare held fuel t [c0] = some x) (hsz : 0 < size) :
    ∃ A len cap f, c0 = .slice A len cap ∧ len ≤ cap ∧ cap ≤ maxLen ∧ Sl w base w.heap.size size A len f ∧ (∀ j, j < len * size → I64 (f j)) := by
  rcases open_slice ht hf with ⟨hcs, _⟩ | ⟨a, len, cap, m', n, D, Pl, hcs, hbase, hl, hm, hmm, hx, hi⟩
  · simp at hcs
    subst hcs
    exact ⟨none, 0, 0, fun _ => 0, rfl, Nat.le_refl _, Nat.zero_le _, ⟨Nat.le_refl _, fun h => absurd h (by omega)⟩, fun j hj => absurd hj (by omega)⟩
  · simp at hcs
    subst hcs
    have hlm : len ≤ m' := by rw [hmm]; split <;> omega
    have key : ∀ j, j < len * size → ∃ z, w.cell? (a.add j) = some (.int .i64 z) ∧ I64 z := by
      intro j hj
      have hq : j / size < len := by rw [Nat.div_lt_iff_lt_mul hsz]; exact hj
      obtain ⟨cs', hc, ht'⟩ := hi (j / size) (by omega)
      obtain ⟨_, hcl, hat⟩ := World.cells?_some hc
      have hr : j % size < P.cellsOf e := by rw [hC]; exact Nat.mod_lt _ hsz
      have hcell := hat (j % size) hr
      rw [Go.Deep.add_add, hC, Nat.div_add_mod' j size] at hcell
      have hv : cs'[j % size]? = some (cs'[j % size]'(by omega)) := List.getElem?_eq_getElem (by omega)
      obtain ⟨z, hz, hw⟩ := flat_cells m e n cs' _ hfl ht' (j % size) _ hv
      exact ⟨z, by rw [hcell, hv, hz], hw⟩
    refine ⟨some a, len, cap, fun j => match w.cell? (a.add j) with | some (.int _ z) => z | _ => 0, rfl, hl, hm, ⟨Nat.le_refl _, ?_⟩, ?_⟩
    · intro hn
      obtain ⟨z0, h0, _⟩ := key 0 (Nat.mul_pos hn hsz)
      have hspot : a.spot = none := by
        have := World.cell?_spot h0
        simpa [Addr.add] using this
      obtain ⟨b, off, spot⟩ := a
      simp only at hspot
      subst hspot
      refine ⟨b, off, rfl, hbase, ?_, ?_⟩
      · have := World.block_lt_of_cell? w _ h0
        simpa [Addr.add] using this
      · intro j hj
        obtain ⟨z, hz, _⟩ := key j hj
        show _ = some (Value.int .i64 (match w.cell? (Addr.add ⟨b, off, none⟩ j) with | some (.int _ z) => z | _ => 0))
        rw [hz, ← hz, Addr.add_lit]
    · intro j hj
      obtain ⟨z, hz, hw⟩ := key j hj
      simp only [hz]
      exact hw
/-- An argument that is a struct of a slice of flat structs and four ints. -/
theorem open_slice_ints4 {r : Reach} {b0 : Nat} {t e : TypeId} {g0 g1 g2 g3 g4 : Field} {v : Value} {d : DataW H} {ps : List MemPlace} (m size : Nat) (ht : P.underlying t = some (.struct #[g0, g1, g2, g3, g4])) (hCt : P.cellsOf t = 5)
    (o0 : g0.offset = 0) (o1 : g1.offset = 1) (o2 : g2.offset = 2) (o3 : g3.offset = 3) (o4 : g4.offset = 4) (k0 : P.cellsOf g0.type = 1) (k1 : P.cellsOf g1.type = 1) (k2 : P.cellsOf g2.type = 1) (k3 : P.cellsOf g3.type = 1) (k4 : P.cellsOf g4.type = 1)
    (t0 : P.underlying g0.type = some (.slice e)) (t1 : P.underlying g1.type = some (.int .i64)) (t2 : P.underlying g2.type = some (.int .i64)) (t3 : P.underlying g3.type = some (.int .i64)) (t4 : P.underlying g4.type = some (.int .i64))
    (hfl : flatTy P m e = true) (hC : P.cellsOf e = size) (hval : Value.okWide P w r b0 t v) (hd : DataW.Trod enc P w base spare held t v d ps) (hsz : 0 < size) :
    ∃ A len cap f z1 z2 z3 z4, v = .agg #[.slice A len cap, .int .i64 z1, .int .i64 z2, .int .i64 z3, .int .i64 z4] ∧ len ≤ cap ∧ cap ≤ maxLen ∧ Sl w base w.heap.size size A len f ∧ (∀ j, j < len * size → I64 (f j)) ∧ I64 z1 ∧ I64 z2 ∧ I64 z3 ∧ I64 z4 := by
  obtain ⟨cs, rfl, hs5⟩ := okWide_struct ht hval
  obtain ⟨fuel, hf⟩ := hd
  obtain ⟨xs, n, _, _, hlen, hxl, hg⟩ := DataW.trod_struct ht hf
  rw [hCt] at hs5
  obtain ⟨l⟩ := cs
  obtain ⟨c0, c1, c2, c3, c4, rfl⟩ : ∃ c0 c1 c2 c3 c4, l = [c0, c1, c2, c3, c4] := by
    match l, hs5 with
    | [c0, c1, c2, c3, c4], _ => exact ⟨c0, c1, c2, c3, c4, rfl⟩
  have hxl5 : xs.length = 5 := by simpa using hxl
  have q0 := hg 0 g0 rfl
  have q1 := hg 1 g1 rfl
  have q2 := hg 2 g2 rfl
  have q3 := hg 3 g3 rfl
  have q4 := hg 4 g4 rfl
  rw [o0, k0, List.getElem?_eq_getElem (by omega)] at q0
  rw [o1, k1, List.getElem?_eq_getElem (by omega)] at q1
  rw [o2, k2, List.getElem?_eq_getElem (by omega)] at q2
  rw [o3, k3, List.getElem?_eq_getElem (by omega)] at q3
  rw [o4, k4, List.getElem?_eq_getElem (by omega)] at q4
  obtain ⟨A, len, cap, f, rfl, h1, h2, h3, h4⟩ := flat_slice_cell (c0 := c0) m size t0 hfl hC (by simpa [Value.cells] using q0) hsz
  obtain ⟨z1, e1, _, w1⟩ := DataW.trod_int t1 (by simpa [Value.cells] using q1)
  obtain ⟨z2, e2, _, w2⟩ := DataW.trod_int t2 (by simpa [Value.cells] using q2)
  obtain ⟨z3, e3, _, w3⟩ := DataW.trod_int t3 (by simpa [Value.cells] using q3)
  obtain ⟨z4, e4, _, w4⟩ := DataW.trod_int t4 (by simpa [Value.cells] using q4)
  simp only [List.cons.injEq, and_true] at e1 e2 e3 e4
  subst e1 e2 e3 e4
  exact ⟨A, len, cap, f, z1, z2, z3, z4, rfl, h1, h2, h3, h4, I64.of_wf w1, I64.of_wf w2, I64.of_wf w3, I64.of_wf w4⟩
end
end Go.Proofs.YtegklcapfjigaaaDoor
