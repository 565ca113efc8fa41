/-
  Opening an argument that is a struct of two texts, or of two texts and an int.
-/
import Derived.Test.YtegklcapfjigaaaDoorMem
namespace Go.Proofs.YtegklcapfjigaaaDoor
open Go.RowKit Go.ChangeShapes Go.WideShapes Go.Deep
set_option linter.unusedVariables false
section
variable {H : Type} {enc : TypeId × Value → H} {P : Program} {w : World} {base : Nat} {spare : Nat → Bool} {held : Bool}
theorem open_rec_ss {r : Reach} {b0 : Nat} {t : TypeId} {g0 g1 : Field} {v : Value} {d : DataW H} {ps : List MemPlace} (ht : P.underlying t = some (.struct #[g0, g1])) (hCt : P.cellsOf t = 2)
    (o0 : g0.offset = 0) (o1 : g1.offset = 1) (k0 : P.cellsOf g0.type = 1) (k1 : P.cellsOf g1.type = 1) (t0 : P.underlying g0.type = some .string) (t1 : P.underlying g1.type = some .string)
    (hval : Value.okWide P w r b0 t v) (hd : DataW.Trod enc P w base spare held t v d ps) :
    ∃ s0 s1 : ByteArray, v = .agg #[.string s0, .string s1] ∧ s0.size ≤ maxLen ∧ s1.size ≤ maxLen := by
  obtain ⟨cs, rfl, hs5⟩ := okWide_struct ht hval
  obtain ⟨fuel, hf⟩ := hd
  obtain ⟨xs, n, _, _, hlen, hxl, hg⟩ := DataW.trod_struct ht hf
  rw [hCt] at hs5
  obtain ⟨l⟩ := cs
  obtain ⟨c0, c1, rfl⟩ : ∃ c0 c1, l = [c0, c1] := by
    match l, hs5 with
    | [c0, c1], _ => exact ⟨c0, c1, rfl⟩
  have hxl5 : xs.length = 2 := by simpa using hxl
  have q0 := hg 0 g0 rfl
  have q1 := hg 1 g1 rfl
  rw [o0, k0, List.getElem?_eq_getElem (by omega)] at q0
  rw [o1, k1, List.getElem?_eq_getElem (by omega)] at q1
  obtain ⟨s0, e0, _, w0⟩ := DataW.trod_string t0 (by simpa [Value.cells] using q0)
  obtain ⟨s1, e1, _, w1⟩ := DataW.trod_string t1 (by simpa [Value.cells] using q1)
  simp only [List.cons.injEq, and_true] at e0 e1
  subst e0 e1
  exact ⟨s0, s1, rfl, w0, w1⟩
theorem open_rec_ssi {r : Reach} {b0 : Nat} {t : TypeId} {g0 g1 g2 : Field} {v : Value} {d : DataW H} {ps : List MemPlace} (ht : P.underlying t = some (.struct #[g0, g1, g2])) (hCt : P.cellsOf t = 3)
    (o0 : g0.offset = 0) (o1 : g1.offset = 1) (o2 : g2.offset = 2) (k0 : P.cellsOf g0.type = 1) (k1 : P.cellsOf g1.type = 1) (k2 : P.cellsOf g2.type = 1) (t0 : P.underlying g0.type = some .string) (t1 : P.underlying g1.type = some .string) (t2 : P.underlying g2.type = some (.int .i64))
    (hval : Value.okWide P w r b0 t v) (hd : DataW.Trod enc P w base spare held t v d ps) :
    ∃ (s0 s1 : ByteArray) (z : Int), v = .agg #[.string s0, .string s1, .int .i64 z] ∧ s0.size ≤ maxLen ∧ s1.size ≤ maxLen ∧ I64 z := by
  obtain ⟨cs, rfl, hs5⟩ := okWide_struct ht hval
  obtain ⟨fuel, hf⟩ := hd
  obtain ⟨xs, n, _, _, hlen, hxl, hg⟩ := DataW.trod_struct ht hf
  rw [hCt] at hs5
  obtain ⟨l⟩ := cs
  obtain ⟨c0, c1, c2, rfl⟩ : ∃ c0 c1 c2, l = [c0, c1, c2] := by
    match l, hs5 with
    | [c0, c1, c2], _ => exact ⟨c0, c1, c2, rfl⟩
  have hxl5 : xs.length = 3 := by simpa using hxl
  have q0 := hg 0 g0 rfl
  have q1 := hg 1 g1 rfl
  have q2 := hg 2 g2 rfl
  rw [o0, k0, List.getElem?_eq_getElem (by omega)] at q0
  rw [o1, k1, List.getElem?_eq_getElem (by omega)] at q1
  rw [o2, k2, List.getElem?_eq_getElem (by omega)] at q2
  obtain ⟨s0, e0, _, w0⟩ := DataW.trod_string t0 (by simpa [Value.cells] using q0)
  obtain ⟨s1, e1, _, w1⟩ := DataW.trod_string t1 (by simpa [Value.cells] using q1)
  obtain ⟨z, e2, _, w2⟩ := DataW.trod_int t2 (by simpa [Value.cells] using q2)
  simp only [List.cons.injEq, and_true] at e0 e1 e2
  subst e0 e1 e2
  exact ⟨s0, s1, z, rfl, w0, w1, I64.of_wf w2⟩
end
end Go.Proofs.YtegklcapfjigaaaDoor
