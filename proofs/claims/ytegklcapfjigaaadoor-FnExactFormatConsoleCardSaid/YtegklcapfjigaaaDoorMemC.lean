/-
  Opening an argument that is a console: works and a log, each by value.
-/
import Derived.Test.YtegklcapfjigaaaDoorMemW
import Derived.Test.YtegklcapfjigaaaDoorMemS
namespace Go.Proofs.YtegklcapfjigaaaDoor
open Go.RowKit Go.ChangeShapes Go.WideShapes Go.Deep
set_option linter.unusedVariables false
section
variable {H : Type} {enc : TypeId × Value → H} {P : Program} {w : World} {base : Nat} {spare : Nat → Bool} {held : Bool}
theorem open_console {r : Reach} {b0 : Nat} {t e : TypeId} {gw gl g0 g1 g2 g3 g4 l0 l1 l2 : Field} {v : Value} {d : DataW H} {ps : List MemPlace} (m size : Nat)
    (ht : P.underlying t = some (.struct #[gw, gl])) (hCt : P.cellsOf t = 8) (ow : gw.offset = 0) (ol : gl.offset = 5) (kw : P.cellsOf gw.type = 5) (kl : P.cellsOf gl.type = 3)
    (hw : P.underlying gw.type = some (.struct #[g0, g1, g2, g3, g4]))
    (o0 : g0.offset = 0) (o1 : g1.offset = 1) (o2 : g2.offset = 2) (o3 : g3.offset = 3) (o4 : g4.offset = 4) (k0 : P.cellsOf g0.type = 1) (k1 : P.cellsOf g1.type = 1) (k2 : P.cellsOf g2.type = 1) (k3 : P.cellsOf g3.type = 1) (k4 : P.cellsOf g4.type = 1)
    (t0 : P.underlying g0.type = some (.slice e)) (t1 : P.underlying g1.type = some (.int .i64)) (t2 : P.underlying g2.type = some (.int .i64)) (t3 : P.underlying g3.type = some (.int .i64)) (t4 : P.underlying g4.type = some (.int .i64))
    (hl : P.underlying gl.type = some (.struct #[l0, l1, l2])) (p0 : l0.offset = 0) (p1 : l1.offset = 1) (p2 : l2.offset = 2) (m0 : P.cellsOf l0.type = 1) (m1 : P.cellsOf l1.type = 1) (m2 : P.cellsOf l2.type = 1)
    (u0 : P.underlying l0.type = some .string) (u1 : P.underlying l1.type = some .string) (u2 : P.underlying l2.type = some (.int .i64))
    (hfl : flatTy P m e = true) (hC : P.cellsOf e = size) (hval : Value.okWide P w r b0 t v) (hd : DataW.Trod enc P w base spare held t v d ps) (hsz : 0 < size) :
    ∃ A len cap f z1 z2 z3 z4, ∃ (s0 s1 : ByteArray) (z : Int), v = .agg #[.slice A len cap, .int .i64 z1, .int .i64 z2, .int .i64 z3, .int .i64 z4, .string s0, .string s1, .int .i64 z] ∧ len ≤ cap ∧ cap ≤ maxLen ∧ Sl w base w.heap.size size A len f ∧ s0.size ≤ maxLen ∧ s1.size ≤ maxLen := by
  obtain ⟨cs, rfl, hs8⟩ := okWide_struct ht hval
  obtain ⟨fuel, hf⟩ := hd
  obtain ⟨xs, n, _, _, hlen, hxl, hg⟩ := DataW.trod_struct ht hf
  rw [hCt] at hs8
  obtain ⟨l⟩ := cs
  obtain ⟨c0, c1, c2, c3, c4, c5, c6, c7, rfl⟩ : ∃ c0 c1 c2 c3 c4 c5 c6 c7, l = [c0, c1, c2, c3, c4, c5, c6, c7] := by
    match l, hs8 with
    | [c0, c1, c2, c3, c4, c5, c6, c7], _ => exact ⟨c0, c1, c2, c3, c4, c5, c6, c7, rfl⟩
  have hxl2 : xs.length = 2 := by simpa using hxl
  have qw := hg 0 gw rfl
  have ql := hg 1 gl rfl
  rw [ow, kw, List.getElem?_eq_getElem (by omega)] at qw
  rw [ol, kl, List.getElem?_eq_getElem (by omega)] at ql
  have qw' : DataW.trod enc P w base spare held n gw.type [c0, c1, c2, c3, c4] = some (xs[0]'(by omega)) := by simpa [Value.cells] using qw
  have ql' : DataW.trod enc P w base spare held n gl.type [c5, c6, c7] = some (xs[1]'(by omega)) := by simpa [Value.cells] using ql
  obtain ⟨ys, n1, _, _, _, hyl, hgw⟩ := DataW.trod_struct hw qw'
  obtain ⟨zs, n2, _, _, _, hzl, hgl⟩ := DataW.trod_struct hl ql'
  have hyl5 : ys.length = 5 := by simpa using hyl
  have hzl3 : zs.length = 3 := by simpa using hzl
  have q0 := hgw 0 g0 rfl
  have q1 := hgw 1 g1 rfl
  have q2 := hgw 2 g2 rfl
  have q3 := hgw 3 g3 rfl
  have q4 := hgw 4 g4 rfl
  have r0 := hgl 0 l0 rfl
  have r1 := hgl 1 l1 rfl
  have r2 := hgl 2 l2 rfl
  rw [o0, k0, List.getElem?_eq_getElem (by omega)] at q0
  rw [o1, k1, List.getElem?_eq_getElem (by omega)] at q1
  rw [o2, k2, List.getElem?_eq_getElem (by omega)] at q2
  rw [o3, k3, List.getElem?_eq_getElem (by omega)] at q3
  rw [o4, k4, List.getElem?_eq_getElem (by omega)] at q4
  rw [p0, m0, List.getElem?_eq_getElem (by omega)] at r0
  rw [p1, m1, List.getElem?_eq_getElem (by omega)] at r1
  rw [p2, m2, List.getElem?_eq_getElem (by omega)] at r2
  obtain ⟨A, len, cap, f, rfl, h1, h2, h3, h4⟩ := flat_slice_cell (c0 := c0) m size t0 hfl hC (by simpa using q0) hsz
  obtain ⟨z1, e1, _, w1⟩ := DataW.trod_int t1 (by simpa using q1)
  obtain ⟨z2, e2, _, w2⟩ := DataW.trod_int t2 (by simpa using q2)
  obtain ⟨z3, e3, _, w3⟩ := DataW.trod_int t3 (by simpa using q3)
  obtain ⟨z4, e4, _, w4⟩ := DataW.trod_int t4 (by simpa using q4)
  obtain ⟨s0, e5, _, w5⟩ := DataW.trod_string u0 (by simpa using r0)
  obtain ⟨s1, e6, _, w6⟩ := DataW.trod_string u1 (by simpa using r1)
  obtain ⟨z, e7, _, w7⟩ := DataW.trod_int u2 (by simpa using r2)
  simp only [List.cons.injEq, and_true] at e1 e2 e3 e4 e5 e6 e7
  subst e1 e2 e3 e4 e5 e6 e7
  exact ⟨A, len, cap, f, z1, z2, z3, z4, s0, s1, z, rfl, h1, h2, h3, w5, w6⟩
end
end Go.Proofs.YtegklcapfjigaaaDoor
