/-
  Plain lemmas for slices.Insert and slices.Delete at structs of k cells: the copy of whole elements; the list of cells behind it. No program in sight.
-/
import Derived.Test.YtjkockhldaacbaaDoorPk3
import Derived.Lib.SliceRun
import Derived.Laws.CopyRow
import Derived.Laws.IdiomCopy
import Derived.Lib.AppendZerosOnto
import Derived.Lib.Overlaps
import Derived.Laws.Externs
import Derived.Deep.RegionLaw
import Derived.Shelf.RegionOpenPlain
namespace Go.Proofs.YtjkockhldaacbaaDoor
open Go.RowKit
set_option linter.unusedVariables false
set_option linter.unusedSimpArgs false

theorem run_copy_rowk {P : Program} (w : World) (dT sT ty elem : TypeId) (k g o dLen dCap : Nat) (a : Addr) (sLen sCap : Nat) (cur : Array Value) (t : TypeId) (cs : List Value)
    (hu : P.underlying dT = some (.slice elem)) (hs : (P.info? elem).map (·.size) = some k)
    (hg : w.heap[g]? = some (.cells cur t (0, 0))) (hn : cs.length = Nat.min sLen dLen * k)
    (hsrc : ∀ j v, cs[j]? = some v → w.cell? (a.add j) = some v) (hfit : o + cs.length ≤ cur.size) (h1 : ∀ v ∈ cs, v.oneCell' = true) :
    (Builtin.copy_ #[dT, sT] ty #[.slice (some ⟨g, o, none⟩) dLen dCap, .slice (some a) sLen sCap]).run P w =
      .ok (goInt (Nat.min sLen dLen)) (w.setRow g (cur.toList.take o ++ cs ++ cur.toList.drop (o + cs.length)).toArray) := by
  have hl := run_loadCells_list (P := P) w a cs hsrc
  have hst := run_storeCells_at P g o t cs 0 cur w hg (by simpa using hfit) h1
  cases hq : P.info? elem with
  | none => simp [hq] at hs
  | some i =>
    have hi : i.size = k := by simpa [hq] using hs
    simp [Builtin.copy_, run_underlying hu, Builtin.lenOf, Builtin.firstCells, sizeOf, typeInfo, hq, hi, ← hn, hl, hst]
/-- 'copy' as one step of a walk, where its run is known. -/
theorem wp_copy_runW {P : Program} (w : World) {o : Oper} {a : Act} {K : Act → World → Prop} {Q : Exit → Act → World → Prop} (d s : Operand) (t t' : TypeId)
    (ho : o.op = .call { callee := .builtin .copy, args := #[d, s], argTypes := #[t, t'] }) (v u : Value) (hd : a.eval d = v) (hs : a.eval s = u) {v' : Value} {w' : World}
    (hr : (Builtin.copy_ #[t, t'] o.type #[v, u]).run P w = .ok v' w') (h : K (a.put o.dst v') w') : o.wp P a w K Q := by
  unfold Oper.wp execOp
  simp only [ho, resolve, invoke, builtin, Sem.run_bind, Sem.run_pure, Result.andThen_ok, List.map_toArray, List.map_cons, List.map_nil, hd, hs, hr]
  exact h
theorem wpList_copy_runW {P : Program} (w : World) {ops : Array Oper} {rest : List Oper} {o : Oper} {a : Act} {Q : Exit → Act → World → Prop} (hgd : o.guard = none) (d s : Operand) (t t' : TypeId)
    (ho : o.op = .call { callee := .builtin .copy, args := #[d, s], argTypes := #[t, t'] }) (v u : Value) (hd : a.eval d = v) (hs : a.eval s = u) {v' : Value} {w' : World}
    (hr : (Builtin.copy_ #[t, t'] o.type #[v, u]).run P w = .ok v' w') (h : wpList P ops Q rest (a.put o.dst v') w') : wpList P ops Q (o :: rest) a w :=
  wpList_plain hgd fun _ hK => wp_copy_runW w d s t t' ho v u hd hs hr (hK _ _ h)
theorem step_copy_runW {P : Program} {ops : Array Oper} {o : Oper} {a : Act} {w : World} {K : Act → World → Prop} {Q : Exit → Act → World → Prop} {E : Prop}
    (hg : o.guard = none) (d x : Operand) (dT sT : TypeId) (hop : o.op = Op.call { callee := Callee.builtin Builtin.copy, args := #[d, x], argTypes := #[dT, sT] })
    (v u : Value) (hd : a.eval d = v) (hx : a.eval x = u) {v' : Value} {w' : World} (hr : (Builtin.copy_ #[dT, sT] o.type #[v, u]).run P w = .ok v' w') (hK : K (a.put o.dst v') w') :
    if Region.wanted o (yielded ops a.tmps) = true then Oper.wp P o a w K Q else E := by
  have hw : Region.wanted o (yielded ops a.tmps) = true := by simp [Region.wanted, hg]
  rw [if_pos hw]
  unfold Oper.wp
  simp [execOp, hop, resolve, invoke, builtin, hd, hx, hr, Result.andThen]
  exact hK

/-- Cells shifted up from place a on by the length of vs, vs put into the gap. -/
theorem list_shift (cur cs vs : List Value) (a N : Nat) (hcs : cs = cur.take N) (ha : a ≤ N) (hN : N + vs.length ≤ cur.length) :
    (((cur.take (a + vs.length) ++ cs.drop a ++ cur.drop (a + vs.length + (cs.drop a).length)).take a ++ vs ++
      (cur.take (a + vs.length) ++ cs.drop a ++ cur.drop (a + vs.length + (cs.drop a).length)).drop (a + vs.length))).take (N + vs.length) = cs.take a ++ vs ++ cs.drop a := by
  have h1 : (cur.take (a + vs.length)).length = a + vs.length := by simp; omega
  have hl : cs.length = N := by rw [hcs]; simp; omega
  have h2 : (cur.take (a + vs.length) ++ cs.drop a ++ cur.drop (a + vs.length + (cs.drop a).length)).take a = cs.take a := by
    rw [List.append_assoc, List.take_append_of_le_length (by omega), List.take_take, hcs, List.take_take]
    congr 1; omega
  have h3 : (cur.take (a + vs.length) ++ cs.drop a ++ cur.drop (a + vs.length + (cs.drop a).length)).drop (a + vs.length) = cs.drop a ++ cur.drop (a + vs.length + (cs.drop a).length) := by
    rw [List.append_assoc, List.drop_append_of_le_length (by omega), List.drop_of_length_le (by omega), List.nil_append]
  rw [h2, h3, ← List.append_assoc, List.take_append_of_le_length (by simp; omega)]
  exact List.take_of_length_le (by simp; omega)
/-- vs and then the cells behind the gap put into a new row. -/
theorem list_grow (cur cs vs : List Value) (a N : Nat) (hcs : cs.length = N) (hpre : cur.take a = cs.take a) (ha : a ≤ N) (hN : N + vs.length ≤ cur.length) :
    ((((cur.take a ++ vs ++ cur.drop (a + vs.length)).take (a + vs.length)) ++ cs.drop a ++ (cur.take a ++ vs ++ cur.drop (a + vs.length)).drop (a + vs.length + (cs.drop a).length))).take (N + vs.length) = cs.take a ++ vs ++ cs.drop a := by
  have h1 : (cur.take a ++ vs).length = a + vs.length := by simp; omega
  have h2 : (cur.take a ++ vs ++ cur.drop (a + vs.length)).take (a + vs.length) = cs.take a ++ vs := by
    rw [List.take_append_of_le_length (by omega), List.take_of_length_le (by omega), hpre]
  rw [h2, List.take_append_of_le_length (by simp; omega)]
  exact List.take_of_length_le (by simp; omega)
theorem growI_trans {a b c : World} {row : Option Nat} (h : a.grownBy b row) (k : b.grownBy c row) : a.grownBy c row :=
  ⟨k.os.trans h.os, k.tape.trans h.tape, k.output.trans h.output, Nat.le_trans h.size k.size, fun i hi hr => (k.block i (Nat.lt_of_lt_of_le hi h.size) hr).trans (h.block i hi hr)⟩
theorem setRow_grown (w : World) (g : Nat) (C : Array Value) : w.grownBy (w.setRow g C) (some g) := ⟨rfl, rfl, rfl, by simp, fun k _ hk => setRow_other w g k C (fun e => hk (by rw [e]))⟩
theorem setRow_drew_grown (w : World) (g : Nat) (C : Array Value) : w.grownBy (w.drew.setRow g C) (some g) :=
  have h := setRow_grown w.drew g C
  ⟨h.os, h.tape, h.output, h.size, h.block⟩
/-- An own row opened: its block, its cells. -/
theorem ownsRow_open {w : World} {base : Nat} {e : TypeId} {size n : Nat} {v : Value} {xs : List Value} (h : w.ownsRow base e size v n xs) (hn : 0 < n) :
    ∃ g cap cur, v = .slice (some ⟨g, 0, none⟩) n cap ∧ base ≤ g ∧ w.heap[g]? = some (.cells cur e (0, 0)) ∧ n ≤ cap ∧ cap ≤ maxLen ∧ cur.size = cap * size ∧ cur.toList.take (n * size) = xs ∧ xs.length = n * size := by
  obtain ⟨hl, h | ⟨g, cap, cur, h1, h2, h3, h4, h5, h6, h7⟩⟩ := h
  · omega
  · exact ⟨g, cap, cur, h1, h2, h3, h4, h5, h6, h7, hl⟩
/-- The first m numbers of f. -/
def cellsTo (f : Nat → Int) (m : Nat) : List Int := (List.range m).map f
theorem cellsTo_length (f : Nat → Int) (m : Nat) : (cellsTo f m).length = m := by simp [cellsTo]
theorem cellsTo_get (f : Nat → Int) (m j : Nat) (h : j < m) : (cellsTo f m).getD j 0 = f j := by simp [cellsTo, List.getD, h]
theorem cellsTo_get? {f : Nat → Int} {m j : Nat} {u : Int} (h : (cellsTo f m)[j]? = some u) : j < m ∧ u = f j := by
  have hj : j < (cellsTo f m).length := (List.getElem?_eq_some_iff.1 h).1
  rw [cellsTo_length] at hj
  refine ⟨hj, ?_⟩
  simp [cellsTo, hj] at h
  exact h.symm
end Go.Proofs.YtjkockhldaacbaaDoor
