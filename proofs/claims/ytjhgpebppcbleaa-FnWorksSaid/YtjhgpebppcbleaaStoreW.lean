/-
  A store of a whole value into cells of a known block, the only operation ready in a region whose order is drawn.
-/
import Derived.Test.YtjhgpebppcbleaaApp3
import Derived.Deep.WholeRow
import Derived.Laws.CopyRow
namespace Go.Proofs.Ytjhgpebppcbleaa
open Go.RowKit
set_option linter.unusedVariables false
set_option linter.unusedSimpArgs false
/-- What stands in a block's cells behind the store. -/
def putRow (cur : Array Value) (o : Nat) (cs : Array Value) : Array Value := (cur.toList.take o ++ cs.toList ++ cur.toList.drop (o + cs.size)).toArray
theorem run_storeAt_at {P : Program} (w : World) (t : TypeId) (g o : Nat) (v : Value) (T : TypeId) (cur : Array Value) (hi : (P.info? t).map (·.size) = some v.cells.size)
    (hg : w.heap[g]? = some (.cells cur T (0, 0))) (hfit : o + v.cells.size ≤ cur.size) (h1 : v.cells.all (·.oneCell') = true) :
    (Instr.storeAt t (.pointer (some ⟨g, o, none⟩)) v).run P w = .ok () (w.setRow g (putRow cur o v.cells)) := by
  have h1' : ∀ u ∈ v.cells.toList, u.oneCell' = true := by
    intro u hu
    rw [Array.all_eq_true] at h1
    obtain ⟨j, hj, rfl⟩ := List.getElem_of_mem hu
    have := h1 j (by simpa using hj)
    simpa using this
  have h := run_storeCells_at (P := P) g o T v.cells.toList 0 cur w hg (by simpa using hfit) h1'
  cases hq : P.info? t with
  | none => simp [hq] at hi
  | some i =>
    have hs : v.cells.size = i.size := by simp [hq] at hi; omega
    simp only [Instr.storeAt, Instr.sureAddr, Sem.run_bind, Sem.run_pure, Result.andThen]
    simp only [Nat.add_zero, Array.length_toList] at h
    simpa [storeVar, sizeOf, typeInfo, hq, hs, putRow] using (by simpa [hs] using h)
theorem grown_setRow (w : World) (g : Nat) (cs : Array Value) : w.grownBy (w.setRow g cs) (some g) :=
  ⟨rfl, rfl, rfl, by simp [World.setRow], fun k _ hk => by
    unfold World.setRow
    simp only [Array.getElem?_modify]
    rw [if_neg (fun e => hk (by rw [e]))]⟩
section
variable {P : Program} {md : Region.Mode} {ops : Array Oper} {Q : Exit → Act → World → Prop} {S : World → Prop}
theorem wpAnyH_store {i : Nat} {fuel : Nat} {listed : Array Bool} {a : Act} {w : World} {t ty : TypeId} {pos : String} {af : Array Edge} {p x : Operand}
    (ho : ops[i]? = some ⟨none, .store t p x, ty, pos, af, none⟩) (hr : Region.ready md ops listed = [i])
    (g o : Nat) (v : Value) (T : TypeId) (cur : Array Value) (hp : a.eval p = .pointer (some ⟨g, o, none⟩)) (hx : a.eval x = v) (hi : (P.info? t).map (·.size) = some v.cells.size)
    (hg : w.heap[g]? = some (.cells cur T (0, 0))) (hfit : o + v.cells.size ≤ cur.size) (h1 : v.cells.all (·.oneCell') = true)
    (hS : ∀ w', w.grownBy w' (some g) → S w')
    (h : ∀ w', w'.heap[g]? = some (.cells (putRow cur o v.cells) T (0, 0)) → w.grownBy w' (some g) → S w' →
      wpAnyH P md ops Q S fuel (listed.setIfInBounds i true) a w') :
    wpAnyH P md ops Q S (fuel + 1) listed a w := by
  have hrun := run_storeAt_at (P := P) w t g o v T cur hi hg hfit h1
  have hgr := grown_setRow w g (putRow cur o v.cells)
  have hB := hS _ hgr
  refine wpAnyH_ready hr (by simp) (AllReadyH.cons ho (fun K hK => ?_) AllReadyH.nil)
  rw [if_pos (wanted_plain rfl)]
  unfold Oper.wp execOp
  simp only [hp, hx, Sem.run_bind, hrun, Result.andThen_ok, Sem.run_pure]
  exact hK.out _ _ hB (fun _ => h _ (setRow_heap w g cur _ T _ hg) hgr hB)
end
end Go.Proofs.Ytjhgpebppcbleaa
