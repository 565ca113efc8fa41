/-
  append(append(own(a), x), b...) in a region whose order is drawn, own(a) a call that lays a new row of a's cells.
-/
import Derived.Test.YtjkockhldaacbaaDoorApp3
namespace Go.Proofs.YtjkockhldaacbaaDoor
open Go.RowKit
set_option linter.unusedVariables false
set_option linter.unusedSimpArgs false
section
variable {P : Program} {md : Region.Mode} {ops : Array Oper} {Q : Exit → Act → World → Prop} {X : World}
/-- The call may come before or behind the laying of the one element's row. -/
theorem wpAnyH_own_append2 {iC iB i2 i3 dC dB d2 d3 j3 : Nat} {fuel : Nat} {listed : Array Bool} {a : Act} {w : World} {t : TypeId} {oC oB : Oper} {ty2 ty3 : TypeId} {p2 p3 : String} {af2 af3 : Array Edge}
    (hoC : ops[iC]? = some oC) (hoB : ops[iB]? = some oB)
    (ho2 : ops[i2]? = some ⟨some d2, .call { callee := .builtin .append, args := #[.tmp dC, .tmp dB], argTypes := #[t, t] }, ty2, p2, af2, none⟩)
    (ho3 : ops[i3]? = some ⟨some d3, .call { callee := .builtin .append, args := #[.tmp d2, .tmp j3], argTypes := #[t, t] }, ty3, p3, af3, none⟩)
    (hgC : oC.guard = none ∧ oC.dst = some dC) (hgB : oB.guard = none ∧ oB.dst = some dB)
    (r0 : Region.ready md ops listed = [iC, iB]) (r1 : Region.ready md ops (listed.setIfInBounds iC true) = [iB]) (r2 : Region.ready md ops (listed.setIfInBounds iB true) = [iC])
    (r5 : Region.ready md ops ((listed.setIfInBounds iC true).setIfInBounds iB true) = [i2])
    (r6 : Region.ready md ops (((listed.setIfInBounds iC true).setIfInBounds iB true).setIfInBounds i2 true) = [i3])
    (hij : iC ≠ iB) (hd : dC ≠ dB ∧ dC ≠ j3 ∧ dB ≠ j3 ∧ d2 ≠ j3) (hsz : dC < a.tmps.size ∧ dB < a.tmps.size ∧ d2 < a.tmps.size)
    (e : TypeId) (k bytes : Nat) (z : Value) (ht : P.underlying t = some (.slice e))
    (hinfo : (P.info? e).map (fun i => (i.zero, i.size, i.bytes)) = some (some z, k, bytes)) (hzk : z.cells.size = k) (hk : 0 < k) (hkb : bytes ≤ 1000)
    (row : List Int) (hrow : row.length = k) (zs1 zs3 : List Int) (n1 n3 c3 : Nat) (A3 : Option Addr)
    (runC : ∀ (a' : Act) (w1 : World) (K : Act → World → Prop), (∀ j, j ≠ dB → Act.eval a' (.tmp j) = a.eval (.tmp j)) → Below X.heap.size X w1 →
      (∀ v1 w2, w2.ownsRow w1.heap.size e k v1 n1 (zs1.map (Value.int .i64)) → Below w1.heap.size w1 w2 → K (a'.put (some dC) v1) w2) → oC.wp P a' w1 K Q)
    (runB : ∀ a' w, (∀ j, j ≠ dC → Act.eval a' (.tmp j) = a.eval (.tmp j)) → (execOp (Act.eval a') oB).run P w = .ok (.value (.slice (some ⟨w.heap.size, 0, none⟩) 1 1)) (w.alloc (.cells (row.map (Value.int .i64)).toArray e)))
    (e3 : a.eval (.tmp j3) = .slice A3 n3 c3)
    (hS : Below X.heap.size X w) (hs3 : ∀ w', Below X.heap.size X w' → Src w' k A3 n3 c3 zs3) (hlen : n1 + 1 + n3 ≤ 100000000)
    (h : ∀ u0 uB u2 g c' w', n1 + 1 + n3 ≤ c' → c' ≤ maxLen → X.heap.size ≤ g → w'.ownsRow X.heap.size e k (.slice (some ⟨g, 0, none⟩) (n1 + 1 + n3) c') (n1 + 1 + n3) ((zs1 ++ row ++ zs3).map (Value.int .i64)) → Below X.heap.size X w' →
      wpAnyH P md ops Q (fun w' => Below X.heap.size X w') fuel ((((listed.setIfInBounds iC true).setIfInBounds iB true).setIfInBounds i2 true).setIfInBounds i3 true)
        ((((a.put (some dC) u0).put (some dB) uB).put (some d2) u2).put (some d3) (.slice (some ⟨g, 0, none⟩) (n1 + 1 + n3) c')) w') :
    wpAnyH P md ops Q (fun w' => Below X.heap.size X w') (fuel + 4) listed a w := by
  obtain ⟨hgC, hdC⟩ := hgC
  obtain ⟨hgB, hdB⟩ := hgB
  obtain ⟨qCB, qC3, qB3, q23⟩ := hd
  obtain ⟨zC, zB, z2⟩ := hsz
  have mono : ∀ {w2 : World} {b : Nat} {v1 : Value}, X.heap.size ≤ b → w2.ownsRow b e k v1 n1 (zs1.map (Value.int .i64)) → w2.ownsRow X.heap.size e k v1 n1 (zs1.map (Value.int .i64)) :=
    fun hb h => ⟨h.1, h.2.imp id fun ⟨g, cap, cur, h1, h2, h3⟩ => ⟨g, cap, cur, h1, Nat.le_trans hb h2, h3⟩⟩
  have last : ∀ u1 uB w1, Below X.heap.size X w1 → w1.ownsRow X.heap.size e k u1 n1 (zs1.map (Value.int .i64)) → (∃ b, uB = .slice (some ⟨b, 0, none⟩) 1 1 ∧ ∀ j u, row[j]? = some u → w1.cell? ((⟨b, 0, none⟩ : Addr).add j) = some (.int .i64 u)) →
      wpAnyH P md ops Q (fun w' => Below X.heap.size X w') (fuel + 2) ((listed.setIfInBounds iC true).setIfInBounds iB true) ((a.put (some dC) u1).put (some dB) uB) w1 := by
    intro u1 uB w1 hB1 hown1 ⟨b, hub, hcell⟩
    refine wpAnyH_app (fuel := fuel + 1) ho2 r5 e k bytes z ht hinfo hzk hk hkb zs1 row n1 1 1 u1 (some ⟨b, 0, none⟩) ?_ ?_ hB1 hown1 ⟨by rw [hrow, Nat.one_mul], (by intro h; cases h), fun ad had => by cases had; exact hcell⟩ (by omega) ?_
    · rw [eval_put_ne _ _ _ _ (Ne.symm qCB), eval_put_eq _ _ _ zC]
    · rw [eval_put_eq _ _ _ (by rw [size_put]; exact zB), hub]
    · intro v2 w2 hown2 hB2 _
      refine wpAnyH_app (fuel := fuel) ho3 r6 e k bytes z ht hinfo hzk hk hkb (zs1 ++ row) zs3 (n1 + 1) n3 c3 v2 A3 ?_ ?_ hB2 hown2 (hs3 w2 hB2) hlen ?_
      · rw [eval_put_eq _ _ _ (by simp only [size_put]; exact z2)]
      · rw [eval_put_ne _ _ _ _ q23, eval_put_ne _ _ _ _ qB3, eval_put_ne _ _ _ _ qC3, e3]
      · intro v3 w3 hown3 hB3 _
        have hf := hown3
        rcases hf.2 with ⟨_, h0⟩ | ⟨g, cap, cur, hv, hb, _, hnc, hcm, _⟩
        · omega
        subst hv
        exact h u1 uB v2 g cap w3 hnc hcm hb hown3 hB3
  have row_cells : ∀ (w1 : World), ∀ j u, row[j]? = some u → (w1.alloc (.cells (row.map (Value.int .i64)).toArray e)).cell? ((⟨w1.heap.size, 0, none⟩ : Addr).add j) = some (.int .i64 u) := by
    intro w1 j u hu
    rw [Addr.add_lit, Nat.zero_add, cell_of_row _ w1.heap.size j _ e (0, 0) (heap_alloc_new w1 _)]
    simp [hu]
  refine wpAnyH_ready (fuel := fuel + 3) r0 (by simp) (AllReadyH.cons hoC (fun K hK => ?_) (AllReadyH.cons hoB (fun K hK => ?_) AllReadyH.nil))
  · rw [if_pos (wanted_plain hgC)]
    refine runC a w K (fun _ _ => rfl) hS (fun v1 w2 hown hb => ?_)
    have hB1 := hS.trans (hb.mono hS.size)
    refine hK.out _ _ hB1 (fun _ => ?_)
    clear hK K
    refine wpAnyH_ready (fuel := fuel + 2) r1 (by simp) (AllReadyH.cons hoB (fun K hK => ?_) AllReadyH.nil)
    rw [if_pos (wanted_plain hgB)]
    refine oper_wp_value (runB _ w2 (fun j hj => eval_put_ne _ _ _ _ (Ne.symm hj))) ?_
    rw [hdB]
    have hBb := hB1.alloc hB1.size (.cells (row.map (Value.int .i64)).toArray e)
    refine hK.out _ _ hBb (fun _ => ?_)
    exact last _ _ _ hBb ((mono hS.size hown).alloc _) ⟨_, rfl, row_cells w2⟩
  · rw [if_pos (wanted_plain hgB)]
    refine oper_wp_value (runB _ _ (fun j hj => rfl)) ?_
    rw [hdB]
    have hBa := hS.alloc hS.size (.cells (row.map (Value.int .i64)).toArray e)
    refine hK.out _ _ hBa (fun _ => ?_)
    clear hK K
    refine wpAnyH_ready (fuel := fuel + 2) r2 (by simp) (AllReadyH.cons hoC (fun K hK => ?_) AllReadyH.nil)
    rw [if_pos (wanted_plain hgC)]
    refine runC _ _ K (fun j hj => eval_put_ne _ _ _ _ (Ne.symm hj)) hBa (fun v1 w2 hown hb => ?_)
    have hB1 := hBa.trans (hb.mono hBa.size)
    refine hK.out _ _ hB1 (fun _ => ?_)
    rw [put_comm _ _ _ (Ne.symm qCB), listed_comm _ (Ne.symm hij)]
    refine last _ _ _ hB1 (mono hBa.size hown) ⟨_, rfl, fun j u hu => ?_⟩
    have hq := row_cells w j u hu
    rw [Addr.add_lit] at hq ⊢
    rw [hb.cell (p := ⟨w.heap.size, 0 + j, none⟩) (by simp)]
    exact hq
end
end Go.Proofs.YtjkockhldaacbaaDoor
