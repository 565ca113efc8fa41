/-
  Two or three operations that are ready together in a region whose order is drawn (a call, an alloc): all orders at once.
-/
import Derived.Test.YtjkockhldaacbaaDoorPk6
namespace Go.Proofs.YtjkockhldaacbaaDoor
open Go.RowKit
set_option linter.unusedVariables false
set_option linter.unusedSimpArgs false
section
variable {P : Program} {md : Region.Mode} {ops : Array Oper} {Q : Exit → Act → World → Prop} {S : World → Prop}
/-- What an operation does in whatever state that differs from a's in the slots 'skip' alone. -/
def Job (P : Program) (Q : Exit → Act → World → Prop) (S : World → Prop) (o : Oper) (d : Nat) (a : Act) (skip : List Nat) (Post : Value → World → Prop) : Prop :=
  ∀ (a' : Act) (w1 : World) (K : Act → World → Prop), (∀ j, j ∉ skip → a'.eval (.tmp j) = a.eval (.tmp j)) → S w1 →
    (∀ v w2, Post v w2 → Below w1.heap.size w1 w2 → K (a'.put (some d) v) w2) → o.wp P a' w1 K Q
def Stays (Post : Value → World → Prop) : Prop := ∀ v w1 w2, Post v w1 → Below w1.heap.size w1 w2 → Post v w2
theorem Job.put {o : Oper} {d : Nat} {a : Act} {skip : List Nat} {Post : Value → World → Prop} (h : Job P Q S o d a skip Post) {d' : Nat} (hd : d' ∈ skip) (u : Value) : Job P Q S o d (a.put (some d') u) skip Post :=
  fun a' w1 K hev hb hK => h a' w1 K (fun j hj => (hev j hj).trans (eval_put_ne _ _ _ _ (fun e => hj (e ▸ hd)))) hb hK
theorem Job.alloc {nb : Nat} {o : Oper} {d : Nat} {a : Act} {skip : List Nat} {obj : Obj} (hd : o.dst = some d) (hnb : ∀ w, S w → nb ≤ w.heap.size)
    (run : ∀ (a' : Act) (w1 : World), (execOp a'.eval o).run P w1 = .ok (.value (.pointer (some ⟨w1.heap.size, 0, none⟩))) (w1.alloc obj)) :
    Job P Q S o d a skip (fun v w => ∃ g, v = .pointer (some ⟨g, 0, none⟩) ∧ nb ≤ g ∧ w.heap[g]? = some obj) := by
  intro a' w1 K _ hb hK
  refine oper_wp_value (run a' w1) ?_
  rw [hd]
  exact hK _ _ ⟨w1.heap.size, rfl, hnb _ hb, heap_alloc_new w1 obj⟩ ((Below.refl _ _).alloc (Nat.le_refl _) _)
/-- In every world: only the block r has changed. -/
theorem but_stays {X : World} {r : Option Nat} : ∀ w1 w2, X.grownBy w1 r → Below w1.heap.size w1 w2 → X.grownBy w2 r := fun w1 w2 h hb =>
  ⟨hb.os.trans h.os, hb.tape.trans h.tape, hb.output.trans h.output, Nat.le_trans h.size hb.size, fun k hk hr => (hb.block k (Nat.lt_of_lt_of_le hk h.size)).trans (h.block k hk hr)⟩
theorem below_stays {X : World} : ∀ w1 w2, Below X.heap.size X w1 → Below w1.heap.size w1 w2 → Below X.heap.size X w2 := fun w1 w2 h hb => h.trans (hb.mono h.size)
theorem stays_alloc {n : Nat} {obj : Obj} : Stays (fun v w => ∃ g, v = .pointer (some ⟨g, 0, none⟩) ∧ n ≤ g ∧ w.heap[g]? = some obj) := by
  rintro v w1 w2 ⟨g, e, h1, h2⟩ hb
  exact ⟨g, e, h1, (hb.block g (Array.getElem?_eq_some_iff.1 h2).1).trans h2⟩
/-- One operation is ready. -/
theorem wpAnyH_job {i d : Nat} {fuel : Nat} {listed : Array Bool} {a : Act} {w : World} {o : Oper} {skip : List Nat} {Post : Value → World → Prop} (ho : ops[i]? = some o) (hg : o.guard = none)
    (r0 : Region.ready md ops listed = [i]) (J : Job P Q S o d a skip Post) (hst : ∀ w1 w2, S w1 → Below w1.heap.size w1 w2 → S w2) (hS : S w)
    (h : ∀ v w', Post v w' → S w' → Below w.heap.size w w' → wpAnyH P md ops Q S fuel (listed.setIfInBounds i true) (a.put (some d) v) w') :
    wpAnyH P md ops Q S (fuel + 1) listed a w := by
  refine wpAnyH_ready r0 (by simp) (AllReadyH.cons ho (fun K hK => ?_) AllReadyH.nil)
  rw [if_pos (wanted_plain hg)]
  refine J a w K (fun _ _ => rfl) hS (fun v w2 hp hb => ?_)
  have hB := hst _ _ hS hb
  exact hK.out _ _ hB (fun _ => h v w2 hp hB hb)
/-- Two operations are ready. -/
theorem wpAnyH_two {i j di dj : Nat} {fuel : Nat} {listed : Array Bool} {a : Act} {w : World} {oi oj : Oper} {skip : List Nat} {Pi Pj : Value → World → Prop}
    (hoi : ops[i]? = some oi) (hoj : ops[j]? = some oj) (hgi : oi.guard = none) (hgj : oj.guard = none) (hij : i ≠ j) (hd : di ≠ dj) (hsi : di ∈ skip) (hsj : dj ∈ skip)
    (r0 : Region.ready md ops listed = [i, j]) (ri : Region.ready md ops (listed.setIfInBounds i true) = [j]) (rj : Region.ready md ops (listed.setIfInBounds j true) = [i])
    (Ji : Job P Q S oi di a skip Pi) (Jj : Job P Q S oj dj a skip Pj) (si : Stays Pi) (sj : Stays Pj) (hst : ∀ w1 w2, S w1 → Below w1.heap.size w1 w2 → S w2) (hS : S w)
    (h : ∀ vi vj w', Pi vi w' → Pj vj w' → S w' → Below w.heap.size w w' →
      wpAnyH P md ops Q S fuel ((listed.setIfInBounds i true).setIfInBounds j true) ((a.put (some di) vi).put (some dj) vj) w') :
    wpAnyH P md ops Q S (fuel + 2) listed a w := by
  refine wpAnyH_ready (fuel := fuel + 1) r0 (by simp) (AllReadyH.cons hoi (fun K hK => ?_) (AllReadyH.cons hoj (fun K hK => ?_) AllReadyH.nil))
  · rw [if_pos (wanted_plain hgi)]
    refine Ji a w K (fun _ _ => rfl) hS (fun v w2 hp hb => ?_)
    have hB := hst _ _ hS hb
    refine hK.out _ _ hB (fun _ => ?_)
    refine wpAnyH_job (fuel := fuel) hoj hgj ri (Jj.put hsi v) hst hB (fun u w3 hp3 hB3 hb3 => ?_)
    exact h v u w3 (si _ _ _ hp hb3) hp3 hB3 (hb.trans (hb3.mono hb.size))
  · rw [if_pos (wanted_plain hgj)]
    refine Jj a w K (fun _ _ => rfl) hS (fun v w2 hp hb => ?_)
    have hB := hst _ _ hS hb
    refine hK.out _ _ hB (fun _ => ?_)
    refine wpAnyH_job (fuel := fuel) hoi hgi rj (Ji.put hsj v) hst hB (fun u w3 hp3 hB3 hb3 => ?_)
    rw [listed_comm _ (Ne.symm hij), put_comm _ _ _ (Ne.symm hd)]
    exact h u v w3 hp3 (sj _ _ _ hp hb3) hB3 (hb.trans (hb3.mono hb.size))
/-- Three operations are ready. -/
theorem wpAnyH_three {i j k di dj dk : Nat} {fuel : Nat} {listed : Array Bool} {a : Act} {w : World} {oi oj ok : Oper} {skip : List Nat} {Pi Pj Pk : Value → World → Prop}
    (hoi : ops[i]? = some oi) (hoj : ops[j]? = some oj) (hok : ops[k]? = some ok) (hgi : oi.guard = none) (hgj : oj.guard = none) (hgk : ok.guard = none)
    (hij : i ≠ j ∧ i ≠ k ∧ j ≠ k) (hd : di ≠ dj ∧ di ≠ dk ∧ dj ≠ dk) (hs : di ∈ skip ∧ dj ∈ skip ∧ dk ∈ skip)
    (r0 : Region.ready md ops listed = [i, j, k]) (ri : Region.ready md ops (listed.setIfInBounds i true) = [j, k]) (rj : Region.ready md ops (listed.setIfInBounds j true) = [i, k]) (rk : Region.ready md ops (listed.setIfInBounds k true) = [i, j])
    (rij : Region.ready md ops ((listed.setIfInBounds i true).setIfInBounds j true) = [k]) (rik : Region.ready md ops ((listed.setIfInBounds i true).setIfInBounds k true) = [j]) (rjk : Region.ready md ops ((listed.setIfInBounds j true).setIfInBounds k true) = [i])
    (Ji : Job P Q S oi di a skip Pi) (Jj : Job P Q S oj dj a skip Pj) (Jk : Job P Q S ok dk a skip Pk) (si : Stays Pi) (sj : Stays Pj) (sk : Stays Pk) (hst : ∀ w1 w2, S w1 → Below w1.heap.size w1 w2 → S w2) (hS : S w)
    (h : ∀ vi vj vk w', Pi vi w' → Pj vj w' → Pk vk w' → S w' → Below w.heap.size w w' →
      wpAnyH P md ops Q S fuel (((listed.setIfInBounds i true).setIfInBounds j true).setIfInBounds k true) (((a.put (some di) vi).put (some dj) vj).put (some dk) vk) w') :
    wpAnyH P md ops Q S (fuel + 3) listed a w := by
  obtain ⟨qij, qik, qjk⟩ := hij
  obtain ⟨dij, dik, djk⟩ := hd
  obtain ⟨si', sj', sk'⟩ := hs
  refine wpAnyH_ready (fuel := fuel + 2) r0 (by simp) (AllReadyH.cons hoi (fun K hK => ?_) (AllReadyH.cons hoj (fun K hK => ?_) (AllReadyH.cons hok (fun K hK => ?_) AllReadyH.nil)))
  · rw [if_pos (wanted_plain hgi)]
    refine Ji a w K (fun _ _ => rfl) hS (fun v w2 hp hb => ?_)
    have hB := hst _ _ hS hb
    refine hK.out _ _ hB (fun _ => ?_)
    refine wpAnyH_two (fuel := fuel) hoj hok hgj hgk qjk djk sj' sk' ri rij rik (Jj.put si' v) (Jk.put si' v) sj sk hst hB (fun u t w3 h1 h2 hB3 hb3 => ?_)
    exact h v u t w3 (si _ _ _ hp hb3) h1 h2 hB3 (hb.trans (hb3.mono hb.size))
  · rw [if_pos (wanted_plain hgj)]
    refine Jj a w K (fun _ _ => rfl) hS (fun v w2 hp hb => ?_)
    have hB := hst _ _ hS hb
    refine hK.out _ _ hB (fun _ => ?_)
    refine wpAnyH_two (fuel := fuel) hoi hok hgi hgk qik dik si' sk' rj (by rw [listed_comm _ (Ne.symm qij)]; exact rij) rjk (Ji.put sj' v) (Jk.put sj' v) si sk hst hB (fun u t w3 h1 h2 hB3 hb3 => ?_)
    rw [listed_comm _ (Ne.symm qij), put_comm _ _ _ (Ne.symm dij)]
    exact h u v t w3 h1 (sj _ _ _ hp hb3) h2 hB3 (hb.trans (hb3.mono hb.size))
  · rw [if_pos (wanted_plain hgk)]
    refine Jk a w K (fun _ _ => rfl) hS (fun v w2 hp hb => ?_)
    have hB := hst _ _ hS hb
    refine hK.out _ _ hB (fun _ => ?_)
    refine wpAnyH_two (fuel := fuel) hoi hoj hgi hgj qij dij si' sj' rk (by rw [listed_comm _ (Ne.symm qik)]; exact rik) (by rw [listed_comm _ (Ne.symm qjk)]; exact rjk) (Ji.put sk' v) (Jj.put sk' v) si sj hst hB (fun u t w3 h1 h2 hB3 hb3 => ?_)
    rw [listed_comm _ (Ne.symm qik), listed_comm (listed.setIfInBounds i true) (Ne.symm qjk), put_comm _ _ _ (Ne.symm dik), put_comm (a.put (some di) u) _ _ (Ne.symm djk)]
    exact h u t v w3 h1 h2 (sk _ _ _ hp hb3) hB3 (hb.trans (hb3.mono hb.size))
end
end Go.Proofs.YtjkockhldaacbaaDoor
