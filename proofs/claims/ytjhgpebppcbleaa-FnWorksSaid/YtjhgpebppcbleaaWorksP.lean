/-
  PanOrder of the reference: the places of the pans with a mass, each put behind those that it is not stronger than.
-/
import Derived.Test.YtjhgpebppcbleaaWorksO
import Derived.Test.YtjhgpebppcbleaaApp2
import Derived.Deep.RegionLaw
import Derived.ArgAppend
import Derived.BigGuardPart
import Derived.Deep.QuietTactic
import Derived.BigQuiet
namespace Go.Proofs.Ytjhgpebppcbleaa
open Go.RowKit Go.Sort
set_option linter.unusedVariables false
set_option linter.unusedSimpArgs false
attribute [local go_sem ↓] Go.wp_at_zero Go.wp_at_succ
theorem step_append_flat {P : Program} (w : World) {ops : Array Oper} {o : Oper} {a : Act} {K : Act → World → Prop} {Q : Exit → Act → World → Prop} {E : Prop} (hgd : o.guard = none) (s x : Operand) (t : TypeId)
    (ho : o.op = .call { callee := .builtin .append, args := #[s, x], argTypes := #[t, t] }) (base : Nat) (e : TypeId) (k bytes : Nat) (z : Value) (ht : P.underlying t = some (.slice e))
    (hinfo : (P.info? e).map (fun i => (i.zero, i.size, i.bytes)) = some (some z, k, bytes)) (hzk : z.cells.size = k) (hk : 0 < k) (hkb : bytes ≤ 1000)
    (zs news : List Int) (n m c : Nat) (v : Value) (hs : a.eval s = v) (hown : w.ownsRow base e k v n (zs.map (Value.int .i64))) (ad : Addr) (hx : a.eval x = .slice (some ad) m c) (hl : news.length = m * k)
    (hc : ∀ j u, news[j]? = some u → w.cell? (ad.add j) = some (.int .i64 u)) (hlen : n + m ≤ 100000000) (hbase : base ≤ w.heap.size)
    (h : ∀ v' w', w'.ownsRow base e k v' (n + m) ((zs ++ news).map (Value.int .i64)) → w.grownBy w' v.ownBlock → K (a.put o.dst v') w') :
    if Region.wanted o (yielded ops a.tmps) = true then Oper.wp P o a w K Q else E := by
  rw [if_pos (wanted_plain hgd)]
  obtain ⟨v', w', hr, h1, h2⟩ := run_append_flat w t o.type base e k bytes z ht hinfo hzk hk hkb zs news n m c v hown ad hl hc hlen hbase
  exact oper_wp_append s x t ho hs hx hr (h v' w' h1 h2)
section
variable {P : Program} {md : Region.Mode} {ops : Array Oper} {Q : Exit → Act → World → Prop} {X : World}
theorem wpAnyH_new {i d : Nat} {fuel : Nat} {listed : Array Bool} {a : Act} {w : World} {o : Oper} {obj : Obj} {v : Value} (ho : ops[i]? = some o) (hgd : o.guard = none ∧ o.dst = some d) (hr : Region.ready md ops listed = [i])
    (hS : Below X.heap.size X w) (run : (execOp a.eval o).run P w = .ok (.value v) (w.alloc obj))
    (h : Below X.heap.size X (w.alloc obj) → wpAnyH P md ops Q (fun w' => Below X.heap.size X w') fuel (listed.setIfInBounds i true) (a.put (some d) v) (w.alloc obj)) :
    wpAnyH P md ops Q (fun w' => Below X.heap.size X w') (fuel + 1) listed a w := by
  refine wpAnyH_ready hr (by simp) (AllReadyH.cons ho (fun K hK => ?_) AllReadyH.nil)
  rw [if_pos (wanted_plain hgd.1)]
  refine oper_wp_value run ?_
  rw [hgd.2]
  have hB := hS.alloc hS.size obj
  exact hK.out _ _ hB (fun _ => h hB)
/-- One operation alone is ready: an append onto an empty row that has no room. -/
theorem wpAnyH_app0 {i ds d j : Nat} {fuel : Nat} {listed : Array Bool} {a : Act} {w : World} {t ty : TypeId} {pos : String} {af : Array Edge} {b : Addr} {ad : Addr}
    (ho : ops[i]? = some ⟨some d, .call { callee := .builtin .append, args := #[.tmp ds, .tmp j], argTypes := #[t, t] }, ty, pos, af, none⟩) (hr : Region.ready md ops listed = [i])
    (e : TypeId) (k bytes : Nat) (z : Value) (ht : P.underlying t = some (.slice e))
    (hinfo : (P.info? e).map (fun i => (i.zero, i.size, i.bytes)) = some (some z, k, bytes)) (hzk : z.cells.size = k) (hk : 0 < k) (hkb : bytes ≤ 1000)
    (news : List Int) (m c : Nat) (hev : a.eval (.tmp ds) = .slice (some b) 0 0) (hex : a.eval (.tmp j) = .slice (some ad) m c)
    (hS : Below X.heap.size X w) (hl : news.length = m * k) (hc : ∀ j u, news[j]? = some u → w.cell? (ad.add j) = some (.int .i64 u)) (hm : 0 < m) (hlen : m ≤ 100000000)
    (h : ∀ v' w', w'.ownsRow w.heap.size e k v' m (news.map (Value.int .i64)) → Below X.heap.size X w' → Below w.heap.size w w' →
      wpAnyH P md ops Q (fun w' => Below X.heap.size X w') fuel (listed.setIfInBounds i true) (a.put (some d) v') w') :
    wpAnyH P md ops Q (fun w' => Below X.heap.size X w') (fuel + 1) listed a w := by
  obtain ⟨i0, hi, hz0, hz1, hz2⟩ := info_parts hinfo
  have hb : m * bytes ≤ 100000000 * 1000 := Nat.mul_le_mul hlen hkb
  obtain ⟨v', w', hrun, r1, r2⟩ := run_append_arg_grows (P := P) w t ty e i0 z k bytes ht hi hz0 hz1 hz2 hzk hk b 0 0 [] (by simp) (fun j u hu => by simp at hu) ad m c (news.map (Value.int .i64)) (by simpa using hl)
    (fun j u hu => by
      rw [List.getElem?_map] at hu
      cases hq : news[j]? with
      | none => rw [hq] at hu; simp at hu
      | some q => rw [hq] at hu; simp at hu; subst hu; exact hc j q hq) (by omega) (by unfold maxLen; omega) (by rw [Nat.zero_add]; omega)
  refine wpAnyH_ready hr (by simp) (AllReadyH.cons ho (fun K hK => ?_) AllReadyH.nil)
  rw [if_pos (wanted_plain rfl)]
  refine oper_wp_append _ _ _ rfl hev hex hrun ?_
  have hB0 : Below w.heap.size w w' := (Below.refl _ _).grown r2 (Nat.le_refl _) (fun k hk => by cases hk)
  have hB := hS.trans (hB0.mono hS.size)
  refine hK.out _ _ hB (fun _ => h v' w' (by simpa using r1) hB hB0)
end
def natsL (L : List Nat) : List Int := L.map fun p : Nat => (p : Int)
theorem natsL_len (L : List Nat) : (natsL L).length = L.length := by simp [natsL]
/-- A row of places that the call owns, not nil. -/
def NRow (w : World) (lo : Nat) (v : Value) (L : List Nat) : Prop := ∃ g c, v = .slice (some ⟨g, 0, none⟩) L.length c ∧ L.length ≤ c ∧ c ≤ maxLen ∧ g < w.heap.size ∧ lo ≤ g ∧ w.ownsRow lo 3 1 v L.length ((natsL L).map (Value.int .i64))
theorem NRow.of {w : World} {lo g c n : Nat} {L : List Nat} (hn : n = L.length) (h : w.ownsRow lo 3 1 (.slice (some ⟨g, 0, none⟩) n c) n ((natsL L).map (Value.int .i64))) : NRow w lo (.slice (some ⟨g, 0, none⟩) n c) L := by
  subst hn
  have hlt := World.ownsRow.lt h g rfl
  have hh := h
  rcases h.2 with ⟨h0, _⟩ | ⟨g', cap, cur, hv, hb, hg, hnc, hcm, _⟩
  · cases h0
  · cases hv
    exact ⟨g, c, rfl, hnc, hcm, hlt.2, hb, hh⟩
theorem NRow.below {w w' : World} {lo : Nat} {v : Value} {L : List Nat} (h : NRow w lo v L) (hb : Below w.heap.size w w') : NRow w' lo v L := by
  obtain ⟨g, c, e, h1, h2, h3, h4, h5⟩ := h
  exact ⟨g, c, e, h1, h2, Nat.lt_of_lt_of_le h3 hb.size, h4, ownsRow_below h5 hb⟩
theorem natsL_get {L : List Nat} {j : Nat} (hj : j < L.length) : (natsL L)[j]? = some ((L.getD j 0 : Nat) : Int) := by
  simp [natsL, List.getD_eq_getElem?_getD, hj]
theorem nrow_cell {w : World} {lo g c n : Nat} {L : List Nat} (h : w.ownsRow lo 3 1 (.slice (some ⟨g, 0, none⟩) n c) n ((natsL L).map (Value.int .i64))) (hn : n = L.length) (j : Nat) (hj : j < n) : w.cell? ⟨g, j, none⟩ = some (.int .i64 ((L.getD j 0 : Nat) : Int)) := by
  subst hn
  rw [World.ownsRow.cellAt h j (by omega), List.getElem?_map, natsL_get hj]
  rfl
theorem nrow_src {w : World} {lo g c n : Nat} {L : List Nat} (h : w.ownsRow lo 3 1 (.slice (some ⟨g, 0, none⟩) n c) n ((natsL L).map (Value.int .i64))) (hn : n = L.length) (k m c' : Nat) (hk : k + m ≤ n) : Src w 1 (some ⟨g, k, none⟩) m c' (natsL ((L.drop k).take m)) := by
  subst hn
  refine ⟨by rw [natsL_len]; simp; omega, (by intro h; cases h), fun ad had j u hu => ?_⟩
  cases had
  have hj : j < m := by
    have := (List.getElem?_eq_some_iff.1 hu).1
    rw [natsL_len] at this
    simp at this
    omega
  have e1 : (natsL L)[k + j]? = some u := by
    rw [← hu]
    simp only [natsL, List.getElem?_map, List.getElem?_take_of_lt hj, List.getElem?_drop]
  rw [Addr.add_lit, World.ownsRow.cellAt h (k + j) (by omega), List.getElem?_map, e1]
  rfl
/-- The box of a works. -/
def WBox (w : World) (g : Nat) (A : Option Addr) (n c : Nat) (I H S P : Int) : Prop := w.heap[g]? = some (.cells #[.slice A n c, .int .i64 I, .int .i64 H, .int .i64 S, .int .i64 P] 26 (0, 0))
theorem WBox.lt {w : World} {g : Nat} {A : Option Addr} {n c : Nat} {I H S P : Int} (h : WBox w g A n c I H S P) : g < w.heap.size := (Array.getElem?_eq_some_iff.1 h).1
theorem WBox.below {w w' : World} {g : Nat} {A : Option Addr} {n c : Nat} {I H S P : Int} (h : WBox w g A n c I H S P) (hb : Below w.heap.size w w') : WBox w' g A n c I H S P := (hb.block g h.lt).trans h
theorem WBox.cell0 {w : World} {g : Nat} {A : Option Addr} {n c : Nat} {I H S P : Int} (h : WBox w g A n c I H S P) : w.cell? ⟨g, 0, none⟩ = some (.slice A n c) := by
  rw [cell_of_row w g 0 _ _ (0, 0) h]; rfl
theorem WBox.grown {w w' : World} {g lo k m : Nat} {e : TypeId} {v : Value} {xs : List Value} {A : Option Addr} {n c : Nat} {I H S P : Int} (h : WBox w g A n c I H S P) (hown : w.ownsRow lo e k v m xs) (he : e ≠ 26) (hg : w.grownBy w' v.ownBlock) : WBox w' g A n c I H S P :=
  (hg.block g h.lt (by
    intro hq
    rcases hown.2 with ⟨rfl, _⟩ | ⟨G, cap, cur, rfl, _, hG, _⟩
    · simp [Value.ownBlock] at hq
    · simp [Value.ownBlock] at hq
      subst hq
      unfold WBox at h
      rw [h] at hG
      simp at hG
      exact he hG.2.symm)).trans h
def strV (wa sa wb sb : Int) : Bool := decide (wrap64 (sb * wa) < wrap64 (sa * wb))
theorem str_mv {f : Nat → Int} {n : Nat} {I H S P : Int} (hg : goodWorks f n I H S P = true) {i p : Nat} (hi : i < n) (hp : p < n) :
    strV (f (i * 4 + 2)) (f (i * 4 + 3)) (f (p * 4 + 2)) (f (p * 4 + 3)) = ordMv f p i := by
  obtain ⟨a1, a2, a3, a4, _⟩ := good_brine hg hi
  obtain ⟨b1, b2, b3, b4, _⟩ := good_brine hg hp
  have m1 : massAt f i = f (i * 4 + 2) + f (i * 4 + 3) := IntWalk.wrap64_in _ ⟨by omega, by omega⟩
  have m2 : massAt f p = f (p * 4 + 2) + f (p * 4 + 3) := IntWalk.wrap64_in _ ⟨by omega, by omega⟩
  unfold strV ordMv
  rw [m1, m2]
  generalize f (i * 4 + 2) = wi at *
  generalize f (i * 4 + 3) = si at *
  generalize f (p * 4 + 2) = wp at *
  generalize f (p * 4 + 3) = sp at *
  have bd : ∀ x y : Int, 0 ≤ x → x ≤ 1000000 → 0 ≤ y → y ≤ 1000000 → 0 ≤ x * y ∧ x * y ≤ 1000000000000 := fun x y h1 h2 h3 h4 => ⟨Int.mul_nonneg h1 h3, by
    have := Int.mul_le_mul h2 h4 h3 (by omega : (0 : Int) ≤ 1000000)
    omega⟩
  have c1 := bd sp wi b3 b4 a1 a2
  have c2 := bd si wp a3 a4 b1 b2
  have c3 := bd si sp a3 a4 b3 b4
  have d1 : sp * (wi + si) = sp * wi + si * sp := by rw [Int.mul_add, Int.mul_comm sp si]
  have d2 : si * (wp + sp) = si * wp + si * sp := by rw [Int.mul_add]
  rw [d1, d2]
  generalize sp * wi = x at *
  generalize si * wp = y at *
  generalize si * sp = z at *
  rw [IntWalk.wrap64_in x ⟨by omega, by omega⟩, IntWalk.wrap64_in y ⟨by omega, by omega⟩, IntWalk.wrap64_in (x + z) ⟨by omega, by omega⟩, IntWalk.wrap64_in (y + z) ⟨by omega, by omega⟩]
  rw [Bool.eq_iff_iff]
  simp only [decide_eq_true_eq]
  omega
  
  
end Go.Proofs.Ytjhgpebppcbleaa
