/-
  append(append(append([]T{}, a...), x), b...) in a region whose order is drawn: whatever the order, a new row of a's cells, x's and b's.
-/
import Derived.Test.YtjkockhldaacbaaDoorPk3
import Derived.Test.YtjkockhldaacbaaDoorPk2
import Derived.Deep.RegionLaw
namespace Go.Proofs.YtjkockhldaacbaaDoor
open Go.RowKit
set_option linter.unusedVariables false
set_option linter.unusedSimpArgs false

/-- A source of an append: nil (then empty), or m elements of k ints each at its address. -/
structure Src (w : World) (k : Nat) (A : Option Addr) (m c : Nat) (zs : List Int) : Prop where
  len : zs.length = m * k
  nil : A = none → m = 0 ∧ c = 0
  cell : ∀ ad, A = some ad → ∀ j u, zs[j]? = some u → w.cell? (ad.add j) = some (.int .i64 u)
theorem run_append_src {P : Program} (w : World) (t ty : TypeId) (base : Nat) (e : TypeId) (k bytes : Nat) (z : Value) (ht : P.underlying t = some (.slice e))
    (hinfo : (P.info? e).map (fun i => (i.zero, i.size, i.bytes)) = some (some z, k, bytes)) (hzk : z.cells.size = k) (hk : 0 < k) (hkb : bytes ≤ 1000)
    (zs news : List Int) (n m c : Nat) (v : Value) (hown : w.ownsRow base e k v n (zs.map (Value.int .i64))) (A : Option Addr) (hs : Src w k A m c news) (hlen : n + m ≤ 100000000) (hbase : base ≤ w.heap.size) :
    ∃ v' w', (Builtin.append_ #[t, t] ty #[v, .slice A m c]).run P w = .ok v' w' ∧ w'.ownsRow base e k v' (n + m) ((zs ++ news).map (Value.int .i64)) ∧ w.grownBy w' v.ownBlock := by
  cases A with
  | none =>
    obtain ⟨rfl, rfl⟩ := hs.nil rfl
    have hn : news = [] := by have := hs.len; exact List.length_eq_zero_iff.1 (by simpa using this)
    subst hn
    obtain ⟨i, hi, _⟩ := info_parts hinfo
    refine ⟨v, w, run_append_owned_none w base t ty e i k ht hi v n (zs.map (Value.int .i64)) hown, by simpa using hown, ⟨rfl, rfl, rfl, Nat.le_refl _, fun _ _ _ => rfl⟩⟩
  | some ad => exact run_append_flat w t ty base e k bytes z ht hinfo hzk hk hkb zs news n m c v hown ad hs.len (hs.cell ad rfl) hlen hbase

theorem oper_wp_value {P : Program} {o : Oper} {a : Act} {w w' : World} {v : Value} {K : Act → World → Prop} {Q : Exit → Act → World → Prop}
    (hr : (execOp a.eval o).run P w = .ok (.value v) w') (h : K (a.put o.dst v) w') : o.wp P a w K Q := by
  unfold Oper.wp
  rw [hr]
  exact h
theorem oper_wp_append {P : Program} {o : Oper} {a : Act} {w w' : World} {v' vs vx : Value} {K : Act → World → Prop} {Q : Exit → Act → World → Prop} (s x : Operand) (t : TypeId)
    (ho : o.op = .call { callee := .builtin .append, args := #[s, x], argTypes := #[t, t] }) (hs : a.eval s = vs) (hx : a.eval x = vx)
    (hr : (Builtin.append_ #[t, t] o.type #[vs, vx]).run P w = .ok v' w') (h : K (a.put o.dst v') w') : o.wp P a w K Q := by
  unfold Oper.wp execOp
  simp only [ho, resolve, invoke, builtin, Sem.run_bind, Sem.run_pure, Result.andThen_ok, List.map_toArray, List.map_cons, List.map_nil, hs, hx, hr]
  exact h
theorem eval_put_ne (a : Act) (d j : Nat) (u : Value) (h : d ≠ j) : (a.put (some d) u).eval (.tmp j) = a.eval (.tmp j) := by
  simp [Act.put, Act.eval, Array.getElem?_setIfInBounds, h]
theorem eval_put_eq (a : Act) (d : Nat) (u : Value) (h : d < a.tmps.size) : (a.put (some d) u).eval (.tmp d) = u := by
  simp [Act.put, Act.eval, Array.getElem?_setIfInBounds, h]
theorem size_put (a : Act) (d : Nat) (u : Value) : (a.put (some d) u).tmps.size = a.tmps.size := by simp [Act.put]
theorem put_comm (a : Act) {d d' : Nat} (u u' : Value) (h : d ≠ d') : (a.put (some d) u).put (some d') u' = (a.put (some d') u').put (some d) u := by
  simp only [Act.put, Act.mk.injEq, and_true]
  exact Array.setIfInBounds_comm _ _ h
theorem listed_comm (l : Array Bool) {i i' : Nat} (h : i ≠ i') : (l.setIfInBounds i true).setIfInBounds i' true = (l.setIfInBounds i' true).setIfInBounds i true :=
  Array.setIfInBounds_comm _ _ h
theorem wanted_plain {o : Oper} {y : Nat → Option Bool} (h : o.guard = none) : Region.wanted o y = true := by simp [Region.wanted, h]

section
variable {P : Program} {md : Region.Mode} {ops : Array Oper} {Q : Exit → Act → World → Prop} {X : World}
/-- One operation alone is ready: an append onto a row of the call's own. -/
theorem wpAnyH_app {i ds d j : Nat} {fuel : Nat} {listed : Array Bool} {a : Act} {w : World} {t ty : TypeId} {pos : String} {af : Array Edge}
    (ho : ops[i]? = some ⟨some d, .call { callee := .builtin .append, args := #[.tmp ds, .tmp j], argTypes := #[t, t] }, ty, pos, af, none⟩) (hr : Region.ready md ops listed = [i])
    (e : TypeId) (k bytes : Nat) (z : Value) (ht : P.underlying t = some (.slice e))
    (hinfo : (P.info? e).map (fun i => (i.zero, i.size, i.bytes)) = some (some z, k, bytes)) (hzk : z.cells.size = k) (hk : 0 < k) (hkb : bytes ≤ 1000)
    (zs news : List Int) (n m c : Nat) (v : Value) (A : Option Addr) (hev : a.eval (.tmp ds) = v) (hex : a.eval (.tmp j) = .slice A m c)
    (hS : Below X.heap.size X w) (hown : w.ownsRow X.heap.size e k v n (zs.map (Value.int .i64))) (hs : Src w k A m c news) (hlen : n + m ≤ 100000000)
    (h : ∀ v' w', w'.ownsRow X.heap.size e k v' (n + m) ((zs ++ news).map (Value.int .i64)) → Below X.heap.size X w' → w.grownBy w' v.ownBlock →
      wpAnyH P md ops Q (fun w' => Below X.heap.size X w') fuel (listed.setIfInBounds i true) (a.put (some d) v') w') :
    wpAnyH P md ops Q (fun w' => Below X.heap.size X w') (fuel + 1) listed a w := by
  obtain ⟨v', w', hrun, hown', hgrow⟩ := run_append_src w t ty X.heap.size e k bytes z ht hinfo hzk hk hkb zs news n m c v hown A hs hlen hS.size
  refine wpAnyH_ready hr (by simp) (AllReadyH.cons ho (fun K hK => ?_) AllReadyH.nil)
  rw [if_pos (wanted_plain rfl)]
  refine oper_wp_append _ _ _ rfl hev hex hrun ?_
  have hB := below_app hS hown hgrow
  exact hK.out _ _ hB (fun _ => h v' w' hown' hB hgrow)
/-- Three appends, one behind the other; the one element's row may be laid at whatever time. -/
theorem wpAnyH_append3 {i0 i1 iB i2 i3 d0 d1 dB d2 d3 j1 j3 : Nat} {fuel : Nat} {listed : Array Bool} {a : Act} {w : World} {t : TypeId} {o0 oB : Oper} {ty1 ty2 ty3 : TypeId} {p1 p2 p3 : String} {af1 af2 af3 : Array Edge}
    (ho0 : ops[i0]? = some o0) (hoB : ops[iB]? = some oB)
    (ho1 : ops[i1]? = some ⟨some d1, .call { callee := .builtin .append, args := #[.tmp d0, .tmp j1], argTypes := #[t, t] }, ty1, p1, af1, none⟩)
    (ho2 : ops[i2]? = some ⟨some d2, .call { callee := .builtin .append, args := #[.tmp d1, .tmp dB], argTypes := #[t, t] }, ty2, p2, af2, none⟩)
    (ho3 : ops[i3]? = some ⟨some d3, .call { callee := .builtin .append, args := #[.tmp d2, .tmp j3], argTypes := #[t, t] }, ty3, p3, af3, none⟩)
    (hg0 : o0.guard = none ∧ o0.dst = some d0) (hgB : oB.guard = none ∧ oB.dst = some dB)
    (r0 : Region.ready md ops listed = [i0, iB]) (r1 : Region.ready md ops (listed.setIfInBounds i0 true) = [i1, iB]) (r2 : Region.ready md ops (listed.setIfInBounds iB true) = [i0])
    (r3 : Region.ready md ops ((listed.setIfInBounds i0 true).setIfInBounds i1 true) = [iB]) (r4 : Region.ready md ops ((listed.setIfInBounds i0 true).setIfInBounds iB true) = [i1])
    (r5 : Region.ready md ops (((listed.setIfInBounds i0 true).setIfInBounds i1 true).setIfInBounds iB true) = [i2])
    (r6 : Region.ready md ops ((((listed.setIfInBounds i0 true).setIfInBounds i1 true).setIfInBounds iB true).setIfInBounds i2 true) = [i3])
    (hij : i0 ≠ iB ∧ i1 ≠ iB) (hd : d0 ≠ d1 ∧ d0 ≠ dB ∧ d1 ≠ dB ∧ d0 ≠ j1 ∧ dB ≠ j1 ∧ d0 ≠ j3 ∧ d1 ≠ j3 ∧ dB ≠ j3 ∧ d2 ≠ j3) (hsz : d0 < a.tmps.size ∧ d1 < a.tmps.size ∧ dB < a.tmps.size ∧ d2 < a.tmps.size)
    (e : TypeId) (k bytes : Nat) (z : Value) (ht : P.underlying t = some (.slice e))
    (hinfo : (P.info? e).map (fun i => (i.zero, i.size, i.bytes)) = some (some z, k, bytes)) (hzk : z.cells.size = k) (hk : 0 < k) (hkb : bytes ≤ 1000)
    (run0 : ∀ a w, (execOp (Act.eval a) o0).run P w = .ok (.value (.slice (some ⟨w.heap.size, 0, none⟩) 0 0)) (w.alloc (.cells #[] e)))
    (row : List Int) (hrow : row.length = k)
    (runB : ∀ a' w, (∀ j, j ≠ d0 → j ≠ d1 → Act.eval a' (.tmp j) = a.eval (.tmp j)) → (execOp (Act.eval a') oB).run P w = .ok (.value (.slice (some ⟨w.heap.size, 0, none⟩) 1 1)) (w.alloc (.cells (row.map (Value.int .i64)).toArray e)))
    (zs1 zs3 : List Int) (n1 c1 n3 c3 : Nat) (A1 A3 : Option Addr) (e1 : a.eval (.tmp j1) = .slice A1 n1 c1) (e3 : a.eval (.tmp j3) = .slice A3 n3 c3)
    (hS : Below X.heap.size X w) (hs1 : ∀ w', Below X.heap.size X w' → Src w' k A1 n1 c1 zs1) (hs3 : ∀ w', Below X.heap.size X w' → Src w' k A3 n3 c3 zs3) (hlen : n1 + 1 + n3 ≤ 100000000)
    (h : ∀ u0 u1 uB u2 g c' w', n1 + 1 + n3 ≤ c' → c' ≤ maxLen → X.heap.size ≤ g → w'.ownsRow X.heap.size e k (.slice (some ⟨g, 0, none⟩) (n1 + 1 + n3) c') (n1 + 1 + n3) ((zs1 ++ row ++ zs3).map (Value.int .i64)) → Below X.heap.size X w' →
      wpAnyH P md ops Q (fun w' => Below X.heap.size X w') fuel (((((listed.setIfInBounds i0 true).setIfInBounds i1 true).setIfInBounds iB true).setIfInBounds i2 true).setIfInBounds i3 true)
        (((((a.put (some d0) u0).put (some d1) u1).put (some dB) uB).put (some d2) u2).put (some d3) (.slice (some ⟨g, 0, none⟩) (n1 + 1 + n3) c')) w') :
    wpAnyH P md ops Q (fun w' => Below X.heap.size X w') (fuel + 5) listed a w := by
  obtain ⟨hg0, hd0⟩ := hg0
  obtain ⟨hgB, hdB⟩ := hgB
  obtain ⟨q01, q0B, q1B, q0j, qBj, q0j3, q1j3, qBj3, q2j3⟩ := hd
  obtain ⟨z0, z1, zB, z2⟩ := hsz
  -- what is common tt0 all orders: the last two appends
  have last : ∀ u0 u1 uB w1, Below X.heap.size X w1 → w1.ownsRow X.heap.size e k u1 n1 (zs1.map (Value.int .i64)) → (∃ b, uB = .slice (some ⟨b, 0, none⟩) 1 1 ∧ ∀ j u, row[j]? = some u → w1.cell? ((⟨b, 0, none⟩ : Addr).add j) = some (.int .i64 u)) →
      wpAnyH P md ops Q (fun w' => Below X.heap.size X w') (fuel + 2) (((listed.setIfInBounds i0 true).setIfInBounds i1 true).setIfInBounds iB true) (((a.put (some d0) u0).put (some d1) u1).put (some dB) uB) w1 := by
    intro u0 u1 uB w1 hB1 hown1 ⟨b, hub, hcell⟩
    refine wpAnyH_app (fuel := fuel + 1) ho2 r5 e k bytes z ht hinfo hzk hk hkb zs1 row n1 1 1 u1 (some ⟨b, 0, none⟩) ?_ ?_ hB1 hown1 ⟨by rw [hrow, Nat.one_mul], (by intro h; cases h), fun ad had => by cases had; exact hcell⟩ (by omega) ?_
    · rw [eval_put_ne _ _ _ _ (Ne.symm q1B), eval_put_eq _ _ _ (by rw [size_put]; exact z1)]
    · rw [eval_put_eq _ _ _ (by rw [size_put, size_put]; exact zB), hub]
    · intro v2 w2 hown2 hB2 _
      refine wpAnyH_app (fuel := fuel) ho3 r6 e k bytes z ht hinfo hzk hk hkb (zs1 ++ row) zs3 (n1 + 1) n3 c3 v2 A3 ?_ ?_ hB2 hown2 (hs3 w2 hB2) hlen ?_
      · rw [eval_put_eq _ _ _ (by simp only [size_put]; exact z2)]
      · rw [eval_put_ne _ _ _ _ q2j3, eval_put_ne _ _ _ _ qBj3, eval_put_ne _ _ _ _ q1j3, eval_put_ne _ _ _ _ q0j3, e3]
      · intro v3 w3 hown3 hB3 _
        have hf := hown3
        rcases hf.2 with ⟨_, h0⟩ | ⟨g, cap, cur, hv, hb, _, hnc, hcm, _⟩
        · omega
        subst hv
        exact h u0 u1 uB v2 g cap w3 hnc hcm hb hown3 hB3
  have row_cells : ∀ (w1 : World), ∀ j u, row[j]? = some u → (w1.alloc (.cells (row.map (Value.int .i64)).toArray e)).cell? ((⟨w1.heap.size, 0, none⟩ : Addr).add j) = some (.int .i64 u) := by
    intro w1 j u hu
    rw [Addr.add_lit, Nat.zero_add, cell_of_row _ w1.heap.size j _ e (0, 0) (heap_alloc_new w1 _)]
    simp [hu]
  refine wpAnyH_ready (fuel := fuel + 4) r0 (by simp) (AllReadyH.cons ho0 (fun K hK => ?_) (AllReadyH.cons hoB (fun K hK => ?_) AllReadyH.nil))
  · rw [if_pos (wanted_plain hg0)]
    refine oper_wp_value (run0 a w) ?_
    rw [hd0]
    have hBa := hS.alloc hS.size (.cells #[] e)
    have hr0 := World.ownsRow_made (base := X.heap.size) (e := e) (size := k) w #[] 0 hS.size (Nat.zero_le _) (by simp)
    refine hK.out _ _ hBa (fun _ => ?_)
    clear hK K
    refine wpAnyH_ready (fuel := fuel + 3) r1 (by simp) (AllReadyH.cons ho1 (fun K hK => ?_) (AllReadyH.cons hoB (fun K hK => ?_) AllReadyH.nil))
    · -- 0, 1, B
      rw [if_pos (wanted_plain rfl)]
      obtain ⟨v1, w1, hrun, hown1, hgrow⟩ := run_append_src (w.alloc (.cells #[] e)) t ty1 X.heap.size e k bytes z ht hinfo hzk hk hkb [] zs1 0 n1 c1 _ hr0 A1 (hs1 _ hBa) (by omega) hBa.size
      refine oper_wp_append _ _ _ rfl (eval_put_eq _ _ _ z0) (by rw [eval_put_ne _ _ _ _ q0j, e1]) hrun ?_
      have hB1 := below_app hBa hr0 hgrow
      refine hK.out _ _ hB1 (fun _ => ?_)
      clear hK K
      refine wpAnyH_ready (fuel := fuel + 2) r3 (by simp) (AllReadyH.cons hoB (fun K hK => ?_) AllReadyH.nil)
      rw [if_pos (wanted_plain hgB)]
      refine oper_wp_value (runB _ w1 (fun j h0 h1 => by rw [eval_put_ne _ _ _ _ (Ne.symm h1), eval_put_ne _ _ _ _ (Ne.symm h0)])) ?_
      rw [hdB]
      have hBb := hB1.alloc hB1.size (.cells (row.map (Value.int .i64)).toArray e)
      refine hK.out _ _ hBb (fun _ => ?_)
      clear hK K
      rw [Nat.zero_add] at hown1
      exact last _ _ _ _ hBb ((by simpa using hown1 : w1.ownsRow X.heap.size e k v1 n1 (zs1.map (Value.int .i64))).alloc _) ⟨_, rfl, row_cells w1⟩
    · -- 0, B, 1
      rw [if_pos (wanted_plain hgB)]
      refine oper_wp_value (runB _ _ (fun j h0 h1 => by rw [eval_put_ne _ _ _ _ (Ne.symm h0)])) ?_
      rw [hdB]
      have hBb := hBa.alloc hBa.size (.cells (row.map (Value.int .i64)).toArray e)
      have hr1 := hr0.alloc (.cells (row.map (Value.int .i64)).toArray e)
      refine hK.out _ _ hBb (fun _ => ?_)
      clear hK K
      obtain ⟨v1, w1, hrun, hown1, hgrow⟩ := run_append_src ((w.alloc (.cells #[] e)).alloc (.cells (row.map (Value.int .i64)).toArray e)) t ty1 X.heap.size e k bytes z ht hinfo hzk hk hkb [] zs1 0 n1 c1 _ hr1 A1 (hs1 _ hBb) (by omega) hBb.size
      refine wpAnyH_ready (fuel := fuel + 2) r4 (by simp) (AllReadyH.cons ho1 (fun K hK => ?_) AllReadyH.nil)
      rw [if_pos (wanted_plain rfl)]
      refine oper_wp_append _ _ _ rfl (by rw [eval_put_ne _ _ _ _ (Ne.symm q0B), eval_put_eq _ _ _ z0]) (by rw [eval_put_ne _ _ _ _ qBj, eval_put_ne _ _ _ _ q0j, e1]) hrun ?_
      have hB1 := below_app hBb hr1 hgrow
      refine hK.out _ _ hB1 (fun _ => ?_)
      clear hK K
      rw [Nat.zero_add] at hown1
      rw [put_comm _ _ _ (Ne.symm q1B), listed_comm _ (Ne.symm hij.2)]
      refine last _ _ _ _ hB1 (by simpa using hown1) ⟨_, rfl, fun j u hu => ?_⟩
      have hblk := hgrow.block (w.alloc (.cells #[] e)).heap.size (by simp) (by simp [Value.ownBlock])
      have hq := row_cells (w.alloc (.cells #[] e)) j u hu
      rw [Addr.add_lit] at hq ⊢
      rw [World.cell?_of_block (a := (⟨(w.alloc (.cells #[] e)).heap.size, 0 + j, none⟩ : Addr)) hblk]
      exact hq
  · -- B, 0, 1
    rw [if_pos (wanted_plain hgB)]
    refine oper_wp_value (runB _ _ (fun j h0 h1 => rfl)) ?_
    rw [hdB]
    have hBa := hS.alloc hS.size (.cells (row.map (Value.int .i64)).toArray e)
    refine hK.out _ _ hBa (fun _ => ?_)
    clear hK K
    refine wpAnyH_ready (fuel := fuel + 3) r2 (by simp) (AllReadyH.cons ho0 (fun K hK => ?_) AllReadyH.nil)
    rw [if_pos (wanted_plain hg0)]
    refine oper_wp_value (run0 _ _) ?_
    rw [hd0]
    have hBb := hBa.alloc hBa.size (.cells #[] e)
    have hr1 := World.ownsRow_made (base := X.heap.size) (e := e) (size := k) (w.alloc (.cells (row.map (Value.int .i64)).toArray e)) #[] 0 hBa.size (Nat.zero_le _) (by simp)
    refine hK.out _ _ hBb (fun _ => ?_)
    clear hK K
    rw [listed_comm _ (Ne.symm hij.1)]
    obtain ⟨v1, w1, hrun, hown1, hgrow⟩ := run_append_src ((w.alloc (.cells (row.map (Value.int .i64)).toArray e)).alloc (.cells #[] e)) t ty1 X.heap.size e k bytes z ht hinfo hzk hk hkb [] zs1 0 n1 c1 _ hr1 A1 (hs1 _ hBb) (by omega) hBb.size
    refine wpAnyH_ready (fuel := fuel + 2) r4 (by simp) (AllReadyH.cons ho1 (fun K hK => ?_) AllReadyH.nil)
    rw [if_pos (wanted_plain rfl)]
    refine oper_wp_append _ _ _ rfl (eval_put_eq _ _ _ (by rw [size_put]; exact z0)) (by rw [eval_put_ne _ _ _ _ q0j, eval_put_ne _ _ _ _ qBj, e1]) hrun ?_
    have hB1 := below_app hBb hr1 hgrow
    refine hK.out _ _ hB1 (fun _ => ?_)
    clear hK K
    rw [Nat.zero_add] at hown1
    rw [listed_comm _ (Ne.symm hij.2)]
    rw [put_comm a _ _ (Ne.symm q0B), put_comm (a.put (some d0) _) _ _ (Ne.symm q1B)]
    refine last _ _ _ _ hB1 (by simpa using hown1) ⟨_, rfl, fun j u hu => ?_⟩
    have hblk := hgrow.block w.heap.size (by simp; omega) (by simp [Value.ownBlock])
    have h2 := ((Below.refl (w.alloc (.cells (row.map (Value.int .i64)).toArray e)).heap.size (w.alloc (.cells (row.map (Value.int .i64)).toArray e))).alloc (Nat.le_refl _) (.cells #[] e)).block w.heap.size (by simp)
    have hq := row_cells w j u hu
    rw [Addr.add_lit] at hq ⊢
    rw [World.cell?_of_block (a := (⟨w.heap.size, 0 + j, none⟩ : Addr)) (hblk.trans h2)]
    exact hq
end
end Go.Proofs.YtjkockhldaacbaaDoor
