/-
  Texts of this claim, merged.
-/
import Derived.Test.YtpndjhelpoenpaaGreatDoorZC8
set_option linter.unusedVariables false
set_option linter.unusedSimpArgs false
set_option maxRecDepth 100000
set_option maxHeartbeats 8000000
namespace Go.Proofs.YtpndjhelpoenpaaGreatDoor
open Go.RowKit
structure Cls (S : World → Prop) (nb : Nat) : Prop where
 size : ∀ w, S w → nb ≤ w.heap.size
 alloc : ∀ w o, S w → S (w.alloc o)
 grown : ∀ w w' r, S w → w.grownBy w' r → (∀ k, r = some k → nb ≤ k) → S w'
theorem cls_but {W : World} {r : Nat} : Cls (fun w => W.grownBy w (some r)) W.heap.size :=
 ⟨fun w h => h.size, fun w o h => ⟨h.os, h.tape, h.output, Nat.le_trans h.size (by simp), fun k hk hr => (heap_alloc_old w o (Nat.lt_of_lt_of_le hk h.size)).trans (h.block k hk hr)⟩,
  fun w w' r' h hg hr => ⟨hg.os.trans h.os, hg.tape.trans h.tape, hg.output.trans h.output, Nat.le_trans h.size hg.size, fun k hk hk' => (hg.block k (Nat.lt_of_lt_of_le hk h.size) (fun e => by have := hr k e.symm; omega)).trans (h.block k hk hk')⟩⟩
section
variable {P : Program} {md : Region.Mode} {ops : Array Oper} {Q : Exit → Act → World → Prop} {S : World → Prop} {nb : Nat}
theorem wpAnyH_appS {i ds d j : Nat} {fuel : Nat} {listed : Array Bool} {a : Act} {w : World} {t ty : TypeId} {pos : String} {af : Array Edge}
  (ho : ops[i]? = some ⟨some d, .call { callee := .builtin .append, args := #[.tmp ds, .tmp j], argTypes := #[t, t] }, ty, pos, af, none⟩) (hr : Region.ready md ops listed = [i])
  (e : TypeId) (k bytes : Nat) (z : Value) (ht : P.underlying t = some (.slice e))
  (hinfo : (P.info? e).map (fun i => (i.zero, i.size, i.bytes)) = some (some z, k, bytes)) (hzk : z.cells.size = k) (hk : 0 < k) (hkb : bytes ≤ 1000)
  (zs news : List Int) (n m c : Nat) (v : Value) (A : Option Addr) (hev : a.eval (.tmp ds) = v) (hex : a.eval (.tmp j) = .slice A m c)
  (hC : Cls S nb) (hS : S w) (hown : w.ownsRow nb e k v n (zs.map (Value.int .i64))) (hs : Src w k A m c news) (hlen : n + m ≤ 100000000)
  (h : ∀ v' w', w'.ownsRow nb e k v' (n + m) ((zs ++ news).map (Value.int .i64)) → S w' → w.grownBy w' v.ownBlock →
   wpAnyH P md ops Q S fuel (listed.setIfInBounds i true) (a.put (some d) v') w') :
  wpAnyH P md ops Q S (fuel + 1) listed a w := by
 obtain ⟨v', w', hrun, hown', hgrow⟩ := run_append_src w t ty nb e k bytes z ht hinfo hzk hk hkb zs news n m c v hown A hs hlen (hC.size _ hS)
 refine wpAnyH_ready hr (by simp) (AllReadyH.cons ho (fun K hK => ?_) AllReadyH.nil)
 rw [if_pos (wanted_plain rfl)]
 refine oper_wp_append _ _ _ rfl hev hex hrun ?_
 have hB := hC.grown _ _ _ hS hgrow (fun k hk => (World.ownsRow.lt hown k hk).1)
 exact hK.out _ _ hB (fun _ => h v' w' hown' hB hgrow)
theorem wpAnyH_append3S {i0 i1 iB i2 i3 d0 d1 dB d2 d3 j1 j3 : Nat} {fuel : Nat} {listed : Array Bool} {a : Act} {w : World} {t : TypeId} {o0 oB : Oper} {ty1 ty2 ty3 : TypeId} {p1 p2 p3 : String} {af1 af2 af3 : Array Edge}
  (ho0 : ops[i0]? = some o0) (hoB : ops[iB]? = some oB)
  (ho1 : ops[i1]? = some ⟨some d1, .call { callee := .builtin .append, args := #[.tmp d0, .tmp j1], argTypes := #[t, t] }, ty1, p1, af1, none⟩)
  (ho2 : ops[i2]? = some ⟨some d2, .call { callee := .builtin .append, args := #[.tmp d1, .tmp dB], argTypes := #[t, t] }, ty2, p2, af2, none⟩)
  (ho3 : ops[i3]? = some ⟨some d3, .call { callee := .builtin .append, args := #[.tmp d2, .tmp j3], argTypes := #[t, t] }, ty3, p3, af3, none⟩)
  (hg0 : o0.guard = none ∧ o0.dst = some d0) (hgB : oB.guard = none ∧ oB.dst = some dB)
  (r0 : Region.ready md ops listed = [i0, iB]) (r1 : Region.ready md ops (listed.setIfInBounds i0 true) = [i1, iB]) (r2 : Region.ready md ops (listed.setIfInBounds iB true) = [i0])
  (r3 : Region.ready md ops ((listed.setIfInBounds i0 true).setIfInBounds i1 true) = [iB]) (r4 : Region.ready md ops ((listed.setIfInBounds i0 true).setIfInBounds iB true) = [i1])
  (r5 : Region.ready md ops (((listed.setIfInBounds i0 true).setIfInBounds i1 true).setIfInBounds iB true) = [i2])
  (r6 : Region.ready md ops ((((listed.setIfInBounds i0 true).setIfInBounds i1 true).setIfInBounds iB true).setIfInBounds i2 true) = [i3])
  (hij : i0 ≠ iB ∧ i1 ≠ iB) (hd : d0 ≠ d1 ∧ d0 ≠ dB ∧ d1 ≠ dB ∧ d0 ≠ j1 ∧ dB ≠ j1 ∧ d0 ≠ j3 ∧ d1 ≠ j3 ∧ dB ≠ j3 ∧ d2 ≠ j3) (hsz : d0 < a.tmps.size ∧ d1 < a.tmps.size ∧ dB < a.tmps.size ∧ d2 < a.tmps.size)
  (e : TypeId) (k bytes : Nat) (z : Value) (ht : P.underlying t = some (.slice e))
  (hinfo : (P.info? e).map (fun i => (i.zero, i.size, i.bytes)) = some (some z, k, bytes)) (hzk : z.cells.size = k) (hk : 0 < k) (hkb : bytes ≤ 1000)
  (run0 : ∀ a w, (execOp (Act.eval a) o0).run P w = .ok (.value (.slice (some ⟨w.heap.size, 0, none⟩) 0 0)) (w.alloc (.cells #[] e)))
  (row : List Int) (hrow : row.length = k)
  (runB : ∀ a' w, (∀ j, j ≠ d0 → j ≠ d1 → Act.eval a' (.tmp j) = a.eval (.tmp j)) → (execOp (Act.eval a') oB).run P w = .ok (.value (.slice (some ⟨w.heap.size, 0, none⟩) 1 1)) (w.alloc (.cells (row.map (Value.int .i64)).toArray e)))
  (zs1 zs3 : List Int) (n1 c1 n3 c3 : Nat) (A1 A3 : Option Addr) (e1 : a.eval (.tmp j1) = .slice A1 n1 c1) (e3 : a.eval (.tmp j3) = .slice A3 n3 c3)
  (hC : Cls S nb) (hS : S w) (hs1 : ∀ w', S w' → Src w' k A1 n1 c1 zs1) (hs3 : ∀ w', S w' → Src w' k A3 n3 c3 zs3) (hlen : n1 + 1 + n3 ≤ 100000000)
  (h : ∀ u0 u1 uB u2 g c' w', n1 + 1 + n3 ≤ c' → c' ≤ maxLen → nb ≤ g → w'.ownsRow nb e k (.slice (some ⟨g, 0, none⟩) (n1 + 1 + n3) c') (n1 + 1 + n3) ((zs1 ++ row ++ zs3).map (Value.int .i64)) → S w' →
   wpAnyH P md ops Q S fuel (((((listed.setIfInBounds i0 true).setIfInBounds i1 true).setIfInBounds iB true).setIfInBounds i2 true).setIfInBounds i3 true)
    (((((a.put (some d0) u0).put (some d1) u1).put (some dB) uB).put (some d2) u2).put (some d3) (.slice (some ⟨g, 0, none⟩) (n1 + 1 + n3) c')) w') :
  wpAnyH P md ops Q S (fuel + 5) listed a w := by
 obtain ⟨hg0, hd0⟩ := hg0
 obtain ⟨hgB, hdB⟩ := hgB
 obtain ⟨q01, q0B, q1B, q0j, qBj, q0j3, q1j3, qBj3, q2j3⟩ := hd
 obtain ⟨z0, z1, zB, z2⟩ := hsz
 -- what is common tt0 all orders: the last two appends
 have last : ∀ u0 u1 uB w1, S w1 → w1.ownsRow nb e k u1 n1 (zs1.map (Value.int .i64)) → (∃ b, uB = .slice (some ⟨b, 0, none⟩) 1 1 ∧ ∀ j u, row[j]? = some u → w1.cell? ((⟨b, 0, none⟩ : Addr).add j) = some (.int .i64 u)) →
   wpAnyH P md ops Q S (fuel + 2) (((listed.setIfInBounds i0 true).setIfInBounds i1 true).setIfInBounds iB true) (((a.put (some d0) u0).put (some d1) u1).put (some dB) uB) w1 := by
  intro u0 u1 uB w1 hB1 hown1 ⟨b, hub, hcell⟩
  refine wpAnyH_appS (fuel := fuel + 1) ho2 r5 e k bytes z ht hinfo hzk hk hkb zs1 row n1 1 1 u1 (some ⟨b, 0, none⟩) ?_ ?_ hC hB1 hown1 ⟨by rw [hrow, Nat.one_mul], (by intro h; cases h), fun ad had => by cases had; exact hcell⟩ (by omega) ?_
  ·rw [eval_put_ne _ _ _ _ (Ne.symm q1B), eval_put_eq _ _ _ (by rw [size_put]; exact z1)]
  ·rw [eval_put_eq _ _ _ (by rw [size_put, size_put]; exact zB), hub]
  ·intro v2 w2 hown2 hB2 _
   refine wpAnyH_appS (fuel := fuel) ho3 r6 e k bytes z ht hinfo hzk hk hkb (zs1 ++ row) zs3 (n1 + 1) n3 c3 v2 A3 ?_ ?_ hC hB2 hown2 (hs3 w2 hB2) hlen ?_
   ·rw [eval_put_eq _ _ _ (by simp only [size_put]; exact z2)]
   ·rw [eval_put_ne _ _ _ _ q2j3, eval_put_ne _ _ _ _ qBj3, eval_put_ne _ _ _ _ q1j3, eval_put_ne _ _ _ _ q0j3, e3]
   ·intro v3 w3 hown3 hB3 _
    have hf := hown3
    rcases hf.2 with ⟨_, h0⟩ | ⟨g, cap, cur, hv, hb, _, hnc, hcm, _⟩
    ·omega
    subst hv
    exact h u0 u1 uB v2 g cap w3 hnc hcm hb hown3 hB3
 have row_cells : ∀ (w1 : World), ∀ j u, row[j]? = some u → (w1.alloc (.cells (row.map (Value.int .i64)).toArray e)).cell? ((⟨w1.heap.size, 0, none⟩ : Addr).add j) = some (.int .i64 u) := by
  intro w1 j u hu
  rw [Addr.add_lit, Nat.zero_add, cell_of_row _ w1.heap.size j _ e (0, 0) (heap_alloc_new w1 _)]
  simp [hu]
 refine wpAnyH_ready (fuel := fuel + 4) r0 (by simp) (AllReadyH.cons ho0 (fun K hK => ?_) (AllReadyH.cons hoB (fun K hK => ?_) AllReadyH.nil))
 ·rw [if_pos (wanted_plain hg0)]
  refine oper_wp_value (run0 a w) ?_
  rw [hd0]
  have hBa := hC.alloc _ (.cells #[] e) hS
  have hr0 := World.ownsRow_made (base := nb) (e := e) (size := k) w #[] 0 (hC.size _ hS) (Nat.zero_le _) (by simp)
  refine hK.out _ _ hBa (fun _ => ?_)
  clear hK K
  refine wpAnyH_ready (fuel := fuel + 3) r1 (by simp) (AllReadyH.cons ho1 (fun K hK => ?_) (AllReadyH.cons hoB (fun K hK => ?_) AllReadyH.nil))
  · -- 0, 1, B
   rw [if_pos (wanted_plain rfl)]
   obtain ⟨v1, w1, hrun, hown1, hgrow⟩ := run_append_src (w.alloc (.cells #[] e)) t ty1 nb e k bytes z ht hinfo hzk hk hkb [] zs1 0 n1 c1 _ hr0 A1 (hs1 _ hBa) (by omega) (hC.size _ hBa)
   refine oper_wp_append _ _ _ rfl (eval_put_eq _ _ _ z0) (by rw [eval_put_ne _ _ _ _ q0j, e1]) hrun ?_
   have hB1 := hC.grown _ _ _ hBa hgrow (fun k hk => (World.ownsRow.lt hr0 k hk).1)
   refine hK.out _ _ hB1 (fun _ => ?_)
   clear hK K
   refine wpAnyH_ready (fuel := fuel + 2) r3 (by simp) (AllReadyH.cons hoB (fun K hK => ?_) AllReadyH.nil)
   rw [if_pos (wanted_plain hgB)]
   refine oper_wp_value (runB _ w1 (fun j h0 h1 => by rw [eval_put_ne _ _ _ _ (Ne.symm h1), eval_put_ne _ _ _ _ (Ne.symm h0)])) ?_
   rw [hdB]
   have hBb := hC.alloc _ (.cells (row.map (Value.int .i64)).toArray e) hB1
   refine hK.out _ _ hBb (fun _ => ?_)
   clear hK K
   rw [Nat.zero_add] at hown1
   exact last _ _ _ _ hBb ((by simpa using hown1 : w1.ownsRow nb e k v1 n1 (zs1.map (Value.int .i64))).alloc _) ⟨_, rfl, row_cells w1⟩
  · -- 0, B, 1
   rw [if_pos (wanted_plain hgB)]
   refine oper_wp_value (runB _ _ (fun j h0 h1 => by rw [eval_put_ne _ _ _ _ (Ne.symm h0)])) ?_
   rw [hdB]
   have hBb := hC.alloc _ (.cells (row.map (Value.int .i64)).toArray e) hBa
   have hr1 := hr0.alloc (.cells (row.map (Value.int .i64)).toArray e)
   refine hK.out _ _ hBb (fun _ => ?_)
   clear hK K
   obtain ⟨v1, w1, hrun, hown1, hgrow⟩ := run_append_src ((w.alloc (.cells #[] e)).alloc (.cells (row.map (Value.int .i64)).toArray e)) t ty1 nb e k bytes z ht hinfo hzk hk hkb [] zs1 0 n1 c1 _ hr1 A1 (hs1 _ hBb) (by omega) (hC.size _ hBb)
   refine wpAnyH_ready (fuel := fuel + 2) r4 (by simp) (AllReadyH.cons ho1 (fun K hK => ?_) AllReadyH.nil)
   rw [if_pos (wanted_plain rfl)]
   refine oper_wp_append _ _ _ rfl (by rw [eval_put_ne _ _ _ _ (Ne.symm q0B), eval_put_eq _ _ _ z0]) (by rw [eval_put_ne _ _ _ _ qBj, eval_put_ne _ _ _ _ q0j, e1]) hrun ?_
   have hB1 := hC.grown _ _ _ hBb hgrow (fun k hk => (World.ownsRow.lt hr1 k hk).1)
   refine hK.out _ _ hB1 (fun _ => ?_)
   clear hK K
   rw [Nat.zero_add] at hown1
   rw [put_comm _ _ _ (Ne.symm q1B), listed_comm _ (Ne.symm hij.2)]
   refine last _ _ _ _ hB1 (by simpa using hown1) ⟨_, rfl, fun j u hu => ?_⟩
   have hblk := hgrow.block (w.alloc (.cells #[] e)).heap.size (by simp) (by simp [Value.ownBlock])
   have hq := row_cells (w.alloc (.cells #[] e)) j u hu
   rw [Addr.add_lit] at hq ⊢
   rw [World.cell?_of_block (a := (⟨(w.alloc (.cells #[] e)).heap.size, 0 + j, none⟩ : Addr)) hblk]
   exact hq
 · -- B, 0, 1
  rw [if_pos (wanted_plain hgB)]
  refine oper_wp_value (runB _ _ (fun j h0 h1 => rfl)) ?_
  rw [hdB]
  have hBa := hC.alloc _ (.cells (row.map (Value.int .i64)).toArray e) hS
  refine hK.out _ _ hBa (fun _ => ?_)
  clear hK K
  refine wpAnyH_ready (fuel := fuel + 3) r2 (by simp) (AllReadyH.cons ho0 (fun K hK => ?_) AllReadyH.nil)
  rw [if_pos (wanted_plain hg0)]
  refine oper_wp_value (run0 _ _) ?_
  rw [hd0]
  have hBb := hC.alloc _ (.cells #[] e) hBa
  have hr1 := World.ownsRow_made (base := nb) (e := e) (size := k) (w.alloc (.cells (row.map (Value.int .i64)).toArray e)) #[] 0 (hC.size _ hBa) (Nat.zero_le _) (by simp)
  refine hK.out _ _ hBb (fun _ => ?_)
  clear hK K
  rw [listed_comm _ (Ne.symm hij.1)]
  obtain ⟨v1, w1, hrun, hown1, hgrow⟩ := run_append_src ((w.alloc (.cells (row.map (Value.int .i64)).toArray e)).alloc (.cells #[] e)) t ty1 nb e k bytes z ht hinfo hzk hk hkb [] zs1 0 n1 c1 _ hr1 A1 (hs1 _ hBb) (by omega) (hC.size _ hBb)
  refine wpAnyH_ready (fuel := fuel + 2) r4 (by simp) (AllReadyH.cons ho1 (fun K hK => ?_) AllReadyH.nil)
  rw [if_pos (wanted_plain rfl)]
  refine oper_wp_append _ _ _ rfl (eval_put_eq _ _ _ (by rw [size_put]; exact z0)) (by rw [eval_put_ne _ _ _ _ q0j, eval_put_ne _ _ _ _ qBj, e1]) hrun ?_
  have hB1 := hC.grown _ _ _ hBb hgrow (fun k hk => (World.ownsRow.lt hr1 k hk).1)
  refine hK.out _ _ hB1 (fun _ => ?_)
  clear hK K
  rw [Nat.zero_add] at hown1
  rw [listed_comm _ (Ne.symm hij.2)]
  rw [put_comm a _ _ (Ne.symm q0B), put_comm (a.put (some d0) _) _ _ (Ne.symm q1B)]
  refine last _ _ _ _ hB1 (by simpa using hown1) ⟨_, rfl, fun j u hu => ?_⟩
  have hblk := hgrow.block w.heap.size (by simp; omega) (by simp [Value.ownBlock])
  have h2 := ((Below.refl (w.alloc (.cells (row.map (Value.int .i64)).toArray e)).heap.size (w.alloc (.cells (row.map (Value.int .i64)).toArray e))).alloc (Nat.le_refl _) (.cells #[] e)).block w.heap.size (by simp)
  have hq := row_cells w j u hu
  rw [Addr.add_lit] at hq ⊢
  rw [World.cell?_of_block (a := (⟨w.heap.size, 0 + j, none⟩ : Addr)) (hblk.trans h2)]
  exact hq
end
end Go.Proofs.YtpndjhelpoenpaaGreatDoor
namespace Go.Proofs.YtpndjhelpoenpaaGreatDoor
open Go.RowKit Go.Sort
attribute [local go_sem ↓] Go.wp_at_zero Go.wp_at_succ
def placeV (f : Nat → Int) (id : Int) : Nat → Nat → Nat
 | 0, k => k
 | m + 1, k => if f (k * 4) < id then placeV f id m (k + 1) else k
def buildL (f : Nat → Int) (n p : Nat) (id hd : Int) : List Int := (cellsL f n).take (p * 4) ++ [id, hd, 0, 0] ++ (cellsL f n).drop (p * 4)
def buildPost (w : World) (L : List Int) (n : Nat) (I H S P : Int) (e : Ending) (w' : World) : Prop :=
 ∃ A' c', e = .returned (.agg #[.slice A' n c', .int .i64 I, .int .i64 H, .int .i64 S, .int .i64 P]) ∧ n ≤ c' ∧ c' ≤ maxLen ∧ w'.ownsRow w.heap.size 97 4 (.slice A' n c') n (L.map (Value.int .i64)) ∧ Below w.heap.size w w'
theorem Sl.srcTake {w : World} {lo hi n c : Nat} {A : Option Addr} {f : Nat → Int} (h : Sl w lo hi 4 A n f) (hz : A = none → n = 0 ∧ c = 0) {p : Nat} (hp : p ≤ n) : Src w 4 A p c ((cellsL f n).take (p * 4)) := by
 refine ⟨by rw [List.length_take, cellsL_len]; omega, fun e => by have := hz e; omega, fun ad had j u hu => ?_⟩
 have hl := (List.getElem?_eq_some_iff.1 hu).1
 rw [List.length_take, cellsL_len] at hl
 rw [List.getElem?_take_of_lt (by omega)] at hu
 exact (h.src hz).cell ad had j u hu
theorem Sl.srcDrop {w : World} {lo hi n c' b off : Nat} {f : Nat → Int} (h : Sl w lo hi 4 (some ⟨b, off, none⟩) n f) {p : Nat} (hp : p ≤ n) : Src w 4 (some ⟨b, off + p * 4, none⟩) (n - p) c' ((cellsL f n).drop (p * 4)) := by
 refine ⟨by rw [List.length_drop, cellsL_len]; omega, (by intro e; cases e), fun ad had j u hu => ?_⟩
 cases had
 rw [List.getElem?_drop] at hu
 have := (h.src (c := n) (by intro e; cases e)).cell _ rfl _ u hu
 rw [Addr.add_lit] at this ⊢
 rw [Nat.add_assoc]
 exact this
theorem infoPans : (Tryz.prog.info? 30).map (·.size) = some 1 := by kernel_rfl
theorem Cls.box {S : World → Prop} {nb : Nat} (h : Cls S nb) {r : Nat} (hr : r < nb) (Qb : Option Obj → Prop) : Cls (fun w => S w ∧ Qb w.heap[r]?) nb :=
 ⟨fun w hw => h.size w hw.1, fun w o hw => ⟨h.alloc w o hw.1, by rw [heap_alloc_old w o (Nat.lt_of_lt_of_le hr (h.size w hw.1))]; exact hw.2⟩,
  fun w w' k hw hg hk => ⟨h.grown w w' k hw.1 hg hk, by rw [hg.block r (Nat.lt_of_lt_of_le hr (h.size w hw.1)) (fun e => by have := hk r e.symm; omega)]; exact hw.2⟩⟩
section
variable {P : Program} {md : Region.Mode} {ops : Array Oper} {Q : Exit → Act → World → Prop} {S : World → Prop}
theorem wpAnyH_store2 {i : Nat} {fuel : Nat} {listed : Array Bool} {a : Act} {w : World} {t ty : TypeId} {pos : String} {af : Array Edge} {p x : Operand}
  (ho : ops[i]? = some ⟨none, .store t p x, ty, pos, af, none⟩) (hr : Region.ready md ops listed = [i])
  (g o : Nat) (v : Value) (T : TypeId) (cur : Array Value) (hp : a.eval p = .pointer (some ⟨g, o, none⟩)) (hx : a.eval x = v) (hi : (P.info? t).map (·.size) = some v.cells.size)
  (hg : w.heap[g]? = some (.cells cur T (0, 0))) (hfit : o + v.cells.size ≤ cur.size) (h1 : v.cells.all (·.oneCell') = true)
  (hS : ∀ w', w'.heap[g]? = some (.cells (putRow cur o v.cells) T (0, 0)) → w.grownBy w' (some g) → S w')
  (h : ∀ w', w'.heap[g]? = some (.cells (putRow cur o v.cells) T (0, 0)) → w.grownBy w' (some g) → S w' →
   wpAnyH P md ops Q S fuel (listed.setIfInBounds i true) a w') :
  wpAnyH P md ops Q S (fuel + 1) listed a w := by
 have hrun := run_storeAt_at (P := P) w t g o v T cur hi hg hfit h1
 have hgr := grown_setRow w g (putRow cur o v.cells)
 have hh := setRow_heap w g cur (putRow cur o v.cells) T _ hg
 have hB := hS _ hh hgr
 refine wpAnyH_ready hr (by simp) (AllReadyH.cons ho (fun K hK => ?_) AllReadyH.nil)
 rw [if_pos (wanted_plain rfl)]
 unfold Oper.wp execOp
 simp only [hp, hx, Sem.run_bind, hrun, Result.andThen_ok, Sem.run_pure]
 exact hK.out _ _ hB (fun _ => h _ hh hgr hB)
end
theorem l25Build_any (A : Option Addr) (n c lo hi : Nat) (f : Nat → Int) (I H S P id hd : Int) (w : World) (hs : Sl w lo hi 4 A n f) (hn : n ≤ 1048576) (hnc : n ≤ c) (hnone : A = none → n = 0 ∧ c = 0) (hform : ∀ ad, A = some ad → ∃ b off, ad = ⟨b, off, none⟩) :
  Calls Tryz.prog 155 #[.agg #[.slice A n c, .int .i64 I, .int .i64 H, .int .i64 S, .int .i64 P], .int .i64 id, .int .i64 hd] w (buildPost w (buildL f n (placeV f id n 0) id hd) (n + 1) I H S P) := by
 have hX : Below w.heap.size w ((w.alloc (.cells #[.slice A n c, .int .i64 I, .int .i64 H, .int .i64 S, .int .i64 P] 32)).alloc (.cells #[.slice none 0 0, .int .i64 0, .int .i64 0, .int .i64 0, .int .i64 0] 32)) := ((Below.refl _ w).alloc (Nat.le_refl _) _).alloc (by simp) _
 have HX := lh hX
 clear hX
 go_enter Tryz.func155, Tryz.ntmps155
 go_wp2_with fail
 refine (l25Own_any A n c lo hi f I H S P _ (hs.below HX.out) hn hnc hnone).mono ?_
 rintro e w1 ⟨A1, c1, rfl, _, _, _, hb1⟩
 obtain ⟨b0, b1, b2, b3, b4⟩ := cells5 (bx (g := w.heap.size) hb1)
 have hr1 : w1.heap[w.heap.size + 1]? = some (.cells #[.slice none 0 0, .int .i64 0, .int .i64 0, .int .i64 0, .int .i64 0] 32) := (hb1.block (w.heap.size + 1) (by simp)).trans (by have := heap_alloc_new (w.alloc (.cells #[.slice A n c, .int .i64 I, .int .i64 H, .int .i64 S, .int .i64 P] 32)) (.cells #[.slice none 0 0, .int .i64 0, .int .i64 0, .int .i64 0, .int .i64 0] 32); simpa using this)
 have z1 := hb1.size
 simp only [World.size_alloc] at z1
 have B1 := HX.out.trans (hb1.mono HX.out.size)
 clear hb1
 have hR1 := lh hr1
 have hB1 := lh B1
 clear hr1 B1
 go_upto_region 2 with fail
 refine name_wp ?_
 intro w2 hw2
 have b12 := ba hw2
 have p0 := kp b12 b0
 have p1 := kp b12 b1
 have p2 := kp b12 b2
 have p3 := kp b12 b3
 have p4 := kp b12 b4
 have h7 : w2.heap[w1.heap.size]? = some (.cells #[.slice A1 n c1, .int .i64 I, .int .i64 H, .int .i64 S, .int .i64 P] 32) := by
  rw [hw2]
  exact heap_alloc_new w1 _
 have hr2 : w2.heap[w.heap.size + 1]? = some (.cells #[.slice none 0 0, .int .i64 0, .int .i64 0, .int .i64 0, .int .i64 0] 32) := by
  rw [hw2, heap_alloc_old _ _ (by omega)]
  exact hR1.out
 have B2 : Below w.heap.size w w2 := by
  rw [hw2]
  exact hB1.out.alloc hB1.out.size _
 clear hw2 b0 b1 b2 b3 b4 hR1 hB1 b12
 generalize w1.heap.size = g7 at *
 have HBw : Hid (∀ w', w2.grownBy w' (some g7) → Below w.heap.size w w') := fun w' hq => B2.grown hq B2.size (fun k hk => by cases hk; omega)
 have HF : Hid (∀ w', w2.grownBy w' (some g7) ∧ (∃ V, w'.heap[g7]? = some (.cells #[V, .int .i64 I, .int .i64 H, .int .i64 S, .int .i64 P] 32)) → w'.cell? ⟨w.heap.size, 0, none⟩ = some (.slice A n c) ∧ w'.cell? ⟨w.heap.size, 1, none⟩ = some (.int .i64 I) ∧ w'.cell? ⟨w.heap.size, 2, none⟩ = some (.int .i64 H) ∧ w'.cell? ⟨w.heap.size, 3, none⟩ = some (.int .i64 S) ∧ w'.cell? ⟨w.heap.size, 4, none⟩ = some (.int .i64 P)) := by
  rintro w' ⟨hq, _⟩
  have u0 := hq.block w.heap.size (World.block_lt_of_cell? _ _ p0) (by simp; omega)
  exact ⟨(World.cell?_of_block (a := ⟨w.heap.size, 0, none⟩) u0).trans p0, (World.cell?_of_block (a := ⟨w.heap.size, 1, none⟩) u0).trans p1, (World.cell?_of_block (a := ⟨w.heap.size, 2, none⟩) u0).trans p2, (World.cell?_of_block (a := ⟨w.heap.size, 3, none⟩) u0).trans p3, (World.cell?_of_block (a := ⟨w.heap.size, 4, none⟩) u0).trans p4⟩
 have hg7 : g7 < w2.heap.size := (Array.getElem?_eq_some_iff.1 h7).1
 have H7 := lh h7
 have HR2 := lh hr2
 have HSW := lh hs
 have HB2 := lh B2
 clear p1 p2 p3 p4 h7 hr2 B2 hs HX
 go_wp2_with fail
 go_loopw [8] (fun kv wr => wr = w2 ∧ ∃ k : Nat, k ≤ n ∧ kv = .int .i64 k ∧ placeV f id n 0 = placeV f id (n - k) k) (fun kv _ => n - (intOf kv).toNat)
 case atStart => exact ⟨rfl, 0, Nat.zero_le _, rfl, rfl⟩
 case round =>
  obtain ⟨rfl, k, hk, rfl, hpl⟩ := hrel
  by_cases hlt : k < n
  ·obtain ⟨b, off, rfl, hbw, HC⟩ := HSW.out.open_ HB2.out (by omega)
   obtain ⟨c0, c1, c2, c3⟩ := cell4 HC hlt
   have hk0i : (0 : Int) ≤ (k : Int) := by omega
   have hkni : (k : Int) < (n : Int) := by omega
   have hkci : (k : Int) ≤ (c : Int) := by omega
   have hkcn : k ≤ c := by omega
   have hknn : k ≤ n := hk
   have e1 : n - k = (n - k - 1) + 1 := by omega
   clear HC
   by_cases hid : f (k * 4) < id
   ·have hst : placeV f id n 0 = placeV f id (n - (k + 1)) (k + 1) := by
     rw [hpl, e1]
     show (if f (k * 4) < id then placeV f id (n - k - 1) (k + 1) else k) = _
     rw [if_pos hid]
     rfl
    have HST := lh hst
    clear hst hpl e1 hkci hkcn hknn
    go_wp2
    go_roundw
    case rel => exact ⟨trivial, k + 1, by omega, by go_num, HST.out⟩
    case measure => simp [intOf]; omega
   ·have hst : placeV f id n 0 = k := by
     rw [hpl, e1]
     show (if f (k * 4) < id then placeV f id (n - k - 1) (k + 1) else k) = _
     rw [if_neg hid]
    have HST := lh hst
    have hck : ¬ c = k := by omega
    clear hst hpl e1
    go_wp2_with fail
    refine wp_region_held_drew (S := (fun w' => wr.grownBy w' (some g7) ∧ ∃ V, w'.heap[g7]? = some (.cells #[V, .int .i64 I, .int .i64 H, .int .i64 S, .int .i64 P] 32))) (by kernel_rfl) ⟨⟨rfl, rfl, rfl, Nat.le_refl _, fun _ _ _ => rfl⟩, _, H7.out⟩ (fun jd => ?_)
    refine tj4 1 29 3 31 6 34 7 35 HF jd ?_
    refine tj4 11 39 13 41 2 30 8 36 HF jd ?_
    refine tj3 12 40 4 32 14 42 HF jd ?_
    refine wpAnyH_append3S (fuel := 2) (i0 := 0) (i1 := 5) (iB := 9) (i2 := 10) (i3 := 15) (d0 := 28) (d1 := 33) (dB := 37) (d2 := 38) (d3 := 43) (j1 := 32) (j3 := 42) rfl rfl rfl rfl rfl ⟨rfl, rfl⟩ ⟨rfl, rfl⟩ (by kernel_rfl) (by kernel_rfl) (by kernel_rfl) (by kernel_rfl) (by kernel_rfl) (by kernel_rfl) (by kernel_rfl) (by decide) (by decide) (by simp) 97 4 32 (.agg #[.int .i64 0, .int .i64 0, .int .i64 0, .int .i64 0]) Tryz.underlying30 infoPan rfl (by decide) (by decide) ?run0a [id, hd, 0, 0] rfl ?runBa ((cellsL f n).take (k * 4)) ((cellsL f n).drop (k * 4)) k c (n - k) (c - k) (some ⟨b, off, none⟩) (some ⟨b, off + k * 4, none⟩) rfl rfl (cls_but.box (r := g7) hg7 (fun o => ∃ V, o = some (.cells #[V, .int .i64 I, .int .i64 H, .int .i64 S, .int .i64 P] 32))) jd ?s1a ?s3a (by omega) ?nexta
    case run0a => intro a w; go_simp
    case runBa =>
     intro a' w hev
     have h1 : a'.eval (.tmp 36) = .agg #[.int .i64 id, .int .i64 hd, .int .i64 0, .int .i64 0] := (hev 36 (by decide) (by decide)).trans rfl
     have h2 : a'.tmps[36]?.getD undef = .agg #[.int .i64 id, .int .i64 hd, .int .i64 0, .int .i64 0] := by simpa [Act.eval] using h1
     clear h1 hev
     go_simp
    case s1a =>
     intro w' hb'
     exact Sl.srcTake (HSW.out.below (HBw.out w' hb'.1)) (by simp) (by omega)
    case s3a =>
     intro w' hb'
     exact Sl.srcDrop (HSW.out.below (HBw.out w' hb'.1)) (by omega)
    case nexta =>
    intro u0 u1 uB u2 g' c' w3 hc1 hc2 hg1 hown' hS3
    simp only [Act.put, p1, p2, p3]
    have jd := hS3
    refine tj 16 44 HF rfl jd ?_
    obtain ⟨hS31, V, hV⟩ := hS3
    refine wpAnyH_store2 (fuel := 0) (i := 17) rfl (by kernel_rfl) g7 0 (.slice (some ⟨g', 0, none⟩) (k + 1 + (n - k)) c') 32 #[V, .int .i64 I, .int .i64 H, .int .i64 S, .int .i64 P] rfl rfl infoPans hV (Nat.le_add_left 1 4) (by simp [Value.cells, Value.oneCell']) (fun w' h1 hg => ⟨grown_trans hS31 hg, _, h1⟩) ?sta
    case sta =>
    intro w4 h4 hg4 hS4
    have h4' : w4.heap[g7]? = some (.cells #[.slice (some ⟨g', 0, none⟩) (k + 1 + (n - k)) c', .int .i64 I, .int .i64 H, .int .i64 S, .int .i64 P] 32) := h4
    have hk1 : k + 1 + (n - k) = n + 1 := by omega
    rw [hk1] at h4' hown' hc1
    refine wpAnyH_done (by kernel_rfl) ?_ _
    have hO4 := own_other hown' hV (by decide) hg4
    have hB4 := HBw.out w4 hS4.1
    have hr4 := (hS4.1.block (w.heap.size + 1) (Array.getElem?_eq_some_iff.1 HR2.out).1 (by simp; omega)).trans HR2.out
    obtain ⟨e0, e1, e2, e3, e4⟩ := cells5 h4'
    obtain ⟨r0, r1, r2, r3, r4⟩ := cells5 hr4
    have rf := fz hr4
    have n1 : g7 ≠ w.heap.size + 1 := by omega
    have n2 : w.heap.size + 1 ≠ g7 := by omega
    have lg : wr.heap.size ≤ g' := (World.ownsRow.lt hO4 g' rfl).1
    have n3 : g' ≠ w.heap.size + 1 := by omega
    have HO4 := lh hO4
    have HB4 := lh hB4
    clear hO4 hB4 h4 h4' hV hS4 hg4 hr4 hown' HF H7 HR2 HSW HBw HB2 jd p0
    go_wp2
    obtain ⟨wq, hwq⟩ : ∃ wq, wq = (((((w4.setCell ⟨w.heap.size + 1, 0, none⟩ (.slice (some ⟨g', 0, none⟩) (n + 1) c')).setCell ⟨w.heap.size + 1, 1, none⟩ (.int .i64 I)).setCell ⟨w.heap.size + 1, 2, none⟩ (.int .i64 H)).setCell ⟨w.heap.size + 1, 3, none⟩ (.int .i64 S)).setCell ⟨w.heap.size + 1, 4, none⟩ (.int .i64 P)) := ⟨_, rfl⟩
    rw [← hwq]
    have q0 : wq.cell? ⟨w.heap.size + 1, 0, none⟩ = some (.slice (some ⟨g', 0, none⟩) (n + 1) c') := by rw [hwq]; go_simp
    have q1 : wq.cell? ⟨w.heap.size + 1, 1, none⟩ = some (.int .i64 I) := by rw [hwq]; go_simp
    have q2 : wq.cell? ⟨w.heap.size + 1, 2, none⟩ = some (.int .i64 H) := by rw [hwq]; go_simp
    have q3 : wq.cell? ⟨w.heap.size + 1, 3, none⟩ = some (.int .i64 S) := by rw [hwq]; go_simp
    have q4 : wq.cell? ⟨w.heap.size + 1, 4, none⟩ = some (.int .i64 P) := by rw [hwq]; go_simp
    have hBq : Below w.heap.size w wq := by
     rw [hwq]
     exact ((((HB4.out.setCell (show w.heap.size ≤ w.heap.size + 1 by omega) _).setCell (show w.heap.size ≤ w.heap.size + 1 by omega) _).setCell (show w.heap.size ≤ w.heap.size + 1 by omega) _).setCell (show w.heap.size ≤ w.heap.size + 1 by omega) _).setCell (show w.heap.size ≤ w.heap.size + 1 by omega) _
    have hOq := HO4.out
    have no : ∀ j : Nat, (Value.slice (some ⟨g', 0, none⟩) (n + 1) c').ownBlock ≠ some (⟨w.heap.size + 1, j, none⟩ : Addr).block := fun j => by simp [Value.ownBlock, n3]
    have hOq := ownsRow_setCell_other (ownsRow_setCell_other (ownsRow_setCell_other (ownsRow_setCell_other (ownsRow_setCell_other hOq (no 0) (.slice (some ⟨g', 0, none⟩) (n + 1) c')) (no 1) (.int .i64 I)) (no 2) (.int .i64 H)) (no 3) (.int .i64 S)) (no 4) (.int .i64 P)
    rw [← hwq] at hOq
    clear hwq HO4 HB4
    refine bodyPost_ret (by simp [results, Tryz.results155, go_sem, q0, q1, q2, q3, q4]; try rfl) rfl ?_
    rw [HST.out]
    exact ⟨_, c', rfl, hc1, hc2, ownsRow_monoP hOq (by omega), hBq⟩
  ·have hkn : k = n := by omega
   subst hkn
   have hst : placeV f id k 0 = k := by rw [hpl, Nat.sub_self]; rfl
   have HST := lh hst
   have hki : ¬ ((k : Int) < (k : Int)) := by omega
   have hk0i : (0 : Int) ≤ (k : Int) := by omega
   have hkci : (k : Int) ≤ (c : Int) := by omega
   clear hst hpl
   cases A with
   | none =>
    have H0 := lh (hnone rfl)
    clear hnone
    go_wp2_with fail
    refine wp_region_held_drew (S := (fun w' => wr.grownBy w' (some g7) ∧ ∃ V, w'.heap[g7]? = some (.cells #[V, .int .i64 I, .int .i64 H, .int .i64 S, .int .i64 P] 32))) (by kernel_rfl) ⟨⟨rfl, rfl, rfl, Nat.le_refl _, fun _ _ _ => rfl⟩, _, H7.out⟩ (fun jd => ?_)
    refine tj4 1 29 3 31 6 34 7 35 HF jd ?_
    refine tj4 11 39 13 41 2 30 8 36 HF jd ?_
    refine tj3 12 40 4 32 14 42 HF jd ?_
    refine wpAnyH_append3S (fuel := 2) (i0 := 0) (i1 := 5) (iB := 9) (i2 := 10) (i3 := 15) (d0 := 28) (d1 := 33) (dB := 37) (d2 := 38) (d3 := 43) (j1 := 32) (j3 := 42) rfl rfl rfl rfl rfl ⟨rfl, rfl⟩ ⟨rfl, rfl⟩ (by kernel_rfl) (by kernel_rfl) (by kernel_rfl) (by kernel_rfl) (by kernel_rfl) (by kernel_rfl) (by kernel_rfl) (by decide) (by decide) (by simp) 97 4 32 (.agg #[.int .i64 0, .int .i64 0, .int .i64 0, .int .i64 0]) Tryz.underlying30 infoPan rfl (by decide) (by decide) ?run0d [id, hd, 0, 0] rfl ?runBd ((cellsL f k).take (k * 4)) ((cellsL f k).drop (k * 4)) k c (0) (c - k) none none rfl rfl (cls_but.box (r := g7) hg7 (fun o => ∃ V, o = some (.cells #[V, .int .i64 I, .int .i64 H, .int .i64 S, .int .i64 P] 32))) jd ?s1d ?s3d (by omega) ?nextd
    case run0d => intro a w; go_simp
    case runBd =>
     intro a' w hev
     have h1 : a'.eval (.tmp 36) = .agg #[.int .i64 id, .int .i64 hd, .int .i64 0, .int .i64 0] := (hev 36 (by decide) (by decide)).trans rfl
     have h2 : a'.tmps[36]?.getD undef = .agg #[.int .i64 id, .int .i64 hd, .int .i64 0, .int .i64 0] := by simpa [Act.eval] using h1
     clear h1 hev
     go_simp
    case s1d =>
     intro w' hb'
     exact Sl.srcTake (HSW.out.below (HBw.out w' hb'.1)) (fun _ => H0.out) (Nat.le_refl _)
    case s3d =>
     intro w' hb'
     exact ⟨by rw [List.drop_of_length_le (by rw [cellsL_len]; exact Nat.le_refl _)]; rfl, fun _ => ⟨rfl, by have := H0.out; omega⟩, fun ad had => by cases had⟩
    case nextd =>
    intro u0 u1 uB u2 g' c' w3 hc1 hc2 hg1 hown' hS3
    simp only [Act.put, p1, p2, p3]
    have jd := hS3
    refine tj 16 44 HF rfl jd ?_
    obtain ⟨hS31, V, hV⟩ := hS3
    refine wpAnyH_store2 (fuel := 0) (i := 17) rfl (by kernel_rfl) g7 0 (.slice (some ⟨g', 0, none⟩) (k + 1 + (0)) c') 32 #[V, .int .i64 I, .int .i64 H, .int .i64 S, .int .i64 P] rfl rfl infoPans hV (Nat.le_add_left 1 4) (by simp [Value.cells, Value.oneCell']) (fun w' h1 hg => ⟨grown_trans hS31 hg, _, h1⟩) ?std
    case std =>
    intro w4 h4 hg4 hS4
    have h4' : w4.heap[g7]? = some (.cells #[.slice (some ⟨g', 0, none⟩) (k + 1 + (0)) c', .int .i64 I, .int .i64 H, .int .i64 S, .int .i64 P] 32) := h4
    have hk1 : k + 1 + (0) = k + 1 := by omega
    rw [hk1] at h4' hown' hc1
    refine wpAnyH_done (by kernel_rfl) ?_ _
    have hO4 := own_other hown' hV (by decide) hg4
    have hB4 := HBw.out w4 hS4.1
    have hr4 := (hS4.1.block (w.heap.size + 1) (Array.getElem?_eq_some_iff.1 HR2.out).1 (by simp; omega)).trans HR2.out
    obtain ⟨e0, e1, e2, e3, e4⟩ := cells5 h4'
    obtain ⟨r0, r1, r2, r3, r4⟩ := cells5 hr4
    have rf := fz hr4
    have n1 : g7 ≠ w.heap.size + 1 := by omega
    have n2 : w.heap.size + 1 ≠ g7 := by omega
    have lg : wr.heap.size ≤ g' := (World.ownsRow.lt hO4 g' rfl).1
    have n3 : g' ≠ w.heap.size + 1 := by omega
    have HO4 := lh hO4
    have HB4 := lh hB4
    clear hO4 hB4 h4 h4' hV hS4 hg4 hr4 hown' HF H7 HR2 HSW HBw HB2 jd p0
    go_wp2
    obtain ⟨wq, hwq⟩ : ∃ wq, wq = (((((w4.setCell ⟨w.heap.size + 1, 0, none⟩ (.slice (some ⟨g', 0, none⟩) (k + 1) c')).setCell ⟨w.heap.size + 1, 1, none⟩ (.int .i64 I)).setCell ⟨w.heap.size + 1, 2, none⟩ (.int .i64 H)).setCell ⟨w.heap.size + 1, 3, none⟩ (.int .i64 S)).setCell ⟨w.heap.size + 1, 4, none⟩ (.int .i64 P)) := ⟨_, rfl⟩
    rw [← hwq]
    have q0 : wq.cell? ⟨w.heap.size + 1, 0, none⟩ = some (.slice (some ⟨g', 0, none⟩) (k + 1) c') := by rw [hwq]; go_simp
    have q1 : wq.cell? ⟨w.heap.size + 1, 1, none⟩ = some (.int .i64 I) := by rw [hwq]; go_simp
    have q2 : wq.cell? ⟨w.heap.size + 1, 2, none⟩ = some (.int .i64 H) := by rw [hwq]; go_simp
    have q3 : wq.cell? ⟨w.heap.size + 1, 3, none⟩ = some (.int .i64 S) := by rw [hwq]; go_simp
    have q4 : wq.cell? ⟨w.heap.size + 1, 4, none⟩ = some (.int .i64 P) := by rw [hwq]; go_simp
    have hBq : Below w.heap.size w wq := by
     rw [hwq]
     exact ((((HB4.out.setCell (show w.heap.size ≤ w.heap.size + 1 by omega) _).setCell (show w.heap.size ≤ w.heap.size + 1 by omega) _).setCell (show w.heap.size ≤ w.heap.size + 1 by omega) _).setCell (show w.heap.size ≤ w.heap.size + 1 by omega) _).setCell (show w.heap.size ≤ w.heap.size + 1 by omega) _
    have hOq := HO4.out
    have no : ∀ j : Nat, (Value.slice (some ⟨g', 0, none⟩) (k + 1) c').ownBlock ≠ some (⟨w.heap.size + 1, j, none⟩ : Addr).block := fun j => by simp [Value.ownBlock, n3]
    have hOq := ownsRow_setCell_other (ownsRow_setCell_other (ownsRow_setCell_other (ownsRow_setCell_other (ownsRow_setCell_other hOq (no 0) (.slice (some ⟨g', 0, none⟩) (k + 1) c')) (no 1) (.int .i64 I)) (no 2) (.int .i64 H)) (no 3) (.int .i64 S)) (no 4) (.int .i64 P)
    rw [← hwq] at hOq
    clear hwq HO4 HB4
    refine bodyPost_ret (by simp [results, Tryz.results155, go_sem, q0, q1, q2, q3, q4]; try rfl) rfl ?_
    rw [HST.out]
    exact ⟨_, c', rfl, hc1, hc2, ownsRow_monoP hOq (by omega), hBq⟩
   | some ad =>
    obtain ⟨b, off, rfl⟩ := hform ad rfl
    by_cases hck : c = k
    ·subst hck
     go_wp2_with fail
     refine wp_region_held_drew (S := (fun w' => wr.grownBy w' (some g7) ∧ ∃ V, w'.heap[g7]? = some (.cells #[V, .int .i64 I, .int .i64 H, .int .i64 S, .int .i64 P] 32))) (by kernel_rfl) ⟨⟨rfl, rfl, rfl, Nat.le_refl _, fun _ _ _ => rfl⟩, _, H7.out⟩ (fun jd => ?_)
     refine tj4 1 29 3 31 6 34 7 35 HF jd ?_
     refine tj4 11 39 13 41 2 30 8 36 HF jd ?_
     refine tj3 12 40 4 32 14 42 HF jd ?_
     refine wpAnyH_append3S (fuel := 2) (i0 := 0) (i1 := 5) (iB := 9) (i2 := 10) (i3 := 15) (d0 := 28) (d1 := 33) (dB := 37) (d2 := 38) (d3 := 43) (j1 := 32) (j3 := 42) rfl rfl rfl rfl rfl ⟨rfl, rfl⟩ ⟨rfl, rfl⟩ (by kernel_rfl) (by kernel_rfl) (by kernel_rfl) (by kernel_rfl) (by kernel_rfl) (by kernel_rfl) (by kernel_rfl) (by decide) (by decide) (by simp) 97 4 32 (.agg #[.int .i64 0, .int .i64 0, .int .i64 0, .int .i64 0]) Tryz.underlying30 infoPan rfl (by decide) (by decide) ?run0b [id, hd, 0, 0] rfl ?runBb ((cellsL f c).take (c * 4)) ((cellsL f c).drop (c * 4)) c c (0) (0) (some ⟨b, off, none⟩) (some ⟨b, off, none⟩) rfl rfl (cls_but.box (r := g7) hg7 (fun o => ∃ V, o = some (.cells #[V, .int .i64 I, .int .i64 H, .int .i64 S, .int .i64 P] 32))) jd ?s1b ?s3b (by omega) ?nextb
     case run0b => intro a w; go_simp
     case runBb =>
      intro a' w hev
      have h1 : a'.eval (.tmp 36) = .agg #[.int .i64 id, .int .i64 hd, .int .i64 0, .int .i64 0] := (hev 36 (by decide) (by decide)).trans rfl
      have h2 : a'.tmps[36]?.getD undef = .agg #[.int .i64 id, .int .i64 hd, .int .i64 0, .int .i64 0] := by simpa [Act.eval] using h1
      clear h1 hev
      go_simp
     case s1b =>
      intro w' hb'
      exact Sl.srcTake (HSW.out.below (HBw.out w' hb'.1)) (by simp) (by omega)
     case s3b =>
      intro w' hb'
      exact Src.none_of (by rw [List.drop_of_length_le (by rw [cellsL_len]; exact Nat.le_refl _)]) (by simp)
     case nextb =>
     intro u0 u1 uB u2 g' c' w3 hc1 hc2 hg1 hown' hS3
     simp only [Act.put, p1, p2, p3]
     have jd := hS3
     refine tj 16 44 HF rfl jd ?_
     obtain ⟨hS31, V, hV⟩ := hS3
     refine wpAnyH_store2 (fuel := 0) (i := 17) rfl (by kernel_rfl) g7 0 (.slice (some ⟨g', 0, none⟩) (c + 1 + (0)) c') 32 #[V, .int .i64 I, .int .i64 H, .int .i64 S, .int .i64 P] rfl rfl infoPans hV (Nat.le_add_left 1 4) (by simp [Value.cells, Value.oneCell']) (fun w' h1 hg => ⟨grown_trans hS31 hg, _, h1⟩) ?stb
     case stb =>
     intro w4 h4 hg4 hS4
     have h4' : w4.heap[g7]? = some (.cells #[.slice (some ⟨g', 0, none⟩) (c + 1 + (0)) c', .int .i64 I, .int .i64 H, .int .i64 S, .int .i64 P] 32) := h4
     have hk1 : c + 1 + (0) = c + 1 := by omega
     rw [hk1] at h4' hown' hc1
     refine wpAnyH_done (by kernel_rfl) ?_ _
     have hO4 := own_other hown' hV (by decide) hg4
     have hB4 := HBw.out w4 hS4.1
     have hr4 := (hS4.1.block (w.heap.size + 1) (Array.getElem?_eq_some_iff.1 HR2.out).1 (by simp; omega)).trans HR2.out
     obtain ⟨e0, e1, e2, e3, e4⟩ := cells5 h4'
     obtain ⟨r0, r1, r2, r3, r4⟩ := cells5 hr4
     have rf := fz hr4
     have n1 : g7 ≠ w.heap.size + 1 := by omega
     have n2 : w.heap.size + 1 ≠ g7 := by omega
     have lg : wr.heap.size ≤ g' := (World.ownsRow.lt hO4 g' rfl).1
     have n3 : g' ≠ w.heap.size + 1 := by omega
     have HO4 := lh hO4
     have HB4 := lh hB4
     clear hO4 hB4 h4 h4' hV hS4 hg4 hr4 hown' HF H7 HR2 HSW HBw HB2 jd p0
     go_wp2
     obtain ⟨wq, hwq⟩ : ∃ wq, wq = (((((w4.setCell ⟨w.heap.size + 1, 0, none⟩ (.slice (some ⟨g', 0, none⟩) (c + 1) c')).setCell ⟨w.heap.size + 1, 1, none⟩ (.int .i64 I)).setCell ⟨w.heap.size + 1, 2, none⟩ (.int .i64 H)).setCell ⟨w.heap.size + 1, 3, none⟩ (.int .i64 S)).setCell ⟨w.heap.size + 1, 4, none⟩ (.int .i64 P)) := ⟨_, rfl⟩
     rw [← hwq]
     have q0 : wq.cell? ⟨w.heap.size + 1, 0, none⟩ = some (.slice (some ⟨g', 0, none⟩) (c + 1) c') := by rw [hwq]; go_simp
     have q1 : wq.cell? ⟨w.heap.size + 1, 1, none⟩ = some (.int .i64 I) := by rw [hwq]; go_simp
     have q2 : wq.cell? ⟨w.heap.size + 1, 2, none⟩ = some (.int .i64 H) := by rw [hwq]; go_simp
     have q3 : wq.cell? ⟨w.heap.size + 1, 3, none⟩ = some (.int .i64 S) := by rw [hwq]; go_simp
     have q4 : wq.cell? ⟨w.heap.size + 1, 4, none⟩ = some (.int .i64 P) := by rw [hwq]; go_simp
     have hBq : Below w.heap.size w wq := by
      rw [hwq]
      exact ((((HB4.out.setCell (show w.heap.size ≤ w.heap.size + 1 by omega) _).setCell (show w.heap.size ≤ w.heap.size + 1 by omega) _).setCell (show w.heap.size ≤ w.heap.size + 1 by omega) _).setCell (show w.heap.size ≤ w.heap.size + 1 by omega) _).setCell (show w.heap.size ≤ w.heap.size + 1 by omega) _
     have hOq := HO4.out
     have no : ∀ j : Nat, (Value.slice (some ⟨g', 0, none⟩) (c + 1) c').ownBlock ≠ some (⟨w.heap.size + 1, j, none⟩ : Addr).block := fun j => by simp [Value.ownBlock, n3]
     have hOq := ownsRow_setCell_other (ownsRow_setCell_other (ownsRow_setCell_other (ownsRow_setCell_other (ownsRow_setCell_other hOq (no 0) (.slice (some ⟨g', 0, none⟩) (c + 1) c')) (no 1) (.int .i64 I)) (no 2) (.int .i64 H)) (no 3) (.int .i64 S)) (no 4) (.int .i64 P)
     rw [← hwq] at hOq
     clear hwq HO4 HB4
     refine bodyPost_ret (by simp [results, Tryz.results155, go_sem, q0, q1, q2, q3, q4]; try rfl) rfl ?_
     rw [HST.out]
     exact ⟨_, c', rfl, hc1, hc2, ownsRow_monoP hOq (by omega), hBq⟩
    ·go_wp2_with fail
     refine wp_region_held_drew (S := (fun w' => wr.grownBy w' (some g7) ∧ ∃ V, w'.heap[g7]? = some (.cells #[V, .int .i64 I, .int .i64 H, .int .i64 S, .int .i64 P] 32))) (by kernel_rfl) ⟨⟨rfl, rfl, rfl, Nat.le_refl _, fun _ _ _ => rfl⟩, _, H7.out⟩ (fun jd => ?_)
     refine tj4 1 29 3 31 6 34 7 35 HF jd ?_
     refine tj4 11 39 13 41 2 30 8 36 HF jd ?_
     refine tj3 12 40 4 32 14 42 HF jd ?_
     refine wpAnyH_append3S (fuel := 2) (i0 := 0) (i1 := 5) (iB := 9) (i2 := 10) (i3 := 15) (d0 := 28) (d1 := 33) (dB := 37) (d2 := 38) (d3 := 43) (j1 := 32) (j3 := 42) rfl rfl rfl rfl rfl ⟨rfl, rfl⟩ ⟨rfl, rfl⟩ (by kernel_rfl) (by kernel_rfl) (by kernel_rfl) (by kernel_rfl) (by kernel_rfl) (by kernel_rfl) (by kernel_rfl) (by decide) (by decide) (by simp) 97 4 32 (.agg #[.int .i64 0, .int .i64 0, .int .i64 0, .int .i64 0]) Tryz.underlying30 infoPan rfl (by decide) (by decide) ?run0c [id, hd, 0, 0] rfl ?runBc ((cellsL f k).take (k * 4)) ((cellsL f k).drop (k * 4)) k c (0) (c - k) (some ⟨b, off, none⟩) (some ⟨b, off + k * 4, none⟩) rfl rfl (cls_but.box (r := g7) hg7 (fun o => ∃ V, o = some (.cells #[V, .int .i64 I, .int .i64 H, .int .i64 S, .int .i64 P] 32))) jd ?s1c ?s3c (by omega) ?nextc
     case run0c => intro a w; go_simp
     case runBc =>
      intro a' w hev
      have h1 : a'.eval (.tmp 36) = .agg #[.int .i64 id, .int .i64 hd, .int .i64 0, .int .i64 0] := (hev 36 (by decide) (by decide)).trans rfl
      have h2 : a'.tmps[36]?.getD undef = .agg #[.int .i64 id, .int .i64 hd, .int .i64 0, .int .i64 0] := by simpa [Act.eval] using h1
      clear h1 hev
      go_simp
     case s1c =>
      intro w' hb'
      exact Sl.srcTake (HSW.out.below (HBw.out w' hb'.1)) (by simp) (by omega)
     case s3c =>
      intro w' hb'
      exact Src.none_of (by rw [List.drop_of_length_le (by rw [cellsL_len]; exact Nat.le_refl _)]) (by simp)
     case nextc =>
     intro u0 u1 uB u2 g' c' w3 hc1 hc2 hg1 hown' hS3
     simp only [Act.put, p1, p2, p3]
     have jd := hS3
     refine tj 16 44 HF rfl jd ?_
     obtain ⟨hS31, V, hV⟩ := hS3
     refine wpAnyH_store2 (fuel := 0) (i := 17) rfl (by kernel_rfl) g7 0 (.slice (some ⟨g', 0, none⟩) (k + 1 + (0)) c') 32 #[V, .int .i64 I, .int .i64 H, .int .i64 S, .int .i64 P] rfl rfl infoPans hV (Nat.le_add_left 1 4) (by simp [Value.cells, Value.oneCell']) (fun w' h1 hg => ⟨grown_trans hS31 hg, _, h1⟩) ?stc
     case stc =>
     intro w4 h4 hg4 hS4
     have h4' : w4.heap[g7]? = some (.cells #[.slice (some ⟨g', 0, none⟩) (k + 1 + (0)) c', .int .i64 I, .int .i64 H, .int .i64 S, .int .i64 P] 32) := h4
     have hk1 : k + 1 + (0) = k + 1 := by omega
     rw [hk1] at h4' hown' hc1
     refine wpAnyH_done (by kernel_rfl) ?_ _
     have hO4 := own_other hown' hV (by decide) hg4
     have hB4 := HBw.out w4 hS4.1
     have hr4 := (hS4.1.block (w.heap.size + 1) (Array.getElem?_eq_some_iff.1 HR2.out).1 (by simp; omega)).trans HR2.out
     obtain ⟨e0, e1, e2, e3, e4⟩ := cells5 h4'
     obtain ⟨r0, r1, r2, r3, r4⟩ := cells5 hr4
     have rf := fz hr4
     have n1 : g7 ≠ w.heap.size + 1 := by omega
     have n2 : w.heap.size + 1 ≠ g7 := by omega
     have lg : wr.heap.size ≤ g' := (World.ownsRow.lt hO4 g' rfl).1
     have n3 : g' ≠ w.heap.size + 1 := by omega
     have HO4 := lh hO4
     have HB4 := lh hB4
     clear hO4 hB4 h4 h4' hV hS4 hg4 hr4 hown' HF H7 HR2 HSW HBw HB2 jd p0
     go_wp2
     obtain ⟨wq, hwq⟩ : ∃ wq, wq = (((((w4.setCell ⟨w.heap.size + 1, 0, none⟩ (.slice (some ⟨g', 0, none⟩) (k + 1) c')).setCell ⟨w.heap.size + 1, 1, none⟩ (.int .i64 I)).setCell ⟨w.heap.size + 1, 2, none⟩ (.int .i64 H)).setCell ⟨w.heap.size + 1, 3, none⟩ (.int .i64 S)).setCell ⟨w.heap.size + 1, 4, none⟩ (.int .i64 P)) := ⟨_, rfl⟩
     rw [← hwq]
     have q0 : wq.cell? ⟨w.heap.size + 1, 0, none⟩ = some (.slice (some ⟨g', 0, none⟩) (k + 1) c') := by rw [hwq]; go_simp
     have q1 : wq.cell? ⟨w.heap.size + 1, 1, none⟩ = some (.int .i64 I) := by rw [hwq]; go_simp
     have q2 : wq.cell? ⟨w.heap.size + 1, 2, none⟩ = some (.int .i64 H) := by rw [hwq]; go_simp
     have q3 : wq.cell? ⟨w.heap.size + 1, 3, none⟩ = some (.int .i64 S) := by rw [hwq]; go_simp
     have q4 : wq.cell? ⟨w.heap.size + 1, 4, none⟩ = some (.int .i64 P) := by rw [hwq]; go_simp
     have hBq : Below w.heap.size w wq := by
      rw [hwq]
      exact ((((HB4.out.setCell (show w.heap.size ≤ w.heap.size + 1 by omega) _).setCell (show w.heap.size ≤ w.heap.size + 1 by omega) _).setCell (show w.heap.size ≤ w.heap.size + 1 by omega) _).setCell (show w.heap.size ≤ w.heap.size + 1 by omega) _).setCell (show w.heap.size ≤ w.heap.size + 1 by omega) _
     have hOq := HO4.out
     have no : ∀ j : Nat, (Value.slice (some ⟨g', 0, none⟩) (k + 1) c').ownBlock ≠ some (⟨w.heap.size + 1, j, none⟩ : Addr).block := fun j => by simp [Value.ownBlock, n3]
     have hOq := ownsRow_setCell_other (ownsRow_setCell_other (ownsRow_setCell_other (ownsRow_setCell_other (ownsRow_setCell_other hOq (no 0) (.slice (some ⟨g', 0, none⟩) (k + 1) c')) (no 1) (.int .i64 I)) (no 2) (.int .i64 H)) (no 3) (.int .i64 S)) (no 4) (.int .i64 P)
     rw [← hwq] at hOq
     clear hwq HO4 HB4
     refine bodyPost_ret (by simp [results, Tryz.results155, go_sem, q0, q1, q2, q3, q4]; try rfl) rfl ?_
     rw [HST.out]
     exact ⟨_, c', rfl, hc1, hc2, ownsRow_monoP hOq (by omega), hBq⟩
end Go.Proofs.YtpndjhelpoenpaaGreatDoor
namespace Go.Proofs.YtpndjhelpoenpaaGreatDoor
open Go.RowKit
theorem putRow_two (cur : Array Value) (o : Nat) (a b : Value) (h : o + 2 ≤ cur.size) : putRow cur o #[a, b] = (cur.setIfInBounds o a).setIfInBounds (o + 1) b := by
 apply Array.ext'
 simp only [putRow, Array.toList_setIfInBounds]
 apply List.ext_getElem?
 intro j
 have hl : (cur.toList.take o).length = o := by simp; omega
 simp only [List.getElem?_set, List.length_set, Array.length_toList]
 by_cases h1 : j < o
 ·rw [List.append_assoc, List.getElem?_append_left (by omega), List.getElem?_take_of_lt h1, if_neg (by omega), if_neg (by omega)]
 ·rw [List.append_assoc, List.getElem?_append_right (by omega), hl]
  by_cases h2 : j = o
  ·subst h2
   rw [if_neg (by omega), if_pos rfl, if_pos (by omega)]
   simp
  ·by_cases h3 : j = o + 1
   ·subst h3
    rw [if_pos rfl, if_pos (by omega)]
    simp
   ·rw [List.getElem?_append_right (by simp; omega), if_neg (by omega), if_neg (by omega), List.getElem?_drop]
    congr 1
    simp
    omega
theorem row_open {w : World} {base k n c g : Nat} {e : TypeId} {xs : List Value} (h : w.ownsRow base e k (.slice (some ⟨g, 0, none⟩) n c) n xs) : ∃ cur, w.heap[g]? = some (.cells cur e (0, 0)) ∧ n * k ≤ cur.size ∧
  ∀ (w' : World) (j : Nat) (u v : Value), w'.heap[g]? = some (.cells ((cur.setIfInBounds j u).setIfInBounds (j + 1) v) e (0, 0)) → w'.ownsRow base e k (.slice (some ⟨g, 0, none⟩) n c) n ((xs.set j u).set (j + 1) v) := by
 rcases h.2 with ⟨h', _⟩ | ⟨g', cap', cur, h', hb, hg, hnc, hcm, hcs, htake⟩
 ·cases h'
 ·cases h'
  refine ⟨cur, hg, by rw [hcs]; exact Nat.mul_le_mul_right k hnc, fun w' j u v hw => ⟨by simpa using h.1, .inr ⟨g, c, _, rfl, hb, hw, hnc, hcm, by simpa using hcs, ?_⟩⟩⟩
  rw [Array.toList_setIfInBounds, Array.toList_setIfInBounds, ← htake, List.take_set, List.take_set]
end Go.Proofs.YtpndjhelpoenpaaGreatDoor
