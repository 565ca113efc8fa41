/-
  Texts of this claim, merged.
-/
import Derived.Test.YtpndjhelpoenpaaGreatDoorZB2
import Derived.Deep.WholeRow
import Derived.Laws.CopyRow
import Derived.Maps.OwnSet
import Derived.Maps.OwnOps
import Derived.Sort.Defs
import Derived.Shelf.SlGeneric
import Derived.Shelf.SlSortCmp.InsertionK
import Derived.Ground.SlsfProg
set_option linter.unusedVariables false
set_option linter.unusedSimpArgs false
set_option maxRecDepth 100000
set_option maxHeartbeats 8000000
namespace Go.Proofs.YtpndjhelpoenpaaGreatDoor
open Go.RowKit
theorem run_append_flat {P : Program} (w : World) (t ty : TypeId) (base : Nat) (e : TypeId) (k bytes : Nat) (z : Value) (ht : P.underlying t = some (.slice e))
  (hinfo : (P.info? e).map (fun i => (i.zero, i.size, i.bytes)) = some (some z, k, bytes)) (hzk : z.cells.size = k) (hk : 0 < k) (hkb : bytes ≤ 1000)
  (zs news : List Int) (n m c : Nat) (v : Value) (hown : w.ownsRow base e k v n (zs.map (Value.int .i64))) (ad : Addr) (hl : news.length = m * k)
  (hc : ∀ j u, news[j]? = some u → w.cell? (ad.add j) = some (.int .i64 u)) (hlen : n + m ≤ 100000000) (hbase : base ≤ w.heap.size) :
  ∃ v' w', (Builtin.append_ #[t, t] ty #[v, .slice (some ad) m c]).run P w = .ok v' w' ∧ w'.ownsRow base e k v' (n + m) ((zs ++ news).map (Value.int .i64)) ∧ w.grownBy w' v.ownBlock := by
 obtain ⟨i, hi, hz0, hz1, hz2⟩ := info_parts hinfo
 have hb : (n + m) * bytes ≤ 100000000 * 1000 := Nat.mul_le_mul hlen hkb
 obtain ⟨v', w', hr, hown', hgrow, _⟩ := run_append_own (P := P) w base t ty e i z k bytes ht hi hz0 hz1 hz2 hzk hk v n (zs.map (Value.int .i64)) hown ad m c (news.map (Value.int .i64)) (by simpa using hl)
  (fun j u hu => by
   rw [List.getElem?_map] at hu
   cases hq : news[j]? with
   | none => rw [hq] at hu; simp at hu
   | some q => rw [hq] at hu; simp at hu; subst hu; exact hc j q hq)
  (fun u hu => by obtain ⟨q, _, rfl⟩ := List.mem_map.1 hu; rfl) (by unfold maxLen; omega) (by omega) hbase
 exact ⟨v', w', hr, by simpa using hown', hgrow⟩
theorem wpList_append_flat {P : Program} {ops : Array Oper} {rest : List Oper} {o : Oper} {a : Act} {Q : Exit → Act → World → Prop} (w : World) (hg : o.guard = none) (s x : Operand) (t : TypeId)
  (hop : o.op = Op.call { callee := Callee.builtin Builtin.append, args := #[s, x], argTypes := #[t, t] }) (base : Nat) (e : TypeId) (k bytes : Nat) (z : Value) (ht : P.underlying t = some (.slice e))
  (hinfo : (P.info? e).map (fun i => (i.zero, i.size, i.bytes)) = some (some z, k, bytes)) (hzk : z.cells.size = k) (hk : 0 < k) (hkb : bytes ≤ 1000)
  (zs news : List Int) (n m c : Nat) (v : Value) (hs : a.eval s = v) (hown : w.ownsRow base e k v n (zs.map (Value.int .i64))) (ad : Addr) (hx : a.eval x = .slice (some ad) m c) (hl : news.length = m * k)
  (hc : ∀ j u, news[j]? = some u → w.cell? (ad.add j) = some (.int .i64 u)) (hlen : n + m ≤ 100000000) (hbase : base ≤ w.heap.size)
  (h : ∀ v' w', w'.ownsRow base e k v' (n + m) ((zs ++ news).map (Value.int .i64)) → w.grownBy w' v.ownBlock → wpList P ops Q rest (a.put o.dst v') w') :
  wpList P ops Q (o :: rest) a w := by
 obtain ⟨i, hi, hz0, hz1, hz2⟩ := info_parts hinfo
 have hb : (n + m) * bytes ≤ 100000000 * 1000 := Nat.mul_le_mul hlen hkb
 refine wpList_append_own w hg s x t hop base e i z k bytes ht hi hz0 hz1 hz2 hzk hk v n (zs.map (Value.int .i64)) hs hown ad m c (news.map (Value.int .i64)) hx (by simpa using hl) ?_ ?_ (by unfold maxLen; omega) (by omega) hbase ?_
 ·intro j u hu
  rw [List.getElem?_map] at hu
  cases hq : news[j]? with
  | none => rw [hq] at hu; simp at hu
  | some q => rw [hq] at hu; simp at hu; subst hu; exact hc j q hq
 ·intro u hu; obtain ⟨q, _, rfl⟩ := List.mem_map.1 hu; rfl
 ·intro v' w' hown' hgrow _
  exact h v' w' (by simpa using hown') hgrow
def rowsOf (f : Nat → Int) (k : Nat) (L : List Nat) : List Int := L.flatMap fun i => (List.range k).map fun j => f (i * k + j)
theorem rowsOf_length (f : Nat → Int) (k : Nat) (L : List Nat) : (rowsOf f k L).length = L.length * k := by
 induction L with
 | nil => simp [rowsOf]
 | cons i L ih =>
  have : rowsOf f k (i :: L) = ((List.range k).map fun j => f (i * k + j)) ++ rowsOf f k L := rfl
  rw [this, List.length_append, ih, List.length_map, List.length_range, List.length_cons, Nat.succ_mul]
  omega
theorem rowsOf_append (f : Nat → Int) (k : Nat) (L M : List Nat) : rowsOf f k (L ++ M) = rowsOf f k L ++ rowsOf f k M := by simp [rowsOf]
theorem rowsOf_get (f : Nat → Int) (k : Nat) (L : List Nat) (i j : Nat) (hi : i < L.length) (hj : j < k) : (rowsOf f k L).getD (i * k + j) 0 = f (L.getD i 0 * k + j) := by
 induction L generalizing i with
 | nil => simp at hi
 | cons a L ih =>
  have e : rowsOf f k (a :: L) = ((List.range k).map fun j => f (a * k + j)) ++ rowsOf f k L := rfl
  have hl : ((List.range k).map fun j => f (a * k + j)).length = k := by simp
  rw [e]
  cases i with
  | zero =>
   simp [List.getD, List.getElem?_append, hj]
  | succ i =>
   have h1 := ih i (by simpa using hi)
   simp only [List.getD] at h1 ⊢
   rw [List.getElem?_append_right (by rw [hl, Nat.succ_mul]; omega), hl, show (i + 1) * k + j - k = i * k + j by rw [Nat.succ_mul]; omega, h1]
   rfl
structure Src (w : World) (k : Nat) (A : Option Addr) (m c : Nat) (zs : List Int) : Prop where
 len : zs.length = m * k
 nil : A = none → m = 0 ∧ c = 0
 cell : ∀ ad, A = some ad → ∀ j u, zs[j]? = some u → w.cell? (ad.add j) = some (.int .i64 u)
theorem run_append_src {P : Program} (w : World) (t ty : TypeId) (base : Nat) (e : TypeId) (k bytes : Nat) (z : Value) (ht : P.underlying t = some (.slice e))
  (hinfo : (P.info? e).map (fun i => (i.zero, i.size, i.bytes)) = some (some z, k, bytes)) (hzk : z.cells.size = k) (hk : 0 < k) (hkb : bytes ≤ 1000)
  (zs news : List Int) (n m c : Nat) (v : Value) (hown : w.ownsRow base e k v n (zs.map (Value.int .i64))) (A : Option Addr) (hs : Src w k A m c news) (hlen : n + m ≤ 100000000) (hbase : base ≤ w.heap.size) :
  ∃ v' w', (Builtin.append_ #[t, t] ty #[v, .slice A m c]).run P w = .ok v' w' ∧ w'.ownsRow base e k v' (n + m) ((zs ++ news).map (Value.int .i64)) ∧ w.grownBy w' v.ownBlock := by
 cases A with
 | none =>
  obtain ⟨rfl, rfl⟩ := hs.nil rfl
  have hn : news = [] := by have := hs.len; exact List.length_eq_zero_iff.1 (by simpa using this)
  subst hn
  obtain ⟨i, hi, _⟩ := info_parts hinfo
  refine ⟨v, w, run_append_owned_none w base t ty e i k ht hi v n (zs.map (Value.int .i64)) hown, by simpa using hown, ⟨rfl, rfl, rfl, Nat.le_refl _, fun _ _ _ => rfl⟩⟩
 | some ad => exact run_append_flat w t ty base e k bytes z ht hinfo hzk hk hkb zs news n m c v hown ad hs.len (hs.cell ad rfl) hlen hbase
theorem oper_wp_value {P : Program} {o : Oper} {a : Act} {w w' : World} {v : Value} {K : Act → World → Prop} {Q : Exit → Act → World → Prop}
  (hr : (execOp a.eval o).run P w = .ok (.value v) w') (h : K (a.put o.dst v) w') : o.wp P a w K Q := by
 unfold Oper.wp
 rw [hr]
 exact h
theorem oper_wp_append {P : Program} {o : Oper} {a : Act} {w w' : World} {v' vs vx : Value} {K : Act → World → Prop} {Q : Exit → Act → World → Prop} (s x : Operand) (t : TypeId)
  (ho : o.op = .call { callee := .builtin .append, args := #[s, x], argTypes := #[t, t] }) (hs : a.eval s = vs) (hx : a.eval x = vx)
  (hr : (Builtin.append_ #[t, t] o.type #[vs, vx]).run P w = .ok v' w') (h : K (a.put o.dst v') w') : o.wp P a w K Q := by
 unfold Oper.wp execOp
 simp only [ho, resolve, invoke, builtin, Sem.run_bind, Sem.run_pure, Result.andThen_ok, List.map_toArray, List.map_cons, List.map_nil, hs, hx, hr]
 exact h
theorem eval_put_ne (a : Act) (d j : Nat) (u : Value) (h : d ≠ j) : (a.put (some d) u).eval (.tmp j) = a.eval (.tmp j) := by
 simp [Act.put, Act.eval, Array.getElem?_setIfInBounds, h]
theorem eval_put_eq (a : Act) (d : Nat) (u : Value) (h : d < a.tmps.size) : (a.put (some d) u).eval (.tmp d) = u := by
 simp [Act.put, Act.eval, Array.getElem?_setIfInBounds, h]
theorem size_put (a : Act) (d : Nat) (u : Value) : (a.put (some d) u).tmps.size = a.tmps.size := by simp [Act.put]
theorem put_comm (a : Act) {d d' : Nat} (u u' : Value) (h : d ≠ d') : (a.put (some d) u).put (some d') u' = (a.put (some d') u').put (some d) u := by
 simp only [Act.put, Act.mk.injEq, and_true]
 exact Array.setIfInBounds_comm _ _ h
theorem listed_comm (l : Array Bool) {i i' : Nat} (h : i ≠ i') : (l.setIfInBounds i true).setIfInBounds i' true = (l.setIfInBounds i' true).setIfInBounds i true :=
 Array.setIfInBounds_comm _ _ h
theorem wanted_plain {o : Oper} {y : Nat → Option Bool} (h : o.guard = none) : Region.wanted o y = true := by simp [Region.wanted, h]
section
variable {P : Program} {md : Region.Mode} {ops : Array Oper} {Q : Exit → Act → World → Prop} {X : World}
theorem wpAnyH_app {i ds d j : Nat} {fuel : Nat} {listed : Array Bool} {a : Act} {w : World} {t ty : TypeId} {pos : String} {af : Array Edge}
  (ho : ops[i]? = some ⟨some d, .call { callee := .builtin .append, args := #[.tmp ds, .tmp j], argTypes := #[t, t] }, ty, pos, af, none⟩) (hr : Region.ready md ops listed = [i])
  (e : TypeId) (k bytes : Nat) (z : Value) (ht : P.underlying t = some (.slice e))
  (hinfo : (P.info? e).map (fun i => (i.zero, i.size, i.bytes)) = some (some z, k, bytes)) (hzk : z.cells.size = k) (hk : 0 < k) (hkb : bytes ≤ 1000)
  (zs news : List Int) (n m c : Nat) (v : Value) (A : Option Addr) (hev : a.eval (.tmp ds) = v) (hex : a.eval (.tmp j) = .slice A m c)
  (hS : Below X.heap.size X w) (hown : w.ownsRow X.heap.size e k v n (zs.map (Value.int .i64))) (hs : Src w k A m c news) (hlen : n + m ≤ 100000000)
  (h : ∀ v' w', w'.ownsRow X.heap.size e k v' (n + m) ((zs ++ news).map (Value.int .i64)) → Below X.heap.size X w' → w.grownBy w' v.ownBlock →
   wpAnyH P md ops Q (fun w' => Below X.heap.size X w') fuel (listed.setIfInBounds i true) (a.put (some d) v') w') :
  wpAnyH P md ops Q (fun w' => Below X.heap.size X w') (fuel + 1) listed a w := by
 obtain ⟨v', w', hrun, hown', hgrow⟩ := run_append_src w t ty X.heap.size e k bytes z ht hinfo hzk hk hkb zs news n m c v hown A hs hlen hS.size
 refine wpAnyH_ready hr (by simp) (AllReadyH.cons ho (fun K hK => ?_) AllReadyH.nil)
 rw [if_pos (wanted_plain rfl)]
 refine oper_wp_append _ _ _ rfl hev hex hrun ?_
 have hB := below_app hS hown hgrow
 exact hK.out _ _ hB (fun _ => h v' w' hown' hB hgrow)
end
def putRow (cur : Array Value) (o : Nat) (cs : Array Value) : Array Value := (cur.toList.take o ++ cs.toList ++ cur.toList.drop (o + cs.size)).toArray
theorem run_storeAt_at {P : Program} (w : World) (t : TypeId) (g o : Nat) (v : Value) (T : TypeId) (cur : Array Value) (hi : (P.info? t).map (·.size) = some v.cells.size)
  (hg : w.heap[g]? = some (.cells cur T (0, 0))) (hfit : o + v.cells.size ≤ cur.size) (h1 : v.cells.all (·.oneCell') = true) :
  (Instr.storeAt t (.pointer (some ⟨g, o, none⟩)) v).run P w = .ok () (w.setRow g (putRow cur o v.cells)) := by
 have h1' : ∀ u ∈ v.cells.toList, u.oneCell' = true := by
  intro u hu
  rw [Array.all_eq_true] at h1
  obtain ⟨j, hj, rfl⟩ := List.getElem_of_mem hu
  have := h1 j (by simpa using hj)
  simpa using this
 have h := run_storeCells_at (P := P) g o T v.cells.toList 0 cur w hg (by simpa using hfit) h1'
 cases hq : P.info? t with
 | none => simp [hq] at hi
 | some i =>
  have hs : v.cells.size = i.size := by simp [hq] at hi; omega
  simp only [Instr.storeAt, Instr.sureAddr, Sem.run_bind, Sem.run_pure, Result.andThen]
  simp only [Nat.add_zero, Array.length_toList] at h
  simpa [storeVar, sizeOf, typeInfo, hq, hs, putRow] using (by simpa [hs] using h)
theorem grown_setRow (w : World) (g : Nat) (cs : Array Value) : w.grownBy (w.setRow g cs) (some g) :=
 ⟨rfl, rfl, rfl, by simp [World.setRow], fun k _ hk => by
  unfold World.setRow
  simp only [Array.getElem?_modify]
  rw [if_neg (fun e => hk (by rw [e]))]⟩
section
variable {P : Program} {md : Region.Mode} {ops : Array Oper} {Q : Exit → Act → World → Prop} {S : World → Prop}
theorem wpAnyH_store {i : Nat} {fuel : Nat} {listed : Array Bool} {a : Act} {w : World} {t ty : TypeId} {pos : String} {af : Array Edge} {p x : Operand}
  (ho : ops[i]? = some ⟨none, .store t p x, ty, pos, af, none⟩) (hr : Region.ready md ops listed = [i])
  (g o : Nat) (v : Value) (T : TypeId) (cur : Array Value) (hp : a.eval p = .pointer (some ⟨g, o, none⟩)) (hx : a.eval x = v) (hi : (P.info? t).map (·.size) = some v.cells.size)
  (hg : w.heap[g]? = some (.cells cur T (0, 0))) (hfit : o + v.cells.size ≤ cur.size) (h1 : v.cells.all (·.oneCell') = true)
  (hS : ∀ w', w.grownBy w' (some g) → S w')
  (h : ∀ w', w'.heap[g]? = some (.cells (putRow cur o v.cells) T (0, 0)) → w.grownBy w' (some g) → S w' →
   wpAnyH P md ops Q S fuel (listed.setIfInBounds i true) a w') :
  wpAnyH P md ops Q S (fuel + 1) listed a w := by
 have hrun := run_storeAt_at (P := P) w t g o v T cur hi hg hfit h1
 have hgr := grown_setRow w g (putRow cur o v.cells)
 have hB := hS _ hgr
 refine wpAnyH_ready hr (by simp) (AllReadyH.cons ho (fun K hK => ?_) AllReadyH.nil)
 rw [if_pos (wanted_plain rfl)]
 unfold Oper.wp execOp
 simp only [hp, hx, Sem.run_bind, hrun, Result.andThen_ok, Sem.run_pure]
 exact hK.out _ _ hB (fun _ => h _ (setRow_heap w g cur _ T _ hg) hgr hB)
end
theorem putRow_all {cur cs : Array Value} (h : cs.size = cur.size) : putRow cur 0 cs = cs := by
 unfold putRow
 have e : cur.toList.drop cur.size = [] := List.drop_eq_nil_of_le (by simp)
 rw [Nat.zero_add, h, e]
 simp
theorem wS0 {P : Program} {md : Region.Mode} {ops : Array Oper} {Q : Exit → Act → World → Prop} {S : World → Prop} {fuel : Nat} {listed : Array Bool} {a : Act} {w : World} {t ty : TypeId} {pos : String} {af : Array Edge} {p x : Operand} (i g : Nat) (cs : Array Value) (T : TypeId) {cur : Array Value}
  (hi : (P.info? t).map (·.size) = some cs.size) (hg : w.heap[g]? = some (.cells cur T (0, 0))) (hS : ∀ w', w.grownBy w' (some g) → S w')
  (h : ∀ w', w'.heap[g]? = some (.cells cs T (0, 0)) → w.grownBy w' (some g) → S w' → wpAnyH P md ops Q S fuel (listed.setIfInBounds i true) a w')
  (ho : ops[i]? = some ⟨none, .store t p x, ty, pos, af, none⟩ := by rfl) (hr : Region.ready md ops listed = [i] := by kernel_rfl) (hp : a.eval p = .pointer (some ⟨g, 0, none⟩) := by rfl) (hx : a.eval x = .agg cs := by rfl) (hsz : cs.size = cur.size := by rfl) (h1 : cs.all (·.oneCell') = true := by simp [Value.oneCell']) : wpAnyH P md ops Q S (fuel + 1) listed a w :=
 wpAnyH_store ho hr g 0 (.agg cs) T cur hp hx hi hg (by rw [Nat.zero_add]; exact Nat.le_of_eq hsz) h1 hS (fun w' h2 h3 h4 => h w' (by rw [h2]; exact congrArg (fun c => some (Obj.cells c T (0, 0))) (putRow_all hsz)) h3 h4)
end Go.Proofs.YtpndjhelpoenpaaGreatDoor
namespace Go.Proofs.YtpndjhelpoenpaaGreatDoor
open Go.RowKit Go.Maps
section
variable {P : Program} {ops : Array Oper} {rest : List Oper} {o : Oper} {a : Act} {Q : Exit → Act → World → Prop}
theorem wpList_storeAt (w : World) (hgd : o.guard = none) (t : TypeId) (p x : Operand) (hop : o.op = Op.store t p x)
  (g of : Nat) (v : Value) (T : TypeId) (cur new : Array Value) (hp : a.eval p = .pointer (some ⟨g, of, none⟩)) (hx : a.eval x = v) (hi : (P.info? t).map (·.size) = some v.cells.size)
  (hg : w.heap[g]? = some (.cells cur T (0, 0))) (hfit : of + v.cells.size ≤ cur.size) (h1 : v.cells.all (·.oneCell') = true) (hnew : putRow cur of v.cells = new)
  (h : ∀ w', w'.heap[g]? = some (.cells new T (0, 0)) → w.grownBy w' (some g) → wpList P ops Q rest (a.put o.dst undef) w') :
  wpList P ops Q (o :: rest) a w := by
 subst hnew
 have hrun := run_storeAt_at (P := P) w t g of v T cur hi hg hfit h1
 have hgr := grown_setRow w g (putRow cur of v.cells)
 refine wpList_plain hgd fun K' hK' => ?_
 unfold Oper.wp
 simp [execOp, hop, hp, hx, hrun, Result.andThen]
 exact hK' _ _ (h _ (setRow_heap w g cur _ T _ hg) hgr)
theorem wpList_isStore {d : Option Nat} {t ty : TypeId} {p x : Operand} {pos : String} {af : Array Edge} {w : World} (h : wpList P ops Q (⟨d, .store t p x, ty, pos, af, none⟩ :: rest) a w) : wpList P ops Q (⟨d, .store t p x, ty, pos, af, none⟩ :: rest) a w := h
theorem wpList_store2 {d : Option Nat} {t ty : TypeId} {p x : Operand} {pos : String} {af : Array Edge} {w : World} (g of : Nat) (v : Value) (T : TypeId) (cur new : Array Value)
  (hp : a.eval p = .pointer (some ⟨g, of, none⟩)) (hx : a.eval x = v) (hi : (P.info? t).map (·.size) = some v.cells.size) (hg : w.heap[g]? = some (.cells cur T (0, 0))) (hfit : of + v.cells.size ≤ cur.size) (h1 : v.cells.all (·.oneCell') = true) (hnew : putRow cur of v.cells = new)
  (h : ∀ w', w'.heap[g]? = some (.cells new T (0, 0)) → w.grownBy w' (some g) → wpList P ops Q rest (a.put d undef) w') : wpList P ops Q (⟨d, .store t p x, ty, pos, af, none⟩ :: rest) a w :=
 wpList_storeAt w rfl t p x rfl g of v T cur new hp hx hi hg hfit h1 hnew h
theorem wpList_insert_own {H : Type} (w : World) (hgd : o.guard = none) (m x v : Operand) (t : TypeId) (hop : o.op = Op.insert t m x v)
  (k e : TypeId) (K : Keyed P k) (ht : P.underlying t = some (.map k e)) (R : Value → Option (DataW H × List MemPlace)) (b n : Nat) (D : DataW H)
  (hm : a.eval m = .map (some b)) (hown : w.ownsMap P k R b n D) (hn : n < maxLen) (key val : Value) (kl : Lit) (hx : a.eval x = key) (hv : a.eval v = val) (hkey : keyOf P k key = some kl)
  (d : DataW H) (ps : List MemPlace) (hval : R val = some (d, ps))
  (hK : ∀ w', w'.ownsMap P k R b (n + 1) (D.put kl d) → w.grownBy w' (some b) → wpList P ops Q rest (a.put o.dst undef) w') :
  wpList P ops Q (o :: rest) a w := by
 refine wpList_plain hgd fun K' hK' => ?_
 obtain ⟨w', hrun, r1, r2⟩ := hown.update K ht hn hkey hval
 unfold Oper.wp
 simp [execOp, hop, hm, hx, hv, hrun, Result.andThen]
 exact hK' _ _ (hK w' r1 r2)
end
section
variable {P : Program} {fn : Func} {R : Ending → World → Prop} {a : Act} {w : World} {i j k : Tmp} {T : TypeId} {g : Nat} {cs : Array Value} {fs : Array Field} {u v : Value}
theorem ret_cell1 (h : fn.results = #[.cell i T]) (ha : a.tmps.getD i undef = .pointer (some ⟨g, 0, none⟩)) (hu : P.underlying T = some (.struct fs)) (hg : w.heap[g]? = some (.cells cs T (0, 0)))
  (hi : (P.info? T).map (·.size) = some cs.size) (hf : a.defers = []) (hR : R (.returned (.agg cs)) w) : bodyPost P fn R .ret a w := by
 refine bodyPost_ret ?_ hf hR
 have ha' : a.tmps[i]?.getD undef = .pointer (some ⟨g, 0, none⟩) := by simpa using ha
 simp [results, h, ha', asAddr, run_loadVar_row w g T T cs (0, 0) (.struct fs) hg hu rfl hi, Result.andThen]
theorem ret_cell2 (h : fn.results = #[.cell i T, .tmp j]) (ha : a.tmps.getD i undef = .pointer (some ⟨g, 0, none⟩)) (hb : a.tmps.getD j undef = u) (hu : P.underlying T = some (.struct fs)) (hg : w.heap[g]? = some (.cells cs T (0, 0)))
  (hi : (P.info? T).map (·.size) = some cs.size) (hf : a.defers = []) (hR : R (.returned (.tuple #[.agg cs, u])) w) : bodyPost P fn R .ret a w := by
 refine bodyPost_ret ?_ hf hR
 have ha' : a.tmps[i]?.getD undef = .pointer (some ⟨g, 0, none⟩) := by simpa using ha
 have hb' : a.tmps[j]?.getD undef = u := by simpa using hb
 simp [results, h, ha', hb', asAddr, run_loadVar_row w g T T cs (0, 0) (.struct fs) hg hu rfl hi, Result.andThen]
theorem ret_cell3 (h : fn.results = #[.cell i T, .tmp j, .tmp k]) (ha : a.tmps.getD i undef = .pointer (some ⟨g, 0, none⟩)) (hb : a.tmps.getD j undef = u) (hc : a.tmps.getD k undef = v) (hu : P.underlying T = some (.struct fs)) (hg : w.heap[g]? = some (.cells cs T (0, 0)))
  (hi : (P.info? T).map (·.size) = some cs.size) (hf : a.defers = []) (hR : R (.returned (.tuple #[.agg cs, u, v])) w) : bodyPost P fn R .ret a w := by
 refine bodyPost_ret ?_ hf hR
 have ha' : a.tmps[i]?.getD undef = .pointer (some ⟨g, 0, none⟩) := by simpa using ha
 have hb' : a.tmps[j]?.getD undef = u := by simpa using hb
 have hc' : a.tmps[k]?.getD undef = v := by simpa using hc
 simp [results, h, ha', hb', hc', asAddr, run_loadVar_row w g T T cs (0, 0) (.struct fs) hg hu rfl hi, Result.andThen]
end
theorem rowGr {w w' : World} {g y : Nat} {o : Obj} (h : w.heap[y]? = some o) (hg : w.grownBy w' (some g)) (hne : y ≠ g) : w'.heap[y]? = some o :=
 (hg.block y (Array.getElem?_eq_some_iff.1 h).1 (by simpa using hne)).trans h
theorem wL0 {P : Program} {ops : Array Oper} {rest : List Oper} {a : Act} {Q : Exit → Act → World → Prop} {d : Option Nat} {t ty : TypeId} {p x : Operand} {pos : String} {af : Array Edge} {w : World} (g : Nat) (cs : Array Value) (T : TypeId) {cur : Array Value}
  (hi : (P.info? t).map (·.size) = some cs.size) (hg : w.heap[g]? = some (.cells cur T (0, 0))) (h : ∀ w', w'.heap[g]? = some (.cells cs T (0, 0)) → w.grownBy w' (some g) → wpList P ops Q rest (a.put d undef) w')
  (hp : a.eval p = .pointer (some ⟨g, 0, none⟩) := by rfl) (hx : a.eval x = .agg cs := by rfl) (hsz : cs.size = cur.size := by rfl) (h1 : cs.all (·.oneCell') = true := by simp [Value.oneCell']) : wpList P ops Q (⟨d, .store t p x, ty, pos, af, none⟩ :: rest) a w :=
 wpList_store2 g 0 (.agg cs) T cur cs hp hx hi hg (by rw [Nat.zero_add]; exact Nat.le_of_eq hsz) h1 (putRow_all hsz) h
end Go.Proofs.YtpndjhelpoenpaaGreatDoor
namespace Go.Proofs.YtpndjhelpoenpaaGreatDoor
open Go.RowKit
theorem rowB {X w' : World} {g : Nat} {o : Obj} (hX : X.heap[g]? = some o) (h : Below X.heap.size X w') : w'.heap[g]? = some o :=
 (h.block g (Array.getElem?_eq_some_iff.1 hX).1).trans hX
theorem rowLt {w : World} {r : Nat} {o : Obj} (h : w.heap[r]? = some o) : r < w.heap.size := (Array.getElem?_eq_some_iff.1 h).1
theorem name_wp {P : Program} {c : Code} {Q : Exit → Act → World → Prop} {a : Act} {W : World} (h : ∀ w2, w2 = W → c.wp P Q a w2) : c.wp P Q a W := h W rfl
attribute [local go_sem ↓] Go.wp_at_zero Go.wp_at_succ
theorem l25Good_any (A : Option Addr) (n c lo hi : Nat) (f : Nat → Int) (I H S P : Int) (w : World) (hs : Sl w lo hi 4 A n f) (hn : n ≤ 1048576) (hnc : n ≤ c) :
  Calls Tryz.prog 80 #[.agg #[.slice A n c, .int .i64 I, .int .i64 H, .int .i64 S, .int .i64 P]] w fun e w' => e = .returned (.bool (goodWorks f n I H S P)) ∧ Below w.heap.size w w' := by
 have HS : Hid (Sl (w.alloc (.cells #[.slice A n c, .int .i64 I, .int .i64 H, .int .i64 S, .int .i64 P] 32)) lo hi 4 A n f) := hs.below ((Below.refl _ w).alloc (Nat.le_refl _) _)
 clear hs
 have HF : Hid (∀ w', Below (w.alloc (.cells #[.slice A n c, .int .i64 I, .int .i64 H, .int .i64 S, .int .i64 P] 32)).heap.size (w.alloc (.cells #[.slice A n c, .int .i64 I, .int .i64 H, .int .i64 S, .int .i64 P] 32)) w' → w'.cell? ⟨w.heap.size, 0, none⟩ = some (.slice A n c) ∧ w'.cell? ⟨w.heap.size, 1, none⟩ = some (.int .i64 I) ∧ w'.cell? ⟨w.heap.size, 2, none⟩ = some (.int .i64 H) ∧ w'.cell? ⟨w.heap.size, 3, none⟩ = some (.int .i64 S) ∧ w'.cell? ⟨w.heap.size, 4, none⟩ = some (.int .i64 P)) := fun w' hq => (cells5 (bx (g := w.heap.size) hq))
 go_enter Tryz.func80, Tryz.ntmps80
 go_wp2
 refine wp_region_held_drew (S := fun w' => Below ((w.alloc (.cells #[.slice A n c, .int .i64 I, .int .i64 H, .int .i64 S, .int .i64 P] 32))).heap.size ((w.alloc (.cells #[.slice A n c, .int .i64 I, .int .i64 H, .int .i64 S, .int .i64 P] 32))) w') (by kernel_rfl) ((Below.refl _ _).drew) (fun jd => ?_)
 refine tj 0 3 HF rfl jd ?_
 refine wpAnyH_ready (rs := [1]) (by kernel_rfl) (by simp) ?_
 refine AllReadyH.cons rfl (fun K hK => ?_) AllReadyH.nil
 go_simp
 (go_at_call 123; refine (l25Pans_any A n c lo hi f I H S P _ (HS.out.below jd) hn hnc).mono ?_; rintro e w2 ⟨rfl, hb2⟩)
 refine hK.out _ _ (jd.trans (hb2.mono jd.size)) (fun jd => ?_)
 clear hK K hb2
 refine tj 2 5 HF rfl jd ?_
 cases hp : pansOk f n with
 | false =>
  refine wpAnyH_skips (by kernel_rfl) (fun _ _ _ _ _ h => h) jd [(3, 6), (4, 7), (5, 8)] 33 3 _ _ rfl (by kernel_rfl) ?_
  simp only [skipL, skipA, Act.put, p1, p2, p3]
  refine tj2 6 9 7 10 HF jd ?_
  refine wpAnyH_skips (by kernel_rfl) (fun _ _ _ _ _ h => h) jd [(8, 11), (9, 12), (10, 13)] 28 3 _ _ rfl (by kernel_rfl) ?_
  simp only [skipL, skipA, Act.put, p1, p2, p3]
  refine tj2 11 14 12 15 HF jd ?_
  refine wpAnyH_skips (by kernel_rfl) (fun _ _ _ _ _ h => h) jd [(13, 16), (14, 17), (15, 18)] 23 3 _ _ rfl (by kernel_rfl) ?_
  simp only [skipL, skipA, Act.put, p1, p2, p3]
  refine tj2 16 19 17 20 HF jd ?_
  refine wpAnyH_skips (by kernel_rfl) (fun _ _ _ _ _ h => h) jd [(18, 21), (19, 22), (20, 23)] 18 3 _ _ rfl (by kernel_rfl) ?_
  simp only [skipL, skipA, Act.put, p1, p2, p3]
  refine tj2 21 24 22 25 HF jd ?_
  refine wpAnyH_skips (by kernel_rfl) (fun _ _ _ _ _ h => h) jd [(23, 26), (24, 27), (25, 28), (26, 29), (27, 30), (28, 31), (29, 32), (30, 33), (31, 34), (32, 35), (33, 36), (34, 37), (35, 38), (36, 39)] 2 14 _ _ rfl (by kernel_rfl) ?_
  simp only [skipL, skipA, Act.put, p1, p2, p3]
  refine tj2 37 40 38 2 HF jd ?_
  refine wpAnyH_done (by kernel_rfl) ?_ _
  go_wp2
  go_ret
  exact ⟨ret_bool (by simp [goodWorks, kilosOk, totalV, hp]; try (rw [Bool.eq_iff_iff]; simp only [beq_iff_eq, IntWalk.i64_left]; exact ⟨fun h => decide_eq_true h, fun h => of_decide_eq_true h⟩)), ((Below.refl _ w).alloc (Nat.le_refl _) _).trans (jd.mono (by simp))⟩
 | true =>
  refine tj2 3 6 4 7 HF jd ?_
  refine wpAnyH_ready (rs := [5]) (by kernel_rfl) (by simp) ?_
  refine AllReadyH.cons rfl (fun K hK => ?_) AllReadyH.nil
  go_simp
  (go_at_call 124; refine (quiet_below (l21Kilos_any _ _)).mono ?_; rintro e w2 ⟨rfl, hb2⟩)
  refine hK.out _ _ (jd.trans (hb2.mono jd.size)) (fun jd => ?_)
  clear hK K hb2
  refine tj2 6 9 7 10 HF jd ?_
  cases h1 : inR I 0 1000000 with
  | false =>
   refine wpAnyH_skips (by kernel_rfl) (fun _ _ _ _ _ h => h) jd [(8, 11), (9, 12), (10, 13)] 28 3 _ _ rfl (by kernel_rfl) ?_
   simp only [skipL, skipA, Act.put, p1, p2, p3]
   refine tj2 11 14 12 15 HF jd ?_
   refine wpAnyH_skips (by kernel_rfl) (fun _ _ _ _ _ h => h) jd [(13, 16), (14, 17), (15, 18)] 23 3 _ _ rfl (by kernel_rfl) ?_
   simp only [skipL, skipA, Act.put, p1, p2, p3]
   refine tj2 16 19 17 20 HF jd ?_
   refine wpAnyH_skips (by kernel_rfl) (fun _ _ _ _ _ h => h) jd [(18, 21), (19, 22), (20, 23)] 18 3 _ _ rfl (by kernel_rfl) ?_
   simp only [skipL, skipA, Act.put, p1, p2, p3]
   refine tj2 21 24 22 25 HF jd ?_
   refine wpAnyH_skips (by kernel_rfl) (fun _ _ _ _ _ h => h) jd [(23, 26), (24, 27), (25, 28), (26, 29), (27, 30), (28, 31), (29, 32), (30, 33), (31, 34), (32, 35), (33, 36), (34, 37), (35, 38), (36, 39)] 2 14 _ _ rfl (by kernel_rfl) ?_
   simp only [skipL, skipA, Act.put, p1, p2, p3]
   refine tj2 37 40 38 2 HF jd ?_
   refine wpAnyH_done (by kernel_rfl) ?_ _
   go_wp2
   go_ret
   exact ⟨ret_bool (by simp [goodWorks, kilosOk, totalV, hp, h1]; try (rw [Bool.eq_iff_iff]; simp only [beq_iff_eq, IntWalk.i64_left]; exact ⟨fun h => decide_eq_true h, fun h => of_decide_eq_true h⟩)), ((Below.refl _ w).alloc (Nat.le_refl _) _).trans (jd.mono (by simp))⟩
  | true =>
   refine tj2 8 11 9 12 HF jd ?_
   refine wpAnyH_ready (rs := [10]) (by kernel_rfl) (by simp) ?_
   refine AllReadyH.cons rfl (fun K hK => ?_) AllReadyH.nil
   go_simp
   (go_at_call 124; refine (quiet_below (l21Kilos_any _ _)).mono ?_; rintro e w2 ⟨rfl, hb2⟩)
   refine hK.out _ _ (jd.trans (hb2.mono jd.size)) (fun jd => ?_)
   clear hK K hb2
   refine tj2 11 14 12 15 HF jd ?_
   cases h2 : inR H 0 1000000 with
   | false =>
    refine wpAnyH_skips (by kernel_rfl) (fun _ _ _ _ _ h => h) jd [(13, 16), (14, 17), (15, 18)] 23 3 _ _ rfl (by kernel_rfl) ?_
    simp only [skipL, skipA, Act.put, p1, p2, p3]
    refine tj2 16 19 17 20 HF jd ?_
    refine wpAnyH_skips (by kernel_rfl) (fun _ _ _ _ _ h => h) jd [(18, 21), (19, 22), (20, 23)] 18 3 _ _ rfl (by kernel_rfl) ?_
    simp only [skipL, skipA, Act.put, p1, p2, p3]
    refine tj2 21 24 22 25 HF jd ?_
    refine wpAnyH_skips (by kernel_rfl) (fun _ _ _ _ _ h => h) jd [(23, 26), (24, 27), (25, 28), (26, 29), (27, 30), (28, 31), (29, 32), (30, 33), (31, 34), (32, 35), (33, 36), (34, 37), (35, 38), (36, 39)] 2 14 _ _ rfl (by kernel_rfl) ?_
    simp only [skipL, skipA, Act.put, p1, p2, p3]
    refine tj2 37 40 38 2 HF jd ?_
    refine wpAnyH_done (by kernel_rfl) ?_ _
    go_wp2
    go_ret
    exact ⟨ret_bool (by simp [goodWorks, kilosOk, totalV, hp, h1, h2]; try (rw [Bool.eq_iff_iff]; simp only [beq_iff_eq, IntWalk.i64_left]; exact ⟨fun h => decide_eq_true h, fun h => of_decide_eq_true h⟩)), ((Below.refl _ w).alloc (Nat.le_refl _) _).trans (jd.mono (by simp))⟩
   | true =>
    refine tj2 13 16 14 17 HF jd ?_
    refine wpAnyH_ready (rs := [15]) (by kernel_rfl) (by simp) ?_
    refine AllReadyH.cons rfl (fun K hK => ?_) AllReadyH.nil
    go_simp
    (go_at_call 124; refine (quiet_below (l21Kilos_any _ _)).mono ?_; rintro e w2 ⟨rfl, hb2⟩)
    refine hK.out _ _ (jd.trans (hb2.mono jd.size)) (fun jd => ?_)
    clear hK K hb2
    refine tj2 16 19 17 20 HF jd ?_
    cases h3 : inR S 0 1000000 with
    | false =>
     refine wpAnyH_skips (by kernel_rfl) (fun _ _ _ _ _ h => h) jd [(18, 21), (19, 22), (20, 23)] 18 3 _ _ rfl (by kernel_rfl) ?_
     simp only [skipL, skipA, Act.put, p1, p2, p3]
     refine tj2 21 24 22 25 HF jd ?_
     refine wpAnyH_skips (by kernel_rfl) (fun _ _ _ _ _ h => h) jd [(23, 26), (24, 27), (25, 28), (26, 29), (27, 30), (28, 31), (29, 32), (30, 33), (31, 34), (32, 35), (33, 36), (34, 37), (35, 38), (36, 39)] 2 14 _ _ rfl (by kernel_rfl) ?_
     simp only [skipL, skipA, Act.put, p1, p2, p3]
     refine tj2 37 40 38 2 HF jd ?_
     refine wpAnyH_done (by kernel_rfl) ?_ _
     go_wp2
     go_ret
     exact ⟨ret_bool (by simp [goodWorks, kilosOk, totalV, hp, h1, h2, h3]; try (rw [Bool.eq_iff_iff]; simp only [beq_iff_eq, IntWalk.i64_left]; exact ⟨fun h => decide_eq_true h, fun h => of_decide_eq_true h⟩)), ((Below.refl _ w).alloc (Nat.le_refl _) _).trans (jd.mono (by simp))⟩
    | true =>
     refine tj2 18 21 19 22 HF jd ?_
     refine wpAnyH_ready (rs := [20]) (by kernel_rfl) (by simp) ?_
     refine AllReadyH.cons rfl (fun K hK => ?_) AllReadyH.nil
     go_simp
     (go_at_call 124; refine (quiet_below (l21Kilos_any _ _)).mono ?_; rintro e w2 ⟨rfl, hb2⟩)
     refine hK.out _ _ (jd.trans (hb2.mono jd.size)) (fun jd => ?_)
     clear hK K hb2
     refine tj2 21 24 22 25 HF jd ?_
     cases h4 : inR P 0 1000000 with
     | false =>
      refine wpAnyH_skips (by kernel_rfl) (fun _ _ _ _ _ h => h) jd [(23, 26), (24, 27), (25, 28), (26, 29), (27, 30), (28, 31), (29, 32), (30, 33), (31, 34), (32, 35), (33, 36), (34, 37), (35, 38), (36, 39)] 2 14 _ _ rfl (by kernel_rfl) ?_
      simp only [skipL, skipA, Act.put, p1, p2, p3]
      refine tj2 37 40 38 2 HF jd ?_
      refine wpAnyH_done (by kernel_rfl) ?_ _
      go_wp2
      go_ret
      exact ⟨ret_bool (by simp [goodWorks, kilosOk, totalV, hp, h1, h2, h3, h4]; try (rw [Bool.eq_iff_iff]; simp only [beq_iff_eq, IntWalk.i64_left]; exact ⟨fun h => decide_eq_true h, fun h => of_decide_eq_true h⟩)), ((Below.refl _ w).alloc (Nat.le_refl _) _).trans (jd.mono (by simp))⟩
     | true =>
      refine tj4 23 26 24 27 25 28 27 30 HF jd ?_
      refine tj4 28 31 30 33 31 34 33 36 HF jd ?_
      refine tj 34 37 HF rfl jd ?_
      refine wpAnyH_ready (rs := [26]) (by kernel_rfl) (by simp) ?_
      refine AllReadyH.cons rfl (fun K hK => ?_) AllReadyH.nil
      go_simp
      (go_at_call 125; refine (l25Salt_any A n c lo hi f I H S P _ (HS.out.below jd) hn hnc).mono ?_; rintro e w2 ⟨rfl, hb2⟩)
      refine hK.out _ _ (jd.trans (hb2.mono jd.size)) (fun jd => ?_)
      clear hK K hb2
      refine tj4 29 32 32 35 35 38 36 39 HF jd ?_
      refine tj2 37 40 38 2 HF jd ?_
      refine wpAnyH_done (by kernel_rfl) ?_ _
      go_wp2
      go_ret
      exact ⟨ret_bool (by simp [goodWorks, kilosOk, totalV, hp, h1, h2, h3, h4]; try (rw [Bool.eq_iff_iff]; simp only [beq_iff_eq, IntWalk.i64_left]; exact ⟨fun h => decide_eq_true h, fun h => of_decide_eq_true h⟩)), ((Below.refl _ w).alloc (Nat.le_refl _) _).trans (jd.mono (by simp))⟩
theorem isWorks_good (A : Option Addr) (n c lo hi : Nat) (f : Nat → Int) (I H S P : Int) (w : World) (hs : Sl w lo hi 4 A n f) (hn : n ≤ 1048576) (hnc : n ≤ c) (hlen : n ≤ 6) (k1 : inR I 0 1000000 = true) (k2 : inR H 0 1000000 = true) (k3 : inR S 0 1000000 = true) (k4 : inR P 0 1000000 = true) :
  Calls Tryz.prog 76 #[.agg #[.slice A n c, .int .i64 I, .int .i64 H, .int .i64 S, .int .i64 P]] w fun e w' => e = .returned (.bool (goodWorks f n I H S P)) ∧ Below w.heap.size w w' := by
 have HS : Hid (Sl (w.alloc (.cells #[.slice A n c, .int .i64 I, .int .i64 H, .int .i64 S, .int .i64 P] 32)) lo hi 4 A n f) := hs.below ((Below.refl _ w).alloc (Nat.le_refl _) _)
 clear hs
 have hl6 : ¬ ((6 : Int) < (n : Int)) := by omega
 go_enter Tryz.func76, Tryz.ntmps76
 go_wp2_with (go_at_call 118; refine (isKilos_any _ _).mono ?_; rintro e w2 ⟨rfl, rfl⟩)
 go_loopw [36] (fun i wr => ∃ k : Nat, k ≤ n ∧ i = .int .i64 k ∧ Hid (allTo (panStep f) k = true) ∧ Below (w.alloc (.cells #[.slice A n c, .int .i64 I, .int .i64 H, .int .i64 S, .int .i64 P] 32)).heap.size (w.alloc (.cells #[.slice A n c, .int .i64 I, .int .i64 H, .int .i64 S, .int .i64 P] 32)) wr) (fun i _ => n - (intOf i).toNat)
 case atStart => exact ⟨0, Nat.zero_le _, rfl, rfl, Below.refl _ _⟩
 case round =>
  obtain ⟨k, hk, rfl, hall, hbel⟩ := hrel
  have hbz : w.heap.size < wr.heap.size := by have := hbel.size; simp at this; omega
  have b0 : wr.cell? ⟨w.heap.size, 0, none⟩ = some (.slice A n c) := (hbel.cell (p := ⟨w.heap.size, 0, none⟩) (by simp)).trans (by simp)
  by_cases hlt : k < n
  ·obtain ⟨b, off, rfl, hbw, HC⟩ := HS.out.open_ hbel (by omega)
   obtain ⟨c0, c1, c2, c3⟩ := cell4 HC hlt
   have hk0i : (0 : Int) ≤ (k : Int) := by omega
   have hkni : (k : Int) < (n : Int) := by omega
   have HF : Hid (∀ w', Below (wr.alloc (.cells #[.int .i64 (f (k * 4)), .int .i64 (f (k * 4 + 1)), .int .i64 (f (k * 4 + 2)), .int .i64 (f (k * 4 + 3))] 97)).heap.size (wr.alloc (.cells #[.int .i64 (f (k * 4)), .int .i64 (f (k * 4 + 1)), .int .i64 (f (k * 4 + 2)), .int .i64 (f (k * 4 + 3))] 97)) w' → w'.cell? ⟨wr.heap.size, 0, none⟩ = some (.int .i64 (f (k * 4))) ∧ w'.cell? ⟨wr.heap.size, 1, none⟩ = some (.int .i64 (f (k * 4 + 1))) ∧ w'.cell? ⟨wr.heap.size, 2, none⟩ = some (.int .i64 (f (k * 4 + 2))) ∧ w'.cell? ⟨wr.heap.size, 3, none⟩ = some (.int .i64 (f (k * 4 + 3))) ∧ w'.cell? ⟨w.heap.size, 0, none⟩ = some (.slice (some ⟨b, off, none⟩) n c)) := fun w' hq => ⟨(hq.cell (p := ⟨wr.heap.size, 0, none⟩) (by simp)).trans (by simp), (hq.cell (p := ⟨wr.heap.size, 1, none⟩) (by simp)).trans (by simp), (hq.cell (p := ⟨wr.heap.size, 2, none⟩) (by simp)).trans (by simp), (hq.cell (p := ⟨wr.heap.size, 3, none⟩) (by simp)).trans (by simp), (hq.cell (p := ⟨w.heap.size, 0, none⟩) (by simp; omega)).trans ((World.cell?_alloc_lt _ _ _ hbz).trans b0)⟩
   have HP : Hid (0 < k → ∀ w', Below (wr.alloc (.cells #[.int .i64 (f (k * 4)), .int .i64 (f (k * 4 + 1)), .int .i64 (f (k * 4 + 2)), .int .i64 (f (k * 4 + 3))] 97)).heap.size (wr.alloc (.cells #[.int .i64 (f (k * 4)), .int .i64 (f (k * 4 + 1)), .int .i64 (f (k * 4 + 2)), .int .i64 (f (k * 4 + 3))] 97)) w' → w'.cell? ⟨b, off + (k - 1) * 4, none⟩ = some (.int .i64 (f ((k - 1) * 4)))) := fun hk0 w' hq => (hq.cell (p := ⟨b, off + (k - 1) * 4, none⟩) (by simp; omega)).trans ((World.cell?_alloc_lt _ _ _ hbw).trans (HC.out _ (by omega)))
   clear HC HS
   go_wp2
   refine wp_region_held_drew (S := fun w' => Below ((wr.alloc (.cells #[.int .i64 (f (k * 4)), .int .i64 (f (k * 4 + 1)), .int .i64 (f (k * 4 + 2)), .int .i64 (f (k * 4 + 3))] 97))).heap.size ((wr.alloc (.cells #[.int .i64 (f (k * 4)), .int .i64 (f (k * 4 + 1)), .int .i64 (f (k * 4 + 2)), .int .i64 (f (k * 4 + 3))] 97))) w') (by kernel_rfl) ((Below.refl _ _).drew) (fun jd => ?_)
   refine tj2 0 41 1 42 HF jd ?_
   refine wpAnyH_ready (rs := [2]) (by kernel_rfl) (by simp) ?_
   refine AllReadyH.cons rfl (fun K hK => ?_) AllReadyH.nil
   go_simp
   (go_at_call 119; refine (quiet_below (isId_any _ _)).mono ?_; rintro e w2 ⟨rfl, hb2⟩)
   refine hK.out _ _ (jd.trans (hb2.mono jd.size)) (fun jd => ?_)
   clear hK K hb2
   refine tj2 3 44 4 45 HF jd ?_
   cases h1 : inR (f (k * 4)) 1 99 with
   | false =>
    have h2 : True := trivial
    have h3 : True := trivial
    have hm : True := trivial
    have hno : Hid (pansOk f n = false) := pansOk_no hlt (by simp [panStep, okPanAt, okPan, h1, h2, h3, hm])
    refine wpAnyH_skips (by kernel_rfl) (fun _ _ _ _ _ h => h) jd [(5, 46), (6, 47), (7, 48), (8, 49)] 31 4 _ _ rfl (by kernel_rfl) ?_
    simp only [skipL, skipA, Act.put, p1, p2, p3]
    refine tj2 9 50 10 51 HF jd ?_
    refine wpAnyH_skips (by kernel_rfl) (fun _ _ _ _ _ h => h) jd [(11, 52), (12, 53), (13, 54), (14, 55)] 25 4 _ _ rfl (by kernel_rfl) ?_
    simp only [skipL, skipA, Act.put, p1, p2, p3]
    refine tj2 15 56 16 57 HF jd ?_
    refine wpAnyH_skips (by kernel_rfl) (fun _ _ _ _ _ h => h) jd [(17, 58), (18, 59), (19, 60), (20, 61), (21, 62), (22, 63)] 17 6 _ _ rfl (by kernel_rfl) ?_
    simp only [skipL, skipA, Act.put, p1, p2, p3]
    refine tj2 23 64 24 65 HF jd ?_
    refine wpAnyH_skips (by kernel_rfl) (fun _ _ _ _ _ h => h) jd [(25, 66), (26, 67), (27, 68), (28, 69), (29, 70), (30, 71), (31, 72), (32, 73), (33, 74), (34, 75), (35, 76), (36, 77), (37, 78), (38, 79)] 1 14 _ _ rfl (by kernel_rfl) ?_
    simp only [skipL, skipA, Act.put, p1, p2, p3]
    refine tj 39 80 HF rfl jd ?_
    refine wpAnyH_done (by kernel_rfl) ?_ _
    go_wp2
    go_ret
    exact ⟨ret_bool (by simp [goodWorks, hno.out]), ((Below.refl _ w).alloc (Nat.le_refl _) _).trans ((below_of hbel (((Below.refl _ wr).alloc (Nat.le_refl _) _).trans (jd.mono (by simp))) hbel.size).mono (by simp))⟩
   | true =>
    refine tj2 5 46 6 47 HF jd ?_
    refine wpAnyH_ready (rs := [7]) (by kernel_rfl) (by simp) ?_
    refine AllReadyH.cons rfl (fun K hK => ?_) AllReadyH.nil
    go_simp
    (go_at_call 70; refine (quiet_below (within_any _ _ _ _)).mono ?_; rintro e w2 ⟨rfl, hb2⟩)
    refine hK.out _ _ (jd.trans (hb2.mono jd.size)) (fun jd => ?_)
    clear hK K hb2
    refine tj3 8 49 9 50 10 51 HF jd ?_
    cases h2 : inR (f (k * 4 + 1)) 1 100000 with
    | false =>
     have h3 : True := trivial
     have hm : True := trivial
     have hno : Hid (pansOk f n = false) := pansOk_no hlt (by simp [panStep, okPanAt, okPan, h1, h2, h3, hm])
     refine wpAnyH_skips (by kernel_rfl) (fun _ _ _ _ _ h => h) jd [(11, 52), (12, 53), (13, 54), (14, 55)] 25 4 _ _ rfl (by kernel_rfl) ?_
     simp only [skipL, skipA, Act.put, p1, p2, p3]
     refine tj2 15 56 16 57 HF jd ?_
     refine wpAnyH_skips (by kernel_rfl) (fun _ _ _ _ _ h => h) jd [(17, 58), (18, 59), (19, 60), (20, 61), (21, 62), (22, 63)] 17 6 _ _ rfl (by kernel_rfl) ?_
     simp only [skipL, skipA, Act.put, p1, p2, p3]
     refine tj2 23 64 24 65 HF jd ?_
     refine wpAnyH_skips (by kernel_rfl) (fun _ _ _ _ _ h => h) jd [(25, 66), (26, 67), (27, 68), (28, 69), (29, 70), (30, 71), (31, 72), (32, 73), (33, 74), (34, 75), (35, 76), (36, 77), (37, 78), (38, 79)] 1 14 _ _ rfl (by kernel_rfl) ?_
     simp only [skipL, skipA, Act.put, p1, p2, p3]
     refine tj 39 80 HF rfl jd ?_
     refine wpAnyH_done (by kernel_rfl) ?_ _
     go_wp2
     go_ret
     exact ⟨ret_bool (by simp [goodWorks, hno.out]), ((Below.refl _ w).alloc (Nat.le_refl _) _).trans ((below_of hbel (((Below.refl _ wr).alloc (Nat.le_refl _) _).trans (jd.mono (by simp))) hbel.size).mono (by simp))⟩
    | true =>
     refine tj2 11 52 12 53 HF jd ?_
     refine wpAnyH_ready (rs := [13]) (by kernel_rfl) (by simp) ?_
     refine AllReadyH.cons rfl (fun K hK => ?_) AllReadyH.nil
     go_simp
     (go_at_call 120; refine (IsBrine_any _ _ _).mono ?_; rintro e w2 ⟨rfl, hb2⟩)
     refine hK.out _ _ (jd.trans (hb2.mono jd.size)) (fun jd => ?_)
     clear hK K hb2
     refine tj3 14 55 15 56 16 57 HF jd ?_
     cases h3 : okBrine (f (k * 4 + 2)) (f (k * 4 + 3)) with
     | false =>
      have hm : True := trivial
      have hno : Hid (pansOk f n = false) := pansOk_no hlt (by simp [panStep, okPanAt, okPan, h1, h2, h3, hm])
      refine wpAnyH_skips (by kernel_rfl) (fun _ _ _ _ _ h => h) jd [(17, 58), (18, 59), (19, 60), (20, 61), (21, 62), (22, 63)] 17 6 _ _ rfl (by kernel_rfl) ?_
      simp only [skipL, skipA, Act.put, p1, p2, p3]
      refine tj2 23 64 24 65 HF jd ?_
      refine wpAnyH_skips (by kernel_rfl) (fun _ _ _ _ _ h => h) jd [(25, 66), (26, 67), (27, 68), (28, 69), (29, 70), (30, 71), (31, 72), (32, 73), (33, 74), (34, 75), (35, 76), (36, 77), (37, 78), (38, 79)] 1 14 _ _ rfl (by kernel_rfl) ?_
      simp only [skipL, skipA, Act.put, p1, p2, p3]
      refine tj 39 80 HF rfl jd ?_
      refine wpAnyH_done (by kernel_rfl) ?_ _
      go_wp2
      go_ret
      exact ⟨ret_bool (by simp [goodWorks, hno.out]), ((Below.refl _ w).alloc (Nat.le_refl _) _).trans ((below_of hbel (((Below.refl _ wr).alloc (Nat.le_refl _) _).trans (jd.mono (by simp))) hbel.size).mono (by simp))⟩
     | true =>
      by_cases hm : massV (f (k * 4 + 2)) (f (k * 4 + 3)) ≤ f (k * 4 + 1)
      ·have hmd : ¬ (f (k * 4 + 1) < massV (f (k * 4 + 2)) (f (k * 4 + 3))) := by omega
       refine tj4 17 58 18 59 20 61 21 62 HF jd ?_
       refine wpAnyH_ready (rs := [19]) (by kernel_rfl) (by simp) ?_
       refine AllReadyH.cons rfl (fun K hK => ?_) AllReadyH.nil
       go_simp
       (go_at_call 121; refine (mass_any _ _ _).mono ?_; rintro e w2 ⟨rfl, hb2⟩)
       refine hK.out _ _ (jd.trans (hb2.mono jd.size)) (fun jd => ?_)
       clear hK K hb2
       refine tj4 22 63 23 64 24 65 25 66 HF jd ?_
       refine tj2 26 67 27 68 HF jd ?_
       by_cases h0 : k = 0
       ·have hok1 : Hid (panStep f k = true) := by simp only [Hid, panStep, okPanAt, okPan, h1, h2, h3, hm, Bool.true_and, Bool.or_eq_true, decide_eq_true_eq, decide_true]; exact Or.inl h0
        have hk0b : decide ((0 : Int) < (k : Int)) = false := by simp; omega
        have hk0c : decide (0 < k) = false := by simp; omega
        clear h0 HP
        try simp only [hk0b, hk0c]
        refine wpAnyH_skips (by kernel_rfl) (fun _ _ _ _ _ h => h) jd [(28, 69), (29, 70), (30, 71), (31, 72), (32, 73), (33, 74), (34, 75), (35, 76), (36, 77), (37, 78)] 2 10 _ _ rfl (by kernel_rfl) ?_
        simp only [skipL, skipA, Act.put, p1, p2, p3]
        refine tj2 38 79 39 80 HF jd ?_
        refine wpAnyH_done (by kernel_rfl) ?_ _
        go_wp2
        go_roundw
        case rel => exact ⟨k + 1, by omega, by go_num, allTo_succ hall.out hok1.out, below_of hbel (((Below.refl _ wr).alloc (Nat.le_refl _) _).trans (jd.mono (by simp))) hbel.size⟩
        case measure => simp [intOf]; omega
       ·have hk0 : 0 < k := by omega
        have hkk : ((k : Int) - 1).toNat = k - 1 := by omega
        have hb0 : (0 : Int) ≤ (k : Int) - 1 := by omega
        have hb1x : (1 : Int) ≤ (k : Int) := by omega
        have hb3 : (k : Int) - 1 < (n : Int) := by omega
        have hwk : IntKind.i64.wrap ((k : Int) - 1) = (k : Int) - 1 := IntWalk.i64_in _ (by omega)
        have hk0b : decide ((0 : Int) < (k : Int)) = true := by simp; omega
        have hk0c : decide (0 < k) = true := by simp; omega
        replace HF := Hid.and_ HF (HP.out hk0)
        clear HP
        try simp only [hk0b, hk0c]
        by_cases hlt2 : f ((k - 1) * 4) < f (k * 4)
        ·have hok1 : Hid (panStep f k = true) := by simp [Hid, panStep, okPanAt, okPan, h1, h2, h3, hm, hlt2]
         refine tj4 28 69 29 70 30 71 31 72 HF jd ?_
         refine tj4 32 73 33 74 34 75 35 76 HF jd ?_
         refine tj4 36 77 37 78 38 79 39 80 HF jd ?_
         refine wpAnyH_done (by kernel_rfl) ?_ _
         go_wp2
         go_roundw
         case rel => exact ⟨k + 1, by omega, by go_num, allTo_succ hall.out hok1.out, below_of hbel (((Below.refl _ wr).alloc (Nat.le_refl _) _).trans (jd.mono (by simp))) hbel.size⟩
         case measure => simp [intOf]; omega
        ·have hno : Hid (pansOk f n = false) := pansOk_no hlt (by simp [panStep, okPanAt, okPan, h1, h2, h3, hm, hlt2]; omega)
         refine tj4 28 69 29 70 30 71 31 72 HF jd ?_
         refine tj4 32 73 33 74 34 75 35 76 HF jd ?_
         refine tj4 36 77 37 78 38 79 39 80 HF jd ?_
         refine wpAnyH_done (by kernel_rfl) ?_ _
         go_wp2
         go_ret
         exact ⟨ret_bool (by simp [goodWorks, hno.out]), ((Below.refl _ w).alloc (Nat.le_refl _) _).trans ((below_of hbel (((Below.refl _ wr).alloc (Nat.le_refl _) _).trans (jd.mono (by simp))) hbel.size).mono (by simp))⟩
      ·have hmd : f (k * 4 + 1) < massV (f (k * 4 + 2)) (f (k * 4 + 3)) := by omega
       have hno : Hid (pansOk f n = false) := pansOk_no hlt (by simp [panStep, okPanAt, okPan, h1, h2, h3, hm])
       refine tj4 17 58 18 59 20 61 21 62 HF jd ?_
       refine wpAnyH_ready (rs := [19]) (by kernel_rfl) (by simp) ?_
       refine AllReadyH.cons rfl (fun K hK => ?_) AllReadyH.nil
       go_simp
       (go_at_call 121; refine (mass_any _ _ _).mono ?_; rintro e w2 ⟨rfl, hb2⟩)
       refine hK.out _ _ (jd.trans (hb2.mono jd.size)) (fun jd => ?_)
       clear hK K hb2
       refine tj3 22 63 23 64 24 65 HF jd ?_
       refine wpAnyH_skips (by kernel_rfl) (fun _ _ _ _ _ h => h) jd [(25, 66), (26, 67), (27, 68), (28, 69), (29, 70), (30, 71), (31, 72), (32, 73), (33, 74), (34, 75), (35, 76), (36, 77), (37, 78), (38, 79)] 1 14 _ _ rfl (by kernel_rfl) ?_
       simp only [skipL, skipA, Act.put, p1, p2, p3]
       refine tj 39 80 HF rfl jd ?_
       refine wpAnyH_done (by kernel_rfl) ?_ _
       go_wp2
       go_ret
       exact ⟨ret_bool (by simp [goodWorks, hno.out]), ((Below.refl _ w).alloc (Nat.le_refl _) _).trans ((below_of hbel (((Below.refl _ wr).alloc (Nat.le_refl _) _).trans (jd.mono (by simp))) hbel.size).mono (by simp))⟩
  ·obtain rfl : n = k := by omega
   have b1 : wr.cell? ⟨w.heap.size, 1, none⟩ = some (.int .i64 I) := (hbel.cell (p := ⟨w.heap.size, 1, none⟩) (by simp)).trans (by simp)
   have b2 : wr.cell? ⟨w.heap.size, 2, none⟩ = some (.int .i64 H) := (hbel.cell (p := ⟨w.heap.size, 2, none⟩) (by simp)).trans (by simp)
   have b3 : wr.cell? ⟨w.heap.size, 3, none⟩ = some (.int .i64 S) := (hbel.cell (p := ⟨w.heap.size, 3, none⟩) (by simp)).trans (by simp)
   have b4 : wr.cell? ⟨w.heap.size, 4, none⟩ = some (.int .i64 P) := (hbel.cell (p := ⟨w.heap.size, 4, none⟩) (by simp)).trans (by simp)
   have hps : pansOk f n = true := by simp [pansOk, hall.out, hlen]
   have HF : Hid (∀ w', Below wr.heap.size wr w' → _) := fun w' hq => And.intro (kp hq b0) (And.intro (kp hq b1) (And.intro (kp hq b2) (And.intro (kp hq b3) (kp hq b4))))
   have HW : Hid (Sl wr lo hi 4 A n f) := HS.out.below hbel
   clear HS
   go_wp2
   refine wp_region_held_drew (S := fun w' => Below (wr).heap.size (wr) w') (by kernel_rfl) ((Below.refl _ _).drew) (fun jd => ?_)
   refine tj4 0 82 1 83 2 84 4 86 HF jd ?_
   refine tj4 5 87 7 89 8 90 10 92 HF jd ?_
   refine tj 11 93 HF rfl jd ?_
   refine wpAnyH_ready (rs := [3]) (by kernel_rfl) (by simp) ?_
   refine AllReadyH.cons rfl (fun K hK => ?_) AllReadyH.nil
   go_simp
   (go_at_call 122; refine (saltInPans_any A n c lo hi f I H S P _ (HW.out.below jd) hn hnc).mono ?_; rintro e w2 ⟨rfl, hb2⟩)
   refine hK.out _ _ (jd.trans (hb2.mono jd.size)) (fun jd => ?_)
   clear hK K hb2
   refine tj4 6 88 9 91 12 94 13 95 HF jd ?_
   refine tj 14 2 HF rfl jd ?_
   refine wpAnyH_done (by kernel_rfl) ?_ _
   go_wp2
   go_ret
   exact ⟨ret_bool (by simp [goodWorks, kilosOk, totalV, hps, k1, k2, k3, k4]; try (rw [Bool.eq_iff_iff]; simp only [beq_iff_eq, IntWalk.i64_left]; exact ⟨fun h => decide_eq_true h, fun h => of_decide_eq_true h⟩)), ((Below.refl _ w).alloc (Nat.le_refl _) _).trans ((below_of hbel jd hbel.size).mono (by simp))⟩
theorem isWorks_any (A : Option Addr) (n c lo hi : Nat) (f : Nat → Int) (I H S P : Int) (w : World) (hs : Sl w lo hi 4 A n f) (hn : n ≤ 1048576) (hnc : n ≤ c) :
  Calls Tryz.prog 76 #[.agg #[.slice A n c, .int .i64 I, .int .i64 H, .int .i64 S, .int .i64 P]] w fun e w' => e = .returned (.bool (goodWorks f n I H S P)) ∧ Below w.heap.size w w' := by
 by_cases hlen : n ≤ 6
 ·have hl6 : ¬ ((6 : Int) < (n : Int)) := by omega
  cases k1 : inR I 0 1000000 with
  | false =>
   go_enter Tryz.func76, Tryz.ntmps76
   go_wp2_with (go_at_call 118; refine (isKilos_any _ _).mono ?_; rintro e w2 ⟨rfl, rfl⟩)
   go_ret
   exact ⟨ret_bool (by simp [goodWorks, kilosOk, k1]), (Below.refl _ w).alloc (Nat.le_refl _) _⟩
  | true =>
   cases k2 : inR H 0 1000000 with
   | false =>
    go_enter Tryz.func76, Tryz.ntmps76
    go_wp2_with (go_at_call 118; refine (isKilos_any _ _).mono ?_; rintro e w2 ⟨rfl, rfl⟩)
    go_ret
    exact ⟨ret_bool (by simp [goodWorks, kilosOk, k1, k2]), (Below.refl _ w).alloc (Nat.le_refl _) _⟩
   | true =>
    cases k3 : inR S 0 1000000 with
    | false =>
     go_enter Tryz.func76, Tryz.ntmps76
     go_wp2_with (go_at_call 118; refine (isKilos_any _ _).mono ?_; rintro e w2 ⟨rfl, rfl⟩)
     go_ret
     exact ⟨ret_bool (by simp [goodWorks, kilosOk, k1, k2, k3]), (Below.refl _ w).alloc (Nat.le_refl _) _⟩
    | true =>
     cases k4 : inR P 0 1000000 with
     | false =>
      go_enter Tryz.func76, Tryz.ntmps76
      go_wp2_with (go_at_call 118; refine (isKilos_any _ _).mono ?_; rintro e w2 ⟨rfl, rfl⟩)
      go_ret
      exact ⟨ret_bool (by simp [goodWorks, kilosOk, k1, k2, k3, k4]), (Below.refl _ w).alloc (Nat.le_refl _) _⟩
     | true => exact isWorks_good A n c lo hi f I H S P w hs hn hnc hlen k1 k2 k3 k4
 ·have hl6 : (6 : Int) < (n : Int) := by omega
  go_enter Tryz.func76, Tryz.ntmps76
  go_wp2_with (go_at_call 118; refine (isKilos_any _ _).mono ?_; rintro e w2 ⟨rfl, rfl⟩)
  go_ret
  exact ⟨ret_bool (by simp [goodWorks, pansOk, hlen]), (Below.refl _ w).alloc (Nat.le_refl _) _⟩
end Go.Proofs.YtpndjhelpoenpaaGreatDoor
namespace Go.Proofs.YtpndjhelpoenpaaGreatDoor
open Go.RowKit
attribute [local go_sem ↓] Go.wp_at_zero Go.wp_at_succ
def findV (g : Nat → Int) (z : Int) : Nat → Nat → Int
 | 0, _ => -1
 | m + 1, k => if g k = z then (k : Int) else findV g z m (k + 1)
theorem findV_cases (g : Nat → Int) (z : Int) : ∀ m k, (findV g z m k = -1 ∧ ∀ j, k ≤ j → j < k + m → g j ≠ z) ∨ ∃ j, k ≤ j ∧ j < k + m ∧ findV g z m k = (j : Int) ∧ g j = z
 | 0, k => Or.inl ⟨rfl, fun j h1 h2 => absurd h2 (by omega)⟩
 | m + 1, k => by
  by_cases h : g k = z
  ·exact Or.inr ⟨k, Nat.le_refl _, by omega, by simp [findV, h], h⟩
  ·rcases findV_cases g z m (k + 1) with ⟨h1, h2⟩ | ⟨j, h1, h2, h3, h4⟩
   ·refine Or.inl ⟨by simp [findV, h, h1], fun j hj1 hj2 => ?_⟩
    by_cases hk : j = k
    ·exact hk ▸ h
    ·exact h2 j (by omega) (by omega)
   ·exact Or.inr ⟨j, by omega, by omega, by simp [findV, h, h3], h4⟩
def pid (f : Nat → Int) (k : Nat) : Int := f (k * 4)
def satV (f : Nat → Int) (n : Nat) (b : Bool) : Int := if b then sumW (saltAt f) n else 0
theorem panAt1_any (i h wt s z : Int) (q : Nat) (w : World) (hq : w.cell? ⟨q, 0, none⟩ = some (.int .i64 z)) (hqb : q < w.heap.size) :
  Calls Tryz.prog 152 #[.agg #[.int .i64 i, .int .i64 h, .int .i64 wt, .int .i64 s], .pointer (some ⟨q, 0, none⟩)] w fun e w' => e = .returned (.bool (decide (i = z))) ∧ Below w.heap.size w w' := by
 go_enter Tryz.func152, Tryz.ntmps152
 go_wp2
 go_ret
 exact ⟨ret_bool (by rw [Bool.eq_iff_iff]; simp), by go_grown⟩
theorem panIndex_any (A : Option Addr) (n c lo hi : Nat) (f : Nat → Int) (z : Int) (q : Nat) (w : World) (hs : Sl w lo hi 4 A n f) (hq : w.cell? ⟨q, 0, none⟩ = some (.int .i64 z)) (hqb : q < w.heap.size) (hn : n ≤ 1048576) (hnc : n ≤ c) :
  Calls Tryz.prog 151 #[.slice A n c, .func (.func 152) #[] #[.pointer (some ⟨q, 0, none⟩)]] w fun e w' => e = .returned (.int .i64 (findV (pid f) z n 0)) ∧ Below w.heap.size w w' := by
 have HS : Hid (Sl w lo hi 4 A n f) := hs
 clear hs
 go_enter Tryz.func151, Tryz.ntmps151
 go_wp2
 go_loopw [8] (fun i wr => ∃ k : Nat, k ≤ n ∧ i = .int .i64 k ∧ findV (pid f) z n 0 = findV (pid f) z (n - k) k ∧ Below w.heap.size w wr) (fun i _ => n - (intOf i).toNat)
 case atStart => exact ⟨0, Nat.zero_le _, rfl, rfl, Below.refl _ _⟩
 case round =>
  obtain ⟨k, hk, rfl, hfd, hbel⟩ := hrel
  by_cases hlt : k < n
  ·obtain ⟨b, off, rfl, hbw, HC⟩ := HS.out.open_ hbel (by omega)
   obtain ⟨c0, c1, c2, c3⟩ := cell4 HC hlt
   have hqr := kp hbel hq
   have hqw : q < wr.heap.size := Nat.lt_of_lt_of_le hqb hbel.size
   have hk0i : (0 : Int) ≤ (k : Int) := by omega
   have hkni : (k : Int) < (n : Int) := by omega
   have hstep : findV (pid f) z (n - k) k = if f (k * 4) = z then (k : Int) else findV (pid f) z (n - (k + 1)) (k + 1) := by
    obtain ⟨m, hm⟩ : ∃ m, n - k = m + 1 := ⟨n - k - 1, by omega⟩
    rw [hm, show n - (k + 1) = m by omega]; rfl
   have HH : Hid (findV (pid f) z n 0 = if f (k * 4) = z then (k : Int) else findV (pid f) z (n - (k + 1)) (k + 1)) := hfd.trans hstep
   clear HC HS hfd hstep
   by_cases hz : f (k * 4) = z
   ·go_wp2_with (go_at_call 152; refine (panAt1_any _ _ _ _ z q _ hqr hqw).mono ?_; rintro e w2 ⟨rfl, hb2⟩)
    go_ret
    exact ⟨ret_int (by rw [HH.out, if_pos hz]), below_of hbel hb2 hbel.size⟩
   ·go_wp2_with (go_at_call 152; refine (panAt1_any _ _ _ _ z q _ hqr hqw).mono ?_; rintro e w2 ⟨rfl, hb2⟩)
    go_roundw
    case rel => exact ⟨k + 1, by omega, by go_num, by rw [HH.out, if_neg hz], below_of hbel hb2 hbel.size⟩
    case measure => simp [intOf]; omega
  ·obtain rfl : n = k := by omega
   have HH : Hid (findV (pid f) z n 0 = -1) := by rw [Hid, hfd, Nat.sub_self]; rfl
   clear HS hfd
   go_wp2
   go_ret
   exact ⟨ret_int (by rw [HH.out]), hbel⟩
theorem panAt_any (A : Option Addr) (n c lo hi : Nat) (f : Nat → Int) (I H S P : Int) (z : Int) (w : World) (hs : Sl w lo hi 4 A n f) (hn : n ≤ 1048576) (hnc : n ≤ c) :
  Calls Tryz.prog 109 #[.agg #[.slice A n c, .int .i64 I, .int .i64 H, .int .i64 S, .int .i64 P], .int .i64 z] w fun e w' => e = .returned (.int .i64 (findV (pid f) z n 0)) ∧ Below w.heap.size w w' := by
 have HS : Hid (Sl ((w.alloc (.cells #[.slice A n c, .int .i64 I, .int .i64 H, .int .i64 S, .int .i64 P] 32)).alloc (.cells #[.int .i64 z] 3)) lo hi 4 A n f) := hs.below (by go_grown)
 have hmf : ∀ (fn : Fn) (first cap : Array Value) (w : World), (Instr.makeFunc fn first cap).run Tryz.prog w = .ok (.func fn first cap) w := fun _ _ _ _ => rfl
 clear hs
 go_enter Tryz.func109, Tryz.ntmps109
 go_wp2_with fail
 refine (panIndex_any A n c lo hi f z (w.heap.size + 1) _ HS.out (by go_simp) (by simp) hn hnc).mono ?_
 rintro e w2 ⟨rfl, hb2⟩
 go_wp2
 go_ret
 exact ⟨rfl, (((Below.refl _ w).alloc (Nat.le_refl _) _).alloc (by simp) _).trans (hb2.mono (by simp; omega))⟩
theorem l25Find_any (A : Option Addr) (n c lo hi : Nat) (f : Nat → Int) (I H S P : Int) (z : Int) (w : World) (hs : Sl w lo hi 4 A n f) (hn : n ≤ 1048576) (hnc : n ≤ c) :
  Calls Tryz.prog 154 #[.agg #[.slice A n c, .int .i64 I, .int .i64 H, .int .i64 S, .int .i64 P], .int .i64 z] w fun e w' => e = .returned (.int .i64 (findV (pid f) z n 0)) ∧ Below w.heap.size w w' := by
 have HS : Hid (Sl (w.alloc (.cells #[.slice A n c, .int .i64 I, .int .i64 H, .int .i64 S, .int .i64 P] 32)) lo hi 4 A n f) := hs.below ((Below.refl _ w).alloc (Nat.le_refl _) _)
 clear hs
 go_enter Tryz.func154, Tryz.ntmps154
 go_wp2
 go_loopw [5] (fun i wr => ∃ k : Nat, k ≤ n ∧ i = .int .i64 k ∧ findV (pid f) z n 0 = findV (pid f) z (n - k) k ∧ Below (w.alloc (.cells #[.slice A n c, .int .i64 I, .int .i64 H, .int .i64 S, .int .i64 P] 32)).heap.size (w.alloc (.cells #[.slice A n c, .int .i64 I, .int .i64 H, .int .i64 S, .int .i64 P] 32)) wr) (fun i _ => n - (intOf i).toNat)
 case atStart => exact ⟨0, Nat.zero_le _, rfl, rfl, Below.refl _ _⟩
 case round =>
  obtain ⟨k, hk, rfl, hfd, hbel⟩ := hrel
  have hbz : w.heap.size < wr.heap.size := by have := hbel.size; simp at this; omega
  have b0 : wr.cell? ⟨w.heap.size, 0, none⟩ = some (.slice A n c) := (hbel.cell (p := ⟨w.heap.size, 0, none⟩) (by simp)).trans (by simp)
  by_cases hlt : k < n
  ·obtain ⟨b, off, rfl, hbw, HC⟩ := HS.out.open_ hbel (by omega)
   obtain ⟨c0, c1, c2, c3⟩ := cell4 HC hlt
   have hk0i : (0 : Int) ≤ (k : Int) := by omega
   have hkni : (k : Int) < (n : Int) := by omega
   have hstep : findV (pid f) z (n - k) k = if f (k * 4) = z then (k : Int) else findV (pid f) z (n - (k + 1)) (k + 1) := by
    obtain ⟨m, hm⟩ : ∃ m, n - k = m + 1 := ⟨n - k - 1, by omega⟩
    rw [hm, show n - (k + 1) = m by omega]; rfl
   have HH : Hid (findV (pid f) z n 0 = if f (k * 4) = z then (k : Int) else findV (pid f) z (n - (k + 1)) (k + 1)) := hfd.trans hstep
   clear HC HS hfd hstep
   by_cases hz : f (k * 4) = z
   ·go_wp2
    go_ret
    exact ⟨ret_int (by rw [HH.out, if_pos hz]), ((Below.refl _ w).alloc (Nat.le_refl _) _).trans (hbel.mono (by simp))⟩
   ·go_wp2
    go_roundw
    case rel => exact ⟨k + 1, by omega, by go_num, by rw [HH.out, if_neg hz], hbel⟩
    case measure => simp [intOf]; omega
  ·obtain rfl : n = k := by omega
   have HH : Hid (findV (pid f) z n 0 = -1) := by rw [Hid, hfd, Nat.sub_self]; rfl
   clear HS hfd
   go_wp2
   go_ret
   exact ⟨ret_int (by rw [HH.out]), ((Below.refl _ w).alloc (Nat.le_refl _) _).trans (hbel.mono (by simp))⟩
end Go.Proofs.YtpndjhelpoenpaaGreatDoor
namespace Go.Proofs.YtpndjhelpoenpaaGreatDoor
open Go.RowKit
attribute [local go_sem ↓] Go.wp_at_zero Go.wp_at_succ
def mayV (wt s : Int) : Bool := decide (wrap64 (260 * massV wt s) < wrap64 (1000 * s))
def dryN (wt s : Int) : Nat := (wt + s - (1000 * s - 1) / 260).toNat
theorem mayV_iff {wt s : Int} (h1 : -1000000 ≤ wt) (h2 : wt ≤ 1000000) (h3 : 0 ≤ s) (h4 : s ≤ 1000000) : mayV wt s = true ↔ 260 * (wt + s) < 1000 * s := by
 unfold mayV massV
 rw [IntWalk.wrap64_in (wt + s) ⟨by omega, by omega⟩, IntWalk.wrap64_in (260 * (wt + s)) ⟨by omega, by omega⟩, IntWalk.wrap64_in (1000 * s) ⟨by omega, by omega⟩]
 simp
theorem dry_le {wt s : Int} (h1 : 0 ≤ wt) (h2 : wt ≤ 1000000) (h3 : 0 < s) (h4 : s ≤ 1000000) : (dryN wt s : Int) ≤ wt + s := by unfold dryN; omega
theorem dry_step {wt s : Int} (h1 : 0 ≤ wt) (h2 : wt ≤ 1000000) (h3 : 0 < s) (h4 : s ≤ 1000000) {k : Nat} (hk : k ≤ dryN wt s) (hm : mayV (wt - k) s = false) : k < dryN wt s := by
 have hd := dry_le h1 h2 h3 h4
 have := mt (mayV_iff (wt := wt - k) (s := s) (by omega) (by omega) (by omega) h4).2 (by simp [hm])
 unfold dryN at *
 omega
theorem dry_done {wt s : Int} (h1 : 0 ≤ wt) (h2 : wt ≤ 1000000) (h3 : 0 < s) (h4 : s ≤ 1000000) {k : Nat} (hk : k ≤ dryN wt s) (hm : mayV (wt - k) s = true) : k = dryN wt s := by
 have hd := dry_le h1 h2 h3 h4
 have := (mayV_iff (wt := wt - k) (s := s) (by omega) (by omega) (by omega) h4).1 hm
 unfold dryN at *
 omega
def mostV (a b : Int) : Int := if b < a then a else b
theorem good_brine {f : Nat → Int} {n : Nat} {I H S P : Int} (hg : goodWorks f n I H S P = true) {j : Nat} (hj : j < n) : 0 ≤ f (j * 4 + 2) ∧ f (j * 4 + 2) ≤ 1000000 ∧ 0 ≤ f (j * 4 + 3) ∧ f (j * 4 + 3) ≤ 1000000 ∧ n ≤ 6 := by
 simp only [goodWorks, pansOk, Bool.and_eq_true, decide_eq_true_eq] at hg
 have h := allTo_at hj hg.1.1.1
 simp only [panStep, okPanAt, okPan, okBrine, inR, Bool.and_eq_true, decide_eq_true_eq] at h
 omega
theorem l1Most_any (a b : Int) (w : World) :
  Calls Tryz.prog 106 #[.int .i64 a, .int .i64 b] w fun e w' => e = .returned (.int .i64 (mostV a b)) ∧ w = w' := by
 by_cases h : b < a
 ·go_enter Tryz.func106, Tryz.ntmps106
  go_wp2
  go_ret
  exact ⟨ret_int (by unfold mostV; rw [if_pos (by omega)]), rfl⟩
 ·go_enter Tryz.func106, Tryz.ntmps106
  go_wp2
  go_ret
  exact ⟨ret_int (by unfold mostV; rw [if_neg (by omega)]), rfl⟩
theorem mayRake_any (wt s : Int) (w : World) :
  Calls Tryz.prog 170 #[.agg #[.int .i64 wt, .int .i64 s]] w fun e w' => e = .returned (.bool (mayV wt s)) ∧ Below w.heap.size w w' := by
 have HF : Hid (∀ w', Below (w.alloc (.cells #[.int .i64 wt, .int .i64 s] 95)).heap.size (w.alloc (.cells #[.int .i64 wt, .int .i64 s] 95)) w' → w'.cell? ⟨w.heap.size, 0, none⟩ = some (.int .i64 wt) ∧ w'.cell? ⟨w.heap.size, 1, none⟩ = some (.int .i64 s)) := fun w' hq => (cells2 (bx (g := w.heap.size) hq))
 go_enter Tryz.func170, Tryz.ntmps170
 go_wp2
 refine wp_region_held_drew (S := fun w' => Below ((w.alloc (.cells #[.int .i64 wt, .int .i64 s] 95))).heap.size ((w.alloc (.cells #[.int .i64 wt, .int .i64 s] 95))) w') (by kernel_rfl) ((Below.refl _ _).drew) (fun jd => ?_)
 refine tj4 0 3 1 4 2 5 3 6 HF jd ?_
 refine wpAnyH_ready (rs := [4]) (by kernel_rfl) (by simp) ?_
 refine AllReadyH.cons rfl (fun K hK => ?_) AllReadyH.nil
 go_simp
 (go_at_call 121; refine (mass_any _ _ _).mono ?_; rintro e w2 ⟨rfl, hb2⟩)
 refine hK.out _ _ (jd.trans (hb2.mono jd.size)) (fun jd => ?_)
 clear hK K hb2
 refine tj3 5 8 6 9 7 2 HF jd ?_
 refine wpAnyH_done (by kernel_rfl) ?_ _
 go_wp2
 go_ret
 exact ⟨ret_bool (by simp only [mayV, ← IntWalk.i64_left]), ((Below.refl _ w).alloc (Nat.le_refl _) _).trans (jd.mono (by simp))⟩
theorem l25May_any (wt s : Int) (w : World) :
  Calls Tryz.prog 185 #[.agg #[.int .i64 wt, .int .i64 s]] w fun e w' => e = .returned (.bool (mayV wt s)) ∧ Below w.heap.size w w' := by
 have HF : Hid (∀ w', Below (w.alloc (.cells #[.int .i64 wt, .int .i64 s] 95)).heap.size (w.alloc (.cells #[.int .i64 wt, .int .i64 s] 95)) w' → w'.cell? ⟨w.heap.size, 0, none⟩ = some (.int .i64 wt) ∧ w'.cell? ⟨w.heap.size, 1, none⟩ = some (.int .i64 s)) := fun w' hq => (cells2 (bx (g := w.heap.size) hq))
 go_enter Tryz.func185, Tryz.ntmps185
 go_wp2
 refine wp_region_held_drew (S := fun w' => Below ((w.alloc (.cells #[.int .i64 wt, .int .i64 s] 95))).heap.size ((w.alloc (.cells #[.int .i64 wt, .int .i64 s] 95))) w') (by kernel_rfl) ((Below.refl _ _).drew) (fun jd => ?_)
 refine tj4 0 3 1 4 2 5 3 6 HF jd ?_
 refine wpAnyH_ready (rs := [4]) (by kernel_rfl) (by simp) ?_
 refine AllReadyH.cons rfl (fun K hK => ?_) AllReadyH.nil
 go_simp
 (go_at_call 150; refine (l2Mass_any _ _ _).mono ?_; rintro e w2 ⟨rfl, hb2⟩)
 refine hK.out _ _ (jd.trans (hb2.mono jd.size)) (fun jd => ?_)
 clear hK K hb2
 refine tj3 5 8 6 9 7 2 HF jd ?_
 refine wpAnyH_done (by kernel_rfl) ?_ _
 go_wp2
 go_ret
 exact ⟨ret_bool (by simp only [mayV, ← IntWalk.i64_left]), ((Below.refl _ w).alloc (Nat.le_refl _) _).trans (jd.mono (by simp))⟩
theorem DryToRake_no (A : Option Addr) (n c lo hi : Nat) (f : Nat → Int) (I H S P : Int) (z : Int) (w : World) (hs : Sl w lo hi 4 A n f) (hn : n ≤ 1048576) (hnc : n ≤ c) (h : goodWorks f n I H S P = false ∨ findV (pid f) z n 0 = -1) :
  Calls Tryz.prog 143 #[.agg #[.slice A n c, .int .i64 I, .int .i64 H, .int .i64 S, .int .i64 P], .int .i64 z] w fun e w' => e = .returned (.tuple #[.int .i64 0, .bool false]) ∧ Below w.heap.size w w' := by
 have HS : Hid (Sl (w.alloc (.cells #[.slice A n c, .int .i64 I, .int .i64 H, .int .i64 S, .int .i64 P] 32)) lo hi 4 A n f) := hs.below ((Below.refl _ w).alloc (Nat.le_refl _) _)
 clear hs
 cases hg : goodWorks f n I H S P with
 | false =>
  clear h
  generalize hfd : findV (pid f) z n 0 = r
  go_enter Tryz.func143, Tryz.ntmps143
  go_wp2_with fail
  refine (panAt_any A n c lo hi f I H S P z _ HS.out hn hnc).mono ?_
  rw [hfd]
  rintro e w2 ⟨rfl, hb2⟩
  obtain ⟨b0, b1, b2, b3, b4⟩ := cells5 (bx (g := w.heap.size) hb2)
  have HS2 := HS.out.below hb2
  go_wp2_with fail
  refine (isWorks_any A n c lo hi f I H S P _ HS2 hn hnc).mono ?_
  rw [hg]
  rintro e w3 ⟨rfl, hb3⟩
  have B3 := below_of hb2 hb3 hb2.size
  clear b0 b1 b2 b3 b4 HS2 hb2 hb3
  go_wp2
  go_ret2
  exact ⟨rfl, ((Below.refl _ w).alloc (Nat.le_refl _) _).trans (B3.mono (by simp))⟩
 | true =>
  have hfd : findV (pid f) z n 0 = -1 := by simpa [hg] using h
  clear h
  go_enter Tryz.func143, Tryz.ntmps143
  go_wp2_with fail
  refine (panAt_any A n c lo hi f I H S P z _ HS.out hn hnc).mono ?_
  rw [hfd]
  rintro e w2 ⟨rfl, hb2⟩
  obtain ⟨b0, b1, b2, b3, b4⟩ := cells5 (bx (g := w.heap.size) hb2)
  have HS2 := HS.out.below hb2
  go_wp2_with fail
  refine (isWorks_any A n c lo hi f I H S P _ HS2 hn hnc).mono ?_
  rw [hg]
  rintro e w3 ⟨rfl, hb3⟩
  have B3 := below_of hb2 hb3 hb2.size
  clear b0 b1 b2 b3 b4 HS2 hb2 hb3
  go_wp2
  go_ret2
  exact ⟨rfl, ((Below.refl _ w).alloc (Nat.le_refl _) _).trans (B3.mono (by simp))⟩
theorem DryToRake_zero (A : Option Addr) (n c lo hi : Nat) (f : Nat → Int) (I H S P : Int) (z : Int) (w : World) (hs : Sl w lo hi 4 A n f) (hn : n ≤ 1048576) (hnc : n ≤ c) (hg : goodWorks f n I H S P = true) (j : Nat) (hj : j < n) (hfd : findV (pid f) z n 0 = (j : Int)) (hz : f (j * 4 + 3) = 0) :
  Calls Tryz.prog 143 #[.agg #[.slice A n c, .int .i64 I, .int .i64 H, .int .i64 S, .int .i64 P], .int .i64 z] w fun e w' => e = .returned (.tuple #[.int .i64 0, .bool false]) ∧ Below w.heap.size w w' := by
 have HS : Hid (Sl (w.alloc (.cells #[.slice A n c, .int .i64 I, .int .i64 H, .int .i64 S, .int .i64 P] 32)) lo hi 4 A n f) := hs.below ((Below.refl _ w).alloc (Nat.le_refl _) _)
 clear hs
 have hj0 : ¬ ((j : Int) < 0) := by omega
 have hk0i : (0 : Int) ≤ (j : Int) := by omega
 have hkni : (j : Int) < (n : Int) := by omega
 ·skip
  go_enter Tryz.func143, Tryz.ntmps143
  go_wp2_with fail
  refine (panAt_any A n c lo hi f I H S P z _ HS.out hn hnc).mono ?_
  rw [hfd]
  rintro e w2 ⟨rfl, hb2⟩
  obtain ⟨b0, b1, b2, b3, b4⟩ := cells5 (bx (g := w.heap.size) hb2)
  have HS2 := HS.out.below hb2
  go_wp2_with fail
  refine (isWorks_any A n c lo hi f I H S P _ HS2 hn hnc).mono ?_
  rw [hg]
  rintro e w3 ⟨rfl, hb3⟩
  have B3 := below_of hb2 hb3 hb2.size
  clear b0 b1 b2 b3 b4 HS2 hb2 hb3
  have b0 : w3.cell? ⟨w.heap.size, 0, none⟩ = some (.slice A n c) := (B3.cell (p := ⟨w.heap.size, 0, none⟩) (by simp)).trans (by simp)
  obtain ⟨b, off, rfl, hbw, HC⟩ := HS.out.open_ B3 (by omega)
  obtain ⟨c0, c1, c2, c3⟩ := cell4 HC hj
  clear HC HS
  rw [hz] at c3
  go_wp2
  go_ret2
  exact ⟨rfl, ((Below.refl _ w).alloc (Nat.le_refl _) _).trans (B3.mono (by simp))⟩
theorem DryToRake_yes (A : Option Addr) (n c lo hi : Nat) (f : Nat → Int) (I H S P : Int) (z : Int) (w : World) (hs : Sl w lo hi 4 A n f) (hn : n ≤ 1048576) (hnc : n ≤ c) (hg : goodWorks f n I H S P = true) (j : Nat) (hj : j < n) (hfd : findV (pid f) z n 0 = (j : Int)) (hz : f (j * 4 + 3) ≠ 0) :
  Calls Tryz.prog 143 #[.agg #[.slice A n c, .int .i64 I, .int .i64 H, .int .i64 S, .int .i64 P], .int .i64 z] w fun e w' => e = .returned (.tuple #[.int .i64 (dryN (f (j * 4 + 2)) (f (j * 4 + 3)) : Int), .bool true]) ∧ Below w.heap.size w w' := by
 have HS : Hid (Sl (w.alloc (.cells #[.slice A n c, .int .i64 I, .int .i64 H, .int .i64 S, .int .i64 P] 32)) lo hi 4 A n f) := hs.below ((Below.refl _ w).alloc (Nat.le_refl _) _)
 clear hs
 have hj0 : ¬ ((j : Int) < 0) := by omega
 have hk0i : (0 : Int) ≤ (j : Int) := by omega
 have hkni : (j : Int) < (n : Int) := by omega
 have hzb : (f (j * 4 + 3) == 0) = false := by simpa using hz
 obtain ⟨g1, g2, g3, g4, _⟩ := good_brine hg hj
 ·skip
  go_enter Tryz.func143, Tryz.ntmps143
  go_wp2_with fail
  refine (panAt_any A n c lo hi f I H S P z _ HS.out hn hnc).mono ?_
  rw [hfd]
  rintro e w2 ⟨rfl, hb2⟩
  obtain ⟨b0, b1, b2, b3, b4⟩ := cells5 (bx (g := w.heap.size) hb2)
  have HS2 := HS.out.below hb2
  go_wp2_with fail
  refine (isWorks_any A n c lo hi f I H S P _ HS2 hn hnc).mono ?_
  rw [hg]
  rintro e w3 ⟨rfl, hb3⟩
  have B3 := below_of hb2 hb3 hb2.size
  clear b0 b1 b2 b3 b4 HS2 hb2 hb3
  have b0 : w3.cell? ⟨w.heap.size, 0, none⟩ = some (.slice A n c) := (B3.cell (p := ⟨w.heap.size, 0, none⟩) (by simp)).trans (by simp)
  obtain ⟨b, off, rfl, hbw, HC⟩ := HS.out.open_ B3 (by omega)
  obtain ⟨c0, c1, c2, c3⟩ := cell4 HC hj
  clear HC HS
  go_wp2
  go_loopw [8] (fun i wr => ∃ k : Nat, k ≤ dryN (f (j * 4 + 2)) (f (j * 4 + 3)) ∧ i = .int .i64 k ∧ Below (w3.alloc (.cells #[.int .i64 (f (j * 4 + 2)), .int .i64 (f (j * 4 + 3))] 95)).heap.size (w3.alloc (.cells #[.int .i64 (f (j * 4 + 2)), .int .i64 (f (j * 4 + 3))] 95)) wr) (fun i _ => dryN (f (j * 4 + 2)) (f (j * 4 + 3)) - (intOf i).toNat)
  case atStart => exact ⟨0, Nat.zero_le _, rfl, Below.refl _ _⟩
  case round =>
   obtain ⟨k, hk, rfl, hbel⟩ := hrel
   obtain ⟨d0, d1⟩ := cells2 (bx (g := w3.heap.size) hbel)
   have hdl := dry_le g1 g2 (by omega : 0 < (f (j * 4 + 3))) g4
   have hwk : IntKind.i64.wrap ((f (j * 4 + 2)) - k) = (f (j * 4 + 2)) - k := IntWalk.i64_in _ (by omega)
   have hwk2 : wrap64 ((f (j * 4 + 2)) - k) = (f (j * 4 + 2)) - k := IntWalk.wrap64_in _ (by omega)
   have BR : Below w3.heap.size w3 wr := ((Below.refl _ w3).alloc (Nat.le_refl _) _).trans (hbel.mono (by simp))
   cases hm : mayV ((f (j * 4 + 2)) - k) (f (j * 4 + 3)) with
   | false =>
    have hlt := dry_step g1 g2 (by omega : 0 < (f (j * 4 + 3))) g4 hk hm
    go_wp2_with (go_at_call 170; refine (mayRake_any _ _ _).mono ?_; rintro e w2 ⟨rfl, hb2⟩)
    go_roundw
    case rel => exact ⟨k + 1, by omega, by go_num, below_of hbel hb2 hbel.size⟩
    case measure => simp [intOf]; omega
   | true =>
    have hlt : Hid (k = dryN (f (j * 4 + 2)) (f (j * 4 + 3))) := dry_done g1 g2 (by omega : 0 < (f (j * 4 + 3))) g4 hk hm
    go_wp2_with (go_at_call 170; refine (mayRake_any _ _ _).mono ?_; rintro e w2 ⟨rfl, hb2⟩)
    go_returns
    exact ⟨by rw [← hlt.out]; rfl, ((Below.refl _ w).alloc (Nat.le_refl _) _).trans ((below_of B3 (below_of BR hb2 BR.size) B3.size).mono (by simp))⟩
theorem specDryToRake_no (A : Option Addr) (n c lo hi : Nat) (f : Nat → Int) (I H S P : Int) (z : Int) (w : World) (hs : Sl w lo hi 4 A n f) (hn : n ≤ 1048576) (hnc : n ≤ c) (h : goodWorks f n I H S P = false ∨ findV (pid f) z n 0 = -1) :
  Calls Tryz.prog 131 #[.agg #[.slice A n c, .int .i64 I, .int .i64 H, .int .i64 S, .int .i64 P], .int .i64 z] w fun e w' => e = .returned (.tuple #[.int .i64 0, .bool false]) ∧ Below w.heap.size w w' := by
 have HS : Hid (Sl (w.alloc (.cells #[.slice A n c, .int .i64 I, .int .i64 H, .int .i64 S, .int .i64 P] 32)) lo hi 4 A n f) := hs.below ((Below.refl _ w).alloc (Nat.le_refl _) _)
 clear hs
 cases hg : goodWorks f n I H S P with
 | false =>
  clear h
  generalize hfd : findV (pid f) z n 0 = r
  go_enter Tryz.func131, Tryz.ntmps131
  go_wp2_with fail
  refine (l25Find_any A n c lo hi f I H S P z _ HS.out hn hnc).mono ?_
  rw [hfd]
  rintro e w2 ⟨rfl, hb2⟩
  obtain ⟨b0, b1, b2, b3, b4⟩ := cells5 (bx (g := w.heap.size) hb2)
  have HS2 := HS.out.below hb2
  go_wp2_with fail
  refine (l25Good_any A n c lo hi f I H S P _ HS2 hn hnc).mono ?_
  rw [hg]
  rintro e w3 ⟨rfl, hb3⟩
  have B3 := below_of hb2 hb3 hb2.size
  clear b0 b1 b2 b3 b4 HS2 hb2 hb3
  go_wp2
  go_ret2
  exact ⟨rfl, ((Below.refl _ w).alloc (Nat.le_refl _) _).trans (B3.mono (by simp))⟩
 | true =>
  have hfd : findV (pid f) z n 0 = -1 := by simpa [hg] using h
  clear h
  go_enter Tryz.func131, Tryz.ntmps131
  go_wp2_with fail
  refine (l25Find_any A n c lo hi f I H S P z _ HS.out hn hnc).mono ?_
  rw [hfd]
  rintro e w2 ⟨rfl, hb2⟩
  obtain ⟨b0, b1, b2, b3, b4⟩ := cells5 (bx (g := w.heap.size) hb2)
  have HS2 := HS.out.below hb2
  go_wp2_with fail
  refine (l25Good_any A n c lo hi f I H S P _ HS2 hn hnc).mono ?_
  rw [hg]
  rintro e w3 ⟨rfl, hb3⟩
  have B3 := below_of hb2 hb3 hb2.size
  clear b0 b1 b2 b3 b4 HS2 hb2 hb3
  go_wp2
  go_ret2
  exact ⟨rfl, ((Below.refl _ w).alloc (Nat.le_refl _) _).trans (B3.mono (by simp))⟩
theorem specDryToRake_zero (A : Option Addr) (n c lo hi : Nat) (f : Nat → Int) (I H S P : Int) (z : Int) (w : World) (hs : Sl w lo hi 4 A n f) (hn : n ≤ 1048576) (hnc : n ≤ c) (hg : goodWorks f n I H S P = true) (j : Nat) (hj : j < n) (hfd : findV (pid f) z n 0 = (j : Int)) (hz : f (j * 4 + 3) = 0) :
  Calls Tryz.prog 131 #[.agg #[.slice A n c, .int .i64 I, .int .i64 H, .int .i64 S, .int .i64 P], .int .i64 z] w fun e w' => e = .returned (.tuple #[.int .i64 0, .bool false]) ∧ Below w.heap.size w w' := by
 have HS : Hid (Sl (w.alloc (.cells #[.slice A n c, .int .i64 I, .int .i64 H, .int .i64 S, .int .i64 P] 32)) lo hi 4 A n f) := hs.below ((Below.refl _ w).alloc (Nat.le_refl _) _)
 clear hs
 have hj0 : ¬ ((j : Int) < 0) := by omega
 have hk0i : (0 : Int) ≤ (j : Int) := by omega
 have hkni : (j : Int) < (n : Int) := by omega
 ·skip
  go_enter Tryz.func131, Tryz.ntmps131
  go_wp2_with fail
  refine (l25Find_any A n c lo hi f I H S P z _ HS.out hn hnc).mono ?_
  rw [hfd]
  rintro e w2 ⟨rfl, hb2⟩
  obtain ⟨b0, b1, b2, b3, b4⟩ := cells5 (bx (g := w.heap.size) hb2)
  have HS2 := HS.out.below hb2
  go_wp2_with fail
  refine (l25Good_any A n c lo hi f I H S P _ HS2 hn hnc).mono ?_
  rw [hg]
  rintro e w3 ⟨rfl, hb3⟩
  have B3 := below_of hb2 hb3 hb2.size
  clear b0 b1 b2 b3 b4 HS2 hb2 hb3
  have b0 : w3.cell? ⟨w.heap.size, 0, none⟩ = some (.slice A n c) := (B3.cell (p := ⟨w.heap.size, 0, none⟩) (by simp)).trans (by simp)
  obtain ⟨b, off, rfl, hbw, HC⟩ := HS.out.open_ B3 (by omega)
  obtain ⟨c0, c1, c2, c3⟩ := cell4 HC hj
  clear HC HS
  rw [hz] at c3
  go_wp2
  go_ret2
  exact ⟨rfl, ((Below.refl _ w).alloc (Nat.le_refl _) _).trans (B3.mono (by simp))⟩
theorem specDryToRake_yes (A : Option Addr) (n c lo hi : Nat) (f : Nat → Int) (I H S P : Int) (z : Int) (w : World) (hs : Sl w lo hi 4 A n f) (hn : n ≤ 1048576) (hnc : n ≤ c) (hg : goodWorks f n I H S P = true) (j : Nat) (hj : j < n) (hfd : findV (pid f) z n 0 = (j : Int)) (hz : f (j * 4 + 3) ≠ 0) :
  Calls Tryz.prog 131 #[.agg #[.slice A n c, .int .i64 I, .int .i64 H, .int .i64 S, .int .i64 P], .int .i64 z] w fun e w' => e = .returned (.tuple #[.int .i64 (dryN (f (j * 4 + 2)) (f (j * 4 + 3)) : Int), .bool true]) ∧ Below w.heap.size w w' := by
 have HS : Hid (Sl (w.alloc (.cells #[.slice A n c, .int .i64 I, .int .i64 H, .int .i64 S, .int .i64 P] 32)) lo hi 4 A n f) := hs.below ((Below.refl _ w).alloc (Nat.le_refl _) _)
 clear hs
 have hj0 : ¬ ((j : Int) < 0) := by omega
 have hk0i : (0 : Int) ≤ (j : Int) := by omega
 have hkni : (j : Int) < (n : Int) := by omega
 have hzb : (f (j * 4 + 3) == 0) = false := by simpa using hz
 obtain ⟨g1, g2, g3, g4, _⟩ := good_brine hg hj
 have hv : Hid (mostV 0 (IntKind.i64.wrap (massV (f (j * 4 + 2)) (f (j * 4 + 3)) - IntKind.i64.wrap ((IntKind.i64.wrap (IntKind.i64.wrap (1000 * f (j * 4 + 3)) - 1)).tdiv 260))) = (dryN (f (j * 4 + 2)) (f (j * 4 + 3)) : Int)) := by
  unfold massV dryN
  simp only [IntWalk.i64_left]
  rw [IntWalk.wrap64_in (1000 * f (j * 4 + 3)) ⟨by omega, by omega⟩, IntWalk.wrap64_in (f (j * 4 + 2) + f (j * 4 + 3)) ⟨by omega, by omega⟩, IntWalk.wrap64_in (1000 * f (j * 4 + 3) - 1) ⟨by omega, by omega⟩]
  rw [Int.tdiv_eq_ediv_of_nonneg (by omega)]
  rw [IntWalk.wrap64_in ((1000 * f (j * 4 + 3) - 1) / 260) ⟨by omega, by omega⟩]
  rw [IntWalk.wrap64_in _ ⟨by omega, by omega⟩]
  unfold mostV Hid
  split <;> omega
 ·skip
  go_enter Tryz.func131, Tryz.ntmps131
  go_wp2_with fail
  refine (l25Find_any A n c lo hi f I H S P z _ HS.out hn hnc).mono ?_
  rw [hfd]
  rintro e w2 ⟨rfl, hb2⟩
  obtain ⟨b0, b1, b2, b3, b4⟩ := cells5 (bx (g := w.heap.size) hb2)
  have HS2 := HS.out.below hb2
  go_wp2_with fail
  refine (l25Good_any A n c lo hi f I H S P _ HS2 hn hnc).mono ?_
  rw [hg]
  rintro e w3 ⟨rfl, hb3⟩
  have B3 := below_of hb2 hb3 hb2.size
  clear b0 b1 b2 b3 b4 HS2 hb2 hb3
  have b0 : w3.cell? ⟨w.heap.size, 0, none⟩ = some (.slice A n c) := (B3.cell (p := ⟨w.heap.size, 0, none⟩) (by simp)).trans (by simp)
  obtain ⟨b, off, rfl, hbw, HC⟩ := HS.out.open_ B3 (by omega)
  obtain ⟨c0, c1, c2, c3⟩ := cell4 HC hj
  clear HC HS
  have HF : Hid (∀ w', Below (w3.alloc (.cells #[.int .i64 (f (j * 4 + 2)), .int .i64 (f (j * 4 + 3))] 95)).heap.size (w3.alloc (.cells #[.int .i64 (f (j * 4 + 2)), .int .i64 (f (j * 4 + 3))] 95)) w' → w'.cell? ⟨w3.heap.size, 0, none⟩ = some (.int .i64 (f (j * 4 + 2))) ∧ w'.cell? ⟨w3.heap.size, 1, none⟩ = some (.int .i64 (f (j * 4 + 3)))) := fun w' hq => (cells2 (bx (g := w3.heap.size) hq))
  go_wp2
  refine wp_region_held_drew (S := fun w' => Below ((w3.alloc (.cells #[.int .i64 (f (j * 4 + 2)), .int .i64 (f (j * 4 + 3))] 95))).heap.size ((w3.alloc (.cells #[.int .i64 (f (j * 4 + 2)), .int .i64 (f (j * 4 + 3))] 95))) w') (by kernel_rfl) ((Below.refl _ _).drew) (fun jd => ?_)
  refine tj4 0 34 2 36 3 37 4 38 HF jd ?_
  refine tj2 5 39 6 40 HF jd ?_
  refine wpAnyH_ready (rs := [1]) (by kernel_rfl) (by simp) ?_
  refine AllReadyH.cons rfl (fun K hK => ?_) AllReadyH.nil
  go_simp
  (go_at_call 150; refine (l2Mass_any _ _ _).mono ?_; rintro e w2 ⟨rfl, hb2⟩)
  refine hK.out _ _ (jd.trans (hb2.mono jd.size)) (fun jd => ?_)
  clear hK K hb2
  refine tj 7 41 HF rfl jd ?_
  refine wpAnyH_ready (rs := [8]) (by kernel_rfl) (by simp) ?_
  refine AllReadyH.cons rfl (fun K hK => ?_) AllReadyH.nil
  go_simp
  (go_at_call 106; refine (quiet_below (l1Most_any _ _ _)).mono ?_; rintro e w2 ⟨rfl, hb2⟩)
  refine hK.out _ _ (jd.trans (hb2.mono jd.size)) (fun jd => ?_)
  clear hK K hb2
  refine tj2 9 4 10 5 HF jd ?_
  refine wpAnyH_done (by kernel_rfl) ?_ _
  go_wp2
  go_ret2
  exact ⟨by rw [← hv.out]; rfl, ((Below.refl _ w).alloc (Nat.le_refl _) _).trans ((below_of B3 (((Below.refl _ w3).alloc (Nat.le_refl _) _).trans (jd.mono (by simp))) B3.size).mono (by simp))⟩
end Go.Proofs.YtpndjhelpoenpaaGreatDoor
namespace Go.Proofs.YtpndjhelpoenpaaGreatDoor
variable {α : Type}
def stopI [Inhabited α] (mv : α → α → Bool) (L : List α) (n : α) : Nat → Nat
 | 0 => 0
 | k + 1 => if mv (L[k]?.getD default) n then stopI mv L n k else k + 1
def insI [Inhabited α] (mv : α → α → Bool) (L : List α) (n : α) : List α := L.take (stopI mv L n L.length) ++ n :: L.drop (stopI mv L n L.length)
theorem stopI_le [Inhabited α] (mv : α → α → Bool) (L : List α) (n : α) : ∀ k, stopI mv L n k ≤ k
 | 0 => Nat.le_refl _
 | k + 1 => by
  have := stopI_le mv L n k
  unfold stopI; split <;> omega
theorem insI_length [Inhabited α] (mv : α → α → Bool) (L : List α) (n : α) : (insI mv L n).length = L.length + 1 := by
 have := stopI_le mv L n L.length
 simp [insI]; omega
theorem insI_mem [Inhabited α] (mv : α → α → Bool) (L : List α) (n z : α) : z ∈ insI mv L n ↔ z ∈ L ∨ z = n := by
 unfold insI
 rw [List.mem_append, List.mem_cons]
 conv => rhs; rw [← List.take_append_drop (stopI mv L n L.length) L, List.mem_append]
 constructor
 ·rintro (h | h | h) <;> simp [h]
 ·rintro ((h | h) | h) <;> simp [h]
def isortL [Inhabited α] (mv : α → α → Bool) (L : List α) : List α := L.foldl (insI mv) []
theorem foldIns_length [Inhabited α] (mv : α → α → Bool) (L : List α) : ∀ S : List α, (L.foldl (insI mv) S).length = S.length + L.length := by
 induction L with
 | nil => intro S; rfl
 | cons x t ih => intro S; rw [List.foldl_cons, ih, insI_length, List.length_cons]; omega
theorem foldIns_mem [Inhabited α] (mv : α → α → Bool) (L : List α) : ∀ (S : List α) (z : α), z ∈ L.foldl (insI mv) S ↔ z ∈ S ∨ z ∈ L := by
 induction L with
 | nil => simp
 | cons x t ih => intro S z; rw [List.foldl_cons, ih, insI_mem]; simp [or_assoc]
theorem isortL_mem [Inhabited α] (mv : α → α → Bool) (L : List α) (z : α) : z ∈ isortL mv L ↔ z ∈ L := by simp [isortL, foldIns_mem]
theorem isortL_length [Inhabited α] (mv : α → α → Bool) (L : List α) : (isortL mv L).length = L.length := by simp [isortL, foldIns_length]
theorem swp_list [Inhabited α] {d : Array α} {A B : List α} {x y : α} (h : d.toList = A ++ x :: y :: B) : (Sort.swp d (A.length + 1) A.length).toList = A ++ y :: x :: B := by
 have hs : d.size = A.length + (B.length + 2) := by rw [← Array.length_toList, h]; simp
 have h0 : d[A.length]! = x := by
  rw [getElem!_pos d _ (by omega), ← Array.getElem_toList, List.getElem_of_eq h]; simp
 have h1 : d[A.length + 1]! = y := by
  rw [getElem!_pos d _ (by omega), ← Array.getElem_toList, List.getElem_of_eq h]
  rw [List.getElem_append_right (by omega)]; simp
 unfold Sort.swp
 rw [h0, h1]
 simp only [Array.toList_setIfInBounds, h]
 rw [List.set_append_right _ _ (by omega), List.set_append_right _ _ (by omega)]
 simp
theorem inner_list [Inhabited α] (lt : α → α → Bool) (S R : List α) (n : α) : ∀ (j : Nat) (d : Array α), j ≤ S.length → d.toList = S.take j ++ n :: (S.drop j ++ R) →
  (Sort.insInner lt 0 j d).toList = S.take (stopI (fun p n => lt n p) S n j) ++ n :: (S.drop (stopI (fun p n => lt n p) S n j) ++ R)
 | 0, d, _, h => by simpa [Sort.insInner, stopI] using h
 | j + 1, d, hj, h => by
  have hjl : j < S.length := by omega
  have htk : S.take (j + 1) = S.take j ++ [S[j]] := by rw [List.take_succ_eq_append_getElem hjl]
  have hl : (S.take j).length = j := by simp; omega
  rw [htk, List.append_assoc, List.singleton_append] at h
  have hs : d.size = j + (S.drop (j + 1) ++ R).length + 2 := by rw [← Array.length_toList, h]; simp; omega
  have h0 : d[j]! = S[j] := by
   rw [getElem!_pos d _ (by omega), ← Array.getElem_toList, List.getElem_of_eq h, List.getElem_append_right (by omega)]
   simp [hl]
  have h1 : d[j + 1]! = n := by
   rw [getElem!_pos d _ (by omega), ← Array.getElem_toList, List.getElem_of_eq h, List.getElem_append_right (by omega)]
   simp [hl]
  have hsj : S[j]?.getD default = S[j] := by simp [hjl]
  unfold Sort.insInner stopI
  rw [h0, h1, hsj]
  by_cases hc : lt n S[j] = true
  ·rw [if_pos (by simp [hc]), if_pos hc]
   have hw := swp_list h
   rw [hl] at hw
   refine inner_list lt S R n j _ (by omega) ?_
   rw [hw]
   congr 2
   rw [← List.cons_append, List.drop_eq_getElem_cons hjl]
  ·rw [if_neg (by simp [hc]), if_neg hc, h, htk, List.append_assoc, List.singleton_append]
theorem outer_list [Inhabited α] (lt : α → α → Bool) (b : Nat) : ∀ (m i : Nat) (d : Array α) (S R : List α), m = b - i → S.length = i → d.toList = S ++ R → R.length = b - i → i ≤ b →
  (Sort.insOuter lt 0 b i d).toList = R.foldl (insI fun p n => lt n p) S := by
 intro m
 induction m with
 | zero =>
  intro i d S R hm hS hd hR hib
  have : R = [] := List.length_eq_zero_iff.1 (by omega)
  subst this
  unfold Sort.insOuter
  rw [if_neg (by omega), hd]
  simp
 | succ m ih =>
  intro i d S R hm hS hd hR hib
  cases R with
  | nil => simp at hR; omega
  | cons n R =>
   unfold Sort.insOuter
   rw [if_pos (by omega), List.foldl_cons]
   simp only [List.length_cons] at hR
   have hin := inner_list lt S R n i d (by omega) (by rw [← hS, List.take_length, List.drop_length]; simpa using hd)
   refine ih (i + 1) _ _ R (by omega) (by rw [insI_length, hS]) ?_ (by omega) (by omega)
   rw [hin, ← hS]
   unfold insI
   simp
theorem sort_list [Inhabited α] (lt : α → α → Bool) (d : Array α) : (Sort.insertionSort lt d 0 d.size).toList = isortL (fun p n => lt n p) d.toList := by
 unfold Sort.insertionSort isortL
 cases hd : d.toList with
 | nil =>
  have : d.size = 0 := by rw [← Array.length_toList, hd]; rfl
  unfold Sort.insOuter
  rw [if_neg (by omega), hd]
  rfl
 | cons x R =>
  have hs : d.size = R.length + 1 := by rw [← Array.length_toList, hd]; rfl
  rw [List.foldl_cons]
  exact outer_list lt d.size (d.size - 1) 1 d [x] R rfl rfl hd (by omega) (by omega)
end Go.Proofs.YtpndjhelpoenpaaGreatDoor
namespace Go.Proofs.YtpndjhelpoenpaaGreatDoor
open Go.RowKit
theorem rowsOf_drop (f : Nat → Int) (k : Nat) (L : List Nat) (m : Nat) (hm : m ≤ L.length) (j : Nat) : (rowsOf f k (L.drop m))[j]? = (rowsOf f k L)[m * k + j]? := by
 have h : rowsOf f k L = rowsOf f k (L.take m) ++ rowsOf f k (L.drop m) := by rw [← rowsOf_append, List.take_append_drop]
 have hl : (rowsOf f k (L.take m)).length = m * k := by rw [rowsOf_length, List.length_take, Nat.min_eq_left hm]
 rw [h, List.getElem?_append_right (by rw [hl]; omega), hl, Nat.add_sub_cancel_left]
theorem rowsOf_take (f : Nat → Int) (k : Nat) (L : List Nat) (m : Nat) (hm : m ≤ L.length) (j : Nat) (u : Int) (hu : (rowsOf f k (L.take m))[j]? = some u) : (rowsOf f k L)[j]? = some u := by
 have h : rowsOf f k L = rowsOf f k (L.take m) ++ rowsOf f k (L.drop m) := by rw [← rowsOf_append, List.take_append_drop]
 rw [h, List.getElem?_append_left (List.getElem?_eq_some_iff.1 hu).1]
 exact hu
theorem rowsOf_at (f : Nat → Int) (k : Nat) (L : List Nat) (i j : Nat) (hi : i < L.length) (hj : j < k) : (rowsOf f k L)[i * k + j]? = some (f (L.getD i 0 * k + j)) := by
 have hlt : i * k + j < (rowsOf f k L).length := by
  rw [rowsOf_length]
  have : (i + 1) * k ≤ L.length * k := Nat.mul_le_mul_right k hi
  rw [Nat.succ_mul] at this
  omega
 have h := rowsOf_get f k L i j hi hj
 rw [List.getD_eq_getElem?_getD, List.getElem?_eq_getElem hlt] at h
 rw [List.getElem?_eq_getElem hlt]
 simpa using h
def RRow (f : Nat → Int) (k : Nat) (e : TypeId) (w : World) (lo : Nat) (v : Value) (L : List Nat) : Prop :=
 (∃ g c, v = .slice (some ⟨g, 0, none⟩) L.length c ∧ L.length ≤ c ∧ c ≤ maxLen ∧ g < w.heap.size ∧ lo ≤ g) ∧ w.ownsRow lo e k v L.length ((rowsOf f k L).map (Value.int .i64))
section
variable {f : Nat → Int} {k : Nat} {e : TypeId}
theorem RRow.below {w w' : World} {lo : Nat} {v : Value} {L : List Nat} (h : RRow f k e w lo v L) (hb : Below w.heap.size w w') : RRow f k e w' lo v L := by
 obtain ⟨⟨g, c, e1, h1, h2, h3, h5⟩, h4⟩ := h
 exact ⟨⟨g, c, e1, h1, h2, Nat.lt_of_lt_of_le h3 hb.size, h5⟩, ownsRow_below h4 hb⟩
theorem RRow.of {w : World} {lo g c : Nat} {L : List Nat} {n : Nat} (hn : n = L.length) (h : w.ownsRow lo e k (.slice (some ⟨g, 0, none⟩) n c) n ((rowsOf f k L).map (Value.int .i64))) : RRow f k e w lo (.slice (some ⟨g, 0, none⟩) n c) L := by
 subst hn
 refine ⟨?_, h⟩
 have hlt := World.ownsRow.lt h g rfl
 rcases h.2 with ⟨h0, _⟩ | ⟨g', cap, cur, hv, hb, hg, hnc, hcm, _⟩
 ·cases h0
 ·cases hv
  exact ⟨g, c, rfl, hnc, hcm, hlt.2, hb⟩
theorem RRow.cellAt {w : World} {lo g c : Nat} {L : List Nat} {n : Nat} (h : w.ownsRow lo e k (.slice (some ⟨g, 0, none⟩) n c) n ((rowsOf f k L).map (Value.int .i64))) (hn : n = L.length) (i j : Nat) (hi : i < n) (hj : j < k) :
  w.cell? ⟨g, i * k + j, none⟩ = some (.int .i64 (f (L.getD i 0 * k + j))) := by
 subst hn
 rw [World.ownsRow.cellAt h (i * k + j) (by
  have : (i + 1) * k ≤ L.length * k := Nat.mul_le_mul_right k hi
  rw [Nat.succ_mul] at this
  omega), List.getElem?_map, rowsOf_at f k L i j hi hj]
 rfl
theorem RRow.cellR {w : World} {lo g c : Nat} {L : List Nat} {n : Nat} (h : RRow f k e w lo (.slice (some ⟨g, 0, none⟩) n c) L) (hn : n = L.length) (i j : Nat) (hi : i < n) (hj : j < k) :
  w.cell? ⟨g, i * k + j, none⟩ = some (.int .i64 (f (L.getD i 0 * k + j))) := by
 subst hn
 exact RRow.cellAt h.2 rfl i j hi hj
theorem RRow.srcTake {w : World} {lo g c : Nat} {L : List Nat} {n : Nat} (h : w.ownsRow lo e k (.slice (some ⟨g, 0, none⟩) n c) n ((rowsOf f k L).map (Value.int .i64))) (hn : n = L.length) (m c' : Nat) (hm : m ≤ n) :
  Src w k (some ⟨g, 0, none⟩) m c' (rowsOf f k (L.take m)) := by
 subst hn
 refine ⟨by rw [rowsOf_length, List.length_take, Nat.min_eq_left hm], (by intro h; cases h), fun ad had j u hu => ?_⟩
 cases had
 have hl := (List.getElem?_eq_some_iff.1 hu).1
 rw [rowsOf_length, List.length_take, Nat.min_eq_left hm] at hl
 rw [Addr.add_lit, Nat.zero_add, World.ownsRow.cellAt h j (Nat.lt_of_lt_of_le hl (Nat.mul_le_mul_right k hm)), List.getElem?_map, rowsOf_take f k L m hm j u hu]
 rfl
theorem RRow.srcDrop {w : World} {lo g c : Nat} {L : List Nat} {n : Nat} (h : w.ownsRow lo e k (.slice (some ⟨g, 0, none⟩) n c) n ((rowsOf f k L).map (Value.int .i64))) (hn : n = L.length) (m c' : Nat) (hm : m ≤ n) :
  Src w k (some ⟨g, m * k, none⟩) (n - m) c' (rowsOf f k (L.drop m)) := by
 subst hn
 refine ⟨by rw [rowsOf_length, List.length_drop], (by intro h; cases h), fun ad had j u hu => ?_⟩
 cases had
 have hl := (List.getElem?_eq_some_iff.1 hu).1
 rw [rowsOf_length, List.length_drop, Nat.sub_mul] at hl
 have hmk : m * k ≤ L.length * k := Nat.mul_le_mul_right k hm
 rw [rowsOf_drop f k L m hm] at hu
 rw [Addr.add_lit, World.ownsRow.cellAt h (m * k + j) (by omega), List.getElem?_map, hu]
 rfl
theorem RRow.grown_other {w w' : World} {lo lo' : Nat} {ov v : Value} {L : List Nat} {e' : TypeId} {k' n : Nat} {xs : List Value} (h : RRow f k e w lo ov L) (hown : w.ownsRow lo' e' k' v n xs) (hne : e ≠ e') (hg : w.grownBy w' v.ownBlock) : RRow f k e w' lo ov L := by
 obtain ⟨⟨g, c, rfl, h1, h2, h3, h5⟩, h4⟩ := h
 refine ⟨⟨g, c, rfl, h1, h2, Nat.lt_of_lt_of_le h3 hg.size, h5⟩, World.ownsRow.kept h4 hg (Or.inr ?_)⟩
 intro he
 rcases hown.2 with ⟨rfl, _⟩ | ⟨g', c', cur, rfl, _, hG, _⟩
 ·simp [Value.ownBlock] at he
 ·simp [Value.ownBlock] at he
  subst he
  rcases h4.2 with ⟨h0, _⟩ | ⟨g2, c2, cur2, hv, _, hG2, _⟩
  ·cases h0
  ·cases hv
   rw [hG] at hG2
   simp at hG2
   exact hne hG2.2.symm
theorem Src.none_of {w : World} {A : Option Addr} {c : Nat} {zs : List Int} (hz : zs = []) (hA : A ≠ none) : Src w k A 0 c zs := by
 subst hz
 exact ⟨by simp, fun h => absurd h hA, fun ad had j u hu => by simp at hu⟩
end
def pickN (t : Nat → Bool) : Nat → List Nat
 | 0 => []
 | k + 1 => if t k then pickN t k ++ [k] else pickN t k
theorem pickN_yes {t : Nat → Bool} {k : Nat} (h : t k = true) : pickN t (k + 1) = pickN t k ++ [k] := by simp [pickN, h]
theorem pickN_no {t : Nat → Bool} {k : Nat} (h : t k = false) : pickN t (k + 1) = pickN t k := by simp [pickN, h]
theorem pickN_len (t : Nat → Bool) : ∀ k, (pickN t k).length ≤ k
 | 0 => Nat.le_refl _
 | k + 1 => by
  have := pickN_len t k
  unfold pickN
  split <;> simp <;> omega
theorem pickN_lt (t : Nat → Bool) : ∀ k, ∀ j ∈ pickN t k, j < k ∧ t j = true
 | 0 => by simp [pickN]
 | k + 1 => by
  intro j hj
  unfold pickN at hj
  split at hj
  ·rename_i ht
   rcases List.mem_append.1 hj with h | h
   ·have := pickN_lt t k j h; exact ⟨by omega, this.2⟩
   ·simp at h; subst h; exact ⟨by omega, ht⟩
  ·have := pickN_lt t k j hj; exact ⟨by omega, this.2⟩
theorem isortL_snoc {α : Type} [Inhabited α] (mv : α → α → Bool) (L : List α) (x : α) : isortL mv (L ++ [x]) = insI mv (isortL mv L) x := by simp [isortL, List.foldl_append]
theorem stop_step {mv : Nat → Nat → Bool} {L : List Nat} {n k : Nat} (h : mv (L.getD k 0) n = true) : stopI mv L n (k + 1) = stopI mv L n k := by
 show (if mv (L[k]?.getD default) n then stopI mv L n k else k + 1) = _
 rw [if_pos (by simpa [List.getD_eq_getElem?_getD] using h)]
theorem stop_here {mv : Nat → Nat → Bool} {L : List Nat} {n k : Nat} (h : mv (L.getD k 0) n = false) : stopI mv L n (k + 1) = k + 1 := by
 show (if mv (L[k]?.getD default) n then stopI mv L n k else k + 1) = _
 rw [if_neg (by simpa [List.getD_eq_getElem?_getD] using h)]
end Go.Proofs.YtpndjhelpoenpaaGreatDoor
namespace Go.Proofs
open Go.Shelf
def Tryz.insS_ren : Go.Shelf.Ren := ⟨fun | 20 => 217 | n => n, fun | 24 => 97 | 22 => 30 | 3 => 3 | 25 => 187 | 4 => 4 | 0 => 0 | n => n, fun | n => n⟩
theorem Tryz.insS : Go.Proofs.SlLaysF0.n20 Tryz.prog Tryz.insS_ren := {
  mixed := by kernel_rfl
  f20 := ⟨Tryz.f217.name, by decide, Tryz.func217.trans (congrArg some (by kernel_rfl))⟩
  t0 := Tryz.underlying0
  a0 := Tryz.isAgg0
  z0 := Tryz.sizeOf0
  v0 := Tryz.zeroValue0
  t3 := Tryz.underlying3
  a3 := Tryz.isAgg3
  z3 := Tryz.sizeOf3
  v3 := Tryz.zeroValue3
  t4 := Tryz.underlying4
  a4 := Tryz.isAgg4
  z4 := Tryz.sizeOf4
  v4 := Tryz.zeroValue4
  t22 := Tryz.underlying30
  a22 := Tryz.isAgg30
  z22 := Tryz.sizeOf30
  v22 := Tryz.zeroValue30
  t25 := Tryz.underlying187
  a25 := Tryz.isAgg187
  z25 := Tryz.sizeOf187
  v25 := Tryz.zeroValue187 }
end Go.Proofs
