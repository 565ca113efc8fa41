/-
  PanOrder of the reference: the places of the pans with a mass, each put behind those that it is not stronger than.
-/
import Derived.Test.YtjkockhldaacbaaDoorPk1
import Derived.Test.YtjkockhldaacbaaDoorWorksO
import Derived.Test.YtjkockhldaacbaaDoorApp2
import Derived.Deep.RegionLaw
import Derived.ArgAppend
import Derived.BigGuardPart
import Derived.Deep.QuietTactic
import Derived.BigQuiet
namespace Go.Proofs.YtjkockhldaacbaaDoor
open Go.RowKit Go.Sort
set_option linter.unusedVariables false
set_option linter.unusedSimpArgs false
attribute [local go_sem ↓] Go.wp_at_zero Go.wp_at_succ
theorem step_append_flat {P : Program} (w : World) {ops : Array Oper} {o : Oper} {a : Act} {K : Act → World → Prop} {Q : Exit → Act → World → Prop} {E : Prop} (hgd : o.guard = none) (s x : Operand) (t : TypeId)
    (ho : o.op = .call { callee := .builtin .append, args := #[s, x], argTypes := #[t, t] }) (base : Nat) (e : TypeId) (k bytes : Nat) (z : Value) (ht : P.underlying t = some (.slice e))
    (hinfo : (P.info? e).map (fun i => (i.zero, i.size, i.bytes)) = some (some z, k, bytes)) (hzk : z.cells.size = k) (hk : 0 < k) (hkb : bytes ≤ 1000)
    (zs news : List Int) (n m c : Nat) (v : Value) (hs : a.eval s = v) (hown : w.ownsRow base e k v n (zs.map (Value.int .i64))) (ad : Addr) (hx : a.eval x = .slice (some ad) m c) (hl : news.length = m * k)
    (hc : ∀ j u, news[j]? = some u → w.cell? (ad.add j) = some (.int .i64 u)) (hlen : n + m ≤ 100000000) (hbase : base ≤ w.heap.size)
    (h : ∀ v' w', w'.ownsRow base e k v' (n + m) ((zs ++ news).map (Value.int .i64)) → w.grownBy w' v.ownBlock → K (a.put o.dst v') w') :
    if Region.wanted o (yielded ops a.tmps) = true then Oper.wp P o a w K Q else E := by
  rw [if_pos (wanted_plain hgd)]
  obtain ⟨v', w', hr, h1, h2⟩ := run_append_flat w t o.type base e k bytes z ht hinfo hzk hk hkb zs news n m c v hown ad hl hc hlen hbase
  exact oper_wp_append s x t ho hs hx hr (h v' w' h1 h2)
theorem below_growN {w : World} (n : Nat) (os : Array Obj) : Below w.heap.size w (grow (w.drewN n) os) :=
  ⟨rfl, rfl, rfl, by simp [World.drewN], fun k hk => heap_grow_old (w.drewN n) os (by exact hk)⟩
section
variable {P : Program} {md : Region.Mode} {ops : Array Oper} {Q : Exit → Act → World → Prop} {X : World}
theorem wpAnyH_new {i d : Nat} {fuel : Nat} {listed : Array Bool} {a : Act} {w : World} {o : Oper} {obj : Obj} {v : Value} (ho : ops[i]? = some o) (hgd : o.guard = none ∧ o.dst = some d) (hr : Region.ready md ops listed = [i])
    (hS : Below X.heap.size X w) (run : (execOp a.eval o).run P w = .ok (.value v) (w.alloc obj))
    (h : Below X.heap.size X (w.alloc obj) → wpAnyH P md ops Q (fun w' => Below X.heap.size X w') fuel (listed.setIfInBounds i true) (a.put (some d) v) (w.alloc obj)) :
    wpAnyH P md ops Q (fun w' => Below X.heap.size X w') (fuel + 1) listed a w := by
  refine wpAnyH_ready hr (by simp) (AllReadyH.cons ho (fun K hK => ?_) AllReadyH.nil)
  rw [if_pos (wanted_plain hgd.1)]
  refine oper_wp_value run ?_
  rw [hgd.2]
  have hB := hS.alloc hS.size obj
  exact hK.out _ _ hB (fun _ => h hB)
/-- One operation alone is ready: an append onto an empty row that has no room. -/
theorem wpAnyH_app0 {i ds d j : Nat} {fuel : Nat} {listed : Array Bool} {a : Act} {w : World} {t ty : TypeId} {pos : String} {af : Array Edge} {b : Addr} {ad : Addr}
    (ho : ops[i]? = some ⟨some d, .call { callee := .builtin .append, args := #[.tmp ds, .tmp j], argTypes := #[t, t] }, ty, pos, af, none⟩) (hr : Region.ready md ops listed = [i])
    (e : TypeId) (k bytes : Nat) (z : Value) (ht : P.underlying t = some (.slice e))
    (hinfo : (P.info? e).map (fun i => (i.zero, i.size, i.bytes)) = some (some z, k, bytes)) (hzk : z.cells.size = k) (hk : 0 < k) (hkb : bytes ≤ 1000)
    (news : List Int) (m c : Nat) (hev : a.eval (.tmp ds) = .slice (some b) 0 0) (hex : a.eval (.tmp j) = .slice (some ad) m c)
    (hS : Below X.heap.size X w) (hl : news.length = m * k) (hc : ∀ j u, news[j]? = some u → w.cell? (ad.add j) = some (.int .i64 u)) (hm : 0 < m) (hlen : m ≤ 100000000)
    (h : ∀ v' w', w'.ownsRow w.heap.size e k v' m (news.map (Value.int .i64)) → Below X.heap.size X w' → Below w.heap.size w w' →
      wpAnyH P md ops Q (fun w' => Below X.heap.size X w') fuel (listed.setIfInBounds i true) (a.put (some d) v') w') :
    wpAnyH P md ops Q (fun w' => Below X.heap.size X w') (fuel + 1) listed a w := by
  obtain ⟨i0, hi, hz0, hz1, hz2⟩ := info_parts hinfo
  have hb : m * bytes ≤ 100000000 * 1000 := Nat.mul_le_mul hlen hkb
  obtain ⟨v', w', hrun, r1, r2⟩ := run_append_arg_grows (P := P) w t ty e i0 z k bytes ht hi hz0 hz1 hz2 hzk hk b 0 0 [] (by simp) (fun j u hu => by simp at hu) ad m c (news.map (Value.int .i64)) (by simpa using hl)
    (fun j u hu => by
      rw [List.getElem?_map] at hu
      cases hq : news[j]? with
      | none => rw [hq] at hu; simp at hu
      | some q => rw [hq] at hu; simp at hu; subst hu; exact hc j q hq) (by omega) (by unfold maxLen; omega) (by rw [Nat.zero_add]; omega)
  refine wpAnyH_ready hr (by simp) (AllReadyH.cons ho (fun K hK => ?_) AllReadyH.nil)
  rw [if_pos (wanted_plain rfl)]
  refine oper_wp_append _ _ _ rfl hev hex hrun ?_
  have hB0 : Below w.heap.size w w' := (Below.refl _ _).grown r2 (Nat.le_refl _) (fun k hk => by cases hk)
  have hB := hS.trans (hB0.mono hS.size)
  refine hK.out _ _ hB (fun _ => h v' w' (by simpa using r1) hB hB0)
end
def natsL (L : List Nat) : List Int := L.map fun p : Nat => (p : Int)
theorem natsL_len (L : List Nat) : (natsL L).length = L.length := by simp [natsL]
/-- A row of places that the call owns, not nil. -/
def NRow (w : World) (lo : Nat) (v : Value) (L : List Nat) : Prop := ∃ g c, v = .slice (some ⟨g, 0, none⟩) L.length c ∧ L.length ≤ c ∧ c ≤ maxLen ∧ g < w.heap.size ∧ lo ≤ g ∧ w.ownsRow lo 3 1 v L.length ((natsL L).map (Value.int .i64))
theorem NRow.of {w : World} {lo g c n : Nat} {L : List Nat} (hn : n = L.length) (h : w.ownsRow lo 3 1 (.slice (some ⟨g, 0, none⟩) n c) n ((natsL L).map (Value.int .i64))) : NRow w lo (.slice (some ⟨g, 0, none⟩) n c) L := by
  subst hn
  have hlt := World.ownsRow.lt h g rfl
  have hh := h
  rcases h.2 with ⟨h0, _⟩ | ⟨g', cap, cur, hv, hb, hg, hnc, hcm, _⟩
  · cases h0
  · cases hv
    exact ⟨g, c, rfl, hnc, hcm, hlt.2, hb, hh⟩
theorem NRow.below {w w' : World} {lo : Nat} {v : Value} {L : List Nat} (h : NRow w lo v L) (hb : Below w.heap.size w w') : NRow w' lo v L := by
  obtain ⟨g, c, e, h1, h2, h3, h4, h5⟩ := h
  exact ⟨g, c, e, h1, h2, Nat.lt_of_lt_of_le h3 hb.size, h4, ownsRow_below h5 hb⟩
theorem natsL_get {L : List Nat} {j : Nat} (hj : j < L.length) : (natsL L)[j]? = some ((L.getD j 0 : Nat) : Int) := by
  simp [natsL, List.getD_eq_getElem?_getD, hj]
theorem nrow_cell {w : World} {lo g c n : Nat} {L : List Nat} (h : w.ownsRow lo 3 1 (.slice (some ⟨g, 0, none⟩) n c) n ((natsL L).map (Value.int .i64))) (hn : n = L.length) (j : Nat) (hj : j < n) : w.cell? ⟨g, j, none⟩ = some (.int .i64 ((L.getD j 0 : Nat) : Int)) := by
  subst hn
  rw [World.ownsRow.cellAt h j (by omega), List.getElem?_map, natsL_get hj]
  rfl
theorem nrow_src {w : World} {lo g c n : Nat} {L : List Nat} (h : w.ownsRow lo 3 1 (.slice (some ⟨g, 0, none⟩) n c) n ((natsL L).map (Value.int .i64))) (hn : n = L.length) (k m c' : Nat) (hk : k + m ≤ n) : Src w 1 (some ⟨g, k, none⟩) m c' (natsL ((L.drop k).take m)) := by
  subst hn
  refine ⟨by rw [natsL_len]; simp; omega, (by intro h; cases h), fun ad had j u hu => ?_⟩
  cases had
  have hj : j < m := by
    have := (List.getElem?_eq_some_iff.1 hu).1
    rw [natsL_len] at this
    simp at this
    omega
  have e1 : (natsL L)[k + j]? = some u := by
    rw [← hu]
    simp only [natsL, List.getElem?_map, List.getElem?_take_of_lt hj, List.getElem?_drop]
  rw [Addr.add_lit, World.ownsRow.cellAt h (k + j) (by omega), List.getElem?_map, e1]
  rfl
/-- The box of a works. -/
def WBox (w : World) (g : Nat) (A : Option Addr) (n c : Nat) (I H S P : Int) : Prop := w.heap[g]? = some (.cells #[.slice A n c, .int .i64 I, .int .i64 H, .int .i64 S, .int .i64 P] 26 (0, 0))
theorem WBox.lt {w : World} {g : Nat} {A : Option Addr} {n c : Nat} {I H S P : Int} (h : WBox w g A n c I H S P) : g < w.heap.size := (Array.getElem?_eq_some_iff.1 h).1
theorem WBox.below {w w' : World} {g : Nat} {A : Option Addr} {n c : Nat} {I H S P : Int} (h : WBox w g A n c I H S P) (hb : Below w.heap.size w w') : WBox w' g A n c I H S P := (hb.block g h.lt).trans h
theorem WBox.cell0 {w : World} {g : Nat} {A : Option Addr} {n c : Nat} {I H S P : Int} (h : WBox w g A n c I H S P) : w.cell? ⟨g, 0, none⟩ = some (.slice A n c) := by
  rw [cell_of_row w g 0 _ _ (0, 0) h]; rfl
theorem WBox.grown {w w' : World} {g lo k m : Nat} {e : TypeId} {v : Value} {xs : List Value} {A : Option Addr} {n c : Nat} {I H S P : Int} (h : WBox w g A n c I H S P) (hown : w.ownsRow lo e k v m xs) (he : e ≠ 26) (hg : w.grownBy w' v.ownBlock) : WBox w' g A n c I H S P :=
  (hg.block g h.lt (by
    intro hq
    rcases hown.2 with ⟨rfl, _⟩ | ⟨G, cap, cur, rfl, _, hG, _⟩
    · simp [Value.ownBlock] at hq
    · simp [Value.ownBlock] at hq
      subst hq
      unfold WBox at h
      rw [h] at hG
      simp at hG
      exact he hG.2.symm)).trans h
def strV (wa sa wb sb : Int) : Bool := decide (wrap64 (sb * wa) < wrap64 (sa * wb))
theorem str_mv {f : Nat → Int} {n : Nat} {I H S P : Int} (hg : goodWorks f n I H S P = true) {i p : Nat} (hi : i < n) (hp : p < n) :
    strV (f (i * 4 + 2)) (f (i * 4 + 3)) (f (p * 4 + 2)) (f (p * 4 + 3)) = ordMv f p i := by
  obtain ⟨a1, a2, a3, a4, _⟩ := good_brine hg hi
  obtain ⟨b1, b2, b3, b4, _⟩ := good_brine hg hp
  have m1 : massAt f i = f (i * 4 + 2) + f (i * 4 + 3) := IntWalk.wrap64_in _ ⟨by omega, by omega⟩
  have m2 : massAt f p = f (p * 4 + 2) + f (p * 4 + 3) := IntWalk.wrap64_in _ ⟨by omega, by omega⟩
  unfold strV ordMv
  rw [m1, m2]
  generalize f (i * 4 + 2) = wi at *
  generalize f (i * 4 + 3) = si at *
  generalize f (p * 4 + 2) = wp at *
  generalize f (p * 4 + 3) = sp at *
  have bd : ∀ x y : Int, 0 ≤ x → x ≤ 1000000 → 0 ≤ y → y ≤ 1000000 → 0 ≤ x * y ∧ x * y ≤ 1000000000000 := fun x y h1 h2 h3 h4 => ⟨Int.mul_nonneg h1 h3, by
    have := Int.mul_le_mul h2 h4 h3 (by omega : (0 : Int) ≤ 1000000)
    omega⟩
  have c1 := bd sp wi b3 b4 a1 a2
  have c2 := bd si wp a3 a4 b1 b2
  have c3 := bd si sp a3 a4 b3 b4
  have d1 : sp * (wi + si) = sp * wi + si * sp := by rw [Int.mul_add, Int.mul_comm sp si]
  have d2 : si * (wp + sp) = si * wp + si * sp := by rw [Int.mul_add]
  rw [d1, d2]
  generalize sp * wi = x at *
  generalize si * wp = y at *
  generalize si * sp = z at *
  rw [IntWalk.wrap64_in x ⟨by omega, by omega⟩, IntWalk.wrap64_in y ⟨by omega, by omega⟩, IntWalk.wrap64_in (x + z) ⟨by omega, by omega⟩, IntWalk.wrap64_in (y + z) ⟨by omega, by omega⟩]
  rw [Bool.eq_iff_iff]
  simp only [decide_eq_true_eq]
  omega
theorem l2StrongerG_any (wa sa wb sb : Int) (w : World) :
    Calls Tryd.prog 37 #[.agg #[.int .i64 wa, .int .i64 sa], .agg #[.int .i64 wb, .int .i64 sb]] w fun e w' => e = .returned (.bool (strV wa sa wb sb)) ∧ ∃ q os', w' = grow (w.drewN q) os' := by
  go_enter Tryd.func37, Tryd.ntmps37
  go_wp2
  go_ret
  exact ⟨rfl, 0, _, by rw [alloc_eq_grow, alloc_eq_grow, grow_grow]; rfl⟩
theorem l1Own_any (A : Option Addr) (n c : Nat) (zs : List Int) (w : World) (hs : ∀ w', Below w.heap.size w w' → Src w' 1 A n c zs) (hn : n ≤ 1000000) :
    Calls Tryd.prog 38 #[.slice A n c] w fun e w' => ∃ v', e = .returned v' ∧ w'.ownsRow w.heap.size 3 1 v' n (zs.map (Value.int .i64)) ∧ Below w.heap.size w w' := by
  have hal := (Below.refl w.heap.size w).alloc (Nat.le_refl _) (.cells #[] 3)
  have hro := World.ownsRow_made (base := w.heap.size) (e := 3) (size := 1) w #[] 0 (Nat.le_refl _) (Nat.zero_le _) (by simp)
  cases A with
  | none =>
    obtain ⟨rfl, rfl⟩ := (hs w (Below.refl _ _)).nil rfl
    have hz : zs = [] := by have := (hs w (Below.refl _ _)).len; exact List.length_eq_zero_iff.1 (by simpa using this)
    subst hz
    have HRO := Lib.hid hro
    have HAL := Lib.hid hal
    clear hro hal hs
    obtain ⟨i, hi, hz0, hz1, hz2⟩ := info_parts infoIntP
    go_enter Tryd.func38, Tryd.ntmps38
    go_wp2
    go_ret
    exact ⟨_, rfl, HRO.out, HAL.out⟩
  | some ad =>
    have hsr := (hs _ hal)
    have HS := Lib.hid hsr
    have HRO := Lib.hid hro
    have HAL := Lib.hid hal
    clear hro hal hs hsr
    go_enter Tryd.func38, Tryd.ntmps38
    go_wp2_with (at_builtin; refine wpList_append_flat _ rfl _ _ 36 rfl w.heap.size 3 1 8 (.int .i64 0) Tryd.underlying36 infoIntP rfl (by decide) (by decide) [] zs 0 n c (.slice (some ⟨w.heap.size, 0, none⟩) 0 0) rfl HRO.out ad rfl HS.out.len (HS.out.cell ad rfl) (by omega) HAL.out.size ?_; intro v' w3 hown3 hgrow3)
    go_ret
    rw [Nat.zero_add] at hown3
    exact ⟨v', rfl, by simpa using hown3, below_app HAL.out HRO.out hgrow3⟩
set_option maxRecDepth 100000 in
set_option maxHeartbeats 1200000 in
theorem sPanOrder_any (A : Option Addr) (n c lo hi : Nat) (f : Nat → Int) (I H S P : Int) (w : World) (hs : Sl w lo hi 4 A n f) (hn : n ≤ 1048576) (hnc : n ≤ c) :
    Calls Tryd.prog 11 #[.agg #[.slice A n c, .int .i64 I, .int .i64 H, .int .i64 S, .int .i64 P]] w (IntsPost 3 w (ordRes f n (goodWorks f n I H S P)) (goodWorks f n I H S P)) := by
  have BW : Below w.heap.size w (w.alloc (.cells #[.slice A n c, .int .i64 I, .int .i64 H, .int .i64 S, .int .i64 P] 26)) := (Below.refl _ w).alloc (Nat.le_refl _) _
  have B3 : Below w.heap.size w (((w.alloc (.cells #[.slice A n c, .int .i64 I, .int .i64 H, .int .i64 S, .int .i64 P] 26)).alloc (.cells #[] 3)).alloc (.cells #[] 3)) := (BW.alloc BW.size _).alloc (by simp; omega) _
  have HS : Hid (Sl (((w.alloc (.cells #[.slice A n c, .int .i64 I, .int .i64 H, .int .i64 S, .int .i64 P] 26)).alloc (.cells #[] 3)).alloc (.cells #[] 3)) lo hi 4 A n f) := hs.below B3
  have HSW := Lib.hid hs
  have ou0 : (((w.alloc (.cells #[.slice A n c, .int .i64 I, .int .i64 H, .int .i64 S, .int .i64 P] 26)).alloc (.cells #[] 3)).alloc (.cells #[] 3)).ownsRow w.heap.size 3 1 (.slice (some ⟨w.heap.size + 1, 0, none⟩) 0 0) 0 [] := (by
    have h := World.ownsRow_made (base := w.heap.size) (e := 3) (size := 1) (w.alloc (.cells #[.slice A n c, .int .i64 I, .int .i64 H, .int .i64 S, .int .i64 P] 26)) #[] 0 BW.size (Nat.zero_le _) (by simp)
    have h2 := h.alloc (.cells #[] 3)
    simpa using h2)
  have at0 : (((w.alloc (.cells #[.slice A n c, .int .i64 I, .int .i64 H, .int .i64 S, .int .i64 P] 26)).alloc (.cells #[] 3)).alloc (.cells #[] 3)).ownsRow w.heap.size 3 1 (.slice (some ⟨w.heap.size + 1 + 1, 0, none⟩) 0 0) 0 [] := (by
    have h := World.ownsRow_made (base := w.heap.size) (e := 3) (size := 1) ((w.alloc (.cells #[.slice A n c, .int .i64 I, .int .i64 H, .int .i64 S, .int .i64 P] 26)).alloc (.cells #[] 3)) #[] 0 (by simp; omega) (Nat.zero_le _) (by simp)
    simpa using h)
  have bx0 : WBox (((w.alloc (.cells #[.slice A n c, .int .i64 I, .int .i64 H, .int .i64 S, .int .i64 P] 26)).alloc (.cells #[] 3)).alloc (.cells #[] 3)) w.heap.size A n c I H S P := WBox.below (WBox.below (heap_alloc_new w _) ((Below.refl _ _).alloc (Nat.le_refl _) _)) ((Below.refl _ _).alloc (Nat.le_refl _) _)
  have HU0 := Lib.hid ou0
  have HA0 := Lib.hid at0
  have HX0 := Lib.hid bx0
  clear hs ou0 at0 bx0
  cases hg : goodWorks f n I H S P with
  | false =>
    go_enter Tryd.func11, Tryd.ntmps11
    go_wp2_with fail
    refine (l25Good_any A n c lo hi f I H S P _ HS.out hn hnc).mono ?_
    rw [hg]
    rintro e w2 ⟨rfl, hb2⟩
    have hu := Lib.hid (ownsRow_below HU0.out hb2)
    go_wp2
    go_ret2
    exact IntsPost.mk_ (zs := []) hu.out (B3.trans (hb2.mono B3.size))
  | true =>
    have h6 := good_len hg
    have HG := Lib.hid hg
    show Calls _ _ _ _ (IntsPost 3 w (idsP f (ordL f n)) true)
    go_enter Tryd.func11, Tryd.ntmps11
    go_wp2_with fail
    refine (l25Good_any A n c lo hi f I H S P _ HS.out hn hnc).mono ?_
    rw [hg]
    rintro e w1 ⟨rfl, hb1⟩
    have hB1 : Below w.heap.size w w1 := B3.trans (hb1.mono B3.size)
    have HU1 := Lib.hid (ownsRow_below HU0.out hb1)
    have HA1 := Lib.hid (ownsRow_below HA0.out hb1)
    have HX1 := Lib.hid (HX0.out.below hb1)
    clear hb1 HS hg HU0 HA0 HX0
    go_wp2_with fail
    go_loopw [5, 6, 7] (fun av iv kv wr => ∃ i : Nat, i ≤ n ∧ iv = .int .i64 i ∧ NRow wr w.heap.size av (ordL f i) ∧ wr.ownsRow w.heap.size 3 1 (.slice (some ⟨w.heap.size + 1, 0, none⟩) 0 0) 0 [] ∧ WBox wr w.heap.size A n c I H S P ∧ Below w.heap.size w wr) (fun _ iv _ _ => n - (intOf iv).toNat)
    case atStart => exact ⟨0, Nat.zero_le _, rfl, NRow.of (L := []) rfl HA1.out, HU1.out, HX1.out, hB1⟩
    case round =>
      obtain ⟨i, hi', rfl, hro, hou, hbx, hB⟩ := hrel
      have HO := Lib.hid hro
      have HU := Lib.hid hou
      have HX := Lib.hid hbx
      clear hro hou hbx HU1 HA1 HX1 hB1
      have b0 := HX.out.cell0
      by_cases hlt : i < n
      · obtain ⟨b, off, rfl, hbw, HC⟩ := HSW.out.open_ hB (by omega)
        obtain ⟨c0, c1, c2, c3⟩ := cell4 HC hlt
        obtain ⟨a1, a2, a3, a4, _⟩ := good_brine HG.out hlt
        have hma : massAt f i = f (i * 4 + 2) + f (i * 4 + 3) := IntWalk.wrap64_in _ ⟨by omega, by omega⟩
        have hi0i : (0 : Int) ≤ (i : Int) := by omega
        have hini : (i : Int) < (n : Int) := by omega
        have HPY : Hid (ordB f i = true → ordL f (i + 1) = insI (ordMv f) (ordL f i) i) := fun h => by rw [ordL, pickN_yes h, isortL_snoc]; rfl
        have HPN : Hid (ordB f i = false → ordL f (i + 1) = ordL f i) := fun h => by rw [ordL, pickN_no h]; rfl
        have hlo6 := ordL_len f i
        have HLT := Lib.hid (ordL_lt f i)
        generalize ordL f i = L at *
        cases hq : ordB f i with
        | false =>
          have HPB := Lib.hid hq
          have hmz : massV (f (i * 4 + 2)) (f (i * 4 + 3)) = 0 := by
            have h : ¬ (0 < massAt f i) := by simpa [ordB] using hq
            show massAt f i = 0
            omega
          have hmb : (massV (f (i * 4 + 2)) (f (i * 4 + 3)) == 0) = true := by simp [hmz]
          clear hmz hma hq HC
          go_wp2_with fail
          refine (l2Mass_any _ _ _).mono ?_
          rintro e w2 ⟨rfl, hb2⟩
          have hB2 := below_of hB hb2 hB.size
          have hO2 := Lib.hid (HO.out.below hb2)
          have hU2 := Lib.hid (ownsRow_below HU.out hb2)
          have hX2 := Lib.hid (HX.out.below hb2)
          clear hb2 HO HU HX hB b0 c0 c1 c2 c3
          go_wp2
          go_roundw
          case rel => exact ⟨i + 1, by omega, by go_num, by rw [HPN.out HPB.out]; exact hO2.out, hU2.out, hX2.out, hB2⟩
          case measure => simp [intOf]; omega
        | true =>
          have HPB := Lib.hid hq
          have hmz : massV (f (i * 4 + 2)) (f (i * 4 + 3)) ≠ 0 := by
            have h : 0 < massAt f i := by simpa [ordB] using hq
            show massAt f i ≠ 0
            omega
          have hmb : (massV (f (i * 4 + 2)) (f (i * 4 + 3)) == 0) = false := by simp [hmz]
          clear hmz hma hq HC
          obtain ⟨g, gc, rfl, hgc, hgcm, hgl0, hg0, hown⟩ := HO.out
          obtain ⟨l, hl⟩ : ∃ l, l = L.length := ⟨_, rfl⟩
          rw [← hl] at hgc hlo6 hown ⊢
          have HN := Lib.hid hl
          have hgc8 : gc ≤ 9223372036854775807 := by unfold maxLen at hgcm; omega
          go_wp2_with fail
          refine (l2Mass_any _ _ _).mono ?_
          rintro e w2 ⟨rfl, hb2⟩
          have hB2 := below_of hB hb2 hB.size
          have HOW := Lib.hid (ownsRow_below hown hb2)
          have hU2 := Lib.hid (ownsRow_below HU.out hb2)
          have hX2 := Lib.hid (HX.out.below hb2)
          clear hb2 HO HU HX hB b0 c0 c1 c2 c3 hown hl hgcm hbw
          go_wp2_with fail
          go_loopw [7] (fun kv wr => ∃ k : Nat, k ≤ l ∧ kv = .int .i64 k ∧ stopI (ordMv f) L i l = stopI (ordMv f) L i k ∧ Below w2.heap.size w2 wr) (fun kv _ => (intOf kv).toNat)
          case atStart => exact ⟨l, Nat.le_refl _, rfl, rfl, Below.refl _ _⟩
          case round =>
            obtain ⟨k, hk, rfl, hst, hb3⟩ := hrel
            have HS1 := Lib.hid hst
            have HO2 := Lib.hid (ownsRow_below HOW.out hb3)
            have HU2 := Lib.hid (ownsRow_below hU2.out hb3)
            have HX2 := Lib.hid (hX2.out.below hb3)
            replace hB2 := below_of hB2 hb3 hB2.size
            clear hst HOW hU2 hX2
            by_cases hk0 : k = 0
            · have HST : Hid (stopI (ordMv f) L i L.length = k) := by show _ = _; rw [← HN.out, HS1.out, hk0]; rfl
              have g1 : ¬ ((0 : Int) < (k : Int)) := by omega
              have g2 : ¬ (0 < k) := by omega
              have g3 : decide ((0 : Int) < (k : Int)) = false := by simp; omega
              have g4 : decide (0 < k) = false := by simp; omega
              clear hk0
              go_wp2_with fail
              go_quiet (fail)
              have hHq : Below wr.heap.size wr (wr.drewN nq) := below_drewN (Below.refl _ _) _
              generalize wr.drewN nq = wq at hHq ⊢
              have HXN := Lib.hid (HX2.out.below hHq)
              have HOWN := Lib.hid (ownsRow_below HO2.out hHq)
              have HOUT := Lib.hid (ownsRow_below HU2.out hHq)
              have hBX := below_of hB2 hHq hB2.size
              have hlo := hBX.size
              clear HO2 HU2 HX2 hB2 hHq
              clear g1 g2 g3 g4
              by_cases hkl : k < l
              · have hgcn : ¬ (gc = k) := by omega
                have hkg : k ≤ gc := by omega
                have hkg2 : (k : Int) ≤ (gc : Int) := by omega
                have hkl3 : k ≤ l := by omega
                go_wp2_with fail
                have HF : Hid (∀ w', Below wq.heap.size wq w' → True) := fun _ _ => trivial
                refine wp_region_held_drew (S := fun w' => Below (wq).heap.size (wq) w') (by kernel_rfl) ((Below.refl _ _).drew) (fun hHeld => ?_)
                refine tk (v := ?_) 0 55 HF rfl ?_ hHeld ?_
                rotate_left; · (intro _ _ _; go_simp; try with_reducible rfl)
                simp only [Act.put, p1, p2, p3]
                refine tk (v := ?_) 1 56 HF rfl ?_ hHeld ?_
                rotate_left; · (intro _ _ _; go_simp; try with_reducible rfl)
                simp only [Act.put, p1, p2, p3]
                refine tk (v := ?_) 2 57 HF rfl ?_ hHeld ?_
                rotate_left; · (intro _ _ _; go_simp; try with_reducible rfl)
                simp only [Act.put, p1, p2, p3]
                refine tk (v := ?_) 4 59 HF rfl ?_ hHeld ?_
                rotate_left; · (intro _ _ _; go_simp; try with_reducible rfl)
                simp only [Act.put, p1, p2, p3]
                refine tk (v := ?_) 7 62 HF rfl ?_ hHeld ?_
                rotate_left; · (intro _ _ _; go_simp; try with_reducible rfl)
                simp only [Act.put, p1, p2, p3]
                refine tk (v := ?_) 8 63 HF rfl ?_ hHeld ?_
                rotate_left; · (intro _ _ _; go_simp; try with_reducible rfl)
                simp only [Act.put, p1, p2, p3]
                refine tk (v := ?_) 9 64 HF rfl ?_ hHeld ?_
                rotate_left; · (intro _ _ _; go_simp; try with_reducible rfl)
                simp only [Act.put, p1, p2, p3]
                refine wpAnyH_own_append2 (fuel := 1) (iC := 3) (iB := 5) (i2 := 6) (i3 := 10) (dC := 58) (dB := 60) (d2 := 61) (d3 := 65) (j3 := 64) rfl rfl rfl rfl ⟨rfl, rfl⟩ ⟨rfl, rfl⟩ (by kernel_rfl) (by kernel_rfl) (by kernel_rfl) (by kernel_rfl) (by kernel_rfl) (by decide) (by decide) (by simp) 3 1 8 (.int .i64 0) Tryd.underlying36 infoIntP rfl (by decide) (by decide) [(i : Int)] rfl (natsL (L.take k)) (natsL (L.drop k)) k (l - k) (gc - k) (some ⟨g, k, none⟩) ?runCZA ?runBZA rfl hHeld ?s3ZA (by omega) ?nextZA
                case runCZA =>
                  intro a' w1' K hev hb hK
                  have h1 : a'.eval (.tmp 57) = .slice (some ⟨g, 0, none⟩) k gc := (hev 57 (by decide)).trans rfl
                  have h2 : a'.tmps[57]?.getD undef = .slice (some ⟨g, 0, none⟩) k gc := by simpa [Act.eval] using h1
                  have hsr : ∀ w', Below w1'.heap.size w1' w' → Src w' 1 (some ⟨g, 0, none⟩) k gc (natsL (L.take k)) := fun w' hb' => by
                    have h := nrow_src (ownsRow_below HOWN.out (below_of hb hb' hb.size)) HN.out 0 k gc (by omega)
                    simpa using h
                  have HSR := Lib.hid hsr
                  have HK := Lib.hid hK
                  clear hev h1 hsr hK
                  go_simp
                  go_at_call 38
                  refine (l1Own_any _ k gc (natsL (L.take k)) w1' HSR.out (by omega)).mono ?_
                  rintro e w2 ⟨v', rfl, ho, hb2⟩
                  exact HK.out v' w2 ho hb2
                case runBZA =>
                  intro a' w hev
                  have h1 : a'.eval (.tmp 59) = .int .i64 i := (hev 59 (by decide)).trans rfl
                  have h2 : a'.tmps[59]?.getD undef = .int .i64 i := by simpa [Act.eval] using h1
                  clear h1 hev
                  go_simp
                case s3ZA =>
                  intro w' hb'
                  have h := nrow_src (ownsRow_below HOWN.out hb') HN.out k (l - k) (gc - k) (by omega)
                  rw [List.take_of_length_le (by rw [List.length_drop, ← HN.out]; omega)] at h
                  exact h
  
                case nextZA =>
                  intro u0 uB u2 g' c' w' hc1 hc2 hg1 hown' hB'
                  clear hHeld
                  have hHeld := hB'
                  simp only [Act.put, p1, p2, p3]
                  refine tk (v := ?_) 11 5 HF rfl ?_ hHeld ?_
                  rotate_left; · (intro _ _ _; go_simp; try with_reducible rfl)
                  simp only [Act.put, p1, p2, p3]
                  refine wpAnyH_done (by kernel_rfl) ?_ _
                  try simp only [Nat.add_zero] at hown' hc1
                  have hl : k + 1 + (l - k) = (insI (ordMv f) L i).length := by rw [insI_length]; have := HN.out; omega
                  have hrow : natsL (L.take k) ++ [(i : Int)] ++ natsL (L.drop k) = natsL (insI (ordMv f) L i) := by
                    have hst := HST.out
                    have hins : insI (ordMv f) L i = L.take k ++ i :: L.drop k := by unfold insI; rw [hst]
                    rw [hins]
                    simp [natsL]
                  rw [hrow] at hown'
                  have hr' := Lib.hid (NRow.of hl (ownsRow_monoP hown' hlo))
                  have hBn := below_of hBX hB' hBX.size
                  clear hown' hHeld
                  go_wp2
                  go_roundw
                  case rel => exact ⟨i + 1, by omega, by go_num, by rw [HPY.out HPB.out]; exact hr'.out, ownsRow_below HOUT.out hB', HXN.out.below hB', hBn⟩
                  case measure => simp [intOf]; omega
              · have hkl2 : k = l := by omega
                clear hkl
                subst hkl2
                by_cases hgl : gc = k
                · subst hgl
                  go_wp2_with fail
                  have HF : Hid (∀ w', Below wq.heap.size wq w' → True) := fun _ _ => trivial
                  refine wp_region_held_drew (S := fun w' => Below (wq).heap.size (wq) w') (by kernel_rfl) ((Below.refl _ _).drew) (fun hHeld => ?_)
                  refine tk (v := ?_) 0 55 HF rfl ?_ hHeld ?_
                  rotate_left; · (intro _ _ _; go_simp; try with_reducible rfl)
                  simp only [Act.put, p1, p2, p3]
                  refine tk (v := ?_) 1 56 HF rfl ?_ hHeld ?_
                  rotate_left; · (intro _ _ _; go_simp; try with_reducible rfl)
                  simp only [Act.put, p1, p2, p3]
                  refine tk (v := ?_) 2 57 HF rfl ?_ hHeld ?_
                  rotate_left; · (intro _ _ _; go_simp; try with_reducible rfl)
                  simp only [Act.put, p1, p2, p3]
                  refine tk (v := ?_) 4 59 HF rfl ?_ hHeld ?_
                  rotate_left; · (intro _ _ _; go_simp; try with_reducible rfl)
                  simp only [Act.put, p1, p2, p3]
                  refine tk (v := ?_) 7 62 HF rfl ?_ hHeld ?_
                  rotate_left; · (intro _ _ _; go_simp; try with_reducible rfl)
                  simp only [Act.put, p1, p2, p3]
                  refine tk (v := ?_) 8 63 HF rfl ?_ hHeld ?_
                  rotate_left; · (intro _ _ _; go_simp; try with_reducible rfl)
                  simp only [Act.put, p1, p2, p3]
                  refine tk (v := ?_) 9 64 HF rfl ?_ hHeld ?_
                  rotate_left; · (intro _ _ _; go_simp; try with_reducible rfl)
                  simp only [Act.put, p1, p2, p3]
                  refine wpAnyH_own_append2 (fuel := 1) (iC := 3) (iB := 5) (i2 := 6) (i3 := 10) (dC := 58) (dB := 60) (d2 := 61) (d3 := 65) (j3 := 64) rfl rfl rfl rfl ⟨rfl, rfl⟩ ⟨rfl, rfl⟩ (by kernel_rfl) (by kernel_rfl) (by kernel_rfl) (by kernel_rfl) (by kernel_rfl) (by decide) (by decide) (by simp) 3 1 8 (.int .i64 0) Tryd.underlying36 infoIntP rfl (by decide) (by decide) [(i : Int)] rfl (natsL (L.take gc)) (natsL (L.drop gc)) gc 0 (0) (some ⟨g, 0, none⟩) ?runCZB ?runBZB rfl hHeld ?s3ZB (by omega) ?nextZB
                  case runCZB =>
                    intro a' w1' K hev hb hK
                    have h1 : a'.eval (.tmp 57) = .slice (some ⟨g, 0, none⟩) gc gc := (hev 57 (by decide)).trans rfl
                    have h2 : a'.tmps[57]?.getD undef = .slice (some ⟨g, 0, none⟩) gc gc := by simpa [Act.eval] using h1
                    have hsr : ∀ w', Below w1'.heap.size w1' w' → Src w' 1 (some ⟨g, 0, none⟩) gc gc (natsL (L.take gc)) := fun w' hb' => by
                      have h := nrow_src (ownsRow_below HOWN.out (below_of hb hb' hb.size)) HN.out 0 gc gc (by omega)
                      simpa using h
                    have HSR := Lib.hid hsr
                    have HK := Lib.hid hK
                    clear hev h1 hsr hK
                    go_simp
                    go_at_call 38
                    refine (l1Own_any _ gc gc (natsL (L.take gc)) w1' HSR.out (by omega)).mono ?_
                    rintro e w2 ⟨v', rfl, ho, hb2⟩
                    exact HK.out v' w2 ho hb2
                  case runBZB =>
                    intro a' w hev
                    have h1 : a'.eval (.tmp 59) = .int .i64 i := (hev 59 (by decide)).trans rfl
                    have h2 : a'.tmps[59]?.getD undef = .int .i64 i := by simpa [Act.eval] using h1
                    clear h1 hev
                    go_simp
                  case s3ZB =>
                    intro w' hb'
                    refine ⟨by rw [natsL_len, List.length_drop, ← HN.out]; omega, (by intro h; cases h), fun ad had j u hu => ?_⟩
                    have hl := (List.getElem?_eq_some_iff.1 hu).1
                    rw [natsL_len, List.length_drop, ← HN.out] at hl
                    omega
                  case nextZB =>
                    intro u0 uB u2 g' c' w' hc1 hc2 hg1 hown' hB'
                    clear hHeld
                    have hHeld := hB'
                    simp only [Act.put, p1, p2, p3]
                    refine tk (v := ?_) 11 5 HF rfl ?_ hHeld ?_
                    rotate_left; · (intro _ _ _; go_simp; try with_reducible rfl)
                    simp only [Act.put, p1, p2, p3]
                    refine wpAnyH_done (by kernel_rfl) ?_ _
                    try simp only [Nat.add_zero] at hown' hc1
                    have hl : gc + 1 = (insI (ordMv f) L i).length := by rw [insI_length]; have := HN.out; omega
                    have hrow : natsL (L.take gc) ++ [(i : Int)] ++ natsL (L.drop gc) = natsL (insI (ordMv f) L i) := by
                      have hst := HST.out
                      have hins : insI (ordMv f) L i = L.take gc ++ i :: L.drop gc := by unfold insI; rw [hst]
                      rw [hins]
                      simp [natsL]
                    rw [hrow] at hown'
                    have hr' := Lib.hid (NRow.of hl (ownsRow_monoP hown' hlo))
                    have hBn := below_of hBX hB' hBX.size
                    clear hown' hHeld
                    go_wp2
                    go_roundw
                    case rel => exact ⟨i + 1, by omega, by go_num, by rw [HPY.out HPB.out]; exact hr'.out, ownsRow_below HOUT.out hB', HXN.out.below hB', hBn⟩
                    case measure => simp [intOf]; omega
                · have hkg : k ≤ gc := by omega
                  have hkg2 : (k : Int) ≤ (gc : Int) := by omega
                  go_wp2_with fail
                  have HF : Hid (∀ w', Below wq.heap.size wq w' → True) := fun _ _ => trivial
                  refine wp_region_held_drew (S := fun w' => Below (wq).heap.size (wq) w') (by kernel_rfl) ((Below.refl _ _).drew) (fun hHeld => ?_)
                  refine tk (v := ?_) 0 55 HF rfl ?_ hHeld ?_
                  rotate_left; · (intro _ _ _; go_simp; try with_reducible rfl)
                  simp only [Act.put, p1, p2, p3]
                  refine tk (v := ?_) 1 56 HF rfl ?_ hHeld ?_
                  rotate_left; · (intro _ _ _; go_simp; try with_reducible rfl)
                  simp only [Act.put, p1, p2, p3]
                  refine tk (v := ?_) 2 57 HF rfl ?_ hHeld ?_
                  rotate_left; · (intro _ _ _; go_simp; try with_reducible rfl)
                  simp only [Act.put, p1, p2, p3]
                  refine tk (v := ?_) 4 59 HF rfl ?_ hHeld ?_
                  rotate_left; · (intro _ _ _; go_simp; try with_reducible rfl)
                  simp only [Act.put, p1, p2, p3]
                  refine tk (v := ?_) 7 62 HF rfl ?_ hHeld ?_
                  rotate_left; · (intro _ _ _; go_simp; try with_reducible rfl)
                  simp only [Act.put, p1, p2, p3]
                  refine tk (v := ?_) 8 63 HF rfl ?_ hHeld ?_
                  rotate_left; · (intro _ _ _; go_simp; try with_reducible rfl)
                  simp only [Act.put, p1, p2, p3]
                  refine tk (v := ?_) 9 64 HF rfl ?_ hHeld ?_
                  rotate_left; · (intro _ _ _; go_simp; try with_reducible rfl)
                  simp only [Act.put, p1, p2, p3]
                  refine wpAnyH_own_append2 (fuel := 1) (iC := 3) (iB := 5) (i2 := 6) (i3 := 10) (dC := 58) (dB := 60) (d2 := 61) (d3 := 65) (j3 := 64) rfl rfl rfl rfl ⟨rfl, rfl⟩ ⟨rfl, rfl⟩ (by kernel_rfl) (by kernel_rfl) (by kernel_rfl) (by kernel_rfl) (by kernel_rfl) (by decide) (by decide) (by simp) 3 1 8 (.int .i64 0) Tryd.underlying36 infoIntP rfl (by decide) (by decide) [(i : Int)] rfl (natsL (L.take k)) (natsL (L.drop k)) k 0 (gc - k) (some ⟨g, k, none⟩) ?runCZC ?runBZC rfl hHeld ?s3ZC (by omega) ?nextZC
                  case runCZC =>
                    intro a' w1' K hev hb hK
                    have h1 : a'.eval (.tmp 57) = .slice (some ⟨g, 0, none⟩) k gc := (hev 57 (by decide)).trans rfl
                    have h2 : a'.tmps[57]?.getD undef = .slice (some ⟨g, 0, none⟩) k gc := by simpa [Act.eval] using h1
                    have hsr : ∀ w', Below w1'.heap.size w1' w' → Src w' 1 (some ⟨g, 0, none⟩) k gc (natsL (L.take k)) := fun w' hb' => by
                      have h := nrow_src (ownsRow_below HOWN.out (below_of hb hb' hb.size)) HN.out 0 k gc (by omega)
                      simpa using h
                    have HSR := Lib.hid hsr
                    have HK := Lib.hid hK
                    clear hev h1 hsr hK
                    go_simp
                    go_at_call 38
                    refine (l1Own_any _ k gc (natsL (L.take k)) w1' HSR.out (by omega)).mono ?_
                    rintro e w2 ⟨v', rfl, ho, hb2⟩
                    exact HK.out v' w2 ho hb2
                  case runBZC =>
                    intro a' w hev
                    have h1 : a'.eval (.tmp 59) = .int .i64 i := (hev 59 (by decide)).trans rfl
                    have h2 : a'.tmps[59]?.getD undef = .int .i64 i := by simpa [Act.eval] using h1
                    clear h1 hev
                    go_simp
                  case s3ZC =>
                    intro w' hb'
                    refine ⟨by rw [natsL_len, List.length_drop, ← HN.out]; omega, (by intro h; cases h), fun ad had j u hu => ?_⟩
                    have hl := (List.getElem?_eq_some_iff.1 hu).1
                    rw [natsL_len, List.length_drop, ← HN.out] at hl
                    omega
                  case nextZC =>
                    intro u0 uB u2 g' c' w' hc1 hc2 hg1 hown' hB'
                    clear hHeld
                    have hHeld := hB'
                    simp only [Act.put, p1, p2, p3]
                    refine tk (v := ?_) 11 5 HF rfl ?_ hHeld ?_
                    rotate_left; · (intro _ _ _; go_simp; try with_reducible rfl)
                    simp only [Act.put, p1, p2, p3]
                    refine wpAnyH_done (by kernel_rfl) ?_ _
                    try simp only [Nat.add_zero] at hown' hc1
                    have hl : k + 1 = (insI (ordMv f) L i).length := by rw [insI_length]; have := HN.out; omega
                    have hrow : natsL (L.take k) ++ [(i : Int)] ++ natsL (L.drop k) = natsL (insI (ordMv f) L i) := by
                      have hst := HST.out
                      have hins : insI (ordMv f) L i = L.take k ++ i :: L.drop k := by unfold insI; rw [hst]
                      rw [hins]
                      simp [natsL]
                    rw [hrow] at hown'
                    have hr' := Lib.hid (NRow.of hl (ownsRow_monoP hown' hlo))
                    have hBn := below_of hBX hB' hBX.size
                    clear hown' hHeld
                    go_wp2
                    go_roundw
                    case rel => exact ⟨i + 1, by omega, by go_num, by rw [HPY.out HPB.out]; exact hr'.out, ownsRow_below HOUT.out hB', HXN.out.below hB', hBn⟩
                    case measure => simp [intOf]; omega
            · obtain ⟨m, hm⟩ : ∃ m, k = m + 1 := ⟨k - 1, by omega⟩
              have hml : m < l := by omega
              have hpn : L.getD m 0 < n := by
                have h1 : L.getD m 0 < i := by
                  rw [List.getD_eq_getElem?_getD, List.getElem?_eq_getElem (by rw [← HN.out]; exact hml)]
                  exact HLT.out _ (List.getElem_mem _)
                omega
              have y0 := nrow_cell HO2.out HN.out m hml
              obtain ⟨hbw, HC⟩ := HSW.out.open_at hB2 (by omega)
              obtain ⟨_, _, e2, e3⟩ := cell4 HC hlt
              obtain ⟨_, _, p2, p3⟩ := cell4 HC hpn
              have hyl := World.block_lt_of_cell? wr _ y0
              have hmv := str_mv HG.out hlt hpn
              have hx0 := HX2.out.cell0
              have hxl := HX2.out.lt
              have HYY : Hid (ordMv f (L.getD m 0) i = true → stopI (ordMv f) L i (m + 1) = stopI (ordMv f) L i m) := fun h => stop_step h
              have HNN : Hid (ordMv f (L.getD m 0) i = false → stopI (ordMv f) L i (m + 1) = m + 1) := fun h => stop_here h
              generalize L.getD m 0 = p at *
              have q0 := fun n os => cell_grown (n := n) (os := os) (w := wr) (a := ⟨w.heap.size, 0, none⟩) hxl hx0
              have q1 := fun n os => cell_grown (n := n) (os := os) (w := wr) (a := ⟨g, m, none⟩) hyl y0
              have q2 := fun n os => cell_grown (n := n) (os := os) (w := wr) (a := ⟨b, off + i * 4 + 2, none⟩) hbw e2
              have q3 := fun n os => cell_grown (n := n) (os := os) (w := wr) (a := ⟨b, off + i * 4 + 3, none⟩) hbw e3
              have q4 := fun n os => cell_grown (n := n) (os := os) (w := wr) (a := ⟨b, off + p * 4 + 2, none⟩) hbw p2
              have q5 := fun n os => cell_grown (n := n) (os := os) (w := wr) (a := ⟨b, off + p * 4 + 3, none⟩) hbw p3
              have g1 : (0 : Int) < (k : Int) := by omega
              have g2 : 0 < k := by omega
              have g3 : decide ((0 : Int) < (k : Int)) = true := by simp; omega
              have g4 : decide (0 < k) = true := by simp; omega
              have g5 : (0 : Int) ≤ (k : Int) - 1 := by omega
              have g6 : (k : Int) - 1 < (l : Int) := by omega
              have g7 : ((k : Int) - 1).toNat = m := by omega
              have g8 : IntKind.i64.wrap ((k : Int) - 1) = (k : Int) - 1 := IntWalk.i64_in _ (by omega)
              have g9 : (1 : Int) ≤ (k : Int) := by omega
              have ga : (0 : Int) ≤ (p : Int) := by omega
              have gb : (p : Int) < (n : Int) := by omega
              have HM := Lib.hid hm
              clear hm hk0 y0 e2 e3 p2 p3 hx0 hyl HC
              cases hgt : strV (f (i * 4 + 2)) (f (i * 4 + 3)) (f (p * 4 + 2)) (f (p * 4 + 3)) with
              | true =>
                have HS3 : Hid (stopI (ordMv f) L i l = stopI (ordMv f) L i m) := by
                  show _ = _
                  rw [HS1.out, HM.out]
                  exact HYY.out (hmv ▸ hgt)
                clear hmv
                go_wp2_with fail
                have mixed : Tryd.prog.follows .mixedOrders = true := by kernel_rfl
                go_quiet_grown ((go_at_call 37; refine Calls.grown_of (l2StrongerG_any _ _ _ _ _)))
                clear mixed
                have hHq : Below wr.heap.size wr (grow (wr.drewN nq) osq) := below_growN nq osq
                generalize grow (wr.drewN nq) osq = wq at hHq ⊢
                have hbq := below_of hb3 hHq hb3.size
                clear HO2 HU2 HX2 q0 q1 q2 q3 q4 q5 g1 g2 g3 g4
                go_wp2
                go_roundw
                case rel => exact ⟨m, by omega, by have := HM.out; subst this; go_num, HS3.out, hbq⟩
                case measure => have := HM.out; simp [intOf]; omega
              | false =>
                have HST : Hid (stopI (ordMv f) L i L.length = k) := by
                  show _ = _
                  rw [← HN.out, HS1.out, HM.out]
                  exact HNN.out (hmv ▸ hgt)
                clear hmv
                go_wp2_with fail
                have mixed : Tryd.prog.follows .mixedOrders = true := by kernel_rfl
                go_quiet_grown ((go_at_call 37; refine Calls.grown_of (l2StrongerG_any _ _ _ _ _)))
                clear mixed
                have hHq : Below wr.heap.size wr (grow (wr.drewN nq) osq) := below_growN nq osq
                generalize grow (wr.drewN nq) osq = wq at hHq ⊢
                have HXN := Lib.hid (HX2.out.below hHq)
                have HOWN := Lib.hid (ownsRow_below HO2.out hHq)
                have HOUT := Lib.hid (ownsRow_below HU2.out hHq)
                have hBX := below_of hB2 hHq hB2.size
                have hlo := hBX.size
                clear HO2 HU2 HX2 hB2 hHq
                clear q0 q1 q2 q3 q4 q5 g1 g2 g3 g4 g5 g6 g7 g8 g9 ga gb HM
                by_cases hkl : k < l
                · have hgcn : ¬ (gc = k) := by omega
                  have hkg : k ≤ gc := by omega
                  have hkg2 : (k : Int) ≤ (gc : Int) := by omega
                  have hkl3 : k ≤ l := by omega
                  go_wp2_with fail
                  have HF : Hid (∀ w', Below wq.heap.size wq w' → True) := fun _ _ => trivial
                  refine wp_region_held_drew (S := fun w' => Below (wq).heap.size (wq) w') (by kernel_rfl) ((Below.refl _ _).drew) (fun hHeld => ?_)
                  refine tk (v := ?_) 0 55 HF rfl ?_ hHeld ?_
                  rotate_left; · (intro _ _ _; go_simp; try with_reducible rfl)
                  simp only [Act.put, p1, p2, p3]
                  refine tk (v := ?_) 1 56 HF rfl ?_ hHeld ?_
                  rotate_left; · (intro _ _ _; go_simp; try with_reducible rfl)
                  simp only [Act.put, p1, p2, p3]
                  refine tk (v := ?_) 2 57 HF rfl ?_ hHeld ?_
                  rotate_left; · (intro _ _ _; go_simp; try with_reducible rfl)
                  simp only [Act.put, p1, p2, p3]
                  refine tk (v := ?_) 4 59 HF rfl ?_ hHeld ?_
                  rotate_left; · (intro _ _ _; go_simp; try with_reducible rfl)
                  simp only [Act.put, p1, p2, p3]
                  refine tk (v := ?_) 7 62 HF rfl ?_ hHeld ?_
                  rotate_left; · (intro _ _ _; go_simp; try with_reducible rfl)
                  simp only [Act.put, p1, p2, p3]
                  refine tk (v := ?_) 8 63 HF rfl ?_ hHeld ?_
                  rotate_left; · (intro _ _ _; go_simp; try with_reducible rfl)
                  simp only [Act.put, p1, p2, p3]
                  refine tk (v := ?_) 9 64 HF rfl ?_ hHeld ?_
                  rotate_left; · (intro _ _ _; go_simp; try with_reducible rfl)
                  simp only [Act.put, p1, p2, p3]
                  refine wpAnyH_own_append2 (fuel := 1) (iC := 3) (iB := 5) (i2 := 6) (i3 := 10) (dC := 58) (dB := 60) (d2 := 61) (d3 := 65) (j3 := 64) rfl rfl rfl rfl ⟨rfl, rfl⟩ ⟨rfl, rfl⟩ (by kernel_rfl) (by kernel_rfl) (by kernel_rfl) (by kernel_rfl) (by kernel_rfl) (by decide) (by decide) (by simp) 3 1 8 (.int .i64 0) Tryd.underlying36 infoIntP rfl (by decide) (by decide) [(i : Int)] rfl (natsL (L.take k)) (natsL (L.drop k)) k (l - k) (gc - k) (some ⟨g, k, none⟩) ?runCPA ?runBPA rfl hHeld ?s3PA (by omega) ?nextPA
                  case runCPA =>
                    intro a' w1' K hev hb hK
                    have h1 : a'.eval (.tmp 57) = .slice (some ⟨g, 0, none⟩) k gc := (hev 57 (by decide)).trans rfl
                    have h2 : a'.tmps[57]?.getD undef = .slice (some ⟨g, 0, none⟩) k gc := by simpa [Act.eval] using h1
                    have hsr : ∀ w', Below w1'.heap.size w1' w' → Src w' 1 (some ⟨g, 0, none⟩) k gc (natsL (L.take k)) := fun w' hb' => by
                      have h := nrow_src (ownsRow_below HOWN.out (below_of hb hb' hb.size)) HN.out 0 k gc (by omega)
                      simpa using h
                    have HSR := Lib.hid hsr
                    have HK := Lib.hid hK
                    clear hev h1 hsr hK
                    go_simp
                    go_at_call 38
                    refine (l1Own_any _ k gc (natsL (L.take k)) w1' HSR.out (by omega)).mono ?_
                    rintro e w2 ⟨v', rfl, ho, hb2⟩
                    exact HK.out v' w2 ho hb2
                  case runBPA =>
                    intro a' w hev
                    have h1 : a'.eval (.tmp 59) = .int .i64 i := (hev 59 (by decide)).trans rfl
                    have h2 : a'.tmps[59]?.getD undef = .int .i64 i := by simpa [Act.eval] using h1
                    clear h1 hev
                    go_simp
                  case s3PA =>
                    intro w' hb'
                    have h := nrow_src (ownsRow_below HOWN.out hb') HN.out k (l - k) (gc - k) (by omega)
                    rw [List.take_of_length_le (by rw [List.length_drop, ← HN.out]; omega)] at h
                    exact h
  
                  case nextPA =>
                    intro u0 uB u2 g' c' w' hc1 hc2 hg1 hown' hB'
                    clear hHeld
                    have hHeld := hB'
                    simp only [Act.put, p1, p2, p3]
                    refine tk (v := ?_) 11 5 HF rfl ?_ hHeld ?_
                    rotate_left; · (intro _ _ _; go_simp; try with_reducible rfl)
                    simp only [Act.put, p1, p2, p3]
                    refine wpAnyH_done (by kernel_rfl) ?_ _
                    try simp only [Nat.add_zero] at hown' hc1
                    have hl : k + 1 + (l - k) = (insI (ordMv f) L i).length := by rw [insI_length]; have := HN.out; omega
                    have hrow : natsL (L.take k) ++ [(i : Int)] ++ natsL (L.drop k) = natsL (insI (ordMv f) L i) := by
                      have hst := HST.out
                      have hins : insI (ordMv f) L i = L.take k ++ i :: L.drop k := by unfold insI; rw [hst]
                      rw [hins]
                      simp [natsL]
                    rw [hrow] at hown'
                    have hr' := Lib.hid (NRow.of hl (ownsRow_monoP hown' hlo))
                    have hBn := below_of hBX hB' hBX.size
                    clear hown' hHeld
                    go_wp2
                    go_roundw
                    case rel => exact ⟨i + 1, by omega, by go_num, by rw [HPY.out HPB.out]; exact hr'.out, ownsRow_below HOUT.out hB', HXN.out.below hB', hBn⟩
                    case measure => simp [intOf]; omega
                · have hkl2 : k = l := by omega
                  clear hkl
                  subst hkl2
                  by_cases hgl : gc = k
                  · subst hgl
                    go_wp2_with fail
                    have HF : Hid (∀ w', Below wq.heap.size wq w' → True) := fun _ _ => trivial
                    refine wp_region_held_drew (S := fun w' => Below (wq).heap.size (wq) w') (by kernel_rfl) ((Below.refl _ _).drew) (fun hHeld => ?_)
                    refine tk (v := ?_) 0 55 HF rfl ?_ hHeld ?_
                    rotate_left; · (intro _ _ _; go_simp; try with_reducible rfl)
                    simp only [Act.put, p1, p2, p3]
                    refine tk (v := ?_) 1 56 HF rfl ?_ hHeld ?_
                    rotate_left; · (intro _ _ _; go_simp; try with_reducible rfl)
                    simp only [Act.put, p1, p2, p3]
                    refine tk (v := ?_) 2 57 HF rfl ?_ hHeld ?_
                    rotate_left; · (intro _ _ _; go_simp; try with_reducible rfl)
                    simp only [Act.put, p1, p2, p3]
                    refine tk (v := ?_) 4 59 HF rfl ?_ hHeld ?_
                    rotate_left; · (intro _ _ _; go_simp; try with_reducible rfl)
                    simp only [Act.put, p1, p2, p3]
                    refine tk (v := ?_) 7 62 HF rfl ?_ hHeld ?_
                    rotate_left; · (intro _ _ _; go_simp; try with_reducible rfl)
                    simp only [Act.put, p1, p2, p3]
                    refine tk (v := ?_) 8 63 HF rfl ?_ hHeld ?_
                    rotate_left; · (intro _ _ _; go_simp; try with_reducible rfl)
                    simp only [Act.put, p1, p2, p3]
                    refine tk (v := ?_) 9 64 HF rfl ?_ hHeld ?_
                    rotate_left; · (intro _ _ _; go_simp; try with_reducible rfl)
                    simp only [Act.put, p1, p2, p3]
                    refine wpAnyH_own_append2 (fuel := 1) (iC := 3) (iB := 5) (i2 := 6) (i3 := 10) (dC := 58) (dB := 60) (d2 := 61) (d3 := 65) (j3 := 64) rfl rfl rfl rfl ⟨rfl, rfl⟩ ⟨rfl, rfl⟩ (by kernel_rfl) (by kernel_rfl) (by kernel_rfl) (by kernel_rfl) (by kernel_rfl) (by decide) (by decide) (by simp) 3 1 8 (.int .i64 0) Tryd.underlying36 infoIntP rfl (by decide) (by decide) [(i : Int)] rfl (natsL (L.take gc)) (natsL (L.drop gc)) gc 0 (0) (some ⟨g, 0, none⟩) ?runCPB ?runBPB rfl hHeld ?s3PB (by omega) ?nextPB
                    case runCPB =>
                      intro a' w1' K hev hb hK
                      have h1 : a'.eval (.tmp 57) = .slice (some ⟨g, 0, none⟩) gc gc := (hev 57 (by decide)).trans rfl
                      have h2 : a'.tmps[57]?.getD undef = .slice (some ⟨g, 0, none⟩) gc gc := by simpa [Act.eval] using h1
                      have hsr : ∀ w', Below w1'.heap.size w1' w' → Src w' 1 (some ⟨g, 0, none⟩) gc gc (natsL (L.take gc)) := fun w' hb' => by
                        have h := nrow_src (ownsRow_below HOWN.out (below_of hb hb' hb.size)) HN.out 0 gc gc (by omega)
                        simpa using h
                      have HSR := Lib.hid hsr
                      have HK := Lib.hid hK
                      clear hev h1 hsr hK
                      go_simp
                      go_at_call 38
                      refine (l1Own_any _ gc gc (natsL (L.take gc)) w1' HSR.out (by omega)).mono ?_
                      rintro e w2 ⟨v', rfl, ho, hb2⟩
                      exact HK.out v' w2 ho hb2
                    case runBPB =>
                      intro a' w hev
                      have h1 : a'.eval (.tmp 59) = .int .i64 i := (hev 59 (by decide)).trans rfl
                      have h2 : a'.tmps[59]?.getD undef = .int .i64 i := by simpa [Act.eval] using h1
                      clear h1 hev
                      go_simp
                    case s3PB =>
                      intro w' hb'
                      refine ⟨by rw [natsL_len, List.length_drop, ← HN.out]; omega, (by intro h; cases h), fun ad had j u hu => ?_⟩
                      have hl := (List.getElem?_eq_some_iff.1 hu).1
                      rw [natsL_len, List.length_drop, ← HN.out] at hl
                      omega
                    case nextPB =>
                      intro u0 uB u2 g' c' w' hc1 hc2 hg1 hown' hB'
                      clear hHeld
                      have hHeld := hB'
                      simp only [Act.put, p1, p2, p3]
                      refine tk (v := ?_) 11 5 HF rfl ?_ hHeld ?_
                      rotate_left; · (intro _ _ _; go_simp; try with_reducible rfl)
                      simp only [Act.put, p1, p2, p3]
                      refine wpAnyH_done (by kernel_rfl) ?_ _
                      try simp only [Nat.add_zero] at hown' hc1
                      have hl : gc + 1 = (insI (ordMv f) L i).length := by rw [insI_length]; have := HN.out; omega
                      have hrow : natsL (L.take gc) ++ [(i : Int)] ++ natsL (L.drop gc) = natsL (insI (ordMv f) L i) := by
                        have hst := HST.out
                        have hins : insI (ordMv f) L i = L.take gc ++ i :: L.drop gc := by unfold insI; rw [hst]
                        rw [hins]
                        simp [natsL]
                      rw [hrow] at hown'
                      have hr' := Lib.hid (NRow.of hl (ownsRow_monoP hown' hlo))
                      have hBn := below_of hBX hB' hBX.size
                      clear hown' hHeld
                      go_wp2
                      go_roundw
                      case rel => exact ⟨i + 1, by omega, by go_num, by rw [HPY.out HPB.out]; exact hr'.out, ownsRow_below HOUT.out hB', HXN.out.below hB', hBn⟩
                      case measure => simp [intOf]; omega
                  · have hkg : k ≤ gc := by omega
                    have hkg2 : (k : Int) ≤ (gc : Int) := by omega
                    go_wp2_with fail
                    have HF : Hid (∀ w', Below wq.heap.size wq w' → True) := fun _ _ => trivial
                    refine wp_region_held_drew (S := fun w' => Below (wq).heap.size (wq) w') (by kernel_rfl) ((Below.refl _ _).drew) (fun hHeld => ?_)
                    refine tk (v := ?_) 0 55 HF rfl ?_ hHeld ?_
                    rotate_left; · (intro _ _ _; go_simp; try with_reducible rfl)
                    simp only [Act.put, p1, p2, p3]
                    refine tk (v := ?_) 1 56 HF rfl ?_ hHeld ?_
                    rotate_left; · (intro _ _ _; go_simp; try with_reducible rfl)
                    simp only [Act.put, p1, p2, p3]
                    refine tk (v := ?_) 2 57 HF rfl ?_ hHeld ?_
                    rotate_left; · (intro _ _ _; go_simp; try with_reducible rfl)
                    simp only [Act.put, p1, p2, p3]
                    refine tk (v := ?_) 4 59 HF rfl ?_ hHeld ?_
                    rotate_left; · (intro _ _ _; go_simp; try with_reducible rfl)
                    simp only [Act.put, p1, p2, p3]
                    refine tk (v := ?_) 7 62 HF rfl ?_ hHeld ?_
                    rotate_left; · (intro _ _ _; go_simp; try with_reducible rfl)
                    simp only [Act.put, p1, p2, p3]
                    refine tk (v := ?_) 8 63 HF rfl ?_ hHeld ?_
                    rotate_left; · (intro _ _ _; go_simp; try with_reducible rfl)
                    simp only [Act.put, p1, p2, p3]
                    refine tk (v := ?_) 9 64 HF rfl ?_ hHeld ?_
                    rotate_left; · (intro _ _ _; go_simp; try with_reducible rfl)
                    simp only [Act.put, p1, p2, p3]
                    refine wpAnyH_own_append2 (fuel := 1) (iC := 3) (iB := 5) (i2 := 6) (i3 := 10) (dC := 58) (dB := 60) (d2 := 61) (d3 := 65) (j3 := 64) rfl rfl rfl rfl ⟨rfl, rfl⟩ ⟨rfl, rfl⟩ (by kernel_rfl) (by kernel_rfl) (by kernel_rfl) (by kernel_rfl) (by kernel_rfl) (by decide) (by decide) (by simp) 3 1 8 (.int .i64 0) Tryd.underlying36 infoIntP rfl (by decide) (by decide) [(i : Int)] rfl (natsL (L.take k)) (natsL (L.drop k)) k 0 (gc - k) (some ⟨g, k, none⟩) ?runCPC ?runBPC rfl hHeld ?s3PC (by omega) ?nextPC
                    case runCPC =>
                      intro a' w1' K hev hb hK
                      have h1 : a'.eval (.tmp 57) = .slice (some ⟨g, 0, none⟩) k gc := (hev 57 (by decide)).trans rfl
                      have h2 : a'.tmps[57]?.getD undef = .slice (some ⟨g, 0, none⟩) k gc := by simpa [Act.eval] using h1
                      have hsr : ∀ w', Below w1'.heap.size w1' w' → Src w' 1 (some ⟨g, 0, none⟩) k gc (natsL (L.take k)) := fun w' hb' => by
                        have h := nrow_src (ownsRow_below HOWN.out (below_of hb hb' hb.size)) HN.out 0 k gc (by omega)
                        simpa using h
                      have HSR := Lib.hid hsr
                      have HK := Lib.hid hK
                      clear hev h1 hsr hK
                      go_simp
                      go_at_call 38
                      refine (l1Own_any _ k gc (natsL (L.take k)) w1' HSR.out (by omega)).mono ?_
                      rintro e w2 ⟨v', rfl, ho, hb2⟩
                      exact HK.out v' w2 ho hb2
                    case runBPC =>
                      intro a' w hev
                      have h1 : a'.eval (.tmp 59) = .int .i64 i := (hev 59 (by decide)).trans rfl
                      have h2 : a'.tmps[59]?.getD undef = .int .i64 i := by simpa [Act.eval] using h1
                      clear h1 hev
                      go_simp
                    case s3PC =>
                      intro w' hb'
                      refine ⟨by rw [natsL_len, List.length_drop, ← HN.out]; omega, (by intro h; cases h), fun ad had j u hu => ?_⟩
                      have hl := (List.getElem?_eq_some_iff.1 hu).1
                      rw [natsL_len, List.length_drop, ← HN.out] at hl
                      omega
                    case nextPC =>
                      intro u0 uB u2 g' c' w' hc1 hc2 hg1 hown' hB'
                      clear hHeld
                      have hHeld := hB'
                      simp only [Act.put, p1, p2, p3]
                      refine tk (v := ?_) 11 5 HF rfl ?_ hHeld ?_
                      rotate_left; · (intro _ _ _; go_simp; try with_reducible rfl)
                      simp only [Act.put, p1, p2, p3]
                      refine wpAnyH_done (by kernel_rfl) ?_ _
                      try simp only [Nat.add_zero] at hown' hc1
                      have hl : k + 1 = (insI (ordMv f) L i).length := by rw [insI_length]; have := HN.out; omega
                      have hrow : natsL (L.take k) ++ [(i : Int)] ++ natsL (L.drop k) = natsL (insI (ordMv f) L i) := by
                        have hst := HST.out
                        have hins : insI (ordMv f) L i = L.take k ++ i :: L.drop k := by unfold insI; rw [hst]
                        rw [hins]
                        simp [natsL]
                      rw [hrow] at hown'
                      have hr' := Lib.hid (NRow.of hl (ownsRow_monoP hown' hlo))
                      have hBn := below_of hBX hB' hBX.size
                      clear hown' hHeld
                      go_wp2
                      go_roundw
                      case rel => exact ⟨i + 1, by omega, by go_num, by rw [HPY.out HPB.out]; exact hr'.out, ownsRow_below HOUT.out hB', HXN.out.below hB', hBn⟩
                      case measure => simp [intOf]; omega
      · have hni : ¬ ((i : Int) < (n : Int)) := by omega
        have hin : i = n := by omega
        subst hin
        have hl6 := ordL_len f i
        have HLT := Lib.hid (ordL_lt f i)
        generalize ordL f i = L at *
        obtain ⟨g, gc, rfl, hgc, hgcm, hgl0, hg0, hown⟩ := HO.out
        obtain ⟨l, hl⟩ : ∃ l, l = L.length := ⟨_, rfl⟩
        rw [← hl] at hgc hl6 hown ⊢
        have HN := Lib.hid hl
        have HOW := Lib.hid hown
        clear hown hl hgcm HO
        obtain ⟨w2, hw2⟩ : ∃ x, x = wr := ⟨_, rfl⟩
        subst hw2
        go_wp2_with fail
        clear b0
        go_loopw [4, 8] (fun v kv wr => ∃ k : Nat, k ≤ l ∧ kv = .int .i64 k ∧ ((k = 0 ∧ v = (.slice (some ⟨w.heap.size + 1, 0, none⟩) 0 0)) ∨ (0 < k ∧ wr.ownsRow w2.heap.size 3 1 v k ((idsP f (L.take k)).map (Value.int .i64)))) ∧ Below w2.heap.size w2 wr) (fun _ kv _ => l - (intOf kv).toNat)
        case atStart => exact ⟨0, Nat.zero_le _, rfl, Or.inl ⟨rfl, rfl⟩, Below.refl _ _⟩
        case round =>
          obtain ⟨k, hk, rfl, hv, hbel⟩ := hrel
          have hbx := (hbel.block w.heap.size HX.out.lt).trans HX.out
          have z0 : wr.cell? ⟨w.heap.size, 0, none⟩ = some (.slice A i c) := by rw [cell_of_row wr w.heap.size 0 _ _ (0, 0) hbx]; rfl
          clear hbx
          by_cases hkl : k < l
          · have hkL : k < L.length := by rw [← HN.out]; exact hkl
            have hpn : L.getD k 0 < i := by
              rw [List.getD_eq_getElem?_getD, List.getElem?_eq_getElem hkL]
              exact HLT.out _ (List.getElem_mem _)
            have HPS : Hid (idsP f (L.take (k + 1)) = idsP f (L.take k) ++ [f (L.getD k 0 * 4)]) := by
              show _ = _
              rw [List.take_succ_eq_append_getElem hkL, idsP, idsP, List.map_append, List.getD_eq_getElem?_getD, List.getElem?_eq_getElem hkL]
              rfl
            obtain ⟨b, off, rfl, _, _⟩ := HSW.out.open_ hB (by omega)
            have HF : Hid (∀ w', Below w2.heap.size w2 w' → w'.cell? ⟨w.heap.size, 0, none⟩ = some (.slice (some ⟨b, off, none⟩) i c) ∧ w'.cell? ⟨g, k, none⟩ = some (.int .i64 ((L.getD k 0 : Nat) : Int)) ∧ w'.cell? ⟨b, off + L.getD k 0 * 4, none⟩ = some (.int .i64 (f (L.getD k 0 * 4)))) := by
              intro w' hb'
              obtain ⟨_, HC⟩ := HSW.out.open_at (below_of hB hb' hB.size) (by omega)
              exact ⟨by rw [cell_of_row w' w.heap.size 0 _ _ (0, 0) ((hb'.block w.heap.size HX.out.lt).trans HX.out)]; rfl, (hb'.cell (p := ⟨g, k, none⟩) hgl0).trans (nrow_cell HOW.out HN.out k hkl), (cell4 HC hpn).1⟩
            have HPL : Hid ((idsP f (L.take k)).length = k) := by show _ = _; rw [idsP, List.length_map, List.length_take]; omega
            generalize L.getD k 0 = p at *
            have ga : (0 : Int) ≤ (p : Int) := by omega
            have gb : (p : Int) < (i : Int) := by omega
            have hk0i : (0 : Int) ≤ (k : Int) := by omega
            have hkli : (k : Int) < (l : Int) := by omega
            rcases hv with ⟨hk0, rfl⟩ | ⟨hk0, hown⟩
            · have HK0 := Lib.hid hk0
              clear hk0 HPL
              go_wp2_with fail
              refine wp_region_held_drew (S := fun w' => Below w2.heap.size w2 w') (by kernel_rfl) (hbel.drew) (fun hHeld => ?_)
              refine tk (v := ?_) 0 72 HF rfl ?_ hHeld ?_
              rotate_left; · (intro _ _ _; go_simp; try with_reducible rfl)
              simp only [Act.put, p1, p2, p3]
              refine tk (v := ?_) 1 73 HF rfl ?_ hHeld ?_
              rotate_left; · (intro _ _ _; go_simp; try with_reducible rfl)
              simp only [Act.put, p1, p2, p3]
              refine tk (v := ?_) 2 74 HF rfl ?_ hHeld ?_
              rotate_left; · (intro _ _ _; go_simp; try with_reducible rfl)
              simp only [Act.put, p1, p2, p3]
              refine tk (v := ?_) 3 75 HF rfl ?_ hHeld ?_
              rotate_left; · (intro _ _ _; go_simp; try with_reducible rfl)
              simp only [Act.put, p1, p2, p3]
              refine tk (v := ?_) 4 76 HF rfl ?_ hHeld ?_
              rotate_left; · (intro _ _ _; go_simp; try with_reducible rfl)
              simp only [Act.put, p1, p2, p3]
              refine tk (v := ?_) 5 77 HF rfl ?_ hHeld ?_
              rotate_left; · (intro _ _ _; go_simp; try with_reducible rfl)
              simp only [Act.put, p1, p2, p3]
              refine tk (v := ?_) 6 78 HF rfl ?_ hHeld ?_
              rotate_left; · (intro _ _ _; go_simp; try with_reducible rfl)
              simp only [Act.put, p1, p2, p3]
              refine tk (v := ?_) 7 79 HF rfl ?_ hHeld ?_
              rotate_left; · (intro _ _ _; go_simp; try with_reducible rfl)
              simp only [Act.put, p1, p2, p3]
              refine tk (v := ?_) 8 80 HF rfl ?_ hHeld ?_
              rotate_left; · (intro _ _ _; go_simp; try with_reducible rfl)
              simp only [Act.put, p1, p2, p3]
              refine tk (v := ?_) 9 81 HF rfl ?_ hHeld ?_
              rotate_left; · (intro _ _ _; go_simp; try with_reducible rfl)
              simp only [Act.put, p1, p2, p3]
              refine wpAnyH_new (fuel := 2) (i := 10) (d := 82) (obj := .cells #[.int .i64 (f (p * 4))] 3) (v := .slice (some ⟨wr.heap.size, 0, none⟩) 1 1) rfl ⟨rfl, rfl⟩ (by kernel_rfl) hHeld (by go_simp; try rfl) ?_
              intro hHeld2
              refine wpAnyH_app0 (fuel := 1) (i := 11) (ds := 72) (d := 83) (j := 82) (b := ⟨w.heap.size + 1, 0, none⟩) (ad := ⟨wr.heap.size, 0, none⟩) rfl (by kernel_rfl) 3 1 8 (.int .i64 0) Tryd.underlying36 infoIntP rfl (by decide) (by decide) [f (p * 4)] 1 1 rfl rfl hHeld2 rfl ?c0 (by decide) (by decide) ?n0
              case c0 =>
                intro j u hu
                match j, hu with
                | 0, hu => simp at hu; subst hu; simp [Addr.add]; rw [cell_of_row _ wr.heap.size 0 _ _ (0, 0) (heap_alloc_new wr.drew _)]; rfl
              case n0 =>
                intro v' w3 hown3 hB3 hb30
                have hHeld := hB3
                simp only [Act.put, p1, p2, p3]
                refine tk (v := ?_) 12 4 HF rfl ?_ hHeld ?_
                rotate_left; · (intro _ _ _; go_simp; try with_reducible rfl)
                simp only [Act.put, p1, p2, p3]
                refine wpAnyH_done (by kernel_rfl) ?_ _
                have ho3 := Lib.hid (ownsRow_monoP hown3 (show w2.heap.size ≤ _ from hHeld2.size))
                clear hown3 hHeld hHeld2
                go_wp2
                go_roundw
                case rel => exact ⟨k + 1, by omega, by go_num, Or.inr ⟨by omega, by rw [HPS.out, HK0.out]; exact ho3.out⟩, hB3⟩
                case measure => simp [intOf]; omega
            · have HOO := Lib.hid hown
              clear hown
              go_wp2_with fail
              refine wp_region_held_drew (S := fun w' => Below w2.heap.size w2 w') (by kernel_rfl) (hbel.drew) (fun hHeld => ?_)
              refine tk (v := ?_) 0 72 HF rfl ?_ hHeld ?_
              rotate_left; · (intro _ _ _; go_simp; try with_reducible rfl)
              simp only [Act.put, p1, p2, p3]
              refine tk (v := ?_) 1 73 HF rfl ?_ hHeld ?_
              rotate_left; · (intro _ _ _; go_simp; try with_reducible rfl)
              simp only [Act.put, p1, p2, p3]
              refine tk (v := ?_) 2 74 HF rfl ?_ hHeld ?_
              rotate_left; · (intro _ _ _; go_simp; try with_reducible rfl)
              simp only [Act.put, p1, p2, p3]
              refine tk (v := ?_) 3 75 HF rfl ?_ hHeld ?_
              rotate_left; · (intro _ _ _; go_simp; try with_reducible rfl)
              simp only [Act.put, p1, p2, p3]
              refine tk (v := ?_) 4 76 HF rfl ?_ hHeld ?_
              rotate_left; · (intro _ _ _; go_simp; try with_reducible rfl)
              simp only [Act.put, p1, p2, p3]
              refine tk (v := ?_) 5 77 HF rfl ?_ hHeld ?_
              rotate_left; · (intro _ _ _; go_simp; try with_reducible rfl)
              simp only [Act.put, p1, p2, p3]
              refine tk (v := ?_) 6 78 HF rfl ?_ hHeld ?_
              rotate_left; · (intro _ _ _; go_simp; try with_reducible rfl)
              simp only [Act.put, p1, p2, p3]
              refine tk (v := ?_) 7 79 HF rfl ?_ hHeld ?_
              rotate_left; · (intro _ _ _; go_simp; try with_reducible rfl)
              simp only [Act.put, p1, p2, p3]
              refine tk (v := ?_) 8 80 HF rfl ?_ hHeld ?_
              rotate_left; · (intro _ _ _; go_simp; try with_reducible rfl)
              simp only [Act.put, p1, p2, p3]
              refine tk (v := ?_) 9 81 HF rfl ?_ hHeld ?_
              rotate_left; · (intro _ _ _; go_simp; try with_reducible rfl)
              simp only [Act.put, p1, p2, p3]
              refine wpAnyH_new (fuel := 2) (i := 10) (d := 82) (obj := .cells #[.int .i64 (f (p * 4))] 3) (v := .slice (some ⟨wr.heap.size, 0, none⟩) 1 1) rfl ⟨rfl, rfl⟩ (by kernel_rfl) hHeld (by go_simp; try rfl) ?_
              intro hHeld2
              refine wpAnyH_app (fuel := 1) (i := 11) (ds := 72) (d := 83) (j := 82) rfl (by kernel_rfl) 3 1 8 (.int .i64 0) Tryd.underlying36 infoIntP rfl (by decide) (by decide) (idsP f (L.take k)) [f (p * 4)] k 1 1 u4 (some ⟨wr.heap.size, 0, none⟩) rfl rfl hHeld2 (HOO.out.alloc _) ⟨rfl, (by intro h; cases h), ?c1⟩ (by omega) ?n1
              case c1 =>
                intro ad had j u hu
                cases had
                match j, hu with
                | 0, hu => simp at hu; subst hu; simp [Addr.add]; rw [cell_of_row _ wr.heap.size 0 _ _ (0, 0) (heap_alloc_new wr.drew _)]; rfl
              case n1 =>
                intro v' w3 hown3 hB3 _
                have hHeld := hB3
                simp only [Act.put, p1, p2, p3]
                refine tk (v := ?_) 12 4 HF rfl ?_ hHeld ?_
                rotate_left; · (intro _ _ _; go_simp; try with_reducible rfl)
                simp only [Act.put, p1, p2, p3]
                refine wpAnyH_done (by kernel_rfl) ?_ _
                have ho3 := Lib.hid hown3
                clear hown3 hHeld hHeld2
                go_wp2
                go_roundw
                case rel => exact ⟨k + 1, by omega, by go_num, Or.inr ⟨by omega, by rw [HPS.out]; exact ho3.out⟩, hB3⟩
                case measure => simp [intOf]; omega
          · have hkl2 : k = l := by omega
            have hfin : Hid (idsP f (L.take k) = idsP f L) := by show _ = _; rw [List.take_of_length_le (by rw [← HN.out]; omega)]
            have hPl : Hid ((idsP f L).length = k) := by show _ = _; rw [idsP, List.length_map, ← HN.out]; exact hkl2.symm
            have hkli : ¬ ((k : Int) < (l : Int)) := by omega
            have hBF := Lib.hid (below_of hB hbel hB.size)
            clear hkl2 hkl
            rcases hv with ⟨hk0, rfl⟩ | ⟨hk0, hown⟩
            · have hz : Hid (wr.ownsRow w.heap.size 3 1 (.slice (some ⟨w.heap.size + 1, 0, none⟩) 0 0) 0 []) := ownsRow_below HU.out hbel
              have hnil : Hid (idsP f L = []) := List.length_eq_zero_iff.1 (hPl.out.trans hk0)
              clear hk0
              go_wp2
              go_ret2
              rw [hnil.out]
              exact IntsPost.mk_ (zs := []) hz.out hBF.out
            · have hz : Hid (wr.ownsRow w.heap.size 3 1 u4 (idsP f L).length ((idsP f L).map (Value.int .i64))) := by
                show World.ownsRow _ _ _ _ _ _ _
                rw [hPl.out, ← hfin.out]
                exact ownsRow_monoP hown hB.size
              clear hown
              go_wp2
              go_ret2
              exact IntsPost.mk_ hz.out hBF.out
end Go.Proofs.YtjkockhldaacbaaDoor
