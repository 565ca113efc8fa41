/-
  Texts of this claim, merged.
-/
import Derived.Test.YtpndjhelpoenpaaGreatDoorXA10
set_option linter.unusedVariables false
set_option linter.unusedSimpArgs false
set_option maxRecDepth 100000
set_option maxHeartbeats 8000000
namespace Go.Proofs.YtpndjhelpoenpaaGreatDoor
open Go.RowKit Go.Sort
attribute [local go_sem ↓] Go.wp_at_zero Go.wp_at_succ
theorem below_growN {w : World} (n : Nat) (os : Array Obj) : bW w (grow (w.drewN n) os) :=
 ⟨rfl, rfl, rfl, by simp [World.drewN], fun k hk => heap_grow_old (w.drewN n) os (by exact hk)⟩
section
variable {P : Program} {md : Region.Mode} {ops : Array Oper} {Q : Exit → Act → World → Prop} {X : World}
theorem wpAnyH_new {i d : Nat} {fuel : Nat} {listed : Array Bool} {a : Act} {w : World} {o : Oper} {obj : Obj} {v : Value} (ho : ops[i]? = some o) (hgd : o.guard = none ∧ o.dst = some d) (hr : Region.ready md ops listed = [i])
  (hS : bW X w) (run : (execOp a.eval o).run P w = .ok (.value v) (w.alloc obj))
  (h : bW X (w.alloc obj) → wpAnyH P md ops Q (fun w' => bW X w') fuel (listed.setIfInBounds i true) (a.put (some d) v) (w.alloc obj)) :
  wpAnyH P md ops Q (fun w' => bW X w') (fuel + 1) listed a w := by
 refine wpAnyH_ready hr (by simp) (AllReadyH.cons ho (fun K hK => ?_) AllReadyH.nil)
 rw [if_pos (wanted_plain hgd.1)]
 refine oper_wp_value run ?_
 rw [hgd.2]
 have hB := hS.alloc hS.size obj
 exact hK.out _ _ hB (fun _ => h hB)
theorem wpAnyH_app0 {i ds d j : Nat} {fuel : Nat} {listed : Array Bool} {a : Act} {w : World} {t ty : TypeId} {pos : String} {af : Array Edge} {b : Addr} {ad : Addr}
  (ho : ops[i]? = some ⟨some d, .call { callee := .builtin .append, args := #[.tmp ds, .tmp j], argTypes := #[t, t] }, ty, pos, af, none⟩) (hr : Region.ready md ops listed = [i])
  (e : TypeId) (k bytes : Nat) (z : Value) (ht : P.underlying t = some (.slice e))
  (hinfo : (P.info? e).map (fun i => (i.zero, i.size, i.bytes)) = some (some z, k, bytes)) (hzk : z.cells.size = k) (hk : 0 < k) (hkb : bytes ≤ 1000)
  (news : List Int) (m c : Nat) (hev : a.eval (.tmp ds) = .slice (some b) 0 0) (hex : a.eval (.tmp j) = .slice (some ad) m c)
  (hS : bW X w) (hl : news.length = m * k) (hc : ∀ j u, news[j]? = some u → w.cell? (ad.add j) = some (.int .i64 u)) (hm : 0 < m) (hlen : m ≤ 100000000)
  (h : ∀ v' w', w'.ownsRow w.heap.size e k v' m (news.map (Value.int .i64)) → bW X w' → bW w w' →
   wpAnyH P md ops Q (fun w' => bW X w') fuel (listed.setIfInBounds i true) (a.put (some d) v') w') :
  wpAnyH P md ops Q (fun w' => bW X w') (fuel + 1) listed a w := by
 obtain ⟨i0, hi, hz0, hz1, hz2⟩ := info_parts hinfo
 have hb : m * bytes ≤ 100000000 * 1000 := Nat.mul_le_mul hlen hkb
 obtain ⟨v', w', hrun, r1, r2⟩ := run_append_arg_grows (P := P) w t ty e i0 z k bytes ht hi hz0 hz1 hz2 hzk hk b 0 0 [] (by simp) (fun j u hu => by simp at hu) ad m c (news.map (Value.int .i64)) (by simpa using hl)
  (fun j u hu => by
   exact z94) (by omega) (by unfold maxLen; omega) (by rw [Nat.zero_add]; omega)
 refine z95 ?_
 intro K hK
 refine oper_wp_append _ _ _ rfl hev hex hrun ?_
 have hB0 : bW w w' := (Below.refl _ _).grown r2 nL (fun k hk => by cases hk)
 have hB := hS.trans (hB0.mono hS.size)
 refine hK.out _ _ hB (fun _ => h v' w' (by simpa using r1) hB hB0)
end
def natsL (L : List Nat) : List Int := L.map fun p : Nat => (p : Int)
theorem natsL_len (L : List Nat) : (natsL L).length = L.length := by simp [natsL]
def NRow (w : World) (lo : Nat) (v : Value) (L : List Nat) : Prop := ∃ g c, v = .slice (some ⟨g, 0, none⟩) L.length c ∧ L.length ≤ c ∧ c ≤ maxLen ∧ g < w.heap.size ∧ lo ≤ g ∧ w.ownsRow lo 3 1 v L.length ((natsL L).map (Value.int .i64))
theorem NRow.of {w : World} {lo g c n : Nat} {L : List Nat} (hn : n = L.length) (h : w.ownsRow lo 3 1 (.slice (some ⟨g, 0, none⟩) n c) n ((natsL L).map (Value.int .i64))) : NRow w lo (.slice (some ⟨g, 0, none⟩) n c) L := by
 subst hn
 have hlt := World.ownsRow.lt h g rfl
 have hh := h
 rcases h.2 with ⟨h0, _⟩ | ⟨g', cap, cur, hv, hb, hg, hnc, hcm, _⟩
 ·cases h0
 ·cases hv
  exact ⟨g, c, rfl, hnc, hcm, hlt.2, hb, hh⟩
theorem NRow.below {w w' : World} {lo : Nat} {v : Value} {L : List Nat} (h : NRow w lo v L) (hb : bW w w') : NRow w' lo v L := by
 obtain ⟨g, c, e, h1, h2, h3, h4, h5⟩ := h
 exact ⟨g, c, e, h1, h2, Nat.lt_of_lt_of_le h3 hb.size, h4, ownsRow_below h5 hb⟩
theorem natsL_get {L : List Nat} {j : Nat} (hj : j < L.length) : (natsL L)[j]? = some ((L.getD j 0 : Nat) : Int) := by
 simp [natsL, List.getD_eq_getElem?_getD, hj]
theorem nrow_cell {w : World} {lo g c n : Nat} {L : List Nat} (h : w.ownsRow lo 3 1 (.slice (some ⟨g, 0, none⟩) n c) n ((natsL L).map (Value.int .i64))) (hn : n = L.length) (j : Nat) (hj : j < n) : cI w g j ((L.getD j 0 : Nat) : Int) := by
 subst hn
 rw [World.ownsRow.cellAt h j (by omega), List.getElem?_map, natsL_get hj]
 rfl
theorem nrow_src {w : World} {lo g c n : Nat} {L : List Nat} (h : w.ownsRow lo 3 1 (.slice (some ⟨g, 0, none⟩) n c) n ((natsL L).map (Value.int .i64))) (hn : n = L.length) (k m c' : Nat) (hk : k + m ≤ n) : Src w 1 (some ⟨g, k, none⟩) m c' (natsL ((L.drop k).take m)) := by
 subst hn
 refine ⟨by rw [natsL_len]; simp; omega, (by intro h; cases h), fun ad had j u hu => ?_⟩
 cases had
 have hj : j < m := by
  have := (List.getElem?_eq_some_iff.1 hu).1
  rw [natsL_len] at this
  simp at this
  omega
 have e1 : (natsL L)[k + j]? = some u := by
  rw [← hu]
  simp only [natsL, List.getElem?_map, List.getElem?_take_of_lt hj, List.getElem?_drop]
 rw [Addr.add_lit, World.ownsRow.cellAt h (k + j) (by omega), List.getElem?_map, e1]
 rfl
def WBox (w : World) (g : Nat) (A : Option Addr) (n c : Nat) (I H S P : Int) : Prop := w.heap[g]? = some (.cells (wB A n c I H S P) 32 (0, 0))
theorem WBox.lt {w : World} {g : Nat} {A : Option Addr} {n c : Nat} {I H S P : Int} (h : WBox w g A n c I H S P) : g < w.heap.size := (gL h)
theorem WBox.below {w w' : World} {g : Nat} {A : Option Addr} {n c : Nat} {I H S P : Int} (h : WBox w g A n c I H S P) (hb : bW w w') : WBox w' g A n c I H S P := (hb.block g h.lt).trans h
theorem WBox.cell0 {w : World} {g : Nat} {A : Option Addr} {n c : Nat} {I H S P : Int} (h : WBox w g A n c I H S P) : cE w g 0 (.slice A n c) := by
 rw [cell_of_row w g 0 _ _ (0, 0) h]; rfl
theorem WBox.grown {w w' : World} {g lo k m : Nat} {e : TypeId} {v : Value} {xs : List Value} {A : Option Addr} {n c : Nat} {I H S P : Int} (h : WBox w g A n c I H S P) (hown : w.ownsRow lo e k v m xs) (he : e ≠ 32) (hg : w.grownBy w' v.ownBlock) : WBox w' g A n c I H S P :=
 (hg.block g h.lt (by
  intro hq
  rcases hown.2 with ⟨rfl, _⟩ | ⟨G, cap, cur, rfl, _, hG, _⟩
  ·simp [Value.ownBlock] at hq
  ·simp [Value.ownBlock] at hq
   subst hq
   unfold WBox at h
   rw [h] at hG
   simp at hG
   exact he hG.2.symm)).trans h
def strV (wa sa wb sb : Int) : Bool := decide (wrap64 (sb * wa) < wrap64 (sa * wb))
theorem str_mv {f : Nat → Int} {n : Nat} {I H S P : Int} (hg : goodWorks f n I H S P = true) {i p : Nat} (hi : i < n) (hp : p < n) :
  strV (f (i * 4 + 2)) (f (i * 4 + 3)) (f (p * 4 + 2)) (f (p * 4 + 3)) = ordMv f p i := by
 obtain ⟨a1, a2, a3, a4, _⟩ := good_brine hg hi
 obtain ⟨b1, b2, b3, b4, _⟩ := good_brine hg hp
 have m1 : massAt f i = f (i * 4 + 2) + f (i * 4 + 3) := IntWalk.wrap64_in _ ⟨by omega, by omega⟩
 have m2 : massAt f p = f (p * 4 + 2) + f (p * 4 + 3) := IntWalk.wrap64_in _ ⟨by omega, by omega⟩
 unfold strV ordMv
 rw [m1, m2]
 generalize f (i * 4 + 2) = wi at *
 generalize f (i * 4 + 3) = si at *
 generalize f (p * 4 + 2) = wp at *
 generalize f (p * 4 + 3) = sp at *
 have bd : ∀ x y : Int, 0 ≤ x → x ≤ 1000000 → 0 ≤ y → y ≤ 1000000 → 0 ≤ x * y ∧ x * y ≤ 1000000000000 := fun x y h1 h2 h3 h4 => ⟨Int.mul_nonneg h1 h3, by
  have := Int.mul_le_mul h2 h4 h3 (by omega : (0 : Int) ≤ 1000000)
  omega⟩
 have c1 := bd sp wi b3 b4 a1 a2
 have c2 := bd si wp a3 a4 b1 b2
 have c3 := bd si sp a3 a4 b3 b4
 have d1 : sp * (wi + si) = sp * wi + si * sp := by rw [Int.mul_add, Int.mul_comm sp si]
 have d2 : si * (wp + sp) = si * wp + si * sp := by rw [Int.mul_add]
 rw [d1, d2]
 generalize sp * wi = x at *
 generalize si * wp = y at *
 generalize si * sp = z at *
 rw [IntWalk.wrap64_in x ⟨by omega, by omega⟩, IntWalk.wrap64_in y ⟨by omega, by omega⟩, IntWalk.wrap64_in (x + z) ⟨by omega, by omega⟩, IntWalk.wrap64_in (y + z) ⟨by omega, by omega⟩]
 rw [Bool.eq_iff_iff]
 simp only [decide_eq_true_eq]
 omega
theorem l2StrongerG_any (wa sa wb sb : Int) (w : World) :
  Calls Tryz.prog 159 #[.agg (jV wa sa), .agg (jV wb sb)] w fun e w' => e = .returned (.bool (strV wa sa wb sb)) ∧ ∃ q os', w' = grow (w.drewN q) os' := by
 go_enter Tryz.func159, Tryz.ntmps159
 go_wp2
 go_ret
 exact ⟨rfl, 0, _, by rw [alloc_eq_grow, alloc_eq_grow, grow_grow]; rfl⟩
theorem l1Own_any (A : Option Addr) (n c : Nat) (zs : List Int) (w : World) (hs : ∀ w', bW w w' → Src w' 1 A n c zs) (hn : n ≤ 1000000) :
  Calls Tryz.prog 160 #[.slice A n c] w fun e w' => ∃ v', e = .returned v' ∧ w'.ownsRow w.heap.size 3 1 v' n (zs.map (Value.int .i64)) ∧ bW w w' := by
 have hal := (Below.refl w.heap.size w).alloc nL (.cells #[] 3)
 have hro := World.ownsRow_made (base := w.heap.size) (e := 3) (size := 1) w #[] 0 nL (Nat.zero_le _) (by simp)
 cases A with
 | none =>
  obtain ⟨rfl, rfl⟩ := (hs w (Below.refl _ _)).nil rfl
  have hz : zs = [] := by have := (hs w (Below.refl _ _)).len; exact List.length_eq_zero_iff.1 (by simpa using this)
  subst hz
  have HRO := lh hro
  have HAL := lh hal
  clear hro hal hs
  obtain ⟨i, hi, hz0, hz1, hz2⟩ := info_parts infoIntP
  go_enter Tryz.func160, Tryz.ntmps160
  go_wp2
  go_ret
  exact ⟨_, rfl, HRO.out, HAL.out⟩
 | some ad =>
  have hsr := (hs _ hal)
  have HS := lh hsr
  have HRO := lh hro
  have HAL := lh hal
  clear hro hal hs hsr
  go_enter Tryz.func160, Tryz.ntmps160
  go_wp2_with (at_builtin; refine wpList_append_flat _ rfl _ _ 101 rfl w.heap.size 3 1 8 (.int .i64 0) Tryz.underlying101 infoIntP rfl (by decide) (by decide) [] zs 0 n c (.slice (some ⟨w.heap.size, 0, none⟩) 0 0) rfl HRO.out ad rfl HS.out.len (HS.out.cell ad rfl) (by omega) HAL.out.size ?_; intro v' w3 hown3 hgrow3)
  go_ret
  rw [Nat.zero_add] at hown3
  exact ⟨v', rfl, by simpa using hown3, below_app HAL.out HRO.out hgrow3⟩
theorem sPanOrder_any (A : Option Addr) (n c lo hi : Nat) (f : Nat → Int) (I H S P : Int) (w : World) (hs : Sl w lo hi 4 A n f) (hn : n ≤ 1048576) (hnc : n ≤ c) :
  Calls Tryz.prog 130 #[.agg (wB A n c I H S P)] w (IntsPost 3 w (ordRes f n (goodWorks f n I H S P)) (goodWorks f n I H S P)) := by
 refine z124 ?_
 intro BW
 have B3 : bW w (((w.alloc (.cells (wB A n c I H S P) 32)).alloc (.cells #[] 3)).alloc (.cells #[] 3)) := (BW.alloc BW.size _).alloc (by simp; omega) _
 have HS : Hid (Sl (((w.alloc (.cells (wB A n c I H S P) 32)).alloc (.cells #[] 3)).alloc (.cells #[] 3)) lo hi 4 A n f) := hs.below B3
 have HSW := lh hs
 have ou0 : (((w.alloc (.cells (wB A n c I H S P) 32)).alloc (.cells #[] 3)).alloc (.cells #[] 3)).ownsRow w.heap.size 3 1 (.slice (some ⟨w.heap.size + 1, 0, none⟩) 0 0) 0 [] := (by
  have h := World.ownsRow_made (base := w.heap.size) (e := 3) (size := 1) (w.alloc (.cells (wB A n c I H S P) 32)) #[] 0 BW.size (Nat.zero_le _) (by simp)
  have h2 := h.alloc (.cells #[] 3)
  simpa using h2)
 have at0 : (((w.alloc (.cells (wB A n c I H S P) 32)).alloc (.cells #[] 3)).alloc (.cells #[] 3)).ownsRow w.heap.size 3 1 (.slice (some ⟨w.heap.size + 1 + 1, 0, none⟩) 0 0) 0 [] := (by
  have h := World.ownsRow_made (base := w.heap.size) (e := 3) (size := 1) ((w.alloc (.cells (wB A n c I H S P) 32)).alloc (.cells #[] 3)) #[] 0 (by simp; omega) (Nat.zero_le _) (by simp)
  simpa using h)
 have bx0 : WBox (((w.alloc (.cells (wB A n c I H S P) 32)).alloc (.cells #[] 3)).alloc (.cells #[] 3)) w.heap.size A n c I H S P := WBox.below (WBox.below (heap_alloc_new w _) ((Below.refl _ _).alloc nL _)) ((Below.refl _ _).alloc nL _)
 have HU0 := lh ou0
 have HA0 := lh at0
 have HX0 := lh bx0
 clear hs ou0 at0 bx0
 cases hg : goodWorks f n I H S P with
 | false =>
  go_enter Tryz.func130, Tryz.ntmps130
  go_wp2_with fail
  refine (l25Good_any A n c lo hi f I H S P _ HS.out hn hnc).mono ?_
  rw [hg]
  rintro e w2 ⟨rfl, hb2⟩
  have hu := lh (ownsRow_below HU0.out hb2)
  go_wp2
  go_ret2
  exact IntsPost.mk_ (zs := []) hu.out (B3.trans (hb2.mono B3.size))
 | true =>
  have h6 := good_len hg
  have HG := lh hg
  show Calls _ _ _ _ (IntsPost 3 w (idsP f (ordL f n)) true)
  go_enter Tryz.func130, Tryz.ntmps130
  go_wp2_with fail
  refine (l25Good_any A n c lo hi f I H S P _ HS.out hn hnc).mono ?_
  rw [hg]
  rintro e w1 ⟨rfl, hb1⟩
  have hB1 : bW w w1 := B3.trans (hb1.mono B3.size)
  have HU1 := lh (ownsRow_below HU0.out hb1)
  have HA1 := lh (ownsRow_below HA0.out hb1)
  have HX1 := lh (HX0.out.below hb1)
  clear hb1 HS hg HU0 HA0 HX0
  go_wp2_with fail
  go_loopw [5, 6, 7] (fun av iv kv wr => ∃ i : Nat, i ≤ n ∧ iv = .int .i64 i ∧ NRow wr w.heap.size av (ordL f i) ∧ wr.ownsRow w.heap.size 3 1 (.slice (some ⟨w.heap.size + 1, 0, none⟩) 0 0) 0 [] ∧ WBox wr w.heap.size A n c I H S P ∧ bW w wr) (fun _ iv _ _ => n - (intOf iv).toNat)
  case atStart => exact ⟨0, Nat.zero_le _, rfl, NRow.of (L := []) rfl HA1.out, HU1.out, HX1.out, hB1⟩
  case round =>
   obtain ⟨i, hi', rfl, hro, hou, hbx, hB⟩ := hrel
   have HO := lh hro
   have HU := lh hou
   have HX := lh hbx
   clear hro hou hbx HU1 HA1 HX1 hB1
   have b0 := HX.out.cell0
   by_cases hlt : i < n
   ·obtain ⟨b, off, rfl, hbw, HC⟩ := HSW.out.open_ hB (by omega)
    obtain ⟨c0, c1, c2, c3⟩ := cell4 HC hlt
    obtain ⟨a1, a2, a3, a4, _⟩ := good_brine HG.out hlt
    have hma : massAt f i = f (i * 4 + 2) + f (i * 4 + 3) := IntWalk.wrap64_in _ ⟨by omega, by omega⟩
    refine z127 ?_
    intro hi0i hini
    have HPY : Hid (ordB f i = true → ordL f (i + 1) = insI (ordMv f) (ordL f i) i) := fun h => by rw [ordL, pickN_yes h, isortL_snoc]; rfl
    have HPN : Hid (ordB f i = false → ordL f (i + 1) = ordL f i) := fun h => by rw [ordL, pickN_no h]; rfl
    have hlo6 := ordL_len f i
    have HLT := lh (ordL_lt f i)
    generalize ordL f i = L at *
    cases hq : ordB f i with
    | false =>
     have HPB := lh hq
     have hmz : massV (f (i * 4 + 2)) (f (i * 4 + 3)) = 0 := by
      have h : ¬ (0 < massAt f i) := by simpa [ordB] using hq
      show massAt f i = 0
      omega
     have hmb : (massV (f (i * 4 + 2)) (f (i * 4 + 3)) == 0) = true := by simp [hmz]
     clear hmz hma hq HC
     go_wp2_with fail
     refine (l2Mass_any _ _ _).mono ?_
     rintro e w2 ⟨rfl, hb2⟩
     have hB2 := below_of hB hb2 hB.size
     have hO2 := lh (HO.out.below hb2)
     have hU2 := lh (ownsRow_below HU.out hb2)
     have hX2 := lh (HX.out.below hb2)
     clear hb2 HO HU HX hB b0 c0 c1 c2 c3
     go_wp2
     go_roundw
     case rel => exact ⟨i + 1, by omega, by go_num, by rw [HPN.out HPB.out]; exact hO2.out, hU2.out, hX2.out, hB2⟩
     case measure => simp [intOf]; omega
    | true =>
     have HPB := lh hq
     have hmz : massV (f (i * 4 + 2)) (f (i * 4 + 3)) ≠ 0 := by
      have h : 0 < massAt f i := by simpa [ordB] using hq
      show massAt f i ≠ 0
      omega
     have hmb : (massV (f (i * 4 + 2)) (f (i * 4 + 3)) == 0) = false := by simp [hmz]
     clear hmz hma hq HC
     obtain ⟨g, gc, rfl, hgc, hgcm, hgl0, hg0, hown⟩ := HO.out
     obtain ⟨l, hl⟩ : ∃ l, l = L.length := ⟨_, rfl⟩
     rw [← hl] at hgc hlo6 hown ⊢
     have HN := lh hl
     have hgc8 : gc ≤ 9223372036854775807 := by unfold maxLen at hgcm; omega
     go_wp2_with fail
     refine (l2Mass_any _ _ _).mono ?_
     rintro e w2 ⟨rfl, hb2⟩
     have hB2 := below_of hB hb2 hB.size
     have HOW := lh (ownsRow_below hown hb2)
     have hU2 := lh (ownsRow_below HU.out hb2)
     have hX2 := lh (HX.out.below hb2)
     clear hb2 HO HU HX hB b0 c0 c1 c2 c3 hown hl hgcm hbw
     go_wp2_with fail
     go_loopw [7] (fun kv wr => ∃ k : Nat, k ≤ l ∧ kv = .int .i64 k ∧ stopI (ordMv f) L i l = stopI (ordMv f) L i k ∧ bW w2 wr) (fun kv _ => (intOf kv).toNat)
     case atStart => exact ⟨l, Nat.le_refl _, rfl, rfl, Below.refl _ _⟩
     case round =>
      obtain ⟨k, hk, rfl, hst, hb3⟩ := hrel
      have HS1 := lh hst
      have HO2 := lh (ownsRow_below HOW.out hb3)
      have HU2 := lh (ownsRow_below hU2.out hb3)
      have HX2 := lh (hX2.out.below hb3)
      replace hB2 := below_of hB2 hb3 hB2.size
      clear hst HOW hU2 hX2
      by_cases hk0 : k = 0
      ·have HST : Hid (stopI (ordMv f) L i L.length = k) := by show _ = _; rw [← HN.out, HS1.out, hk0]; rfl
       have g1 : ¬ ((0 : Int) < (k : Int)) := by omega
       have g2 : ¬ (0 < k) := by omega
       have g3 : decide ((0 : Int) < (k : Int)) = false := by simp; omega
       have g4 : decide (0 < k) = false := by simp; omega
       clear hk0
       go_wp2_with fail
       go_quiet (fail)
       have hHq : bW wr (wr.drewN nq) := below_drewN (Below.refl _ _) _
       generalize wr.drewN nq = wq at hHq ⊢
       have HXN := lh (HX2.out.below hHq)
       have HOWN := lh (ownsRow_below HO2.out hHq)
       have HOUT := lh (ownsRow_below HU2.out hHq)
       have hBX := below_of hB2 hHq hB2.size
       have hlo := hBX.size
       clear HO2 HU2 HX2 hB2 hHq
       clear g1 g2 g3 g4
       by_cases hkl : k < l
       ·have hgcn : ¬ (gc = k) := by omega
        refine z130 ?_
        intro hkg hkg2
        have hkl3 : k ≤ l := by omega
        go_wp2_with fail
        refine z131 ?_
        intro HF jd
        refine wpAnyH_own_append2 (fuel := 1) (iC := 3) (iB := 5) (i2 := 6) (i3 := 10) (dC := 58) (dB := 60) (d2 := 61) (d3 := 65) (j3 := 64) rfl rfl rfl rfl ⟨rfl, rfl⟩ ⟨rfl, rfl⟩ (by exact z12) (by exact z12) (by exact z12) (by exact z12) (by exact z12) (by decide) (by decide) (by simp) 3 1 8 (.int .i64 0) Tryz.underlying101 infoIntP rfl (by decide) (by decide) [(i : Int)] rfl (natsL (L.take k)) (natsL (L.drop k)) k (l - k) (gc - k) (some ⟨g, k, none⟩) ?runCZA ?runBZA rfl jd ?s3ZA (by omega) ?nextZA
        case runCZA =>
         exact z132
        case runBZA =>
         exact z133
        case s3ZA =>
         exact z134
        case nextZA =>
         intro u0 uB u2 g' c' w' hc1 hc2 hg1 hown' hB'
         clear jd
         have jd := hB'
         refine z15 ?_
         refine tj 11 5 HF rfl jd ?_
         refine z49 ?_
         try simp only [Nat.add_zero] at hown' hc1
         have hl : k + 1 + (l - k) = (insI (ordMv f) L i).length := by rw [insI_length]; have := HN.out; omega
         exact z135
       ·have hkl2 : k = l := by omega
        clear hkl
        subst hkl2
        by_cases hgl : gc = k
        ·subst hgl
         go_wp2_with fail
         refine z131 ?_
         intro HF jd
         refine wpAnyH_own_append2 (fuel := 1) (iC := 3) (iB := 5) (i2 := 6) (i3 := 10) (dC := 58) (dB := 60) (d2 := 61) (d3 := 65) (j3 := 64) rfl rfl rfl rfl ⟨rfl, rfl⟩ ⟨rfl, rfl⟩ (by exact z12) (by exact z12) (by exact z12) (by exact z12) (by exact z12) (by decide) (by decide) (by simp) 3 1 8 (.int .i64 0) Tryz.underlying101 infoIntP rfl (by decide) (by decide) [(i : Int)] rfl (natsL (L.take gc)) (natsL (L.drop gc)) gc 0 (0) (some ⟨g, 0, none⟩) ?runCZB ?runBZB rfl jd ?s3ZB (by omega) ?nextZB
         case runCZB =>
          exact z137
         case runBZB =>
          exact z133
         case s3ZB =>
          exact z138
         case nextZB =>
          intro u0 uB u2 g' c' w' hc1 hc2 hg1 hown' hB'
          clear jd
          have jd := hB'
          refine z15 ?_
          refine tj 11 5 HF rfl jd ?_
          refine z49 ?_
          exact z139
        ·refine z130 ?_
         intro hkg hkg2
         go_wp2_with fail
         refine z131 ?_
         intro HF jd
         refine wpAnyH_own_append2 (fuel := 1) (iC := 3) (iB := 5) (i2 := 6) (i3 := 10) (dC := 58) (dB := 60) (d2 := 61) (d3 := 65) (j3 := 64) rfl rfl rfl rfl ⟨rfl, rfl⟩ ⟨rfl, rfl⟩ (by exact z12) (by exact z12) (by exact z12) (by exact z12) (by exact z12) (by decide) (by decide) (by simp) 3 1 8 (.int .i64 0) Tryz.underlying101 infoIntP rfl (by decide) (by decide) [(i : Int)] rfl (natsL (L.take k)) (natsL (L.drop k)) k 0 (gc - k) (some ⟨g, k, none⟩) ?runCZC ?runBZC rfl jd ?s3ZC (by omega) ?nextZC
         case runCZC =>
          exact z132
         case runBZC =>
          exact z133
         case s3ZC =>
          exact z138
         case nextZC =>
          intro u0 uB u2 g' c' w' hc1 hc2 hg1 hown' hB'
          clear jd
          have jd := hB'
          refine z15 ?_
          refine tj 11 5 HF rfl jd ?_
          refine z49 ?_
          try simp only [Nat.add_zero] at hown' hc1
          have hl : k + 1 = (insI (ordMv f) L i).length := by rw [insI_length]; have := HN.out; omega
          exact z135
      ·obtain ⟨m, hm⟩ : ∃ m, k = m + 1 := ⟨k - 1, by omega⟩
       have hml : m < l := by omega
       have hpn : L.getD m 0 < n := by
        have h1 : L.getD m 0 < i := by
         rw [List.getD_eq_getElem?_getD, List.getElem?_eq_getElem (by rw [← HN.out]; exact hml)]
         exact HLT.out _ (List.getElem_mem _)
        omega
       have y0 := nrow_cell HO2.out HN.out m hml
       obtain ⟨hbw, HC⟩ := HSW.out.open_at hB2 (by omega)
       obtain ⟨_, _, e2, e3⟩ := cell4 HC hlt
       obtain ⟨_, _, p2, p3⟩ := cell4 HC hpn
       have hyl := World.block_lt_of_cell? wr _ y0
       have hmv := str_mv HG.out hlt hpn
       have hx0 := HX2.out.cell0
       have hxl := HX2.out.lt
       have HYY : Hid (ordMv f (L.getD m 0) i = true → stopI (ordMv f) L i (m + 1) = stopI (ordMv f) L i m) := fun h => stop_step h
       have HNN : Hid (ordMv f (L.getD m 0) i = false → stopI (ordMv f) L i (m + 1) = m + 1) := fun h => stop_here h
       generalize L.getD m 0 = p at *
       have q0 := fun n os => cell_grown (n := n) (os := os) (w := wr) (a := ⟨w.heap.size, 0, none⟩) hxl hx0
       have q1 := fun n os => cell_grown (n := n) (os := os) (w := wr) (a := ⟨g, m, none⟩) hyl y0
       have q2 := fun n os => cell_grown (n := n) (os := os) (w := wr) (a := ⟨b, off + i * 4 + 2, none⟩) hbw e2
       have q3 := fun n os => cell_grown (n := n) (os := os) (w := wr) (a := ⟨b, off + i * 4 + 3, none⟩) hbw e3
       have q4 := fun n os => cell_grown (n := n) (os := os) (w := wr) (a := ⟨b, off + p * 4 + 2, none⟩) hbw p2
       have q5 := fun n os => cell_grown (n := n) (os := os) (w := wr) (a := ⟨b, off + p * 4 + 3, none⟩) hbw p3
       have g1 : (0 : Int) < (k : Int) := by omega
       have g2 : 0 < k := by omega
       have g3 : decide ((0 : Int) < (k : Int)) = true := by simp; omega
       have g4 : decide (0 < k) = true := by simp; omega
       have g5 : (0 : Int) ≤ (k : Int) - 1 := by omega
       have g6 : (k : Int) - 1 < (l : Int) := by omega
       have g7 : ((k : Int) - 1).toNat = m := by omega
       have g8 : IntKind.i64.wrap ((k : Int) - 1) = (k : Int) - 1 := IntWalk.i64_in _ (by omega)
       have g9 : (1 : Int) ≤ (k : Int) := by omega
       have ga : (0 : Int) ≤ (p : Int) := by omega
       have gb : (p : Int) < (n : Int) := by omega
       have HM := lh hm
       clear hm hk0 y0 e2 e3 p2 p3 hx0 hyl HC
       cases hgt : strV (f (i * 4 + 2)) (f (i * 4 + 3)) (f (p * 4 + 2)) (f (p * 4 + 3)) with
       | true =>
        have HS3 : Hid (stopI (ordMv f) L i l = stopI (ordMv f) L i m) := by
         show _ = _
         rw [HS1.out, HM.out]
         exact HYY.out (hmv ▸ hgt)
        clear hmv
        go_wp2_with fail
        refine z140 ?_
        intro nq osq wq hHq
        have hbq := below_of hb3 hHq hb3.size
        clear HO2 HU2 HX2 q0 q1 q2 q3 q4 q5 g1 g2 g3 g4
        go_wp2
        go_roundw
        case rel => exact ⟨m, by omega, by have := HM.out; subst this; go_num, HS3.out, hbq⟩
        case measure => have := HM.out; simp [intOf]; omega
       | false =>
        have HST : Hid (stopI (ordMv f) L i L.length = k) := by
         show _ = _
         rw [← HN.out, HS1.out, HM.out]
         exact HNN.out (hmv ▸ hgt)
        clear hmv
        go_wp2_with fail
        refine z140 ?_
        intro nq osq wq hHq
        have HXN := lh (HX2.out.below hHq)
        have HOWN := lh (ownsRow_below HO2.out hHq)
        have HOUT := lh (ownsRow_below HU2.out hHq)
        have hBX := below_of hB2 hHq hB2.size
        have hlo := hBX.size
        clear HO2 HU2 HX2 hB2 hHq
        clear q0 q1 q2 q3 q4 q5 g1 g2 g3 g4 g5 g6 g7 g8 g9 ga gb HM
        by_cases hkl : k < l
        ·have hgcn : ¬ (gc = k) := by omega
         refine z130 ?_
         intro hkg hkg2
         have hkl3 : k ≤ l := by omega
         go_wp2_with fail
         refine z131 ?_
         intro HF jd
         refine wpAnyH_own_append2 (fuel := 1) (iC := 3) (iB := 5) (i2 := 6) (i3 := 10) (dC := 58) (dB := 60) (d2 := 61) (d3 := 65) (j3 := 64) rfl rfl rfl rfl ⟨rfl, rfl⟩ ⟨rfl, rfl⟩ (by exact z12) (by exact z12) (by exact z12) (by exact z12) (by exact z12) (by decide) (by decide) (by simp) 3 1 8 (.int .i64 0) Tryz.underlying101 infoIntP rfl (by decide) (by decide) [(i : Int)] rfl (natsL (L.take k)) (natsL (L.drop k)) k (l - k) (gc - k) (some ⟨g, k, none⟩) ?runCPA ?runBPA rfl jd ?s3PA (by omega) ?nextPA
         case runCPA =>
          exact z132
         case runBPA =>
          exact z133
         case s3PA =>
          exact z134
         case nextPA =>
          intro u0 uB u2 g' c' w' hc1 hc2 hg1 hown' hB'
          clear jd
          have jd := hB'
          refine z15 ?_
          refine tj 11 5 HF rfl jd ?_
          refine z49 ?_
          try simp only [Nat.add_zero] at hown' hc1
          have hl : k + 1 + (l - k) = (insI (ordMv f) L i).length := by rw [insI_length]; have := HN.out; omega
          exact z135
        ·have hkl2 : k = l := by omega
         clear hkl
         subst hkl2
         by_cases hgl : gc = k
         ·subst hgl
          go_wp2_with fail
          refine z131 ?_
          intro HF jd
          refine wpAnyH_own_append2 (fuel := 1) (iC := 3) (iB := 5) (i2 := 6) (i3 := 10) (dC := 58) (dB := 60) (d2 := 61) (d3 := 65) (j3 := 64) rfl rfl rfl rfl ⟨rfl, rfl⟩ ⟨rfl, rfl⟩ (by exact z12) (by exact z12) (by exact z12) (by exact z12) (by exact z12) (by decide) (by decide) (by simp) 3 1 8 (.int .i64 0) Tryz.underlying101 infoIntP rfl (by decide) (by decide) [(i : Int)] rfl (natsL (L.take gc)) (natsL (L.drop gc)) gc 0 (0) (some ⟨g, 0, none⟩) ?runCPB ?runBPB rfl jd ?s3PB (by omega) ?nextPB
          case runCPB =>
           exact z137
          case runBPB =>
           exact z133
          case s3PB =>
           exact z138
          case nextPB =>
           intro u0 uB u2 g' c' w' hc1 hc2 hg1 hown' hB'
           clear jd
           have jd := hB'
           refine z15 ?_
           refine tj 11 5 HF rfl jd ?_
           refine z49 ?_
           exact z139
         ·refine z130 ?_
          intro hkg hkg2
          go_wp2_with fail
          refine z131 ?_
          intro HF jd
          refine wpAnyH_own_append2 (fuel := 1) (iC := 3) (iB := 5) (i2 := 6) (i3 := 10) (dC := 58) (dB := 60) (d2 := 61) (d3 := 65) (j3 := 64) rfl rfl rfl rfl ⟨rfl, rfl⟩ ⟨rfl, rfl⟩ (by exact z12) (by exact z12) (by exact z12) (by exact z12) (by exact z12) (by decide) (by decide) (by simp) 3 1 8 (.int .i64 0) Tryz.underlying101 infoIntP rfl (by decide) (by decide) [(i : Int)] rfl (natsL (L.take k)) (natsL (L.drop k)) k 0 (gc - k) (some ⟨g, k, none⟩) ?runCPC ?runBPC rfl jd ?s3PC (by omega) ?nextPC
          case runCPC =>
           exact z132
          case runBPC =>
           exact z133
          case s3PC =>
           exact z138
          case nextPC =>
           intro u0 uB u2 g' c' w' hc1 hc2 hg1 hown' hB'
           clear jd
           have jd := hB'
           refine z15 ?_
           refine tj 11 5 HF rfl jd ?_
           refine z49 ?_
           try simp only [Nat.add_zero] at hown' hc1
           have hl : k + 1 = (insI (ordMv f) L i).length := by rw [insI_length]; have := HN.out; omega
           exact z135
   ·have hni : ¬ ((i : Int) < (n : Int)) := by omega
    have hin : i = n := by omega
    subst hin
    have hl6 := ordL_len f i
    have HLT := lh (ordL_lt f i)
    generalize ordL f i = L at *
    obtain ⟨g, gc, rfl, hgc, hgcm, hgl0, hg0, hown⟩ := HO.out
    obtain ⟨l, hl⟩ : ∃ l, l = L.length := ⟨_, rfl⟩
    rw [← hl] at hgc hl6 hown ⊢
    have HN := lh hl
    have HOW := lh hown
    clear hown hl hgcm HO
    obtain ⟨w2, hw2⟩ : ∃ x, x = wr := ⟨_, rfl⟩
    subst hw2
    go_wp2_with fail
    clear b0
    go_loopw [4, 8] (fun v kv wr => ∃ k : Nat, k ≤ l ∧ kv = .int .i64 k ∧ ((k = 0 ∧ v = (.slice (some ⟨w.heap.size + 1, 0, none⟩) 0 0)) ∨ (0 < k ∧ wr.ownsRow w2.heap.size 3 1 v k ((idsP f (L.take k)).map (Value.int .i64)))) ∧ bW w2 wr) (fun _ kv _ => l - (intOf kv).toNat)
    case atStart => exact ⟨0, Nat.zero_le _, rfl, Or.inl ⟨rfl, rfl⟩, Below.refl _ _⟩
    case round =>
     obtain ⟨k, hk, rfl, hv, hbel⟩ := hrel
     have hbx := (hbel.block w.heap.size HX.out.lt).trans HX.out
     have z0 : cE wr w.heap.size 0 (.slice A i c) := by rw [cell_of_row wr w.heap.size 0 _ _ (0, 0) hbx]; rfl
     clear hbx
     by_cases hkl : k < l
     ·have hkL : k < L.length := by rw [← HN.out]; exact hkl
      have hpn : L.getD k 0 < i := by
       rw [List.getD_eq_getElem?_getD, List.getElem?_eq_getElem hkL]
       exact HLT.out _ (List.getElem_mem _)
      have HPS : Hid (idsP f (L.take (k + 1)) = idsP f (L.take k) ++ [f (L.getD k 0 * 4)]) := by
       show _ = _
       rw [List.take_succ_eq_append_getElem hkL, idsP, idsP, List.map_append, List.getD_eq_getElem?_getD, List.getElem?_eq_getElem hkL]
       rfl
      obtain ⟨b, off, rfl, _, _⟩ := HSW.out.open_ hB (by omega)
      have HF : Hid (∀ w', bW w2 w' → cE w' w.heap.size 0 (.slice (some ⟨b, off, none⟩) i c) ∧ cI w' g k ((L.getD k 0 : Nat) : Int) ∧ cI w' b (off + L.getD k 0 * 4) (f (L.getD k 0 * 4))) := by
       intro w' hb'
       obtain ⟨_, HC⟩ := HSW.out.open_at (below_of hB hb' hB.size) (by omega)
       exact ⟨by rw [cell_of_row w' w.heap.size 0 _ _ (0, 0) ((hb'.block w.heap.size HX.out.lt).trans HX.out)]; rfl, (hb'.cell (p := ⟨g, k, none⟩) hgl0).trans (nrow_cell HOW.out HN.out k hkl), (cell4 HC hpn).1⟩
      have HPL : Hid ((idsP f (L.take k)).length = k) := by show _ = _; rw [idsP, List.length_map, List.length_take]; omega
      generalize L.getD k 0 = p at *
      have ga : (0 : Int) ≤ (p : Int) := by omega
      have gb : (p : Int) < (i : Int) := by omega
      have hk0i : (0 : Int) ≤ (k : Int) := by omega
      have hkli : (k : Int) < (l : Int) := by omega
      rcases hv with ⟨hk0, rfl⟩ | ⟨hk0, hown⟩
      ·have HK0 := lh hk0
       clear hk0 HPL
       go_wp2_with fail
       refine wp_region_held_drew (S := fun w' => bW w2 w') (by exact z12) (hbel.drew) (fun jd => ?_)
       refine tj4 0 72 1 73 2 74 3 75 HF jd ?_
       refine tj4 4 76 5 77 6 78 7 79 HF jd ?_
       refine tj2 8 80 9 81 HF jd ?_
       refine wpAnyH_new (fuel := 2) (i := 10) (d := 82) (obj := .cells #[.int .i64 (f (p * 4))] 3) (v := .slice (some ⟨wr.heap.size, 0, none⟩) 1 1) rfl ⟨rfl, rfl⟩ (by exact z12) jd (by go_simp; try rfl) ?_
       intro hHeld2
       refine wpAnyH_app0 (fuel := 1) (i := 11) (ds := 72) (d := 83) (j := 82) (b := ⟨w.heap.size + 1, 0, none⟩) (ad := ⟨wr.heap.size, 0, none⟩) rfl (by exact z12) 3 1 8 (.int .i64 0) Tryz.underlying101 infoIntP rfl (by decide) (by decide) [f (p * 4)] 1 1 rfl rfl hHeld2 rfl ?c0 (by decide) (by decide) ?n0
       case c0 =>
        intro j u hu
        exact z141
       case n0 =>
        intro v' w3 hown3 hB3 hb30
        have jd := hB3
        refine z15 ?_
        refine tj 12 4 HF rfl jd ?_
        refine z49 ?_
        have ho3 := lh (ownsRow_monoP hown3 (show w2.heap.size ≤ _ from hHeld2.size))
        clear hown3 jd hHeld2
        go_wp2
        go_roundw
        case rel => exact ⟨k + 1, by omega, by go_num, Or.inr ⟨by omega, by rw [HPS.out, HK0.out]; exact ho3.out⟩, hB3⟩
        case measure => simp [intOf]; omega
      ·have HOO := lh hown
       clear hown
       go_wp2_with fail
       refine wp_region_held_drew (S := fun w' => bW w2 w') (by exact z12) (hbel.drew) (fun jd => ?_)
       refine tj4 0 72 1 73 2 74 3 75 HF jd ?_
       refine tj4 4 76 5 77 6 78 7 79 HF jd ?_
       refine tj2 8 80 9 81 HF jd ?_
       refine wpAnyH_new (fuel := 2) (i := 10) (d := 82) (obj := .cells #[.int .i64 (f (p * 4))] 3) (v := .slice (some ⟨wr.heap.size, 0, none⟩) 1 1) rfl ⟨rfl, rfl⟩ (by exact z12) jd (by go_simp; try rfl) ?_
       intro hHeld2
       refine wpAnyH_app (fuel := 1) (i := 11) (ds := 72) (d := 83) (j := 82) rfl (by exact z12) 3 1 8 (.int .i64 0) Tryz.underlying101 infoIntP rfl (by decide) (by decide) (idsP f (L.take k)) [f (p * 4)] k 1 1 u4 (some ⟨wr.heap.size, 0, none⟩) rfl rfl hHeld2 (HOO.out.alloc _) ⟨rfl, (by intro h; cases h), ?c1⟩ (by omega) ?n1
       case c1 =>
        intro ad had j u hu
        cases had
        exact z141
       case n1 =>
        intro v' w3 hown3 hB3 _
        have jd := hB3
        refine z15 ?_
        refine tj 12 4 HF rfl jd ?_
        refine z49 ?_
        have ho3 := lh hown3
        clear hown3 jd hHeld2
        go_wp2
        go_roundw
        case rel => exact ⟨k + 1, by omega, by go_num, Or.inr ⟨by omega, by rw [HPS.out]; exact ho3.out⟩, hB3⟩
        case measure => simp [intOf]; omega
     ·have hkl2 : k = l := by omega
      have hfin : Hid (idsP f (L.take k) = idsP f L) := by show _ = _; rw [List.take_of_length_le (by rw [← HN.out]; omega)]
      have hPl : Hid ((idsP f L).length = k) := by show _ = _; rw [idsP, List.length_map, ← HN.out]; exact hkl2.symm
      have hkli : ¬ ((k : Int) < (l : Int)) := by omega
      have hBF := lh (below_of hB hbel hB.size)
      clear hkl2 hkl
      rcases hv with ⟨hk0, rfl⟩ | ⟨hk0, hown⟩
      ·have hz : Hid (wr.ownsRow w.heap.size 3 1 (.slice (some ⟨w.heap.size + 1, 0, none⟩) 0 0) 0 []) := ownsRow_below HU.out hbel
       have hnil : Hid (idsP f L = []) := List.length_eq_zero_iff.1 (hPl.out.trans hk0)
       clear hk0
       go_wp2
       go_ret2
       rw [hnil.out]
       exact IntsPost.mk_ (zs := []) hz.out hBF.out
      ·have hz : Hid (wr.ownsRow w.heap.size 3 1 u4 (idsP f L).length ((idsP f L).map (Value.int .i64))) := by
        show World.ownsRow _ _ _ _ _ _ _
        rw [hPl.out, ← hfin.out]
        exact ownsRow_monoP hown hB.size
       clear hown
       go_wp2
       go_ret2
       exact IntsPost.mk_ hz.out hBF.out
end Go.Proofs.YtpndjhelpoenpaaGreatDoor
namespace Go.Proofs.YtpndjhelpoenpaaGreatDoor
open Go.RowKit Go.Sort
attribute [local go_sem ↓] Go.wp_at_zero Go.wp_at_succ
def rakeB (f : Nat → Int) (k : Nat) : Bool := mayV (f (k * 4 + 2)) (f (k * 4 + 3))
def rakeRes (f : Nat → Int) (n : Nat) (b : Bool) : List Int := if b then idsP f (pickN (rakeB f) n) else []
theorem rakeRes_len (f : Nat → Int) (n : Nat) (b : Bool) : (rakeRes f n b).length ≤ n := by
 unfold rakeRes
 split
 ·rw [idsP, List.length_map]; exact pickN_len _ n
 ·simp
theorem idsP_append (f : Nat → Int) (L M : List Nat) : idsP f (L ++ M) = idsP f L ++ idsP f M := by simp [idsP]
theorem MayRake_any (A : Option Addr) (n c lo hi : Nat) (f : Nat → Int) (I H S P : Int) (w : World) (hs : Sl w lo hi 4 A n f) (hn : n ≤ 1048576) (hnc : n ≤ c) :
  Calls Tryz.prog 140 #[.agg (wB A n c I H S P)] w (IntsPost 3 w (rakeRes f n (goodWorks f n I H S P)) (goodWorks f n I H S P)) := by
 refine z38 ?_
 intro HS
 clear hs
 refine z124 ?_
 intro BW
 cases hg : goodWorks f n I H S P with
 | false =>
  go_enter Tryz.func140, Tryz.ntmps140
  exact z125
 | true =>
  have h6 := good_len hg
  show Calls _ _ _ _ (IntsPost 3 w (idsP f (pickN (rakeB f) n)) true)
  go_enter Tryz.func140, Tryz.ntmps140
  go_wp2_with fail
  refine z126 ?_
  intro w1 hb1 HS1 b0 b1 b2 b3 b4 hB1
  clear hb1 HS hg
  go_wp2_with fail
  clear b0 b1 b2 b3 b4
  go_loopw [4, 13] (fun v iv wr => ∃ i : Nat, i ≤ n ∧ iv = .int .i64 i ∧ wr.ownsRow w1.heap.size 3 1 v (idsP f (pickN (rakeB f) i)).length ((idsP f (pickN (rakeB f) i)).map (Value.int .i64)) ∧ bW w1 wr) (fun _ iv _ => n - (intOf iv).toNat)
  case atStart => exact ⟨0, Nat.zero_le _, rfl, World.ownsRow_nil _ _ _ _, Below.refl _ _⟩
  case round =>
   obtain ⟨i, hi', rfl, hown, hB⟩ := hrel
   have HO := lh hown
   have hl : (idsP f (pickN (rakeB f) i)).length ≤ 6 := by rw [idsP, List.length_map]; have := pickN_len (rakeB f) i; omega
   clear hown
   by_cases hlt : i < n
   ·obtain ⟨b, off, rfl, hbw, HC⟩ := HS1.out.open_ hB (by omega)
    obtain ⟨c0, c1, c2, c3⟩ := cell4 HC hlt
    refine z127 ?_
    intro hi0i hini
    refine z142 ?_
    intro HPY HPN
    generalize idsP f (pickN (rakeB f) i) = P at *
    clear HC HS1
    cases hqi : mayV (f (i * 4 + 2)) (f (i * 4 + 3)) with
    | false =>
     have HPB : Hid (rakeB f i = false) := hqi
     go_wp2_with fail
     refine (mayRake_any _ _ _).mono ?_
     rw [hqi]
     revert hB hbw c0 c1 c2 c3 HO
     refine z128 ?_
     intro w2 hB2 hO2 nb hbw n0 n1 n2 n3
     clear hqi
     exact z129
    | true =>
     have HPB : Hid (rakeB f i = true) := hqi
     go_wp2_with fail
     refine (mayRake_any _ _ _).mono ?_
     rw [hqi]
     revert hB hbw c0 c1 c2 c3 HO
     refine z128 ?_
     intro w2 hB2 hO2 nb hbw n0 n1 n2 n3
     have hbs := hB2.size
     have hPl2 : P.length ≤ 100000000 := by omega
     clear hqi
     go_wp2_with (at_builtin; refine wpList_append_int1 _ rfl _ _ 101 rfl w1.heap.size 3 Tryz.underlying101 infoIntP P (f (i * 4)) _ rfl (hO2.out.alloc _) _ rfl (by simp) hPl2 (by simp; omega) ?_; intro v' w3 hown3 _ hgrow3)
     go_roundw
     case rel => exact ⟨i + 1, by omega, by go_num, by rw [HPY.out HPB.out]; exact hown3, below_app (hB2.alloc hB2.size _) (hO2.out.alloc _) hgrow3⟩
     case measure => simp [intOf]; omega
   ·have hni : ¬ ((i : Int) < (n : Int)) := by omega
    have hin : i = n := by omega
    subst hin
    clear HS1
    generalize idsP f (pickN (rakeB f) i) = P at *
    go_wp2
    go_ret2
    exact IntsPost.mk_ (ownsRow_monoP HO.out hB1.size) (below_of hB1 hB hB1.size)
end Go.Proofs.YtpndjhelpoenpaaGreatDoor
namespace Go.Proofs.YtpndjhelpoenpaaGreatDoor
open Go.RowKit Go.Sort
attribute [local go_sem ↓] Go.wp_at_zero Go.wp_at_succ
theorem infoWorks : (Tryz.prog.info? 32).map (·.size) = some 5 := by exact z12
def cellsL (f : Nat → Int) (n : Nat) : List Int := (List.range (n * 4)).map f
theorem cellsL_len (f : Nat → Int) (n : Nat) : (cellsL f n).length = n * 4 := by simp [cellsL]
theorem cellsL_get (f : Nat → Int) (n j : Nat) (u : Int) (h : (cellsL f n)[j]? = some u) : j < n * 4 ∧ u = f j := by
 have hl := (List.getElem?_eq_some_iff.1 h).1
 rw [cellsL_len] at hl
 refine ⟨hl, ?_⟩
 simp [cellsL, hl] at h
 exact h.symm
theorem cellsL_getD (f : Nat → Int) (n j : Nat) (h : j < n * 4) : (cellsL f n).getD j 0 = f j := by
 simp [cellsL, List.getD_eq_getElem?_getD, h]
theorem Sl.src {w : World} {lo hi n c : Nat} {A : Option Addr} {f : Nat → Int} (h : Sl w lo hi 4 A n f) (hz : A = none → n = 0 ∧ c = 0) : Src w 4 A n c (cellsL f n) := by
 refine ⟨cellsL_len f n, hz, fun ad had j u hu => ?_⟩
 obtain ⟨hj, rfl⟩ := cellsL_get f n j u hu
 obtain ⟨b, off, e, _, _, h3⟩ := h.here (by omega)
 subst e
 cases had
 have := h3 j hj
 rw [Addr.add_lit]
 exact this
def ownPost (w : World) (f : Nat → Int) (n : Nat) (I H S P : Int) (e : Ending) (w' : World) : Prop :=
 ∃ A' c', e = .returned (.agg (wB A' n c' I H S P)) ∧ n ≤ c' ∧ c' ≤ maxLen ∧ w'.ownsRow w.heap.size 97 4 (.slice A' n c') n ((cellsL f n).map (Value.int .i64)) ∧ bW w w'
theorem row_slice {w : World} {lo k : Nat} {e : TypeId} {v : Value} {n : Nat} {xs : List Value} (h : w.ownsRow lo e k v n xs) : ∃ A c, v = .slice A n c ∧ n ≤ c ∧ c ≤ maxLen := by
 rcases h.2 with ⟨rfl, rfl⟩ | ⟨g, c, cur, rfl, _, _, h1, h2, _⟩
 ·exact ⟨none, 0, rfl, Nat.le_refl _, by unfold maxLen; omega⟩
 ·exact ⟨_, c, rfl, h1, h2⟩
theorem own_other {w w' : World} {base k n b : Nat} {e T0 : TypeId} {v : Value} {xs : List Value} {cur : Array Value} (h : w.ownsRow base e k v n xs) (hb : w.heap[b]? = some (.cells cur T0 (0, 0))) (hne : e ≠ T0) (hg : w.grownBy w' (some b)) : w'.ownsRow base e k v n xs := by
 rcases h.2 with h2 | ⟨g, cap, cu, hv, h3, hG, r⟩
 ·exact ⟨h.1, Or.inl h2⟩
 ·have hlt := (gL hG)
  refine ⟨h.1, Or.inr ⟨g, cap, cu, hv, h3, ?_, r⟩⟩
  rw [hg.block g hlt (by
   intro he
   simp at he
   subst he
   rw [hb] at hG
   simp at hG
   exact hne hG.2.symm)]
  exact hG
theorem l25Own_any (A : Option Addr) (n c lo hi : Nat) (f : Nat → Int) (I H S P : Int) (w : World) (hs : Sl w lo hi 4 A n f) (hn : n ≤ 1048576) (hnc : n ≤ c) (hz : A = none → n = 0 ∧ c = 0) :
  Calls Tryz.prog 79 #[.agg (wB A n c I H S P)] w (ownPost w f n I H S P) := by
 refine z104 ?_
 intro HF
 refine z38 ?_
 intro HS
 have HBW : Hid (bW w (w.alloc (.cells (wB A n c I H S P) 32))) := (Below.refl _ w).alloc nL _
 clear hs
 go_enter Tryz.func79, Tryz.ntmps79
 go_wp2_with fail
 refine wp_region_held_drew (S := fun w' => bW (w.alloc (.cells (wB A n c I H S P) 32)) w') (by exact z12) (((Below.refl _ (w.alloc (.cells (wB A n c I H S P) 32))).alloc nL _).drew) (fun jd => ?_)
 have HR : Hid (((w.alloc (.cells (wB A n c I H S P) 32)).alloc (.cells (wB none 0 0 0 0 0 0) 32)).drew.heap[w.heap.size + 1]? = some (.cells (wB none 0 0 0 0 0 0) 32)) := by
  show ((w.alloc (.cells (wB A n c I H S P) 32)).alloc (.cells (wB none 0 0 0 0 0 0) 32)).heap[w.heap.size + 1]? = _
  rw [show w.heap.size + 1 = (w.alloc (.cells (wB A n c I H S P) 32)).heap.size by simp]
  exact heap_alloc_new (w.alloc (.cells (wB A n c I H S P) 32)) _
 have hsz : ((w.alloc (.cells (wB A n c I H S P) 32)).alloc (.cells (wB none 0 0 0 0 0 0) 32)).drew.heap.size = w.heap.size + 2 := by simp [World.drew]
 generalize ((w.alloc (.cells (wB A n c I H S P) 32)).alloc (.cells (wB none 0 0 0 0 0 0) 32)).drew = wz at *
 refine tj4 1 4 2 5 4 7 5 8 HF jd ?_
 refine tj4 6 9 7 10 8 11 9 12 HF jd ?_
 refine tj2 10 13 11 14 HF jd ?_
 refine wpAnyH_new (fuel := 3) (i := 0) (d := 3) (obj := .cells #[] 97) (v := .slice (some ⟨wz.heap.size, 0, none⟩) 0 0) rfl ⟨rfl, rfl⟩ (by exact z12) jd (by go_simp; try rfl) ?_
 intro hHeld2
 have hro := World.ownsRow_made (base := (w.alloc (.cells (wB A n c I H S P) 32)).heap.size) (e := 97) (size := 4) wz #[] 0 jd.size (Nat.zero_le _) (by simp)
 refine wpAnyH_app (fuel := 2) (i := 3) (ds := 3) (d := 6) (j := 5) rfl (by exact z12) 97 4 32 (.agg (iV 0 0 0 0)) Tryz.underlying30 infoPan rfl (by decide) (by decide) [] (cellsL f n) 0 n c _ A rfl rfl hHeld2 hro (Sl.src (HS.out.below hHeld2) hz) (by omega) ?n1
 case n1 =>
  intro v' w3 hown3 hB3 hgrow3
  replace hgrow3 : (wz.alloc (.cells #[] 97)).grownBy w3 (some wz.heap.size) := hgrow3
  rw [Nat.zero_add, List.nil_append] at hown3
  obtain ⟨A', c', rfl, hnc', hcm'⟩ := row_slice hown3
  have HO3 := lh hown3
  clear hown3 hro hHeld2
  have jd := hB3
  have hr3 : w3.heap[w.heap.size + 1]? = some (.cells (wB none 0 0 0 0 0 0) 32) := (hgrow3.block _ (by simp; omega) (by intro he; simp at he; omega)).trans (by rw [heap_alloc_old _ _ (by omega)]; exact HR.out)
  refine z15 ?_
  refine tj 12 15 HF rfl jd ?_
  refine wpAnyH_store (fuel := 0) (i := 13) rfl (by exact z12) (w.heap.size + 1) 0 (.agg (wB A' n c' I H S P)) 32 _ rfl rfl ?i1 hr3 ?f1 ?a1 (fun w' hg => jd.grown hg jd.size (fun k hk => by cases hk; simp)) ?k1
  case i1 => exact infoWorks
  case f1 => exact Nat.le_refl 5
  case a1 => exact z143
  case k1 =>
   intro w4 h4 hg4 hHeld4
   refine z49 ?_
   have h4' : w4.heap[w.heap.size + 1]? = some (.cells (wB A' n c' I H S P) 32) := h4
   obtain ⟨r0, r1, r2, r3, r4⟩ := cells5 h4'
   have hX4 : bW w w4 := HBW.out.trans (hHeld4.mono HBW.out.size)
   have hO4 := ownsRow_monoP (own_other HO3.out hr3 (by decide) hg4) HBW.out.size
   clear h4 h4' hg4 hHeld4 HO3 hr3 jd hB3 hgrow3 HF HS HR hsz
   go_wp2
   refine z66 ?_
   refine bodyPost_ret (by simp [results, Tryz.results79, go_sem, r0, r1, r2, r3, r4]; try rfl) rfl ?_
   exact ⟨A', c', rfl, hnc', hcm', hO4, hX4⟩
end Go.Proofs.YtpndjhelpoenpaaGreatDoor
