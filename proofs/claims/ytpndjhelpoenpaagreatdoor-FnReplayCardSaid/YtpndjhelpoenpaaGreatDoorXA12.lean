/-
  Texts of this claim, merged.
-/
import Derived.Test.YtpndjhelpoenpaaGreatDoorXA11
set_option linter.unusedVariables false
set_option linter.unusedSimpArgs false
set_option maxRecDepth 100000
set_option maxHeartbeats 8000000
namespace Go.Proofs.YtpndjhelpoenpaaGreatDoor
open Go.RowKit
section
variable {P : Program} {md : Region.Mode} {ops : Array Oper} {Q : Exit → Act → World → Prop} {S : World → Prop}
def Job (P : Program) (Q : Exit → Act → World → Prop) (S : World → Prop) (o : Oper) (d : Nat) (a : Act) (skip : List Nat) (Post : Value → World → Prop) : Prop :=
 ∀ (a' : Act) (w1 : World) (K : Act → World → Prop), (∀ j, j ∉ skip → a'.eval (.tmp j) = a.eval (.tmp j)) → S w1 →
  (∀ v w2, Post v w2 → bW w1 w2 → K (a'.put (some d) v) w2) → o.wp P a' w1 K Q
def Stays (Post : Value → World → Prop) : Prop := ∀ v w1 w2, Post v w1 → bW w1 w2 → Post v w2
theorem Job.put {o : Oper} {d : Nat} {a : Act} {skip : List Nat} {Post : Value → World → Prop} (h : Job P Q S o d a skip Post) {d' : Nat} (hd : d' ∈ skip) (u : Value) : Job P Q S o d (a.put (some d') u) skip Post :=
 fun a' w1 K hev hb hK => h a' w1 K (fun j hj => (hev j hj).trans (eval_put_ne _ _ _ _ (fun e => hj (e ▸ hd)))) hb hK
theorem Job.alloc {nb : Nat} {o : Oper} {d : Nat} {a : Act} {skip : List Nat} {obj : Obj} (hd : o.dst = some d) (hnb : ∀ w, S w → nb ≤ w.heap.size)
  (run : ∀ (a' : Act) (w1 : World), (execOp a'.eval o).run P w1 = .ok (.value (.pointer (some ⟨w1.heap.size, 0, none⟩))) (w1.alloc obj)) :
  Job P Q S o d a skip (fun v w => ∃ g, v = .pointer (some ⟨g, 0, none⟩) ∧ nb ≤ g ∧ w.heap[g]? = some obj) := by
 intro a' w1 K _ hb hK
 refine oper_wp_value (run a' w1) ?_
 rw [hd]
 exact hK _ _ ⟨w1.heap.size, rfl, hnb _ hb, heap_alloc_new w1 obj⟩ ((Below.refl _ _).alloc nL _)
theorem but_stays {X : World} {r : Option Nat} : ∀ w1 w2, X.grownBy w1 r → bW w1 w2 → X.grownBy w2 r := fun w1 w2 h hb =>
 ⟨hb.os.trans h.os, hb.tape.trans h.tape, hb.output.trans h.output, Nat.le_trans h.size hb.size, fun k hk hr => (hb.block k (Nat.lt_of_lt_of_le hk h.size)).trans (h.block k hk hr)⟩
theorem below_stays {X : World} : ∀ w1 w2, bW X w1 → bW w1 w2 → bW X w2 := fun w1 w2 h hb => h.trans (hb.mono h.size)
theorem stays_alloc {n : Nat} {obj : Obj} : Stays (fun v w => ∃ g, v = .pointer (some ⟨g, 0, none⟩) ∧ n ≤ g ∧ w.heap[g]? = some obj) := by
 rintro v w1 w2 ⟨g, e, h1, h2⟩ hb
 exact ⟨g, e, h1, (hb.block g (gL h2)).trans h2⟩
theorem wpAnyH_job {i d : Nat} {fuel : Nat} {listed : Array Bool} {a : Act} {w : World} {o : Oper} {skip : List Nat} {Post : Value → World → Prop} (ho : ops[i]? = some o) (hg : o.guard = none)
  (r0 : Region.ready md ops listed = [i]) (J : Job P Q S o d a skip Post) (hst : ∀ w1 w2, S w1 → bW w1 w2 → S w2) (hS : S w)
  (h : ∀ v w', Post v w' → S w' → bW w w' → wpAnyH P md ops Q S fuel (listed.setIfInBounds i true) (a.put (some d) v) w') :
  wpAnyH P md ops Q S (fuel + 1) listed a w := by
 refine wpAnyH_ready r0 (by simp) (AllReadyH.cons ho (fun K hK => ?_) AllReadyH.nil)
 rw [if_pos (wanted_plain hg)]
 exact z144
theorem wpAnyH_two {i j di dj : Nat} {fuel : Nat} {listed : Array Bool} {a : Act} {w : World} {oi oj : Oper} {skip : List Nat} {Pi Pj : Value → World → Prop}
  (hoi : ops[i]? = some oi) (hoj : ops[j]? = some oj) (hgi : oi.guard = none) (hgj : oj.guard = none) (hij : i ≠ j) (hd : di ≠ dj) (hsi : di ∈ skip) (hsj : dj ∈ skip)
  (r0 : Region.ready md ops listed = [i, j]) (ri : Region.ready md ops (listed.setIfInBounds i true) = [j]) (rj : Region.ready md ops (listed.setIfInBounds j true) = [i])
  (Ji : Job P Q S oi di a skip Pi) (Jj : Job P Q S oj dj a skip Pj) (si : Stays Pi) (sj : Stays Pj) (hst : ∀ w1 w2, S w1 → bW w1 w2 → S w2) (hS : S w)
  (h : ∀ vi vj w', Pi vi w' → Pj vj w' → S w' → bW w w' →
   wpAnyH P md ops Q S fuel ((listed.setIfInBounds i true).setIfInBounds j true) ((a.put (some di) vi).put (some dj) vj) w') :
  wpAnyH P md ops Q S (fuel + 2) listed a w := by
 refine wpAnyH_ready (fuel := fuel + 1) r0 (by simp) (AllReadyH.cons hoi (fun K hK => ?_) (AllReadyH.cons hoj (fun K hK => ?_) AllReadyH.nil))
 ·rw [if_pos (wanted_plain hgi)]
  refine Ji a w K (fun _ _ => rfl) hS (fun v w2 hp hb => ?_)
  have hB := hst _ _ hS hb
  refine hK.out _ _ hB (fun _ => ?_)
  refine wpAnyH_job (fuel := fuel) hoj hgj ri (Jj.put hsi v) hst hB (fun u w3 hp3 hB3 hb3 => ?_)
  exact h v u w3 (si _ _ _ hp hb3) hp3 hB3 (hb.trans (hb3.mono hb.size))
 ·rw [if_pos (wanted_plain hgj)]
  refine Jj a w K (fun _ _ => rfl) hS (fun v w2 hp hb => ?_)
  have hB := hst _ _ hS hb
  refine hK.out _ _ hB (fun _ => ?_)
  refine wpAnyH_job (fuel := fuel) hoi hgi rj (Ji.put hsj v) hst hB (fun u w3 hp3 hB3 hb3 => ?_)
  rw [listed_comm _ (Ne.symm hij), put_comm _ _ _ (Ne.symm hd)]
  exact h u v w3 hp3 (sj _ _ _ hp hb3) hB3 (hb.trans (hb3.mono hb.size))
theorem wpAnyH_three {i j k di dj dk : Nat} {fuel : Nat} {listed : Array Bool} {a : Act} {w : World} {oi oj ok : Oper} {skip : List Nat} {Pi Pj Pk : Value → World → Prop}
  (hoi : ops[i]? = some oi) (hoj : ops[j]? = some oj) (hok : ops[k]? = some ok) (hgi : oi.guard = none) (hgj : oj.guard = none) (hgk : ok.guard = none)
  (hij : i ≠ j ∧ i ≠ k ∧ j ≠ k) (hd : di ≠ dj ∧ di ≠ dk ∧ dj ≠ dk) (hs : di ∈ skip ∧ dj ∈ skip ∧ dk ∈ skip)
  (r0 : Region.ready md ops listed = [i, j, k]) (ri : Region.ready md ops (listed.setIfInBounds i true) = [j, k]) (rj : Region.ready md ops (listed.setIfInBounds j true) = [i, k]) (rk : Region.ready md ops (listed.setIfInBounds k true) = [i, j])
  (rij : Region.ready md ops ((listed.setIfInBounds i true).setIfInBounds j true) = [k]) (rik : Region.ready md ops ((listed.setIfInBounds i true).setIfInBounds k true) = [j]) (rjk : Region.ready md ops ((listed.setIfInBounds j true).setIfInBounds k true) = [i])
  (Ji : Job P Q S oi di a skip Pi) (Jj : Job P Q S oj dj a skip Pj) (Jk : Job P Q S ok dk a skip Pk) (si : Stays Pi) (sj : Stays Pj) (sk : Stays Pk) (hst : ∀ w1 w2, S w1 → bW w1 w2 → S w2) (hS : S w)
  (h : ∀ vi vj vk w', Pi vi w' → Pj vj w' → Pk vk w' → S w' → bW w w' →
   wpAnyH P md ops Q S fuel (((listed.setIfInBounds i true).setIfInBounds j true).setIfInBounds k true) (((a.put (some di) vi).put (some dj) vj).put (some dk) vk) w') :
  wpAnyH P md ops Q S (fuel + 3) listed a w := by
 obtain ⟨qij, qik, qjk⟩ := hij
 obtain ⟨dij, dik, djk⟩ := hd
 obtain ⟨si', sj', sk'⟩ := hs
 refine wpAnyH_ready (fuel := fuel + 2) r0 (by simp) (AllReadyH.cons hoi (fun K hK => ?_) (AllReadyH.cons hoj (fun K hK => ?_) (AllReadyH.cons hok (fun K hK => ?_) AllReadyH.nil)))
 ·exact z145
 ·rw [if_pos (wanted_plain hgj)]
  refine Jj a w K (fun _ _ => rfl) hS (fun v w2 hp hb => ?_)
  have hB := hst _ _ hS hb
  refine hK.out _ _ hB (fun _ => ?_)
  refine wpAnyH_two (fuel := fuel) hoi hok hgi hgk qik dik si' sk' rj (by rw [listed_comm _ (Ne.symm qij)]; exact rij) rjk (Ji.put sj' v) (Jk.put sj' v) si sk hst hB (fun u t w3 h1 h2 hB3 hb3 => ?_)
  rw [listed_comm _ (Ne.symm qij), put_comm _ _ _ (Ne.symm dij)]
  exact h u v t w3 h1 (sj _ _ _ hp hb3) h2 hB3 (hb.trans (hb3.mono hb.size))
 ·rw [if_pos (wanted_plain hgk)]
  refine Jk a w K (fun _ _ => rfl) hS (fun v w2 hp hb => ?_)
  have hB := hst _ _ hS hb
  refine hK.out _ _ hB (fun _ => ?_)
  refine wpAnyH_two (fuel := fuel) hoi hoj hgi hgj qij dij si' sj' rk (by rw [listed_comm _ (Ne.symm qik)]; exact rik) (by rw [listed_comm _ (Ne.symm qjk)]; exact rjk) (Ji.put sk' v) (Jj.put sk' v) si sj hst hB (fun u t w3 h1 h2 hB3 hb3 => ?_)
  rw [listed_comm _ (Ne.symm qik), listed_comm (listed.setIfInBounds i true) (Ne.symm qjk), put_comm _ _ _ (Ne.symm dik), put_comm (a.put (some di) u) _ _ (Ne.symm djk)]
  exact h u t v w3 h1 h2 (sk _ _ _ hp hb3) hB3 (hb.trans (hb3.mono hb.size))
end
end Go.Proofs.YtpndjhelpoenpaaGreatDoor
namespace Go.Proofs.YtpndjhelpoenpaaGreatDoor
open Go.RowKit Go.Sort
attribute [local go_sem ↓] Go.wp_at_zero Go.wp_at_succ
def panPost (w : World) (f : Nat → Int) (n : Nat) (I H S P : Int) (ok : Bool) (e : Ending) (w' : World) : Prop :=
 ∃ A' c', e = .returned (.tuple #[.agg (wB A' n c' I H S P), .bool ok]) ∧ n ≤ c' ∧ c' ≤ maxLen ∧ w'.ownsRow w.heap.size 97 4 (.slice A' n c') n ((cellsL f n).map (Value.int .i64)) ∧ bW w w'
def setB (f : Nat → Int) (i : Nat) (wt s : Int) : Nat → Int := upd (upd f (i * 4 + 2) wt) (i * 4 + 3) s
theorem cellsL_set (f : Nat → Int) (n j : Nat) (z : Int) : ((cellsL f n).map (Value.int .i64)).set j (.int .i64 z) = (cellsL (upd f j z) n).map (Value.int .i64) := by
 apply List.ext_getElem?
 intro q
 simp only [List.getElem?_set, List.getElem?_map, List.length_map, cellsL_len, cellsL]
 by_cases hq : q < n * 4
 ·by_cases hj : j = q
  ·subst hj
   simp [hq, upd]
  ·simp [hj, hq, upd, Ne.symm hj]
 ·by_cases hj : j = q
  ·subst hj; simp [hq]
  ·simp [hj, hq]
theorem cellsL_at (f : Nat → Int) (n j : Nat) (h : j < n * 4) : (cellsL f n)[j]? = some (f j) := by simp [cellsL, h]
theorem row_ne {w : World} {lo k n c g : Nat} {e T0 : TypeId} {xs : List Value} {cur : Array Value} (h : w.ownsRow lo e k (.slice (some ⟨g, 0, none⟩) n c) n xs) (hb : w.heap[g]? = some (.cells cur T0 (0, 0))) (hne : e ≠ T0) : False := by
 rcases h.2 with ⟨hv, _⟩ | ⟨g', cap, cu, hv, _, hG, _⟩
 ·cases hv
 ·cases hv
  rw [hb] at hG
  simp at hG
  exact hne hG.2.symm
theorem grown_trans {a b c : World} {r : Option Nat} (h1 : a.grownBy b r) (h2 : b.grownBy c r) : a.grownBy c r :=
 ⟨h2.os.trans h1.os, h2.tape.trans h1.tape, h2.output.trans h1.output, Nat.le_trans h1.size h2.size, fun k hk hr => (h2.block k (Nat.lt_of_lt_of_le hk h1.size) hr).trans (h1.block k hk hr)⟩
theorem infoBrine : (Tryz.prog.info? 95).map (·.size) = some 2 := by exact z12
theorem l25Pan_rake (A : Option Addr) (n c lo hi : Nat) (f : Nat → Int) (I H S P : Int) (id tt0 z : Int) (i : Nat) (hi' : i < n) (w : World) (hs : Sl w lo hi 4 A n f) (hn : n ≤ 1048576) (hnc : n ≤ c) :
  Calls Tryz.prog 156 #[.agg (wB A n c I H S P), .agg (iV 5 id tt0 z), .int .i64 i] w (panPost w (setB f i (f (i * 4 + 2)) (wrap64 (f (i * 4 + 3) - z))) n I (wrap64 (H + z)) S P (mayV (f (i * 4 + 2)) (f (i * 4 + 3)))) := by
 refine z146 ?_
 intro hX
 have HS : Hid (Sl (((w.alloc (.cells (wB A n c I H S P) 32)).alloc (.cells (iV 5 id tt0 z) 107)).alloc (.cells (wB none 0 0 0 0 0 0) 32)) lo hi 4 A n f) := hs.below hX
 have HX := lh hX
 clear hs hX
 obtain ⟨b, off, rfl, hbw, _⟩ := HS.out.open_ (Below.refl _ _) (by omega)
 have HC : ∀ w', bW (((w.alloc (.cells (wB (some ⟨b, off, none⟩) n c I H S P) 32)).alloc (.cells (iV 5 id tt0 z) 107)).alloc (.cells (wB none 0 0 0 0 0 0) 32)) w' → cI w' b (off + i * 4 + 2) (f (i * 4 + 2)) ∧ cI w' b (off + i * 4 + 3) (f (i * 4 + 3)) := by
  intro w' hq
  obtain ⟨_, HC⟩ := HS.out.open_at hq (by omega)
  obtain ⟨c0, c1, c2, c3⟩ := cell4 HC hi'
  exact ⟨c2, c3⟩
 have HF : Hid (∀ w', bW (((w.alloc (.cells (wB (some ⟨b, off, none⟩) n c I H S P) 32)).alloc (.cells (iV 5 id tt0 z) 107)).alloc (.cells (wB none 0 0 0 0 0 0) 32)) w' → cE w' w.heap.size 0 (.slice (some ⟨b, off, none⟩) n c) ∧ cI w' w.heap.size 1 I ∧ cI w' w.heap.size 2 H ∧ cI w' w.heap.size 3 S ∧ cI w' w.heap.size 4 P ∧ cI w' b (off + i * 4 + 2) (f (i * 4 + 2)) ∧ cI w' b (off + i * 4 + 3) (f (i * 4 + 3))) := fun w' hq => ⟨(hq.cell (p := ⟨w.heap.size, 0, none⟩) (by simp; omega)).trans (by go_simp), (hq.cell (p := ⟨w.heap.size, 1, none⟩) (by simp; omega)).trans (by go_simp), (hq.cell (p := ⟨w.heap.size, 2, none⟩) (by simp; omega)).trans (by go_simp), (hq.cell (p := ⟨w.heap.size, 3, none⟩) (by simp; omega)).trans (by go_simp), (hq.cell (p := ⟨w.heap.size, 4, none⟩) (by simp; omega)).trans (by go_simp), (HC w' hq).1, (HC w' hq).2⟩
 refine z147 ?_
 intro hi0 hin
 clear HC
 go_enter Tryz.func156, Tryz.ntmps156
 go_wp2_with fail
 refine wp_region_held_drew (S := fun w' => bW (((w.alloc (.cells (wB (some ⟨b, off, none⟩) n c I H S P) 32)).alloc (.cells (iV 5 id tt0 z) 107)).alloc (.cells (wB none 0 0 0 0 0 0) 32)) w') (by exact z12) ((Below.refl _ (((w.alloc (.cells (wB (some ⟨b, off, none⟩) n c I H S P) 32)).alloc (.cells (iV 5 id tt0 z) 107)).alloc (.cells (wB none 0 0 0 0 0 0) 32))).drew) (fun jd => ?_)
 refine z148 ?_
 refine wpAnyH_three (fuel := 2) (i := 1) (j := 8) (k := 9) (di := 14) (dj := 8) (dk := 9) (skip := [14, 8, 9]) (Pi := (fun v w' => ∃ A' c', v = .agg (wB A' n c' I H S P) ∧ n ≤ c' ∧ c' ≤ maxLen ∧ w'.ownsRow (((w.alloc (.cells (wB (some ⟨b, off, none⟩) n c I H S P) 32)).alloc (.cells (iV 5 id tt0 z) 107)).alloc (.cells (wB none 0 0 0 0 0 0) 32)).heap.size 97 4 (.slice A' n c') n ((cellsL f n).map (Value.int .i64)))) rfl rfl rfl rfl rfl rfl (by decide) (by decide) (by decide) (by exact z12) (by exact z12) (by exact z12) (by exact z12) (by exact z12) (by exact z12) (by exact z12) ?jc (Job.alloc (nb := (((w.alloc (.cells (wB (some ⟨b, off, none⟩) n c I H S P) 32)).alloc (.cells (iV 5 id tt0 z) 107)).alloc (.cells (wB none 0 0 0 0 0 0) 32)).heap.size) (obj := .cells (wB none 0 0 0 0 0 0) 32) rfl (fun _ h => h.size) (fun a' w1 => by go_simp; try rfl)) (Job.alloc (nb := (((w.alloc (.cells (wB (some ⟨b, off, none⟩) n c I H S P) 32)).alloc (.cells (iV 5 id tt0 z) 107)).alloc (.cells (wB none 0 0 0 0 0 0) 32)).heap.size) (obj := .cells (jV 0 0) 95) rfl (fun _ h => h.size) (fun a' w1 => by go_simp; try rfl)) ?stc stays_alloc stays_alloc below_stays jd ?nx
 case stc =>
  exact z149
 case jc =>
  exact z150
 case nx =>
 rintro vi vj vk w4 ⟨A', c', rfl, hnc', hcm', hO⟩ ⟨g8, rfl, l8, h8⟩ ⟨g9, rfl, l9, h9⟩ hB4 _
 revert A' hO
 refine z151 ?_
 intro ga hO
 refine z15 ?_
 refine wS0 10 g8 (wB (some ⟨ga, 0, none⟩) n c' I H S P) 32 infoWorks h8 (fun w' hg => hB4.grown hg hB4.size (fun k hk => by cases hk; exact l8)) ?k8
 case k8 =>
 intro w5 h85 hg5 hB5
 refine z152 ?_
 intro ne89 h95 hO5
 refine wS0 11 g9 (jV (f (i * 4 + 2)) (f (i * 4 + 3))) 95 infoBrine h95 (fun w' hg => hB5.grown hg hB5.size (fun k hk => by cases hk; exact l9)) ?k9
 case k9 =>
 intro w6 h96 hg6 hB6
 refine z153 ?_
 intro h86 hO6
 refine z49 ?_
 refine z154 ?_
 intro b0 b1 b2 b3 b4 c2 c3 s0 s1 s2 s3
 have hr6 : w6.heap[w.heap.size + 1 + 1]? = some (.cells (wB none 0 0 0 0 0 0) 32) := (hB6.block (w.heap.size + 1 + 1) (by simp)).trans (by have := heap_alloc_new ((w.alloc (.cells (wB (some ⟨b, off, none⟩) n c I H S P) 32)).alloc (.cells (iV 5 id tt0 z) 107)) (.cells (wB none 0 0 0 0 0 0) 32); simpa using this)
 refine z155 ?_
 intro h86' h96' e0 e1 e2 e3 e4 ef d0 d1 a2 a3 af nga
 have lga : (((w.alloc (.cells (wB (some ⟨b, off, none⟩) n c I H S P) 32)).alloc (.cells (iV 5 id tt0 z) 107)).alloc (.cells (wB none 0 0 0 0 0 0) 32)).heap.size ≤ ga := (World.ownsRow.lt hO6 ga rfl).1
 revert l8 l9 lga
 refine z156 ?_
 intro nga9 lga l8 l9 nga0 mga0 nga1 mga1 nga2 mga2 ng80 mg80 ng81 mg81 ng82 mg82 ng90 mg90 ng91 mg91 ng92 mg92 nn1 nn2 nn3 HO6 HB6 H86 HR6
 clear hO6 hB6 h86 h86' h96 h96' hg6 hg5 hB5 hB4 hO hO5 h8 h9 h85 h95 HF HS hr6 jd
 go_wp2_with fail
 obtain ⟨w7, hw7⟩ : ∃ w7, w7 = (((w6.setCell ⟨ga, i * 4 + 2, none⟩ (.int .i64 (f (i * 4 + 2)))).setCell ⟨ga, i * 4 + 2 + 1, none⟩ (.int .i64 (wrap64 (f (i * 4 + 3) - z)))).setCell ⟨g8, 2, none⟩ (.int .i64 (wrap64 (H + z)))) := ⟨_, rfl⟩
 rw [← hw7]
 clear e0 e1 e2 e3 e4 b0 b1 b2 b3 b4 s0 s1 s2 s3 c2 c3
 have t1 := (World.ownsRow.stored HO6.out (i * 4 + 2) (.int .i64 (f (i * 4 + 2)))).1
 have t2 := (World.ownsRow.stored t1 (i * 4 + 2 + 1) (.int .i64 (wrap64 (f (i * 4 + 3) - z)))).1
 have t3 := ownsRow_setCell_other (a := ⟨g8, 2, none⟩) t2 (by simp [Value.ownBlock, nga]) (.int .i64 (wrap64 (H + z)))
 rw [← hw7, cellsL_set, cellsL_set] at t3
 have x8 : w7.heap[g8]? = some (.cells (wB (some ⟨ga, 0, none⟩) n c' I (wrap64 (H + z)) S P) 32) := by
  rw [hw7]
  exact heap_setCell_same _ g8 2 (wB (some ⟨ga, 0, none⟩) n c' I H S P) 32 _ (by rw [heap_setCell_other _ _ _ _ nn1, heap_setCell_other _ _ _ _ nn1]; exact H86.out)
 have xr : w7.heap[w.heap.size + 1 + 1]? = some (.cells (wB none 0 0 0 0 0 0) 32) := by
  rw [hw7, heap_setCell_other _ _ _ _ mg82, heap_setCell_other _ _ _ _ mga2, heap_setCell_other _ _ _ _ mga2]
  exact HR6.out
 have x90 : cI w7 g9 0 (f (i * 4 + 2)) := by rw [hw7]; go_simp
 have x91 : cI w7 g9 1 (f (i * 4 + 3)) := by rw [hw7]; go_simp
 have B7 : bW w w7 := by
  rw [hw7]
  exact (((HX.out.trans (HB6.out.mono HX.out.size)).setCell (show w.heap.size ≤ ga by omega) _).setCell (show w.heap.size ≤ ga by omega) _).setCell (show w.heap.size ≤ g8 by omega) _
 have z9 := World.block_lt_of_cell? _ _ x90
 clear hw7 t1 t2 a2 a3 af ef d0 d1 HO6 HB6 H86 HR6
 have HO7 := lh t3
 have X8 := lh x8
 have XR := lh xr
 have BB := lh B7
 clear t3 B7
 have HF : Hid (∀ w', w7.grownBy w' (some (w.heap.size + 1 + 1)) → cE w' g8 0 (.slice (some ⟨ga, 0, none⟩) n c') ∧ cI w' g8 1 I ∧ cI w' g8 2 (wrap64 (H + z)) ∧ cI w' g8 3 S ∧ cI w' g8 4 P ∧ cI w' g9 0 (f (i * 4 + 2)) ∧ cI w' g9 1 (f (i * 4 + 3))) := by
  intro w' hq
  have y8 := (hq.block g8 (gL X8.out) (by simp; omega)).trans X8.out
  have y9 := hq.block g9 z9 (by simp; omega)
  exact ⟨by rw [cell_of_row w' g8 0 _ _ (0, 0) y8]; rfl, by rw [cell_of_row w' g8 1 _ _ (0, 0) y8]; rfl, by rw [cell_of_row w' g8 2 _ _ (0, 0) y8]; rfl, by rw [cell_of_row w' g8 3 _ _ (0, 0) y8]; rfl, by rw [cell_of_row w' g8 4 _ _ (0, 0) y8]; rfl, (World.cell?_of_block (a := ⟨g9, 0, none⟩) y9).trans x90, (World.cell?_of_block (a := ⟨g9, 1, none⟩) y9).trans x91⟩
 clear x8 xr x90 x91
 refine wp_region_held_drew (S := fun w' => w7.grownBy w' (some (w.heap.size + 1 + 1))) (by exact z12) ⟨rfl, rfl, rfl, Nat.le_refl _, fun _ _ _ => rfl⟩ (fun jd => ?_)
 refine tj2 0 123 1 124 HF jd ?_
 refine wpAnyH_job (fuel := 2) (i := 2) (d := 125) (skip := []) (Post := fun v _ => v = .bool (mayV (f (i * 4 + 2)) (f (i * 4 + 3)))) rfl rfl (by exact z12) ?jm but_stays jd ?nm
 case jm =>
  intro a' w1 K hev hb hK
  have h1 : a'.eval (.tmp 124) = .agg (jV (f (i * 4 + 2)) (f (i * 4 + 3))) := (hev 124 (by decide)).trans rfl
  have h2 : a'.tmps[124]?.getD undef = .agg (jV (f (i * 4 + 2)) (f (i * 4 + 3))) := by simpa [Act.eval] using h1
  have HK := lh hK
  clear hev h1 hK HF
  go_simp
  go_at_call 185
  refine (l25May_any _ _ w1).mono ?_
  exact z157
 case nm =>
 rintro v w8 rfl hS8 hb8
 refine z15 ?_
 refine wS0 3 (w.heap.size + 1 + 1) (wB (some ⟨ga, 0, none⟩) n c' I (wrap64 (H + z)) S P) 32 infoWorks ((hb8.block _ (gL XR.out)).trans XR.out) (fun w' hg => grown_trans hS8 hg) ?kr
 case kr =>
 intro w9 h9 hg9 hS9
 have jd := hS9
 refine tj 4 7 HF rfl jd ?_
 refine z49 ?_
 have h9' : w9.heap[w.heap.size + 1 + 1]? = some (.cells (wB (some ⟨ga, 0, none⟩) n c' I (wrap64 (H + z)) S P) 32) := h9
 obtain ⟨r0, r1, r2, r3, r4⟩ := cells5 h9'
 have hO9 := ownsRow_monoP (own_other HO7.out XR.out (by decide) hS9) HX.out.size
 have hX9 := BB.out.grown hS9 BB.out.size (fun k hk => by cases hk; omega)
 clear h9 h9' hg9 hS9 jd HF XR X8 HO7
 go_wp2
 refine z66 ?_
 refine bodyPost_ret (by simp [results, Tryz.results156, go_sem, r0, r1, r2, r3, r4]; try rfl) rfl ?_
 exact ⟨_, c', rfl, hnc', hcm', hO9, hX9⟩
end Go.Proofs.YtpndjhelpoenpaaGreatDoor
namespace Go.Proofs.YtpndjhelpoenpaaGreatDoor
open Go.RowKit Go.Sort
attribute [local go_sem ↓] Go.wp_at_zero Go.wp_at_succ
section
variable {P : Program} {md : Region.Mode} {ops : Array Oper} {Q : Exit → Act → World → Prop} {S : World → Prop}
theorem wpAnyH_jobG {i d : Nat} {fuel : Nat} {listed : Array Bool} {a : Act} {w : World} {o : Oper} {skip : List Nat} {Post : Value → World → Prop} (ho : ops[i]? = some o) (hg : Region.wanted o (yielded ops a.tmps) = true)
  (r0 : Region.ready md ops listed = [i]) (J : Job P Q S o d a skip Post) (hst : ∀ w1 w2, S w1 → bW w1 w2 → S w2) (hS : S w)
  (h : ∀ v w', Post v w' → S w' → bW w w' → wpAnyH P md ops Q S fuel (listed.setIfInBounds i true) (a.put (some d) v) w') :
  wpAnyH P md ops Q S (fuel + 1) listed a w := by
 refine wpAnyH_ready r0 (by simp) (AllReadyH.cons ho (fun K hK => ?_) AllReadyH.nil)
 rw [if_pos hg]
 exact z144
end
theorem l25Make_rake (A : Option Addr) (n c lo hi : Nat) (f : Nat → Int) (I H S P : Int) (id tt0 z : Int) (i : Nat) (hi' : i < n) (w : World) (hs : Sl w lo hi 4 A n f) (hn : n ≤ 1048576) (hnc : n ≤ c) (hnone : A = none → n = 0 ∧ c = 0) (hfd : findV (pid f) id n 0 = (i : Int)) (hz1 : z ≤ 1000000) :
  Calls Tryz.prog 114 #[.agg (wB A n c I H S P), .agg (iV 5 id tt0 z)] w (panPost w (setB f i (f (i * 4 + 2)) (wrap64 (f (i * 4 + 3) - z))) n I (wrap64 (H + z)) S P ((mayV (f (i * 4 + 2)) (f (i * 4 + 3))) && goodWorks (setB f i (f (i * 4 + 2)) (wrap64 (f (i * 4 + 3) - z))) n I (wrap64 (H + z)) S P)) := by
 refine z146 ?_
 intro hX
 have HX := lh hX
 clear hX
 refine z158 ?_
 intro hz2
 go_wp2_with fail
 refine (l25Own_any A n c lo hi f I H S P _ (hs.below HX.out) hn hnc hnone).mono ?_
 rintro e w1 ⟨A1, c1, rfl, _, _, _, hb1⟩
 obtain ⟨b0, b1, b2, b3, b4⟩ := cells5 (bx (g := w.heap.size) hb1)
 obtain ⟨s0, s1, s2, s3⟩ := cells4 (bx (g := w.heap.size + 1) hb1)
 have hr1 : w1.heap[w.heap.size + 1 + 1]? = some (.cells (wB none 0 0 0 0 0 0) 32) := (hb1.block (w.heap.size + 1 + 1) (by simp)).trans (by have := heap_alloc_new ((w.alloc (.cells (wB A n c I H S P) 32)).alloc (.cells (iV 5 id tt0 z) 107)) (.cells (wB none 0 0 0 0 0 0) 32); simpa using this)
 have z1 := hb1.size
 simp only [World.size_alloc] at z1
 have B1 := HX.out.trans (hb1.mono HX.out.size)
 clear hb1
 refine z159 ?_
 intro nz1 nz2 nz3 nz4 nz5 hR1 hB1
 clear hr1 B1
 go_upto_region 3 with fail
 refine z160 ?_
 intro w2 hw2 b12 p0 p1 p2 p3 p4 q0 q1 q2 q3 h6 hr2 B2
 clear hw2 b0 b1 b2 b3 b4 s0 s1 s2 s3 hR1 hB1 b12
 go_wp2_with fail
 generalize w1.heap.size = g6 at *
 have HBw : Hid (∀ w', w2.grownBy w' (some g6) → bW w w') := fun w' hq => B2.grown hq B2.size (fun k hk => by cases hk; omega)
 have HF : Hid (∀ w', w2.grownBy w' (some g6) → cE w' w.heap.size 0 (.slice A n c) ∧ cI w' w.heap.size 1 I ∧ cI w' w.heap.size 2 H ∧ cI w' w.heap.size 3 S ∧ cI w' w.heap.size 4 P ∧ cI w' (w.heap.size + 1) 0 5 ∧ cI w' (w.heap.size + 1) 1 id ∧ cI w' (w.heap.size + 1) 2 tt0 ∧ cI w' (w.heap.size + 1) 3 z) := by
  intro w' hq
  have u0 := hq.block w.heap.size (World.block_lt_of_cell? _ _ p0) (by simp; omega)
  have u1 := hq.block (w.heap.size + 1) (World.block_lt_of_cell? _ _ q0) (by simp; omega)
  exact ⟨(World.cell?_of_block (a := ⟨w.heap.size, 0, none⟩) u0).trans p0, (World.cell?_of_block (a := ⟨w.heap.size, 1, none⟩) u0).trans p1, (World.cell?_of_block (a := ⟨w.heap.size, 2, none⟩) u0).trans p2, (World.cell?_of_block (a := ⟨w.heap.size, 3, none⟩) u0).trans p3, (World.cell?_of_block (a := ⟨w.heap.size, 4, none⟩) u0).trans p4, (World.cell?_of_block (a := ⟨w.heap.size + 1, 0, none⟩) u1).trans q0, (World.cell?_of_block (a := ⟨w.heap.size + 1, 1, none⟩) u1).trans q1, (World.cell?_of_block (a := ⟨w.heap.size + 1, 2, none⟩) u1).trans q2, (World.cell?_of_block (a := ⟨w.heap.size + 1, 3, none⟩) u1).trans q3⟩
 have X6 := lh h6
 have XR2 := lh hr2
 clear p0 p1 p2 p3 p4 q0 q1 q2 q3 h6 hr2 B2
 refine wp_region_held_drew (S := fun w' => w2.grownBy w' (some g6)) (by exact z12) ⟨rfl, rfl, rfl, Nat.le_refl _, fun _ _ _ => rfl⟩ (fun jd => ?_)
 refine tj4 0 11 1 12 2 13 3 14 HF jd ?_
 refine tj 4 15 HF rfl jd ?_
 refine wpAnyH_job (fuel := 6) (i := 5) (d := 16) (skip := []) (Post := fun v _ => v = .int .i64 (i : Int)) rfl rfl (by exact z12) ?jf but_stays jd ?nf
 case jf =>
  exact z162
 case nf =>
 rintro v w3 rfl hS3 hb3
 refine z15 ?_
 refine wpAnyH_job (fuel := 5) (i := 6) (d := 17) (skip := []) (Post := (fun v w' => ∃ A' c', v = .tuple #[.agg (wB A' n c' I (wrap64 (H + z)) S P), .bool (mayV (f (i * 4 + 2)) (f (i * 4 + 3)))] ∧ n ≤ c' ∧ c' ≤ maxLen ∧ w'.ownsRow w.heap.size 97 4 (.slice A' n c') n ((cellsL (setB f i (f (i * 4 + 2)) (wrap64 (f (i * 4 + 3) - z))) n).map (Value.int .i64)))) rfl rfl (by exact z12) ?jp but_stays hS3 ?np
 case jp =>
  intro a' w1' K hev hb hK
  refine z164 ?_
  intro h1 h2
  have h3 : a'.eval (.tmp 12) = .agg (iV 5 id tt0 z) := (hev 12 (by decide)).trans rfl
  have h4 : a'.tmps[12]?.getD undef = .agg (iV 5 id tt0 z) := by simpa [Act.eval] using h3
  have h5 : a'.eval (.tmp 16) = .int .i64 i := (hev 16 (by decide)).trans rfl
  have h6 : a'.tmps[16]?.getD undef = .int .i64 i := by simpa [Act.eval] using h5
  have HK := lh hK
  have HBb := lh (HBw.out w1' hb)
  clear hev h1 h3 h5 hK HF
  go_simp
  go_at_call 156
  refine (l25Pan_rake A n c lo hi f I H S P id tt0 z i hi' w1' (hs.below HBb.out) hn hnc).mono ?_
  exact z165
 case np =>
 rintro v w4 ⟨A2, c2, rfl, hc2, hm2, hO4⟩ hS4 hb4
 refine z15 ?_
 refine z166 ?_
 intro jd hB24 h64
 refine wS0 10 g6 (wB A2 n c2 I (wrap64 (H + z)) S P) 32 infoWorks h64 (fun w' hg => grown_trans hS4 hg) ?k6
 case k6 =>
 intro w5 h5 hg5 hS5
 have jd := hS5
 refine tj 11 7 HF rfl jd ?_
 refine z49 ?_
 have h5' : w5.heap[g6]? = some (.cells (wB A2 n c2 I (wrap64 (H + z)) S P) 32) := h5
 have hO5 := own_other hO4 h64 (by decide) hg5
 have hr5 := (hS5.block _ (gL XR2.out) (by simp; omega)).trans XR2.out
 have HO5 := lh hO5
 have X8 := lh h5'
 have XR := lh hr5
 have BB := lh (HBw.out w5 hS5)
 have HS5 : Hid (∀ w', w5.grownBy w' (some (w.heap.size + 1 + 1)) → Sl w' w.heap.size w'.heap.size 4 A2 n (setB f i (f (i * 4 + 2)) (wrap64 (f (i * 4 + 3) - z)))) := by
  intro w' hq
  obtain ⟨A0, c0, e0, _, _, h0⟩ := own_of_row (own_other hO5 hr5 (by decide) hq)
  cases e0
  exact (h0.congr (fun j hj => cellsL_getD _ n j hj)).sl
 clear HF
 have HF : Hid (∀ w', w5.grownBy w' (some (w.heap.size + 1 + 1)) → cE w' g6 0 (.slice A2 n c2) ∧ cI w' g6 1 I ∧ cI w' g6 2 (wrap64 (H + z)) ∧ cI w' g6 3 S ∧ cI w' g6 4 P) := by
  intro w' hq
  have y8 := (hq.block g6 (gL X8.out) (by simp; omega)).trans X8.out
  exact (cells5 y8)
 clear jd hS5 hg5 h5 h5' h64 hO4 hO5 hr5 hS4 hb4 hb3 hS3 hB24 X6 XR2 HBw
 go_wp2_with fail
 cases hm : (mayV (f (i * 4 + 2)) (f (i * 4 + 3))) with
 | true =>
  rw [Bool.true_and]
  refine z167 ?_
  intro jd
  refine tj4 0 51 1 52 2 53 3 54 HF jd ?_
  refine wpAnyH_jobG (fuel := 3) (i := 4) (d := 55) (skip := []) (Post := fun v _ => v = .bool (goodWorks (setB f i (f (i * 4 + 2)) (wrap64 (f (i * 4 + 3) - z))) n I (wrap64 (H + z)) S P)) rfl rfl (by exact z12) ?jgtrue but_stays jd ?ngtrue
  case jgtrue =>
   intro a' w1 K hev hb hK
   have h1 : a'.eval (.tmp 54) = (.agg (wB A2 n c2 I (wrap64 (H + z)) S P)) := (hev 54 (by decide)).trans rfl
   have h2 : a'.tmps[54]?.getD undef = (.agg (wB A2 n c2 I (wrap64 (H + z)) S P)) := by simpa [Act.eval] using h1
   have HK := lh hK
   have HSL := lh (HS5.out w1 hb)
   clear hev h1 hK HF
   go_simp
   go_at_call 80
   refine (l25Good_any _ n _ _ _ _ I (wrap64 (H + z)) S P w1 HSL.out hn hc2).mono ?_
   exact z163
  case ngtrue =>
  rintro v w8 rfl hS8 hb8
  refine z15 ?_
  have jd := hS8
  refine tj 5 56 HF rfl jd ?_
  refine wS0 6 (w.heap.size + 1 + 1) (wB A2 n c2 I (wrap64 (H + z)) S P) 32 infoWorks ((hb8.block _ (gL XR.out)).trans XR.out) (fun w' hg => grown_trans hS8 hg) ?krtrue
  case krtrue =>
  intro w9 h9 hg9 hS9
  have jd := hS9
  refine tj 7 5 HF rfl jd ?_
  refine z49 ?_
  have h9' : w9.heap[w.heap.size + 1 + 1]? = some (.cells (wB A2 n c2 I (wrap64 (H + z)) S P) 32) := h9
  refine z168 ?_
  intro r0 r1 r2 r3 r4 hO9 hX9
  clear h9 h9' hg9 hS9 jd HF XR X8 HO5 HS5
  go_wp2
  refine z66 ?_
  exact z169
 | false =>
  rw [Bool.false_and]
  refine z167 ?_
  intro jd
  refine tj3 0 51 1 52 2 53 HF jd ?_
  refine wpAnyH_skips (by exact z12) (fun _ _ _ _ _ h => h) jd [(3, 54), (4, 55)] 3 2 _ _ rfl (by exact z12) ?_
  refine z47 ?_
  refine tj 5 56 HF rfl jd ?_
  have hS8 := jd
  have hb8 : Below w5.drew.heap.size w5.drew w5.drew := Below.refl _ _
  refine wS0 6 (w.heap.size + 1 + 1) (wB A2 n c2 I (wrap64 (H + z)) S P) 32 infoWorks ((hb8.block _ (gL XR.out)).trans XR.out) (fun w' hg => grown_trans hS8 hg) ?krfalse
  case krfalse =>
  intro w9 h9 hg9 hS9
  have jd := hS9
  refine tj 7 5 HF rfl jd ?_
  refine z49 ?_
  have h9' : w9.heap[w.heap.size + 1 + 1]? = some (.cells (wB A2 n c2 I (wrap64 (H + z)) S P) 32) := h9
  refine z168 ?_
  intro r0 r1 r2 r3 r4 hO9 hX9
  clear h9 h9' hg9 hS9 jd HF XR X8 HO5 HS5
  go_wp2
  refine z66 ?_
  exact z169
end Go.Proofs.YtpndjhelpoenpaaGreatDoor
namespace Go.Proofs.YtpndjhelpoenpaaGreatDoor
open Go.RowKit
structure Cls (S : World → Prop) (nb : Nat) : Prop where
 size : ∀ w, S w → nb ≤ w.heap.size
 alloc : ∀ w o, S w → S (w.alloc o)
 grown : ∀ w w' r, S w → w.grownBy w' r → (∀ k, r = some k → nb ≤ k) → S w'
theorem cls_but {W : World} {r : Nat} : Cls (fun w => W.grownBy w (some r)) W.heap.size :=
 ⟨fun w h => h.size, fun w o h => ⟨h.os, h.tape, h.output, Nat.le_trans h.size (by simp), fun k hk hr => (heap_alloc_old w o (Nat.lt_of_lt_of_le hk h.size)).trans (h.block k hk hr)⟩,
  fun w w' r' h hg hr => ⟨hg.os.trans h.os, hg.tape.trans h.tape, hg.output.trans h.output, Nat.le_trans h.size hg.size, fun k hk hk' => (hg.block k (Nat.lt_of_lt_of_le hk h.size) (fun e => by have := hr k e.symm; omega)).trans (h.block k hk hk')⟩⟩
section
variable {P : Program} {md : Region.Mode} {ops : Array Oper} {Q : Exit → Act → World → Prop} {S : World → Prop} {nb : Nat}
theorem wpAnyH_appS {i ds d j : Nat} {fuel : Nat} {listed : Array Bool} {a : Act} {w : World} {t ty : TypeId} {pos : String} {af : Array Edge}
  (ho : ops[i]? = some ⟨some d, .call { callee := .builtin .append, args := #[.tmp ds, .tmp j], argTypes := #[t, t] }, ty, pos, af, none⟩) (hr : Region.ready md ops listed = [i])
  (e : TypeId) (k bytes : Nat) (z : Value) (ht : P.underlying t = some (.slice e))
  (hinfo : (P.info? e).map (fun i => (i.zero, i.size, i.bytes)) = some (some z, k, bytes)) (hzk : z.cells.size = k) (hk : 0 < k) (hkb : bytes ≤ 1000)
  (zs news : List Int) (n m c : Nat) (v : Value) (A : Option Addr) (hev : a.eval (.tmp ds) = v) (hex : a.eval (.tmp j) = .slice A m c)
  (hC : Cls S nb) (hS : S w) (hown : w.ownsRow nb e k v n (zs.map (Value.int .i64))) (hs : Src w k A m c news) (hlen : n + m ≤ 100000000)
  (h : ∀ v' w', w'.ownsRow nb e k v' (n + m) ((zs ++ news).map (Value.int .i64)) → S w' → w.grownBy w' v.ownBlock →
   wpAnyH P md ops Q S fuel (listed.setIfInBounds i true) (a.put (some d) v') w') :
  wpAnyH P md ops Q S (fuel + 1) listed a w := by
 obtain ⟨v', w', hrun, hown', hgrow⟩ := run_append_src w t ty nb e k bytes z ht hinfo hzk hk hkb zs news n m c v hown A hs hlen (hC.size _ hS)
 refine z95 ?_
 intro K hK
 refine oper_wp_append _ _ _ rfl hev hex hrun ?_
 have hB := hC.grown _ _ _ hS hgrow (fun k hk => (World.ownsRow.lt hown k hk).1)
 exact hK.out _ _ hB (fun _ => h v' w' hown' hB hgrow)
theorem wpAnyH_append3S {i0 i1 iB i2 i3 d0 d1 dB d2 d3 j1 j3 : Nat} {fuel : Nat} {listed : Array Bool} {a : Act} {w : World} {t : TypeId} {o0 oB : Oper} {ty1 ty2 ty3 : TypeId} {p1 p2 p3 : String} {af1 af2 af3 : Array Edge}
  (ho0 : ops[i0]? = some o0) (hoB : ops[iB]? = some oB)
  (ho1 : ops[i1]? = some ⟨some d1, .call { callee := .builtin .append, args := #[.tmp d0, .tmp j1], argTypes := #[t, t] }, ty1, p1, af1, none⟩)
  (ho2 : ops[i2]? = some ⟨some d2, .call { callee := .builtin .append, args := #[.tmp d1, .tmp dB], argTypes := #[t, t] }, ty2, p2, af2, none⟩)
  (ho3 : ops[i3]? = some ⟨some d3, .call { callee := .builtin .append, args := #[.tmp d2, .tmp j3], argTypes := #[t, t] }, ty3, p3, af3, none⟩)
  (hg0 : o0.guard = none ∧ o0.dst = some d0) (hgB : oB.guard = none ∧ oB.dst = some dB)
  (r0 : Region.ready md ops listed = [i0, iB]) (r1 : Region.ready md ops (listed.setIfInBounds i0 true) = [i1, iB]) (r2 : Region.ready md ops (listed.setIfInBounds iB true) = [i0])
  (r3 : Region.ready md ops ((listed.setIfInBounds i0 true).setIfInBounds i1 true) = [iB]) (r4 : Region.ready md ops ((listed.setIfInBounds i0 true).setIfInBounds iB true) = [i1])
  (r5 : Region.ready md ops (((listed.setIfInBounds i0 true).setIfInBounds i1 true).setIfInBounds iB true) = [i2])
  (r6 : Region.ready md ops ((((listed.setIfInBounds i0 true).setIfInBounds i1 true).setIfInBounds iB true).setIfInBounds i2 true) = [i3])
  (hij : i0 ≠ iB ∧ i1 ≠ iB) (hd : d0 ≠ d1 ∧ d0 ≠ dB ∧ d1 ≠ dB ∧ d0 ≠ j1 ∧ dB ≠ j1 ∧ d0 ≠ j3 ∧ d1 ≠ j3 ∧ dB ≠ j3 ∧ d2 ≠ j3) (hsz : d0 < a.tmps.size ∧ d1 < a.tmps.size ∧ dB < a.tmps.size ∧ d2 < a.tmps.size)
  (e : TypeId) (k bytes : Nat) (z : Value) (ht : P.underlying t = some (.slice e))
  (hinfo : (P.info? e).map (fun i => (i.zero, i.size, i.bytes)) = some (some z, k, bytes)) (hzk : z.cells.size = k) (hk : 0 < k) (hkb : bytes ≤ 1000)
  (run0 : ∀ a w, (execOp (Act.eval a) o0).run P w = .ok (.value (.slice (some ⟨w.heap.size, 0, none⟩) 0 0)) (w.alloc (.cells #[] e)))
  (row : List Int) (hrow : row.length = k)
  (runB : ∀ a' w, (∀ j, j ≠ d0 → j ≠ d1 → Act.eval a' (.tmp j) = a.eval (.tmp j)) → (execOp (Act.eval a') oB).run P w = .ok (.value (.slice (some ⟨w.heap.size, 0, none⟩) 1 1)) (w.alloc (.cells (row.map (Value.int .i64)).toArray e)))
  (zs1 zs3 : List Int) (n1 c1 n3 c3 : Nat) (A1 A3 : Option Addr) (e1 : a.eval (.tmp j1) = .slice A1 n1 c1) (e3 : a.eval (.tmp j3) = .slice A3 n3 c3)
  (hC : Cls S nb) (hS : S w) (hs1 : ∀ w', S w' → Src w' k A1 n1 c1 zs1) (hs3 : ∀ w', S w' → Src w' k A3 n3 c3 zs3) (hlen : n1 + 1 + n3 ≤ 100000000)
  (h : ∀ u0 u1 uB u2 g c' w', n1 + 1 + n3 ≤ c' → c' ≤ maxLen → nb ≤ g → w'.ownsRow nb e k (.slice (some ⟨g, 0, none⟩) (n1 + 1 + n3) c') (n1 + 1 + n3) ((zs1 ++ row ++ zs3).map (Value.int .i64)) → S w' →
   wpAnyH P md ops Q S fuel (((((listed.setIfInBounds i0 true).setIfInBounds i1 true).setIfInBounds iB true).setIfInBounds i2 true).setIfInBounds i3 true)
    (((((a.put (some d0) u0).put (some d1) u1).put (some dB) uB).put (some d2) u2).put (some d3) (.slice (some ⟨g, 0, none⟩) (n1 + 1 + n3) c')) w') :
  wpAnyH P md ops Q S (fuel + 5) listed a w := by
 obtain ⟨hg0, hd0⟩ := hg0
 obtain ⟨hgB, hdB⟩ := hgB
 obtain ⟨q01, q0B, q1B, q0j, qBj, q0j3, q1j3, qBj3, q2j3⟩ := hd
 obtain ⟨z0, z1, zB, z2⟩ := hsz
 -- what is common tt0 all orders: the last two appends
 have last : ∀ u0 u1 uB w1, S w1 → w1.ownsRow nb e k u1 n1 (zs1.map (Value.int .i64)) → (∃ b, uB = .slice (some ⟨b, 0, none⟩) 1 1 ∧ ∀ j u, row[j]? = some u → w1.cell? ((⟨b, 0, none⟩ : Addr).add j) = some (.int .i64 u)) →
   wpAnyH P md ops Q S (fuel + 2) (((listed.setIfInBounds i0 true).setIfInBounds i1 true).setIfInBounds iB true) (((a.put (some d0) u0).put (some d1) u1).put (some dB) uB) w1 := by
  intro u0 u1 uB w1 hB1 hown1 ⟨b, hub, hcell⟩
  refine wpAnyH_appS (fuel := fuel + 1) ho2 r5 e k bytes z ht hinfo hzk hk hkb zs1 row n1 1 1 u1 (some ⟨b, 0, none⟩) ?_ ?_ hC hB1 hown1 ⟨by rw [hrow, Nat.one_mul], (by intro h; cases h), fun ad had => by cases had; exact hcell⟩ (by omega) ?_
  ·rw [eval_put_ne _ _ _ _ (Ne.symm q1B), eval_put_eq _ _ _ (by rw [size_put]; exact z1)]
  ·rw [eval_put_eq _ _ _ (by rw [size_put, size_put]; exact zB), hub]
  ·intro v2 w2 hown2 hB2 _
   refine wpAnyH_appS (fuel := fuel) ho3 r6 e k bytes z ht hinfo hzk hk hkb (zs1 ++ row) zs3 (n1 + 1) n3 c3 v2 A3 ?_ ?_ hC hB2 hown2 (hs3 w2 hB2) hlen ?_
   ·rw [eval_put_eq _ _ _ (by simp only [size_put]; exact z2)]
   ·exact z96
   exact z97
 refine z98 ?_
 intro row_cells
 refine wpAnyH_ready (fuel := fuel + 4) r0 (by simp) (AllReadyH.cons ho0 (fun K hK => ?_) (AllReadyH.cons hoB (fun K hK => ?_) AllReadyH.nil))
 ·rw [if_pos (wanted_plain hg0)]
  refine oper_wp_value (run0 a w) ?_
  rw [hd0]
  have hBa := hC.alloc _ (.cells #[] e) hS
  have hr0 := World.ownsRow_made (base := nb) (e := e) (size := k) w #[] 0 (hC.size _ hS) (Nat.zero_le _) (by simp)
  refine hK.out _ _ hBa (fun _ => ?_)
  clear hK K
  refine wpAnyH_ready (fuel := fuel + 3) r1 (by simp) (AllReadyH.cons ho1 (fun K hK => ?_) (AllReadyH.cons hoB (fun K hK => ?_) AllReadyH.nil))
  · -- 0, 1, B
   rw [if_pos (wanted_plain rfl)]
   obtain ⟨v1, w1, hrun, hown1, hgrow⟩ := run_append_src (w.alloc (.cells #[] e)) t ty1 nb e k bytes z ht hinfo hzk hk hkb [] zs1 0 n1 c1 _ hr0 A1 (hs1 _ hBa) (by omega) (hC.size _ hBa)
   refine oper_wp_append _ _ _ rfl (eval_put_eq _ _ _ z0) (by rw [eval_put_ne _ _ _ _ q0j, e1]) hrun ?_
   have hB1 := hC.grown _ _ _ hBa hgrow (fun k hk => (World.ownsRow.lt hr0 k hk).1)
   refine hK.out _ _ hB1 (fun _ => ?_)
   clear hK K
   refine z99 ?_
   intro K hK
   have hBb := hC.alloc _ (.cells (row.map (Value.int .i64)).toArray e) hB1
   refine hK.out _ _ hBb (fun _ => ?_)
   clear hK K
   rw [Nat.zero_add] at hown1
   exact last _ _ _ _ hBb ((by simpa using hown1 : w1.ownsRow nb e k v1 n1 (zs1.map (Value.int .i64))).alloc _) ⟨_, rfl, row_cells w1⟩
  · -- 0, B, 1
   rw [if_pos (wanted_plain hgB)]
   refine oper_wp_value (runB _ _ (fun j h0 h1 => by rw [eval_put_ne _ _ _ _ (Ne.symm h0)])) ?_
   rw [hdB]
   have hBb := hC.alloc _ (.cells (row.map (Value.int .i64)).toArray e) hBa
   have hr1 := hr0.alloc (.cells (row.map (Value.int .i64)).toArray e)
   refine hK.out _ _ hBb (fun _ => ?_)
   clear hK K
   obtain ⟨v1, w1, hrun, hown1, hgrow⟩ := run_append_src ((w.alloc (.cells #[] e)).alloc (.cells (row.map (Value.int .i64)).toArray e)) t ty1 nb e k bytes z ht hinfo hzk hk hkb [] zs1 0 n1 c1 _ hr1 A1 (hs1 _ hBb) (by omega) (hC.size _ hBb)
   refine z100 ?_
   intro K hK
   refine oper_wp_append _ _ _ rfl (by rw [eval_put_ne _ _ _ _ (Ne.symm q0B), eval_put_eq _ _ _ z0]) (by rw [eval_put_ne _ _ _ _ qBj, eval_put_ne _ _ _ _ q0j, e1]) hrun ?_
   have hB1 := hC.grown _ _ _ hBb hgrow (fun k hk => (World.ownsRow.lt hr1 k hk).1)
   exact z101
 · -- B, 0, 1
  rw [if_pos (wanted_plain hgB)]
  refine oper_wp_value (runB _ _ (fun j h0 h1 => rfl)) ?_
  rw [hdB]
  have hBa := hC.alloc _ (.cells (row.map (Value.int .i64)).toArray e) hS
  refine hK.out _ _ hBa (fun _ => ?_)
  clear hK K
  refine wpAnyH_ready (fuel := fuel + 3) r2 (by simp) (AllReadyH.cons ho0 (fun K hK => ?_) AllReadyH.nil)
  rw [if_pos (wanted_plain hg0)]
  refine oper_wp_value (run0 _ _) ?_
  rw [hd0]
  have hBb := hC.alloc _ (.cells #[] e) hBa
  have hr1 := World.ownsRow_made (base := nb) (e := e) (size := k) (w.alloc (.cells (row.map (Value.int .i64)).toArray e)) #[] 0 (hC.size _ hBa) (Nat.zero_le _) (by simp)
  refine hK.out _ _ hBb (fun _ => ?_)
  clear hK K
  rw [listed_comm _ (Ne.symm hij.1)]
  obtain ⟨v1, w1, hrun, hown1, hgrow⟩ := run_append_src ((w.alloc (.cells (row.map (Value.int .i64)).toArray e)).alloc (.cells #[] e)) t ty1 nb e k bytes z ht hinfo hzk hk hkb [] zs1 0 n1 c1 _ hr1 A1 (hs1 _ hBb) (by omega) (hC.size _ hBb)
  refine z100 ?_
  intro K hK
  refine oper_wp_append _ _ _ rfl (eval_put_eq _ _ _ (by rw [size_put]; exact z0)) (by rw [eval_put_ne _ _ _ _ q0j, eval_put_ne _ _ _ _ qBj, e1]) hrun ?_
  have hB1 := hC.grown _ _ _ hBb hgrow (fun k hk => (World.ownsRow.lt hr1 k hk).1)
  exact z102
end
end Go.Proofs.YtpndjhelpoenpaaGreatDoor
