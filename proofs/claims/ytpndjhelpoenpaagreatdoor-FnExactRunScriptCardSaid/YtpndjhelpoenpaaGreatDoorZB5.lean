/-
  Texts of this claim, merged.
-/
import Derived.Test.YtpndjhelpoenpaaGreatDoorZB4
set_option linter.unusedVariables false
set_option linter.unusedSimpArgs false
set_option maxRecDepth 100000
set_option maxHeartbeats 8000000
namespace Go.Proofs.YtpndjhelpoenpaaGreatDoor
open Go.RowKit Go.Sort
attribute [local go_sem ↓] Go.wp_at_zero Go.wp_at_succ
theorem infoWorks : (Tryz.prog.info? 32).map (·.size) = some 5 := by kernel_rfl
def cellsL (f : Nat → Int) (n : Nat) : List Int := (List.range (n * 4)).map f
theorem cellsL_len (f : Nat → Int) (n : Nat) : (cellsL f n).length = n * 4 := by simp [cellsL]
theorem cellsL_get (f : Nat → Int) (n j : Nat) (u : Int) (h : (cellsL f n)[j]? = some u) : j < n * 4 ∧ u = f j := by
 have hl := (List.getElem?_eq_some_iff.1 h).1
 rw [cellsL_len] at hl
 refine ⟨hl, ?_⟩
 simp [cellsL, hl] at h
 exact h.symm
theorem cellsL_getD (f : Nat → Int) (n j : Nat) (h : j < n * 4) : (cellsL f n).getD j 0 = f j := by
 simp [cellsL, List.getD_eq_getElem?_getD, h]
theorem Sl.src {w : World} {lo hi n c : Nat} {A : Option Addr} {f : Nat → Int} (h : Sl w lo hi 4 A n f) (hz : A = none → n = 0 ∧ c = 0) : Src w 4 A n c (cellsL f n) := by
 refine ⟨cellsL_len f n, hz, fun ad had j u hu => ?_⟩
 obtain ⟨hj, rfl⟩ := cellsL_get f n j u hu
 obtain ⟨b, off, e, _, _, h3⟩ := h.here (by omega)
 subst e
 cases had
 have := h3 j hj
 rw [Addr.add_lit]
 exact this
def ownPost (w : World) (f : Nat → Int) (n : Nat) (I H S P : Int) (e : Ending) (w' : World) : Prop :=
 ∃ A' c', e = .returned (.agg #[.slice A' n c', .int .i64 I, .int .i64 H, .int .i64 S, .int .i64 P]) ∧ n ≤ c' ∧ c' ≤ maxLen ∧ w'.ownsRow w.heap.size 97 4 (.slice A' n c') n ((cellsL f n).map (Value.int .i64)) ∧ Below w.heap.size w w'
theorem row_slice {w : World} {lo k : Nat} {e : TypeId} {v : Value} {n : Nat} {xs : List Value} (h : w.ownsRow lo e k v n xs) : ∃ A c, v = .slice A n c ∧ n ≤ c ∧ c ≤ maxLen := by
 rcases h.2 with ⟨rfl, rfl⟩ | ⟨g, c, cur, rfl, _, _, h1, h2, _⟩
 ·exact ⟨none, 0, rfl, Nat.le_refl _, by unfold maxLen; omega⟩
 ·exact ⟨_, c, rfl, h1, h2⟩
theorem own_other {w w' : World} {base k n b : Nat} {e T0 : TypeId} {v : Value} {xs : List Value} {cur : Array Value} (h : w.ownsRow base e k v n xs) (hb : w.heap[b]? = some (.cells cur T0 (0, 0))) (hne : e ≠ T0) (hg : w.grownBy w' (some b)) : w'.ownsRow base e k v n xs := by
 rcases h.2 with h2 | ⟨g, cap, cu, hv, h3, hG, r⟩
 ·exact ⟨h.1, Or.inl h2⟩
 ·have hlt := (Array.getElem?_eq_some_iff.1 hG).1
  refine ⟨h.1, Or.inr ⟨g, cap, cu, hv, h3, ?_, r⟩⟩
  rw [hg.block g hlt (by
   intro he
   simp at he
   subst he
   rw [hb] at hG
   simp at hG
   exact hne hG.2.symm)]
  exact hG
theorem l25Own_any (A : Option Addr) (n c lo hi : Nat) (f : Nat → Int) (I H S P : Int) (w : World) (hs : Sl w lo hi 4 A n f) (hn : n ≤ 1048576) (hnc : n ≤ c) (hz : A = none → n = 0 ∧ c = 0) :
  Calls Tryz.prog 79 #[.agg #[.slice A n c, .int .i64 I, .int .i64 H, .int .i64 S, .int .i64 P]] w (ownPost w f n I H S P) := by
 have HF : Hid (∀ w', Below (w.alloc (.cells #[.slice A n c, .int .i64 I, .int .i64 H, .int .i64 S, .int .i64 P] 32)).heap.size (w.alloc (.cells #[.slice A n c, .int .i64 I, .int .i64 H, .int .i64 S, .int .i64 P] 32)) w' → w'.cell? ⟨w.heap.size, 0, none⟩ = some (.slice A n c) ∧ w'.cell? ⟨w.heap.size, 1, none⟩ = some (.int .i64 I) ∧ w'.cell? ⟨w.heap.size, 2, none⟩ = some (.int .i64 H) ∧ w'.cell? ⟨w.heap.size, 3, none⟩ = some (.int .i64 S) ∧ w'.cell? ⟨w.heap.size, 4, none⟩ = some (.int .i64 P)) := fun w' hq => (cells5 (bx (g := w.heap.size) hq))
 have HS : Hid (Sl (w.alloc (.cells #[.slice A n c, .int .i64 I, .int .i64 H, .int .i64 S, .int .i64 P] 32)) lo hi 4 A n f) := hs.below ((Below.refl _ w).alloc (Nat.le_refl _) _)
 have HBW : Hid (Below w.heap.size w (w.alloc (.cells #[.slice A n c, .int .i64 I, .int .i64 H, .int .i64 S, .int .i64 P] 32))) := (Below.refl _ w).alloc (Nat.le_refl _) _
 clear hs
 go_enter Tryz.func79, Tryz.ntmps79
 go_wp2_with fail
 refine wp_region_held_drew (S := fun w' => Below (w.alloc (.cells #[.slice A n c, .int .i64 I, .int .i64 H, .int .i64 S, .int .i64 P] 32)).heap.size (w.alloc (.cells #[.slice A n c, .int .i64 I, .int .i64 H, .int .i64 S, .int .i64 P] 32)) w') (by kernel_rfl) (((Below.refl _ (w.alloc (.cells #[.slice A n c, .int .i64 I, .int .i64 H, .int .i64 S, .int .i64 P] 32))).alloc (Nat.le_refl _) _).drew) (fun jd => ?_)
 have HR : Hid (((w.alloc (.cells #[.slice A n c, .int .i64 I, .int .i64 H, .int .i64 S, .int .i64 P] 32)).alloc (.cells #[.slice none 0 0, .int .i64 0, .int .i64 0, .int .i64 0, .int .i64 0] 32)).drew.heap[w.heap.size + 1]? = some (.cells #[.slice none 0 0, .int .i64 0, .int .i64 0, .int .i64 0, .int .i64 0] 32)) := by
  show ((w.alloc (.cells #[.slice A n c, .int .i64 I, .int .i64 H, .int .i64 S, .int .i64 P] 32)).alloc (.cells #[.slice none 0 0, .int .i64 0, .int .i64 0, .int .i64 0, .int .i64 0] 32)).heap[w.heap.size + 1]? = _
  rw [show w.heap.size + 1 = (w.alloc (.cells #[.slice A n c, .int .i64 I, .int .i64 H, .int .i64 S, .int .i64 P] 32)).heap.size by simp]
  exact heap_alloc_new (w.alloc (.cells #[.slice A n c, .int .i64 I, .int .i64 H, .int .i64 S, .int .i64 P] 32)) _
 have hsz : ((w.alloc (.cells #[.slice A n c, .int .i64 I, .int .i64 H, .int .i64 S, .int .i64 P] 32)).alloc (.cells #[.slice none 0 0, .int .i64 0, .int .i64 0, .int .i64 0, .int .i64 0] 32)).drew.heap.size = w.heap.size + 2 := by simp [World.drew]
 generalize ((w.alloc (.cells #[.slice A n c, .int .i64 I, .int .i64 H, .int .i64 S, .int .i64 P] 32)).alloc (.cells #[.slice none 0 0, .int .i64 0, .int .i64 0, .int .i64 0, .int .i64 0] 32)).drew = wz at *
 refine tj4 1 4 2 5 4 7 5 8 HF jd ?_
 refine tj4 6 9 7 10 8 11 9 12 HF jd ?_
 refine tj2 10 13 11 14 HF jd ?_
 refine wpAnyH_new (fuel := 3) (i := 0) (d := 3) (obj := .cells #[] 97) (v := .slice (some ⟨wz.heap.size, 0, none⟩) 0 0) rfl ⟨rfl, rfl⟩ (by kernel_rfl) jd (by go_simp; try rfl) ?_
 intro hHeld2
 have hro := World.ownsRow_made (base := (w.alloc (.cells #[.slice A n c, .int .i64 I, .int .i64 H, .int .i64 S, .int .i64 P] 32)).heap.size) (e := 97) (size := 4) wz #[] 0 jd.size (Nat.zero_le _) (by simp)
 refine wpAnyH_app (fuel := 2) (i := 3) (ds := 3) (d := 6) (j := 5) rfl (by kernel_rfl) 97 4 32 (.agg #[.int .i64 0, .int .i64 0, .int .i64 0, .int .i64 0]) Tryz.underlying30 infoPan rfl (by decide) (by decide) [] (cellsL f n) 0 n c _ A rfl rfl hHeld2 hro (Sl.src (HS.out.below hHeld2) hz) (by omega) ?n1
 case n1 =>
  intro v' w3 hown3 hB3 hgrow3
  replace hgrow3 : (wz.alloc (.cells #[] 97)).grownBy w3 (some wz.heap.size) := hgrow3
  rw [Nat.zero_add, List.nil_append] at hown3
  obtain ⟨A', c', rfl, hnc', hcm'⟩ := row_slice hown3
  have HO3 := lh hown3
  clear hown3 hro hHeld2
  have jd := hB3
  have hr3 : w3.heap[w.heap.size + 1]? = some (.cells #[.slice none 0 0, .int .i64 0, .int .i64 0, .int .i64 0, .int .i64 0] 32) := (hgrow3.block _ (by simp; omega) (by intro he; simp at he; omega)).trans (by rw [heap_alloc_old _ _ (by omega)]; exact HR.out)
  simp only [Act.put, p1, p2, p3]
  refine tj 12 15 HF rfl jd ?_
  refine wpAnyH_store (fuel := 0) (i := 13) rfl (by kernel_rfl) (w.heap.size + 1) 0 (.agg #[.slice A' n c', .int .i64 I, .int .i64 H, .int .i64 S, .int .i64 P]) 32 _ rfl rfl ?i1 hr3 ?f1 ?a1 (fun w' hg => jd.grown hg jd.size (fun k hk => by cases hk; simp)) ?k1
  case i1 => exact infoWorks
  case f1 => exact Nat.le_refl 5
  case a1 => simp [Value.cells, Value.oneCell']
  case k1 =>
   intro w4 h4 hg4 hHeld4
   refine wpAnyH_done (by kernel_rfl) ?_ _
   have h4' : w4.heap[w.heap.size + 1]? = some (.cells #[.slice A' n c', .int .i64 I, .int .i64 H, .int .i64 S, .int .i64 P] 32) := h4
   obtain ⟨r0, r1, r2, r3, r4⟩ := cells5 h4'
   have hX4 : Below w.heap.size w w4 := HBW.out.trans (hHeld4.mono HBW.out.size)
   have hO4 := ownsRow_monoP (own_other HO3.out hr3 (by decide) hg4) HBW.out.size
   clear h4 h4' hg4 hHeld4 HO3 hr3 jd hB3 hgrow3 HF HS HR hsz
   go_wp2
   try simp only [Exit.inBlock, Exit.then]
   refine bodyPost_ret (by simp [results, Tryz.results79, go_sem, r0, r1, r2, r3, r4]; try rfl) rfl ?_
   exact ⟨A', c', rfl, hnc', hcm', hO4, hX4⟩
end Go.Proofs.YtpndjhelpoenpaaGreatDoor
namespace Go.Proofs.YtpndjhelpoenpaaGreatDoor
open Go.RowKit
section
variable {P : Program} {md : Region.Mode} {ops : Array Oper} {Q : Exit → Act → World → Prop} {S : World → Prop}
def Job (P : Program) (Q : Exit → Act → World → Prop) (S : World → Prop) (o : Oper) (d : Nat) (a : Act) (skip : List Nat) (Post : Value → World → Prop) : Prop :=
 ∀ (a' : Act) (w1 : World) (K : Act → World → Prop), (∀ j, j ∉ skip → a'.eval (.tmp j) = a.eval (.tmp j)) → S w1 →
  (∀ v w2, Post v w2 → Below w1.heap.size w1 w2 → K (a'.put (some d) v) w2) → o.wp P a' w1 K Q
def Stays (Post : Value → World → Prop) : Prop := ∀ v w1 w2, Post v w1 → Below w1.heap.size w1 w2 → Post v w2
theorem Job.put {o : Oper} {d : Nat} {a : Act} {skip : List Nat} {Post : Value → World → Prop} (h : Job P Q S o d a skip Post) {d' : Nat} (hd : d' ∈ skip) (u : Value) : Job P Q S o d (a.put (some d') u) skip Post :=
 fun a' w1 K hev hb hK => h a' w1 K (fun j hj => (hev j hj).trans (eval_put_ne _ _ _ _ (fun e => hj (e ▸ hd)))) hb hK
theorem Job.alloc {nb : Nat} {o : Oper} {d : Nat} {a : Act} {skip : List Nat} {obj : Obj} (hd : o.dst = some d) (hnb : ∀ w, S w → nb ≤ w.heap.size)
  (run : ∀ (a' : Act) (w1 : World), (execOp a'.eval o).run P w1 = .ok (.value (.pointer (some ⟨w1.heap.size, 0, none⟩))) (w1.alloc obj)) :
  Job P Q S o d a skip (fun v w => ∃ g, v = .pointer (some ⟨g, 0, none⟩) ∧ nb ≤ g ∧ w.heap[g]? = some obj) := by
 intro a' w1 K _ hb hK
 refine oper_wp_value (run a' w1) ?_
 rw [hd]
 exact hK _ _ ⟨w1.heap.size, rfl, hnb _ hb, heap_alloc_new w1 obj⟩ ((Below.refl _ _).alloc (Nat.le_refl _) _)
theorem but_stays {X : World} {r : Option Nat} : ∀ w1 w2, X.grownBy w1 r → Below w1.heap.size w1 w2 → X.grownBy w2 r := fun w1 w2 h hb =>
 ⟨hb.os.trans h.os, hb.tape.trans h.tape, hb.output.trans h.output, Nat.le_trans h.size hb.size, fun k hk hr => (hb.block k (Nat.lt_of_lt_of_le hk h.size)).trans (h.block k hk hr)⟩
theorem below_stays {X : World} : ∀ w1 w2, Below X.heap.size X w1 → Below w1.heap.size w1 w2 → Below X.heap.size X w2 := fun w1 w2 h hb => h.trans (hb.mono h.size)
theorem stays_alloc {n : Nat} {obj : Obj} : Stays (fun v w => ∃ g, v = .pointer (some ⟨g, 0, none⟩) ∧ n ≤ g ∧ w.heap[g]? = some obj) := by
 rintro v w1 w2 ⟨g, e, h1, h2⟩ hb
 exact ⟨g, e, h1, (hb.block g (Array.getElem?_eq_some_iff.1 h2).1).trans h2⟩
theorem wpAnyH_job {i d : Nat} {fuel : Nat} {listed : Array Bool} {a : Act} {w : World} {o : Oper} {skip : List Nat} {Post : Value → World → Prop} (ho : ops[i]? = some o) (hg : o.guard = none)
  (r0 : Region.ready md ops listed = [i]) (J : Job P Q S o d a skip Post) (hst : ∀ w1 w2, S w1 → Below w1.heap.size w1 w2 → S w2) (hS : S w)
  (h : ∀ v w', Post v w' → S w' → Below w.heap.size w w' → wpAnyH P md ops Q S fuel (listed.setIfInBounds i true) (a.put (some d) v) w') :
  wpAnyH P md ops Q S (fuel + 1) listed a w := by
 refine wpAnyH_ready r0 (by simp) (AllReadyH.cons ho (fun K hK => ?_) AllReadyH.nil)
 rw [if_pos (wanted_plain hg)]
 refine J a w K (fun _ _ => rfl) hS (fun v w2 hp hb => ?_)
 have hB := hst _ _ hS hb
 exact hK.out _ _ hB (fun _ => h v w2 hp hB hb)
theorem wpAnyH_two {i j di dj : Nat} {fuel : Nat} {listed : Array Bool} {a : Act} {w : World} {oi oj : Oper} {skip : List Nat} {Pi Pj : Value → World → Prop}
  (hoi : ops[i]? = some oi) (hoj : ops[j]? = some oj) (hgi : oi.guard = none) (hgj : oj.guard = none) (hij : i ≠ j) (hd : di ≠ dj) (hsi : di ∈ skip) (hsj : dj ∈ skip)
  (r0 : Region.ready md ops listed = [i, j]) (ri : Region.ready md ops (listed.setIfInBounds i true) = [j]) (rj : Region.ready md ops (listed.setIfInBounds j true) = [i])
  (Ji : Job P Q S oi di a skip Pi) (Jj : Job P Q S oj dj a skip Pj) (si : Stays Pi) (sj : Stays Pj) (hst : ∀ w1 w2, S w1 → Below w1.heap.size w1 w2 → S w2) (hS : S w)
  (h : ∀ vi vj w', Pi vi w' → Pj vj w' → S w' → Below w.heap.size w w' →
   wpAnyH P md ops Q S fuel ((listed.setIfInBounds i true).setIfInBounds j true) ((a.put (some di) vi).put (some dj) vj) w') :
  wpAnyH P md ops Q S (fuel + 2) listed a w := by
 refine wpAnyH_ready (fuel := fuel + 1) r0 (by simp) (AllReadyH.cons hoi (fun K hK => ?_) (AllReadyH.cons hoj (fun K hK => ?_) AllReadyH.nil))
 ·rw [if_pos (wanted_plain hgi)]
  refine Ji a w K (fun _ _ => rfl) hS (fun v w2 hp hb => ?_)
  have hB := hst _ _ hS hb
  refine hK.out _ _ hB (fun _ => ?_)
  refine wpAnyH_job (fuel := fuel) hoj hgj ri (Jj.put hsi v) hst hB (fun u w3 hp3 hB3 hb3 => ?_)
  exact h v u w3 (si _ _ _ hp hb3) hp3 hB3 (hb.trans (hb3.mono hb.size))
 ·rw [if_pos (wanted_plain hgj)]
  refine Jj a w K (fun _ _ => rfl) hS (fun v w2 hp hb => ?_)
  have hB := hst _ _ hS hb
  refine hK.out _ _ hB (fun _ => ?_)
  refine wpAnyH_job (fuel := fuel) hoi hgi rj (Ji.put hsj v) hst hB (fun u w3 hp3 hB3 hb3 => ?_)
  rw [listed_comm _ (Ne.symm hij), put_comm _ _ _ (Ne.symm hd)]
  exact h u v w3 hp3 (sj _ _ _ hp hb3) hB3 (hb.trans (hb3.mono hb.size))
theorem wpAnyH_three {i j k di dj dk : Nat} {fuel : Nat} {listed : Array Bool} {a : Act} {w : World} {oi oj ok : Oper} {skip : List Nat} {Pi Pj Pk : Value → World → Prop}
  (hoi : ops[i]? = some oi) (hoj : ops[j]? = some oj) (hok : ops[k]? = some ok) (hgi : oi.guard = none) (hgj : oj.guard = none) (hgk : ok.guard = none)
  (hij : i ≠ j ∧ i ≠ k ∧ j ≠ k) (hd : di ≠ dj ∧ di ≠ dk ∧ dj ≠ dk) (hs : di ∈ skip ∧ dj ∈ skip ∧ dk ∈ skip)
  (r0 : Region.ready md ops listed = [i, j, k]) (ri : Region.ready md ops (listed.setIfInBounds i true) = [j, k]) (rj : Region.ready md ops (listed.setIfInBounds j true) = [i, k]) (rk : Region.ready md ops (listed.setIfInBounds k true) = [i, j])
  (rij : Region.ready md ops ((listed.setIfInBounds i true).setIfInBounds j true) = [k]) (rik : Region.ready md ops ((listed.setIfInBounds i true).setIfInBounds k true) = [j]) (rjk : Region.ready md ops ((listed.setIfInBounds j true).setIfInBounds k true) = [i])
  (Ji : Job P Q S oi di a skip Pi) (Jj : Job P Q S oj dj a skip Pj) (Jk : Job P Q S ok dk a skip Pk) (si : Stays Pi) (sj : Stays Pj) (sk : Stays Pk) (hst : ∀ w1 w2, S w1 → Below w1.heap.size w1 w2 → S w2) (hS : S w)
  (h : ∀ vi vj vk w', Pi vi w' → Pj vj w' → Pk vk w' → S w' → Below w.heap.size w w' →
   wpAnyH P md ops Q S fuel (((listed.setIfInBounds i true).setIfInBounds j true).setIfInBounds k true) (((a.put (some di) vi).put (some dj) vj).put (some dk) vk) w') :
  wpAnyH P md ops Q S (fuel + 3) listed a w := by
 obtain ⟨qij, qik, qjk⟩ := hij
 obtain ⟨dij, dik, djk⟩ := hd
 obtain ⟨si', sj', sk'⟩ := hs
 refine wpAnyH_ready (fuel := fuel + 2) r0 (by simp) (AllReadyH.cons hoi (fun K hK => ?_) (AllReadyH.cons hoj (fun K hK => ?_) (AllReadyH.cons hok (fun K hK => ?_) AllReadyH.nil)))
 ·rw [if_pos (wanted_plain hgi)]
  refine Ji a w K (fun _ _ => rfl) hS (fun v w2 hp hb => ?_)
  have hB := hst _ _ hS hb
  refine hK.out _ _ hB (fun _ => ?_)
  refine wpAnyH_two (fuel := fuel) hoj hok hgj hgk qjk djk sj' sk' ri rij rik (Jj.put si' v) (Jk.put si' v) sj sk hst hB (fun u t w3 h1 h2 hB3 hb3 => ?_)
  exact h v u t w3 (si _ _ _ hp hb3) h1 h2 hB3 (hb.trans (hb3.mono hb.size))
 ·rw [if_pos (wanted_plain hgj)]
  refine Jj a w K (fun _ _ => rfl) hS (fun v w2 hp hb => ?_)
  have hB := hst _ _ hS hb
  refine hK.out _ _ hB (fun _ => ?_)
  refine wpAnyH_two (fuel := fuel) hoi hok hgi hgk qik dik si' sk' rj (by rw [listed_comm _ (Ne.symm qij)]; exact rij) rjk (Ji.put sj' v) (Jk.put sj' v) si sk hst hB (fun u t w3 h1 h2 hB3 hb3 => ?_)
  rw [listed_comm _ (Ne.symm qij), put_comm _ _ _ (Ne.symm dij)]
  exact h u v t w3 h1 (sj _ _ _ hp hb3) h2 hB3 (hb.trans (hb3.mono hb.size))
 ·rw [if_pos (wanted_plain hgk)]
  refine Jk a w K (fun _ _ => rfl) hS (fun v w2 hp hb => ?_)
  have hB := hst _ _ hS hb
  refine hK.out _ _ hB (fun _ => ?_)
  refine wpAnyH_two (fuel := fuel) hoi hoj hgi hgj qij dij si' sj' rk (by rw [listed_comm _ (Ne.symm qik)]; exact rik) (by rw [listed_comm _ (Ne.symm qjk)]; exact rjk) (Ji.put sk' v) (Jj.put sk' v) si sj hst hB (fun u t w3 h1 h2 hB3 hb3 => ?_)
  rw [listed_comm _ (Ne.symm qik), listed_comm (listed.setIfInBounds i true) (Ne.symm qjk), put_comm _ _ _ (Ne.symm dik), put_comm (a.put (some di) u) _ _ (Ne.symm djk)]
  exact h u t v w3 h1 h2 (sk _ _ _ hp hb3) hB3 (hb.trans (hb3.mono hb.size))
end
end Go.Proofs.YtpndjhelpoenpaaGreatDoor
namespace Go.Proofs.YtpndjhelpoenpaaGreatDoor
open Go.RowKit Go.Sort
attribute [local go_sem ↓] Go.wp_at_zero Go.wp_at_succ
def panPost (w : World) (f : Nat → Int) (n : Nat) (I H S P : Int) (ok : Bool) (e : Ending) (w' : World) : Prop :=
 ∃ A' c', e = .returned (.tuple #[.agg #[.slice A' n c', .int .i64 I, .int .i64 H, .int .i64 S, .int .i64 P], .bool ok]) ∧ n ≤ c' ∧ c' ≤ maxLen ∧ w'.ownsRow w.heap.size 97 4 (.slice A' n c') n ((cellsL f n).map (Value.int .i64)) ∧ Below w.heap.size w w'
def setB (f : Nat → Int) (i : Nat) (wt s : Int) : Nat → Int := upd (upd f (i * 4 + 2) wt) (i * 4 + 3) s
theorem cellsL_set (f : Nat → Int) (n j : Nat) (z : Int) : ((cellsL f n).map (Value.int .i64)).set j (.int .i64 z) = (cellsL (upd f j z) n).map (Value.int .i64) := by
 apply List.ext_getElem?
 intro q
 simp only [List.getElem?_set, List.getElem?_map, List.length_map, cellsL_len, cellsL]
 by_cases hq : q < n * 4
 ·by_cases hj : j = q
  ·subst hj
   simp [hq, upd]
  ·simp [hj, hq, upd, Ne.symm hj]
 ·by_cases hj : j = q
  ·subst hj; simp [hq]
  ·simp [hj, hq]
theorem cellsL_at (f : Nat → Int) (n j : Nat) (h : j < n * 4) : (cellsL f n)[j]? = some (f j) := by simp [cellsL, h]
theorem row_ne {w : World} {lo k n c g : Nat} {e T0 : TypeId} {xs : List Value} {cur : Array Value} (h : w.ownsRow lo e k (.slice (some ⟨g, 0, none⟩) n c) n xs) (hb : w.heap[g]? = some (.cells cur T0 (0, 0))) (hne : e ≠ T0) : False := by
 rcases h.2 with ⟨hv, _⟩ | ⟨g', cap, cu, hv, _, hG, _⟩
 ·cases hv
 ·cases hv
  rw [hb] at hG
  simp at hG
  exact hne hG.2.symm
theorem grown_trans {a b c : World} {r : Option Nat} (h1 : a.grownBy b r) (h2 : b.grownBy c r) : a.grownBy c r :=
 ⟨h2.os.trans h1.os, h2.tape.trans h1.tape, h2.output.trans h1.output, Nat.le_trans h1.size h2.size, fun k hk hr => (h2.block k (Nat.lt_of_lt_of_le hk h1.size) hr).trans (h1.block k hk hr)⟩
theorem infoBrine : (Tryz.prog.info? 95).map (·.size) = some 2 := by kernel_rfl
theorem l25Pan_rake (A : Option Addr) (n c lo hi : Nat) (f : Nat → Int) (I H S P : Int) (id tt0 z : Int) (i : Nat) (hi' : i < n) (w : World) (hs : Sl w lo hi 4 A n f) (hn : n ≤ 1048576) (hnc : n ≤ c) :
  Calls Tryz.prog 156 #[.agg #[.slice A n c, .int .i64 I, .int .i64 H, .int .i64 S, .int .i64 P], .agg #[.int .i64 5, .int .i64 id, .int .i64 tt0, .int .i64 z], .int .i64 i] w (panPost w (setB f i (f (i * 4 + 2)) (wrap64 (f (i * 4 + 3) - z))) n I (wrap64 (H + z)) S P (mayV (f (i * 4 + 2)) (f (i * 4 + 3)))) := by
 have hX : Below w.heap.size w (((w.alloc (.cells #[.slice A n c, .int .i64 I, .int .i64 H, .int .i64 S, .int .i64 P] 32)).alloc (.cells #[.int .i64 5, .int .i64 id, .int .i64 tt0, .int .i64 z] 107)).alloc (.cells #[.slice none 0 0, .int .i64 0, .int .i64 0, .int .i64 0, .int .i64 0] 32)) := (((Below.refl _ w).alloc (Nat.le_refl _) _).alloc (by simp) _).alloc (by simp; omega) _
 have HS : Hid (Sl (((w.alloc (.cells #[.slice A n c, .int .i64 I, .int .i64 H, .int .i64 S, .int .i64 P] 32)).alloc (.cells #[.int .i64 5, .int .i64 id, .int .i64 tt0, .int .i64 z] 107)).alloc (.cells #[.slice none 0 0, .int .i64 0, .int .i64 0, .int .i64 0, .int .i64 0] 32)) lo hi 4 A n f) := hs.below hX
 have HX := lh hX
 clear hs hX
 obtain ⟨b, off, rfl, hbw, _⟩ := HS.out.open_ (Below.refl _ _) (by omega)
 have HC : ∀ w', Below (((w.alloc (.cells #[.slice (some ⟨b, off, none⟩) n c, .int .i64 I, .int .i64 H, .int .i64 S, .int .i64 P] 32)).alloc (.cells #[.int .i64 5, .int .i64 id, .int .i64 tt0, .int .i64 z] 107)).alloc (.cells #[.slice none 0 0, .int .i64 0, .int .i64 0, .int .i64 0, .int .i64 0] 32)).heap.size (((w.alloc (.cells #[.slice (some ⟨b, off, none⟩) n c, .int .i64 I, .int .i64 H, .int .i64 S, .int .i64 P] 32)).alloc (.cells #[.int .i64 5, .int .i64 id, .int .i64 tt0, .int .i64 z] 107)).alloc (.cells #[.slice none 0 0, .int .i64 0, .int .i64 0, .int .i64 0, .int .i64 0] 32)) w' → w'.cell? ⟨b, off + i * 4 + 2, none⟩ = some (.int .i64 (f (i * 4 + 2))) ∧ w'.cell? ⟨b, off + i * 4 + 3, none⟩ = some (.int .i64 (f (i * 4 + 3))) := by
  intro w' hq
  obtain ⟨_, HC⟩ := HS.out.open_at hq (by omega)
  obtain ⟨c0, c1, c2, c3⟩ := cell4 HC hi'
  exact ⟨c2, c3⟩
 have HF : Hid (∀ w', Below (((w.alloc (.cells #[.slice (some ⟨b, off, none⟩) n c, .int .i64 I, .int .i64 H, .int .i64 S, .int .i64 P] 32)).alloc (.cells #[.int .i64 5, .int .i64 id, .int .i64 tt0, .int .i64 z] 107)).alloc (.cells #[.slice none 0 0, .int .i64 0, .int .i64 0, .int .i64 0, .int .i64 0] 32)).heap.size (((w.alloc (.cells #[.slice (some ⟨b, off, none⟩) n c, .int .i64 I, .int .i64 H, .int .i64 S, .int .i64 P] 32)).alloc (.cells #[.int .i64 5, .int .i64 id, .int .i64 tt0, .int .i64 z] 107)).alloc (.cells #[.slice none 0 0, .int .i64 0, .int .i64 0, .int .i64 0, .int .i64 0] 32)) w' → w'.cell? ⟨w.heap.size, 0, none⟩ = some (.slice (some ⟨b, off, none⟩) n c) ∧ w'.cell? ⟨w.heap.size, 1, none⟩ = some (.int .i64 I) ∧ w'.cell? ⟨w.heap.size, 2, none⟩ = some (.int .i64 H) ∧ w'.cell? ⟨w.heap.size, 3, none⟩ = some (.int .i64 S) ∧ w'.cell? ⟨w.heap.size, 4, none⟩ = some (.int .i64 P) ∧ w'.cell? ⟨b, off + i * 4 + 2, none⟩ = some (.int .i64 (f (i * 4 + 2))) ∧ w'.cell? ⟨b, off + i * 4 + 3, none⟩ = some (.int .i64 (f (i * 4 + 3)))) := fun w' hq => ⟨(hq.cell (p := ⟨w.heap.size, 0, none⟩) (by simp; omega)).trans (by go_simp), (hq.cell (p := ⟨w.heap.size, 1, none⟩) (by simp; omega)).trans (by go_simp), (hq.cell (p := ⟨w.heap.size, 2, none⟩) (by simp; omega)).trans (by go_simp), (hq.cell (p := ⟨w.heap.size, 3, none⟩) (by simp; omega)).trans (by go_simp), (hq.cell (p := ⟨w.heap.size, 4, none⟩) (by simp; omega)).trans (by go_simp), (HC w' hq).1, (HC w' hq).2⟩
 have hi0 : (0 : Int) ≤ (i : Int) := by omega
 have hin : (i : Int) < (n : Int) := by omega
 clear HC
 go_enter Tryz.func156, Tryz.ntmps156
 go_wp2_with fail
 refine wp_region_held_drew (S := fun w' => Below (((w.alloc (.cells #[.slice (some ⟨b, off, none⟩) n c, .int .i64 I, .int .i64 H, .int .i64 S, .int .i64 P] 32)).alloc (.cells #[.int .i64 5, .int .i64 id, .int .i64 tt0, .int .i64 z] 107)).alloc (.cells #[.slice none 0 0, .int .i64 0, .int .i64 0, .int .i64 0, .int .i64 0] 32)).heap.size (((w.alloc (.cells #[.slice (some ⟨b, off, none⟩) n c, .int .i64 I, .int .i64 H, .int .i64 S, .int .i64 P] 32)).alloc (.cells #[.int .i64 5, .int .i64 id, .int .i64 tt0, .int .i64 z] 107)).alloc (.cells #[.slice none 0 0, .int .i64 0, .int .i64 0, .int .i64 0, .int .i64 0] 32)) w') (by kernel_rfl) ((Below.refl _ (((w.alloc (.cells #[.slice (some ⟨b, off, none⟩) n c, .int .i64 I, .int .i64 H, .int .i64 S, .int .i64 P] 32)).alloc (.cells #[.int .i64 5, .int .i64 id, .int .i64 tt0, .int .i64 z] 107)).alloc (.cells #[.slice none 0 0, .int .i64 0, .int .i64 0, .int .i64 0, .int .i64 0] 32))).drew) (fun jd => ?_)
 refine tj4 0 13 2 15 4 17 3 16 HF jd ?_
 refine tj3 5 18 6 19 7 20 HF jd ?_
 refine wpAnyH_three (fuel := 2) (i := 1) (j := 8) (k := 9) (di := 14) (dj := 8) (dk := 9) (skip := [14, 8, 9]) (Pi := (fun v w' => ∃ A' c', v = .agg #[.slice A' n c', .int .i64 I, .int .i64 H, .int .i64 S, .int .i64 P] ∧ n ≤ c' ∧ c' ≤ maxLen ∧ w'.ownsRow (((w.alloc (.cells #[.slice (some ⟨b, off, none⟩) n c, .int .i64 I, .int .i64 H, .int .i64 S, .int .i64 P] 32)).alloc (.cells #[.int .i64 5, .int .i64 id, .int .i64 tt0, .int .i64 z] 107)).alloc (.cells #[.slice none 0 0, .int .i64 0, .int .i64 0, .int .i64 0, .int .i64 0] 32)).heap.size 97 4 (.slice A' n c') n ((cellsL f n).map (Value.int .i64)))) rfl rfl rfl rfl rfl rfl (by decide) (by decide) (by decide) (by kernel_rfl) (by kernel_rfl) (by kernel_rfl) (by kernel_rfl) (by kernel_rfl) (by kernel_rfl) (by kernel_rfl) ?jc (Job.alloc (nb := (((w.alloc (.cells #[.slice (some ⟨b, off, none⟩) n c, .int .i64 I, .int .i64 H, .int .i64 S, .int .i64 P] 32)).alloc (.cells #[.int .i64 5, .int .i64 id, .int .i64 tt0, .int .i64 z] 107)).alloc (.cells #[.slice none 0 0, .int .i64 0, .int .i64 0, .int .i64 0, .int .i64 0] 32)).heap.size) (obj := .cells #[.slice none 0 0, .int .i64 0, .int .i64 0, .int .i64 0, .int .i64 0] 32) rfl (fun _ h => h.size) (fun a' w1 => by go_simp; try rfl)) (Job.alloc (nb := (((w.alloc (.cells #[.slice (some ⟨b, off, none⟩) n c, .int .i64 I, .int .i64 H, .int .i64 S, .int .i64 P] 32)).alloc (.cells #[.int .i64 5, .int .i64 id, .int .i64 tt0, .int .i64 z] 107)).alloc (.cells #[.slice none 0 0, .int .i64 0, .int .i64 0, .int .i64 0, .int .i64 0] 32)).heap.size) (obj := .cells #[.int .i64 0, .int .i64 0] 95) rfl (fun _ h => h.size) (fun a' w1 => by go_simp; try rfl)) ?stc stays_alloc stays_alloc below_stays jd ?nx
 case stc =>
  rintro v w1 w2 ⟨A', c', e, h1, h2, h⟩ hb
  exact ⟨A', c', e, h1, h2, ownsRow_below h hb⟩
 case jc =>
  intro a' w1 K hev hb hK
  have h1 : a'.eval (.tmp 13) = .agg #[.slice (some ⟨b, off, none⟩) n c, .int .i64 I, .int .i64 H, .int .i64 S, .int .i64 P] := (hev 13 (by decide)).trans rfl
  have h2 : a'.tmps[13]?.getD undef = .agg #[.slice (some ⟨b, off, none⟩) n c, .int .i64 I, .int .i64 H, .int .i64 S, .int .i64 P] := by simpa [Act.eval] using h1
  have HK := lh hK
  have HSL := lh (HS.out.below hb)
  have hbs := hb.size
  clear hev h1 hK HF
  go_simp
  go_at_call 79
  refine (l25Own_any _ n c lo hi f I H S P w1 HSL.out hn hnc (by simp)).mono ?_
  rintro e w2 ⟨A', c', rfl, h3, h4, ho, hb2⟩
  exact HK.out _ w2 ⟨A', c', rfl, h3, h4, ownsRow_monoP ho hbs⟩ hb2
 case nx =>
 rintro vi vj vk w4 ⟨A', c', rfl, hnc', hcm', hO⟩ ⟨g8, rfl, l8, h8⟩ ⟨g9, rfl, l9, h9⟩ hB4 _
 obtain ⟨ga, rfl⟩ : ∃ ga, A' = some ⟨ga, 0, none⟩ := by
  rcases form_ofP hO with ⟨h0, _⟩ | ⟨g, gc, hv⟩
  ·omega
  ·cases hv; exact ⟨g, rfl⟩
 simp only [Act.put, p1, p2, p3]
 refine wS0 10 g8 #[.slice (some ⟨ga, 0, none⟩) n c', .int .i64 I, .int .i64 H, .int .i64 S, .int .i64 P] 32 infoWorks h8 (fun w' hg => hB4.grown hg hB4.size (fun k hk => by cases hk; exact l8)) ?k8
 case k8 =>
 intro w5 h85 hg5 hB5
 have ne89 : g9 ≠ g8 := by
  intro e
  subst e
  rw [h8] at h9
  simp at h9
 have h95 := (hg5.block g9 (Array.getElem?_eq_some_iff.1 h9).1 (by simp [ne89])).trans h9
 have hO5 := own_other hO h8 (by decide) hg5
 refine wS0 11 g9 #[.int .i64 (f (i * 4 + 2)), .int .i64 (f (i * 4 + 3))] 95 infoBrine h95 (fun w' hg => hB5.grown hg hB5.size (fun k hk => by cases hk; exact l9)) ?k9
 case k9 =>
 intro w6 h96 hg6 hB6
 have h86 := (hg6.block g8 (Array.getElem?_eq_some_iff.1 h85).1 (by simp [Ne.symm ne89])).trans h85
 have hO6 := own_other hO5 h95 (by decide) hg6
 refine wpAnyH_done (by kernel_rfl) ?_ _
 obtain ⟨b0, b1, b2, b3, b4, c2, c3⟩ := HF.out w6 hB6
 obtain ⟨s0, s1, s2, s3⟩ := cells4 (bx (g := w.heap.size + 1) hB6)
 have hr6 : w6.heap[w.heap.size + 1 + 1]? = some (.cells #[.slice none 0 0, .int .i64 0, .int .i64 0, .int .i64 0, .int .i64 0] 32) := (hB6.block (w.heap.size + 1 + 1) (by simp)).trans (by have := heap_alloc_new ((w.alloc (.cells #[.slice (some ⟨b, off, none⟩) n c, .int .i64 I, .int .i64 H, .int .i64 S, .int .i64 P] 32)).alloc (.cells #[.int .i64 5, .int .i64 id, .int .i64 tt0, .int .i64 z] 107)) (.cells #[.slice none 0 0, .int .i64 0, .int .i64 0, .int .i64 0, .int .i64 0] 32); simpa using this)
 have h86' : w6.heap[g8]? = some (.cells #[.slice (some ⟨ga, 0, none⟩) n c', .int .i64 I, .int .i64 H, .int .i64 S, .int .i64 P] 32) := h86
 have h96' : w6.heap[g9]? = some (.cells #[.int .i64 (f (i * 4 + 2)), .int .i64 (f (i * 4 + 3))] 95) := h96
 obtain ⟨e0, e1, e2, e3, e4⟩ := cells5 h86'
 have ef := fz h86'
 obtain ⟨d0, d1⟩ := cells2 h96'
 have a2 : w6.cell? ⟨ga, i * 4 + 2, none⟩ = some (.int .i64 (f (i * 4 + 2))) := by rw [World.ownsRow.cellAt hO6 (i * 4 + 2) (by omega), List.getElem?_map, cellsL_at f n _ (by omega)]; rfl
 have a3 : w6.cell? ⟨ga, i * 4 + 3, none⟩ = some (.int .i64 (f (i * 4 + 3))) := by rw [World.ownsRow.cellAt hO6 (i * 4 + 3) (by omega), List.getElem?_map, cellsL_at f n _ (by omega)]; rfl
 have af : ∀ j, w6.frozen? ⟨ga, j, none⟩ = false := fun j => World.ownsRow.frozenAt hO6 j
 have nga : ga ≠ g8 := by
  intro e
  subst e
  exact row_ne hO6 h86' (by decide)
 have lga : (((w.alloc (.cells #[.slice (some ⟨b, off, none⟩) n c, .int .i64 I, .int .i64 H, .int .i64 S, .int .i64 P] 32)).alloc (.cells #[.int .i64 5, .int .i64 id, .int .i64 tt0, .int .i64 z] 107)).alloc (.cells #[.slice none 0 0, .int .i64 0, .int .i64 0, .int .i64 0, .int .i64 0] 32)).heap.size ≤ ga := (World.ownsRow.lt hO6 ga rfl).1
 have nga9 : ga ≠ g9 := by
  intro e
  subst e
  exact row_ne hO6 h96' (by decide)
 simp only [World.size_alloc] at lga l8 l9
 have nga0 : ga ≠ w.heap.size := by omega
 have mga0 : w.heap.size ≠ ga := by omega
 have nga1 : ga ≠ w.heap.size + 1 := by omega
 have mga1 : w.heap.size + 1 ≠ ga := by omega
 have nga2 : ga ≠ w.heap.size + 1 + 1 := by omega
 have mga2 : w.heap.size + 1 + 1 ≠ ga := by omega
 have ng80 : g8 ≠ w.heap.size := by omega
 have mg80 : w.heap.size ≠ g8 := by omega
 have ng81 : g8 ≠ w.heap.size + 1 := by omega
 have mg81 : w.heap.size + 1 ≠ g8 := by omega
 have ng82 : g8 ≠ w.heap.size + 1 + 1 := by omega
 have mg82 : w.heap.size + 1 + 1 ≠ g8 := by omega
 have ng90 : g9 ≠ w.heap.size := by omega
 have mg90 : w.heap.size ≠ g9 := by omega
 have ng91 : g9 ≠ w.heap.size + 1 := by omega
 have mg91 : w.heap.size + 1 ≠ g9 := by omega
 have ng92 : g9 ≠ w.heap.size + 1 + 1 := by omega
 have mg92 : w.heap.size + 1 + 1 ≠ g9 := by omega
 have nn1 : g8 ≠ ga := Ne.symm nga
 have nn2 : g9 ≠ ga := Ne.symm nga9
 have nn3 : g8 ≠ g9 := Ne.symm ne89
 have HO6 := lh hO6
 have HB6 := lh hB6
 have H86 := lh h86'
 have HR6 := lh hr6
 clear hO6 hB6 h86 h86' h96 h96' hg6 hg5 hB5 hB4 hO hO5 h8 h9 h85 h95 HF HS hr6 jd
 go_wp2_with fail
 obtain ⟨w7, hw7⟩ : ∃ w7, w7 = (((w6.setCell ⟨ga, i * 4 + 2, none⟩ (.int .i64 (f (i * 4 + 2)))).setCell ⟨ga, i * 4 + 2 + 1, none⟩ (.int .i64 (wrap64 (f (i * 4 + 3) - z)))).setCell ⟨g8, 2, none⟩ (.int .i64 (wrap64 (H + z)))) := ⟨_, rfl⟩
 rw [← hw7]
 clear e0 e1 e2 e3 e4 b0 b1 b2 b3 b4 s0 s1 s2 s3 c2 c3
 have t1 := (World.ownsRow.stored HO6.out (i * 4 + 2) (.int .i64 (f (i * 4 + 2)))).1
 have t2 := (World.ownsRow.stored t1 (i * 4 + 2 + 1) (.int .i64 (wrap64 (f (i * 4 + 3) - z)))).1
 have t3 := ownsRow_setCell_other (a := ⟨g8, 2, none⟩) t2 (by simp [Value.ownBlock, nga]) (.int .i64 (wrap64 (H + z)))
 rw [← hw7, cellsL_set, cellsL_set] at t3
 have x8 : w7.heap[g8]? = some (.cells #[.slice (some ⟨ga, 0, none⟩) n c', .int .i64 I, .int .i64 (wrap64 (H + z)), .int .i64 S, .int .i64 P] 32) := by
  rw [hw7]
  exact heap_setCell_same _ g8 2 #[.slice (some ⟨ga, 0, none⟩) n c', .int .i64 I, .int .i64 H, .int .i64 S, .int .i64 P] 32 _ (by rw [heap_setCell_other _ _ _ _ nn1, heap_setCell_other _ _ _ _ nn1]; exact H86.out)
 have xr : w7.heap[w.heap.size + 1 + 1]? = some (.cells #[.slice none 0 0, .int .i64 0, .int .i64 0, .int .i64 0, .int .i64 0] 32) := by
  rw [hw7, heap_setCell_other _ _ _ _ mg82, heap_setCell_other _ _ _ _ mga2, heap_setCell_other _ _ _ _ mga2]
  exact HR6.out
 have x90 : w7.cell? ⟨g9, 0, none⟩ = some (.int .i64 (f (i * 4 + 2))) := by rw [hw7]; go_simp
 have x91 : w7.cell? ⟨g9, 1, none⟩ = some (.int .i64 (f (i * 4 + 3))) := by rw [hw7]; go_simp
 have B7 : Below w.heap.size w w7 := by
  rw [hw7]
  exact (((HX.out.trans (HB6.out.mono HX.out.size)).setCell (show w.heap.size ≤ ga by omega) _).setCell (show w.heap.size ≤ ga by omega) _).setCell (show w.heap.size ≤ g8 by omega) _
 have z9 := World.block_lt_of_cell? _ _ x90
 clear hw7 t1 t2 a2 a3 af ef d0 d1 HO6 HB6 H86 HR6
 have HO7 := lh t3
 have X8 := lh x8
 have XR := lh xr
 have BB := lh B7
 clear t3 B7
 have HF : Hid (∀ w', w7.grownBy w' (some (w.heap.size + 1 + 1)) → w'.cell? ⟨g8, 0, none⟩ = some (.slice (some ⟨ga, 0, none⟩) n c') ∧ w'.cell? ⟨g8, 1, none⟩ = some (.int .i64 I) ∧ w'.cell? ⟨g8, 2, none⟩ = some (.int .i64 (wrap64 (H + z))) ∧ w'.cell? ⟨g8, 3, none⟩ = some (.int .i64 S) ∧ w'.cell? ⟨g8, 4, none⟩ = some (.int .i64 P) ∧ w'.cell? ⟨g9, 0, none⟩ = some (.int .i64 (f (i * 4 + 2))) ∧ w'.cell? ⟨g9, 1, none⟩ = some (.int .i64 (f (i * 4 + 3)))) := by
  intro w' hq
  have y8 := (hq.block g8 (Array.getElem?_eq_some_iff.1 X8.out).1 (by simp; omega)).trans X8.out
  have y9 := hq.block g9 z9 (by simp; omega)
  exact ⟨by rw [cell_of_row w' g8 0 _ _ (0, 0) y8]; rfl, by rw [cell_of_row w' g8 1 _ _ (0, 0) y8]; rfl, by rw [cell_of_row w' g8 2 _ _ (0, 0) y8]; rfl, by rw [cell_of_row w' g8 3 _ _ (0, 0) y8]; rfl, by rw [cell_of_row w' g8 4 _ _ (0, 0) y8]; rfl, (World.cell?_of_block (a := ⟨g9, 0, none⟩) y9).trans x90, (World.cell?_of_block (a := ⟨g9, 1, none⟩) y9).trans x91⟩
 clear x8 xr x90 x91
 refine wp_region_held_drew (S := fun w' => w7.grownBy w' (some (w.heap.size + 1 + 1))) (by kernel_rfl) ⟨rfl, rfl, rfl, Nat.le_refl _, fun _ _ _ => rfl⟩ (fun jd => ?_)
 refine tj2 0 123 1 124 HF jd ?_
 refine wpAnyH_job (fuel := 2) (i := 2) (d := 125) (skip := []) (Post := fun v _ => v = .bool (mayV (f (i * 4 + 2)) (f (i * 4 + 3)))) rfl rfl (by kernel_rfl) ?jm but_stays jd ?nm
 case jm =>
  intro a' w1 K hev hb hK
  have h1 : a'.eval (.tmp 124) = .agg #[.int .i64 (f (i * 4 + 2)), .int .i64 (f (i * 4 + 3))] := (hev 124 (by decide)).trans rfl
  have h2 : a'.tmps[124]?.getD undef = .agg #[.int .i64 (f (i * 4 + 2)), .int .i64 (f (i * 4 + 3))] := by simpa [Act.eval] using h1
  have HK := lh hK
  clear hev h1 hK HF
  go_simp
  go_at_call 185
  refine (l25May_any _ _ w1).mono ?_
  rintro e w2 ⟨rfl, hb2⟩
  exact HK.out _ w2 rfl hb2
 case nm =>
 rintro v w8 rfl hS8 hb8
 simp only [Act.put, p1, p2, p3]
 refine wS0 3 (w.heap.size + 1 + 1) #[.slice (some ⟨ga, 0, none⟩) n c', .int .i64 I, .int .i64 (wrap64 (H + z)), .int .i64 S, .int .i64 P] 32 infoWorks ((hb8.block _ (Array.getElem?_eq_some_iff.1 XR.out).1).trans XR.out) (fun w' hg => grown_trans hS8 hg) ?kr
 case kr =>
 intro w9 h9 hg9 hS9
 have jd := hS9
 refine tj 4 7 HF rfl jd ?_
 refine wpAnyH_done (by kernel_rfl) ?_ _
 have h9' : w9.heap[w.heap.size + 1 + 1]? = some (.cells #[.slice (some ⟨ga, 0, none⟩) n c', .int .i64 I, .int .i64 (wrap64 (H + z)), .int .i64 S, .int .i64 P] 32) := h9
 obtain ⟨r0, r1, r2, r3, r4⟩ := cells5 h9'
 have hO9 := ownsRow_monoP (own_other HO7.out XR.out (by decide) hS9) HX.out.size
 have hX9 := BB.out.grown hS9 BB.out.size (fun k hk => by cases hk; omega)
 clear h9 h9' hg9 hS9 jd HF XR X8 HO7
 go_wp2
 try simp only [Exit.inBlock, Exit.then]
 refine bodyPost_ret (by simp [results, Tryz.results156, go_sem, r0, r1, r2, r3, r4]; try rfl) rfl ?_
 exact ⟨_, c', rfl, hnc', hcm', hO9, hX9⟩
end Go.Proofs.YtpndjhelpoenpaaGreatDoor
namespace Go.Proofs.YtpndjhelpoenpaaGreatDoor
open Go.RowKit Go.Sort
attribute [local go_sem ↓] Go.wp_at_zero Go.wp_at_succ
section
variable {P : Program} {md : Region.Mode} {ops : Array Oper} {Q : Exit → Act → World → Prop} {S : World → Prop}
theorem wpAnyH_jobG {i d : Nat} {fuel : Nat} {listed : Array Bool} {a : Act} {w : World} {o : Oper} {skip : List Nat} {Post : Value → World → Prop} (ho : ops[i]? = some o) (hg : Region.wanted o (yielded ops a.tmps) = true)
  (r0 : Region.ready md ops listed = [i]) (J : Job P Q S o d a skip Post) (hst : ∀ w1 w2, S w1 → Below w1.heap.size w1 w2 → S w2) (hS : S w)
  (h : ∀ v w', Post v w' → S w' → Below w.heap.size w w' → wpAnyH P md ops Q S fuel (listed.setIfInBounds i true) (a.put (some d) v) w') :
  wpAnyH P md ops Q S (fuel + 1) listed a w := by
 refine wpAnyH_ready r0 (by simp) (AllReadyH.cons ho (fun K hK => ?_) AllReadyH.nil)
 rw [if_pos hg]
 refine J a w K (fun _ _ => rfl) hS (fun v w2 hp hb => ?_)
 have hB := hst _ _ hS hb
 exact hK.out _ _ hB (fun _ => h v w2 hp hB hb)
end
theorem l25Make_rake (A : Option Addr) (n c lo hi : Nat) (f : Nat → Int) (I H S P : Int) (id tt0 z : Int) (i : Nat) (hi' : i < n) (w : World) (hs : Sl w lo hi 4 A n f) (hn : n ≤ 1048576) (hnc : n ≤ c) (hnone : A = none → n = 0 ∧ c = 0) (hfd : findV (pid f) id n 0 = (i : Int)) (hz1 : z ≤ 1000000) :
  Calls Tryz.prog 114 #[.agg #[.slice A n c, .int .i64 I, .int .i64 H, .int .i64 S, .int .i64 P], .agg #[.int .i64 5, .int .i64 id, .int .i64 tt0, .int .i64 z]] w (panPost w (setB f i (f (i * 4 + 2)) (wrap64 (f (i * 4 + 3) - z))) n I (wrap64 (H + z)) S P ((mayV (f (i * 4 + 2)) (f (i * 4 + 3))) && goodWorks (setB f i (f (i * 4 + 2)) (wrap64 (f (i * 4 + 3) - z))) n I (wrap64 (H + z)) S P)) := by
 have hX : Below w.heap.size w (((w.alloc (.cells #[.slice A n c, .int .i64 I, .int .i64 H, .int .i64 S, .int .i64 P] 32)).alloc (.cells #[.int .i64 5, .int .i64 id, .int .i64 tt0, .int .i64 z] 107)).alloc (.cells #[.slice none 0 0, .int .i64 0, .int .i64 0, .int .i64 0, .int .i64 0] 32)) := (((Below.refl _ w).alloc (Nat.le_refl _) _).alloc (by simp) _).alloc (by simp; omega) _
 have HX := lh hX
 clear hX
 have hz2 : ¬ (1000000 : Int) < z := by omega
 go_enter Tryz.func114, Tryz.ntmps114
 go_wp2_with fail
 refine (l25Own_any A n c lo hi f I H S P _ (hs.below HX.out) hn hnc hnone).mono ?_
 rintro e w1 ⟨A1, c1, rfl, _, _, _, hb1⟩
 obtain ⟨b0, b1, b2, b3, b4⟩ := cells5 (bx (g := w.heap.size) hb1)
 obtain ⟨s0, s1, s2, s3⟩ := cells4 (bx (g := w.heap.size + 1) hb1)
 have hr1 : w1.heap[w.heap.size + 1 + 1]? = some (.cells #[.slice none 0 0, .int .i64 0, .int .i64 0, .int .i64 0, .int .i64 0] 32) := (hb1.block (w.heap.size + 1 + 1) (by simp)).trans (by have := heap_alloc_new ((w.alloc (.cells #[.slice A n c, .int .i64 I, .int .i64 H, .int .i64 S, .int .i64 P] 32)).alloc (.cells #[.int .i64 5, .int .i64 id, .int .i64 tt0, .int .i64 z] 107)) (.cells #[.slice none 0 0, .int .i64 0, .int .i64 0, .int .i64 0, .int .i64 0] 32); simpa using this)
 have z1 := hb1.size
 simp only [World.size_alloc] at z1
 have B1 := HX.out.trans (hb1.mono HX.out.size)
 clear hb1
 have nz1 : w1.heap.size ≠ w.heap.size := by omega
 have nz2 : w1.heap.size ≠ w.heap.size + 1 := by omega
 have nz3 : w.heap.size + 1 + 1 ≠ w1.heap.size := by omega
 have nz4 : w.heap.size ≠ w1.heap.size := by omega
 have nz5 : w.heap.size + 1 ≠ w1.heap.size := by omega
 have hR1 := lh hr1
 have hB1 := lh B1
 clear hr1 B1
 go_upto_region 3 with fail
 refine name_wp ?_
 intro w2 hw2
 have b12 := ba hw2
 have p0 := kp b12 b0
 have p1 := kp b12 b1
 have p2 := kp b12 b2
 have p3 := kp b12 b3
 have p4 := kp b12 b4
 have q0 := kp b12 s0
 have q1 := kp b12 s1
 have q2 := kp b12 s2
 have q3 := kp b12 s3
 have h6 : w2.heap[w1.heap.size]? = some (.cells #[.slice A1 n c1, .int .i64 I, .int .i64 H, .int .i64 S, .int .i64 P] 32) := by
  rw [hw2]
  exact heap_alloc_new w1 _
 have hr2 : w2.heap[w.heap.size + 1 + 1]? = some (.cells #[.slice none 0 0, .int .i64 0, .int .i64 0, .int .i64 0, .int .i64 0] 32) := by
  rw [hw2, heap_alloc_old _ _ (by omega)]
  exact hR1.out
 have B2 : Below w.heap.size w w2 := by
  rw [hw2]
  exact hB1.out.alloc hB1.out.size _
 clear hw2 b0 b1 b2 b3 b4 s0 s1 s2 s3 hR1 hB1 b12
 go_wp2_with fail
 generalize w1.heap.size = g6 at *
 have HBw : Hid (∀ w', w2.grownBy w' (some g6) → Below w.heap.size w w') := fun w' hq => B2.grown hq B2.size (fun k hk => by cases hk; omega)
 have HF : Hid (∀ w', w2.grownBy w' (some g6) → w'.cell? ⟨w.heap.size, 0, none⟩ = some (.slice A n c) ∧ w'.cell? ⟨w.heap.size, 1, none⟩ = some (.int .i64 I) ∧ w'.cell? ⟨w.heap.size, 2, none⟩ = some (.int .i64 H) ∧ w'.cell? ⟨w.heap.size, 3, none⟩ = some (.int .i64 S) ∧ w'.cell? ⟨w.heap.size, 4, none⟩ = some (.int .i64 P) ∧ w'.cell? ⟨w.heap.size + 1, 0, none⟩ = some (.int .i64 5) ∧ w'.cell? ⟨w.heap.size + 1, 1, none⟩ = some (.int .i64 id) ∧ w'.cell? ⟨w.heap.size + 1, 2, none⟩ = some (.int .i64 tt0) ∧ w'.cell? ⟨w.heap.size + 1, 3, none⟩ = some (.int .i64 z)) := by
  intro w' hq
  have u0 := hq.block w.heap.size (World.block_lt_of_cell? _ _ p0) (by simp; omega)
  have u1 := hq.block (w.heap.size + 1) (World.block_lt_of_cell? _ _ q0) (by simp; omega)
  exact ⟨(World.cell?_of_block (a := ⟨w.heap.size, 0, none⟩) u0).trans p0, (World.cell?_of_block (a := ⟨w.heap.size, 1, none⟩) u0).trans p1, (World.cell?_of_block (a := ⟨w.heap.size, 2, none⟩) u0).trans p2, (World.cell?_of_block (a := ⟨w.heap.size, 3, none⟩) u0).trans p3, (World.cell?_of_block (a := ⟨w.heap.size, 4, none⟩) u0).trans p4, (World.cell?_of_block (a := ⟨w.heap.size + 1, 0, none⟩) u1).trans q0, (World.cell?_of_block (a := ⟨w.heap.size + 1, 1, none⟩) u1).trans q1, (World.cell?_of_block (a := ⟨w.heap.size + 1, 2, none⟩) u1).trans q2, (World.cell?_of_block (a := ⟨w.heap.size + 1, 3, none⟩) u1).trans q3⟩
 have X6 := lh h6
 have XR2 := lh hr2
 clear p0 p1 p2 p3 p4 q0 q1 q2 q3 h6 hr2 B2
 refine wp_region_held_drew (S := fun w' => w2.grownBy w' (some g6)) (by kernel_rfl) ⟨rfl, rfl, rfl, Nat.le_refl _, fun _ _ _ => rfl⟩ (fun jd => ?_)
 refine tj4 0 11 1 12 2 13 3 14 HF jd ?_
 refine tj 4 15 HF rfl jd ?_
 refine wpAnyH_job (fuel := 6) (i := 5) (d := 16) (skip := []) (Post := fun v _ => v = .int .i64 (i : Int)) rfl rfl (by kernel_rfl) ?jf but_stays jd ?nf
 case jf =>
  intro a' w1' K hev hb hK
  have h1 : a'.eval (.tmp 13) = .agg #[.slice A n c, .int .i64 I, .int .i64 H, .int .i64 S, .int .i64 P] := (hev 13 (by decide)).trans rfl
  have h2 : a'.tmps[13]?.getD undef = .agg #[.slice A n c, .int .i64 I, .int .i64 H, .int .i64 S, .int .i64 P] := by simpa [Act.eval] using h1
  have h3 : a'.eval (.tmp 15) = .int .i64 id := (hev 15 (by decide)).trans rfl
  have h4 : a'.tmps[15]?.getD undef = .int .i64 id := by simpa [Act.eval] using h3
  have HK := lh hK
  have HSL := lh (hs.below (HBw.out w1' hb))
  clear hev h1 h3 hK HF
  go_simp
  go_at_call 154
  refine (l25Find_any A n c lo hi f I H S P id w1' HSL.out hn hnc).mono ?_
  rw [hfd]
  rintro e w2' ⟨rfl, hb2⟩
  exact HK.out _ w2' rfl hb2
 case nf =>
 rintro v w3 rfl hS3 hb3
 simp only [Act.put, p1, p2, p3]
 refine wpAnyH_job (fuel := 5) (i := 6) (d := 17) (skip := []) (Post := (fun v w' => ∃ A' c', v = .tuple #[.agg #[.slice A' n c', .int .i64 I, .int .i64 (wrap64 (H + z)), .int .i64 S, .int .i64 P], .bool (mayV (f (i * 4 + 2)) (f (i * 4 + 3)))] ∧ n ≤ c' ∧ c' ≤ maxLen ∧ w'.ownsRow w.heap.size 97 4 (.slice A' n c') n ((cellsL (setB f i (f (i * 4 + 2)) (wrap64 (f (i * 4 + 3) - z))) n).map (Value.int .i64)))) rfl rfl (by kernel_rfl) ?jp but_stays hS3 ?np
 case jp =>
  intro a' w1' K hev hb hK
  have h1 : a'.eval (.tmp 11) = .agg #[.slice A n c, .int .i64 I, .int .i64 H, .int .i64 S, .int .i64 P] := (hev 11 (by decide)).trans rfl
  have h2 : a'.tmps[11]?.getD undef = .agg #[.slice A n c, .int .i64 I, .int .i64 H, .int .i64 S, .int .i64 P] := by simpa [Act.eval] using h1
  have h3 : a'.eval (.tmp 12) = .agg #[.int .i64 5, .int .i64 id, .int .i64 tt0, .int .i64 z] := (hev 12 (by decide)).trans rfl
  have h4 : a'.tmps[12]?.getD undef = .agg #[.int .i64 5, .int .i64 id, .int .i64 tt0, .int .i64 z] := by simpa [Act.eval] using h3
  have h5 : a'.eval (.tmp 16) = .int .i64 i := (hev 16 (by decide)).trans rfl
  have h6 : a'.tmps[16]?.getD undef = .int .i64 i := by simpa [Act.eval] using h5
  have HK := lh hK
  have HBb := lh (HBw.out w1' hb)
  clear hev h1 h3 h5 hK HF
  go_simp
  go_at_call 156
  refine (l25Pan_rake A n c lo hi f I H S P id tt0 z i hi' w1' (hs.below HBb.out) hn hnc).mono ?_
  rintro e w2' ⟨A', c', rfl, u1, u2, ho, hb2⟩
  exact HK.out _ w2' ⟨A', c', rfl, u1, u2, ownsRow_monoP ho HBb.out.size⟩ hb2
 case np =>
 rintro v w4 ⟨A2, c2, rfl, hc2, hm2, hO4⟩ hS4 hb4
 simp only [Act.put, p1, p2, p3]
 have jd := hS4
 refine tj3 7 10 8 18 9 19 HF jd ?_
 have hB24 : Below w2.heap.size w2 w4 := (below_drewN (Below.refl w2.heap.size w2) 1).trans ((show Below w2.heap.size _ w3 from hb3).trans (hb4.mono hb3.size))
 have h64 := (hB24.block g6 (Array.getElem?_eq_some_iff.1 X6.out).1).trans X6.out
 refine wS0 10 g6 #[.slice A2 n c2, .int .i64 I, .int .i64 (wrap64 (H + z)), .int .i64 S, .int .i64 P] 32 infoWorks h64 (fun w' hg => grown_trans hS4 hg) ?k6
 case k6 =>
 intro w5 h5 hg5 hS5
 have jd := hS5
 refine tj 11 7 HF rfl jd ?_
 refine wpAnyH_done (by kernel_rfl) ?_ _
 have h5' : w5.heap[g6]? = some (.cells #[.slice A2 n c2, .int .i64 I, .int .i64 (wrap64 (H + z)), .int .i64 S, .int .i64 P] 32) := h5
 have hO5 := own_other hO4 h64 (by decide) hg5
 have hr5 := (hS5.block _ (Array.getElem?_eq_some_iff.1 XR2.out).1 (by simp; omega)).trans XR2.out
 have HO5 := lh hO5
 have X8 := lh h5'
 have XR := lh hr5
 have BB := lh (HBw.out w5 hS5)
 have HS5 : Hid (∀ w', w5.grownBy w' (some (w.heap.size + 1 + 1)) → Sl w' w.heap.size w'.heap.size 4 A2 n (setB f i (f (i * 4 + 2)) (wrap64 (f (i * 4 + 3) - z)))) := by
  intro w' hq
  obtain ⟨A0, c0, e0, _, _, h0⟩ := own_of_row (own_other hO5 hr5 (by decide) hq)
  cases e0
  exact (h0.congr (fun j hj => cellsL_getD _ n j hj)).sl
 clear HF
 have HF : Hid (∀ w', w5.grownBy w' (some (w.heap.size + 1 + 1)) → w'.cell? ⟨g6, 0, none⟩ = some (.slice A2 n c2) ∧ w'.cell? ⟨g6, 1, none⟩ = some (.int .i64 I) ∧ w'.cell? ⟨g6, 2, none⟩ = some (.int .i64 (wrap64 (H + z))) ∧ w'.cell? ⟨g6, 3, none⟩ = some (.int .i64 S) ∧ w'.cell? ⟨g6, 4, none⟩ = some (.int .i64 P)) := by
  intro w' hq
  have y8 := (hq.block g6 (Array.getElem?_eq_some_iff.1 X8.out).1 (by simp; omega)).trans X8.out
  exact (cells5 y8)
 clear jd hS5 hg5 h5 h5' h64 hO4 hO5 hr5 hS4 hb4 hb3 hS3 hB24 X6 XR2 HBw
 go_wp2_with fail
 cases hm : (mayV (f (i * 4 + 2)) (f (i * 4 + 3))) with
 | true =>
  rw [Bool.true_and]
  refine wp_region_held_drew (S := fun w' => w5.grownBy w' (some (w.heap.size + 1 + 1))) (by kernel_rfl) ⟨rfl, rfl, rfl, Nat.le_refl _, fun _ _ _ => rfl⟩ (fun jd => ?_)
  refine tj4 0 51 1 52 2 53 3 54 HF jd ?_
  refine wpAnyH_jobG (fuel := 3) (i := 4) (d := 55) (skip := []) (Post := fun v _ => v = .bool (goodWorks (setB f i (f (i * 4 + 2)) (wrap64 (f (i * 4 + 3) - z))) n I (wrap64 (H + z)) S P)) rfl rfl (by kernel_rfl) ?jgtrue but_stays jd ?ngtrue
  case jgtrue =>
   intro a' w1 K hev hb hK
   have h1 : a'.eval (.tmp 54) = (.agg #[.slice A2 n c2, .int .i64 I, .int .i64 (wrap64 (H + z)), .int .i64 S, .int .i64 P]) := (hev 54 (by decide)).trans rfl
   have h2 : a'.tmps[54]?.getD undef = (.agg #[.slice A2 n c2, .int .i64 I, .int .i64 (wrap64 (H + z)), .int .i64 S, .int .i64 P]) := by simpa [Act.eval] using h1
   have HK := lh hK
   have HSL := lh (HS5.out w1 hb)
   clear hev h1 hK HF
   go_simp
   go_at_call 80
   refine (l25Good_any _ n _ _ _ _ I (wrap64 (H + z)) S P w1 HSL.out hn hc2).mono ?_
   rintro e w2' ⟨rfl, hb2⟩
   exact HK.out _ w2' rfl hb2
  case ngtrue =>
  rintro v w8 rfl hS8 hb8
  simp only [Act.put, p1, p2, p3]
  have jd := hS8
  refine tj 5 56 HF rfl jd ?_
  refine wS0 6 (w.heap.size + 1 + 1) #[.slice A2 n c2, .int .i64 I, .int .i64 (wrap64 (H + z)), .int .i64 S, .int .i64 P] 32 infoWorks ((hb8.block _ (Array.getElem?_eq_some_iff.1 XR.out).1).trans XR.out) (fun w' hg => grown_trans hS8 hg) ?krtrue
  case krtrue =>
  intro w9 h9 hg9 hS9
  have jd := hS9
  refine tj 7 5 HF rfl jd ?_
  refine wpAnyH_done (by kernel_rfl) ?_ _
  have h9' : w9.heap[w.heap.size + 1 + 1]? = some (.cells #[.slice A2 n c2, .int .i64 I, .int .i64 (wrap64 (H + z)), .int .i64 S, .int .i64 P] 32) := h9
  obtain ⟨r0, r1, r2, r3, r4⟩ := cells5 h9'
  have hO9 := own_other HO5.out XR.out (by decide) hS9
  have hX9 := BB.out.grown hS9 BB.out.size (fun k hk => by cases hk; omega)
  clear h9 h9' hg9 hS9 jd HF XR X8 HO5 HS5
  go_wp2
  try simp only [Exit.inBlock, Exit.then]
  refine bodyPost_ret (by simp [results, Tryz.results114, go_sem, r0, r1, r2, r3, r4]; try rfl) rfl ?_
  exact ⟨_, c2, by rw [hm]; rfl, hc2, hm2, hO9, hX9⟩
 | false =>
  rw [Bool.false_and]
  refine wp_region_held_drew (S := fun w' => w5.grownBy w' (some (w.heap.size + 1 + 1))) (by kernel_rfl) ⟨rfl, rfl, rfl, Nat.le_refl _, fun _ _ _ => rfl⟩ (fun jd => ?_)
  refine tj3 0 51 1 52 2 53 HF jd ?_
  refine wpAnyH_skips (by kernel_rfl) (fun _ _ _ _ _ h => h) jd [(3, 54), (4, 55)] 3 2 _ _ rfl (by kernel_rfl) ?_
  simp only [skipL, skipA, Act.put, p1, p2, p3]
  refine tj 5 56 HF rfl jd ?_
  have hS8 := jd
  have hb8 : Below w5.drew.heap.size w5.drew w5.drew := Below.refl _ _
  refine wS0 6 (w.heap.size + 1 + 1) #[.slice A2 n c2, .int .i64 I, .int .i64 (wrap64 (H + z)), .int .i64 S, .int .i64 P] 32 infoWorks ((hb8.block _ (Array.getElem?_eq_some_iff.1 XR.out).1).trans XR.out) (fun w' hg => grown_trans hS8 hg) ?krfalse
  case krfalse =>
  intro w9 h9 hg9 hS9
  have jd := hS9
  refine tj 7 5 HF rfl jd ?_
  refine wpAnyH_done (by kernel_rfl) ?_ _
  have h9' : w9.heap[w.heap.size + 1 + 1]? = some (.cells #[.slice A2 n c2, .int .i64 I, .int .i64 (wrap64 (H + z)), .int .i64 S, .int .i64 P] 32) := h9
  obtain ⟨r0, r1, r2, r3, r4⟩ := cells5 h9'
  have hO9 := own_other HO5.out XR.out (by decide) hS9
  have hX9 := BB.out.grown hS9 BB.out.size (fun k hk => by cases hk; omega)
  clear h9 h9' hg9 hS9 jd HF XR X8 HO5 HS5
  go_wp2
  try simp only [Exit.inBlock, Exit.then]
  refine bodyPost_ret (by simp [results, Tryz.results114, go_sem, r0, r1, r2, r3, r4]; try rfl) rfl ?_
  exact ⟨_, c2, by rw [hm]; rfl, hc2, hm2, hO9, hX9⟩
end Go.Proofs.YtpndjhelpoenpaaGreatDoor
namespace Go.Proofs.YtpndjhelpoenpaaGreatDoor
open Go.RowKit
structure Cls (S : World → Prop) (nb : Nat) : Prop where
 size : ∀ w, S w → nb ≤ w.heap.size
 alloc : ∀ w o, S w → S (w.alloc o)
 grown : ∀ w w' r, S w → w.grownBy w' r → (∀ k, r = some k → nb ≤ k) → S w'
theorem cls_but {W : World} {r : Nat} : Cls (fun w => W.grownBy w (some r)) W.heap.size :=
 ⟨fun w h => h.size, fun w o h => ⟨h.os, h.tape, h.output, Nat.le_trans h.size (by simp), fun k hk hr => (heap_alloc_old w o (Nat.lt_of_lt_of_le hk h.size)).trans (h.block k hk hr)⟩,
  fun w w' r' h hg hr => ⟨hg.os.trans h.os, hg.tape.trans h.tape, hg.output.trans h.output, Nat.le_trans h.size hg.size, fun k hk hk' => (hg.block k (Nat.lt_of_lt_of_le hk h.size) (fun e => by have := hr k e.symm; omega)).trans (h.block k hk hk')⟩⟩
section
variable {P : Program} {md : Region.Mode} {ops : Array Oper} {Q : Exit → Act → World → Prop} {S : World → Prop} {nb : Nat}
theorem wpAnyH_appS {i ds d j : Nat} {fuel : Nat} {listed : Array Bool} {a : Act} {w : World} {t ty : TypeId} {pos : String} {af : Array Edge}
  (ho : ops[i]? = some ⟨some d, .call { callee := .builtin .append, args := #[.tmp ds, .tmp j], argTypes := #[t, t] }, ty, pos, af, none⟩) (hr : Region.ready md ops listed = [i])
  (e : TypeId) (k bytes : Nat) (z : Value) (ht : P.underlying t = some (.slice e))
  (hinfo : (P.info? e).map (fun i => (i.zero, i.size, i.bytes)) = some (some z, k, bytes)) (hzk : z.cells.size = k) (hk : 0 < k) (hkb : bytes ≤ 1000)
  (zs news : List Int) (n m c : Nat) (v : Value) (A : Option Addr) (hev : a.eval (.tmp ds) = v) (hex : a.eval (.tmp j) = .slice A m c)
  (hC : Cls S nb) (hS : S w) (hown : w.ownsRow nb e k v n (zs.map (Value.int .i64))) (hs : Src w k A m c news) (hlen : n + m ≤ 100000000)
  (h : ∀ v' w', w'.ownsRow nb e k v' (n + m) ((zs ++ news).map (Value.int .i64)) → S w' → w.grownBy w' v.ownBlock →
   wpAnyH P md ops Q S fuel (listed.setIfInBounds i true) (a.put (some d) v') w') :
  wpAnyH P md ops Q S (fuel + 1) listed a w := by
 obtain ⟨v', w', hrun, hown', hgrow⟩ := run_append_src w t ty nb e k bytes z ht hinfo hzk hk hkb zs news n m c v hown A hs hlen (hC.size _ hS)
 refine wpAnyH_ready hr (by simp) (AllReadyH.cons ho (fun K hK => ?_) AllReadyH.nil)
 rw [if_pos (wanted_plain rfl)]
 refine oper_wp_append _ _ _ rfl hev hex hrun ?_
 have hB := hC.grown _ _ _ hS hgrow (fun k hk => (World.ownsRow.lt hown k hk).1)
 exact hK.out _ _ hB (fun _ => h v' w' hown' hB hgrow)
theorem wpAnyH_append3S {i0 i1 iB i2 i3 d0 d1 dB d2 d3 j1 j3 : Nat} {fuel : Nat} {listed : Array Bool} {a : Act} {w : World} {t : TypeId} {o0 oB : Oper} {ty1 ty2 ty3 : TypeId} {p1 p2 p3 : String} {af1 af2 af3 : Array Edge}
  (ho0 : ops[i0]? = some o0) (hoB : ops[iB]? = some oB)
  (ho1 : ops[i1]? = some ⟨some d1, .call { callee := .builtin .append, args := #[.tmp d0, .tmp j1], argTypes := #[t, t] }, ty1, p1, af1, none⟩)
  (ho2 : ops[i2]? = some ⟨some d2, .call { callee := .builtin .append, args := #[.tmp d1, .tmp dB], argTypes := #[t, t] }, ty2, p2, af2, none⟩)
  (ho3 : ops[i3]? = some ⟨some d3, .call { callee := .builtin .append, args := #[.tmp d2, .tmp j3], argTypes := #[t, t] }, ty3, p3, af3, none⟩)
  (hg0 : o0.guard = none ∧ o0.dst = some d0) (hgB : oB.guard = none ∧ oB.dst = some dB)
  (r0 : Region.ready md ops listed = [i0, iB]) (r1 : Region.ready md ops (listed.setIfInBounds i0 true) = [i1, iB]) (r2 : Region.ready md ops (listed.setIfInBounds iB true) = [i0])
  (r3 : Region.ready md ops ((listed.setIfInBounds i0 true).setIfInBounds i1 true) = [iB]) (r4 : Region.ready md ops ((listed.setIfInBounds i0 true).setIfInBounds iB true) = [i1])
  (r5 : Region.ready md ops (((listed.setIfInBounds i0 true).setIfInBounds i1 true).setIfInBounds iB true) = [i2])
  (r6 : Region.ready md ops ((((listed.setIfInBounds i0 true).setIfInBounds i1 true).setIfInBounds iB true).setIfInBounds i2 true) = [i3])
  (hij : i0 ≠ iB ∧ i1 ≠ iB) (hd : d0 ≠ d1 ∧ d0 ≠ dB ∧ d1 ≠ dB ∧ d0 ≠ j1 ∧ dB ≠ j1 ∧ d0 ≠ j3 ∧ d1 ≠ j3 ∧ dB ≠ j3 ∧ d2 ≠ j3) (hsz : d0 < a.tmps.size ∧ d1 < a.tmps.size ∧ dB < a.tmps.size ∧ d2 < a.tmps.size)
  (e : TypeId) (k bytes : Nat) (z : Value) (ht : P.underlying t = some (.slice e))
  (hinfo : (P.info? e).map (fun i => (i.zero, i.size, i.bytes)) = some (some z, k, bytes)) (hzk : z.cells.size = k) (hk : 0 < k) (hkb : bytes ≤ 1000)
  (run0 : ∀ a w, (execOp (Act.eval a) o0).run P w = .ok (.value (.slice (some ⟨w.heap.size, 0, none⟩) 0 0)) (w.alloc (.cells #[] e)))
  (row : List Int) (hrow : row.length = k)
  (runB : ∀ a' w, (∀ j, j ≠ d0 → j ≠ d1 → Act.eval a' (.tmp j) = a.eval (.tmp j)) → (execOp (Act.eval a') oB).run P w = .ok (.value (.slice (some ⟨w.heap.size, 0, none⟩) 1 1)) (w.alloc (.cells (row.map (Value.int .i64)).toArray e)))
  (zs1 zs3 : List Int) (n1 c1 n3 c3 : Nat) (A1 A3 : Option Addr) (e1 : a.eval (.tmp j1) = .slice A1 n1 c1) (e3 : a.eval (.tmp j3) = .slice A3 n3 c3)
  (hC : Cls S nb) (hS : S w) (hs1 : ∀ w', S w' → Src w' k A1 n1 c1 zs1) (hs3 : ∀ w', S w' → Src w' k A3 n3 c3 zs3) (hlen : n1 + 1 + n3 ≤ 100000000)
  (h : ∀ u0 u1 uB u2 g c' w', n1 + 1 + n3 ≤ c' → c' ≤ maxLen → nb ≤ g → w'.ownsRow nb e k (.slice (some ⟨g, 0, none⟩) (n1 + 1 + n3) c') (n1 + 1 + n3) ((zs1 ++ row ++ zs3).map (Value.int .i64)) → S w' →
   wpAnyH P md ops Q S fuel (((((listed.setIfInBounds i0 true).setIfInBounds i1 true).setIfInBounds iB true).setIfInBounds i2 true).setIfInBounds i3 true)
    (((((a.put (some d0) u0).put (some d1) u1).put (some dB) uB).put (some d2) u2).put (some d3) (.slice (some ⟨g, 0, none⟩) (n1 + 1 + n3) c')) w') :
  wpAnyH P md ops Q S (fuel + 5) listed a w := by
 obtain ⟨hg0, hd0⟩ := hg0
 obtain ⟨hgB, hdB⟩ := hgB
 obtain ⟨q01, q0B, q1B, q0j, qBj, q0j3, q1j3, qBj3, q2j3⟩ := hd
 obtain ⟨z0, z1, zB, z2⟩ := hsz
 -- what is common tt0 all orders: the last two appends
 have last : ∀ u0 u1 uB w1, S w1 → w1.ownsRow nb e k u1 n1 (zs1.map (Value.int .i64)) → (∃ b, uB = .slice (some ⟨b, 0, none⟩) 1 1 ∧ ∀ j u, row[j]? = some u → w1.cell? ((⟨b, 0, none⟩ : Addr).add j) = some (.int .i64 u)) →
   wpAnyH P md ops Q S (fuel + 2) (((listed.setIfInBounds i0 true).setIfInBounds i1 true).setIfInBounds iB true) (((a.put (some d0) u0).put (some d1) u1).put (some dB) uB) w1 := by
  intro u0 u1 uB w1 hB1 hown1 ⟨b, hub, hcell⟩
  refine wpAnyH_appS (fuel := fuel + 1) ho2 r5 e k bytes z ht hinfo hzk hk hkb zs1 row n1 1 1 u1 (some ⟨b, 0, none⟩) ?_ ?_ hC hB1 hown1 ⟨by rw [hrow, Nat.one_mul], (by intro h; cases h), fun ad had => by cases had; exact hcell⟩ (by omega) ?_
  ·rw [eval_put_ne _ _ _ _ (Ne.symm q1B), eval_put_eq _ _ _ (by rw [size_put]; exact z1)]
  ·rw [eval_put_eq _ _ _ (by rw [size_put, size_put]; exact zB), hub]
  ·intro v2 w2 hown2 hB2 _
   refine wpAnyH_appS (fuel := fuel) ho3 r6 e k bytes z ht hinfo hzk hk hkb (zs1 ++ row) zs3 (n1 + 1) n3 c3 v2 A3 ?_ ?_ hC hB2 hown2 (hs3 w2 hB2) hlen ?_
   ·rw [eval_put_eq _ _ _ (by simp only [size_put]; exact z2)]
   ·rw [eval_put_ne _ _ _ _ q2j3, eval_put_ne _ _ _ _ qBj3, eval_put_ne _ _ _ _ q1j3, eval_put_ne _ _ _ _ q0j3, e3]
   ·intro v3 w3 hown3 hB3 _
    have hf := hown3
    rcases hf.2 with ⟨_, h0⟩ | ⟨g, cap, cur, hv, hb, _, hnc, hcm, _⟩
    ·omega
    subst hv
    exact h u0 u1 uB v2 g cap w3 hnc hcm hb hown3 hB3
 have row_cells : ∀ (w1 : World), ∀ j u, row[j]? = some u → (w1.alloc (.cells (row.map (Value.int .i64)).toArray e)).cell? ((⟨w1.heap.size, 0, none⟩ : Addr).add j) = some (.int .i64 u) := by
  intro w1 j u hu
  rw [Addr.add_lit, Nat.zero_add, cell_of_row _ w1.heap.size j _ e (0, 0) (heap_alloc_new w1 _)]
  simp [hu]
 refine wpAnyH_ready (fuel := fuel + 4) r0 (by simp) (AllReadyH.cons ho0 (fun K hK => ?_) (AllReadyH.cons hoB (fun K hK => ?_) AllReadyH.nil))
 ·rw [if_pos (wanted_plain hg0)]
  refine oper_wp_value (run0 a w) ?_
  rw [hd0]
  have hBa := hC.alloc _ (.cells #[] e) hS
  have hr0 := World.ownsRow_made (base := nb) (e := e) (size := k) w #[] 0 (hC.size _ hS) (Nat.zero_le _) (by simp)
  refine hK.out _ _ hBa (fun _ => ?_)
  clear hK K
  refine wpAnyH_ready (fuel := fuel + 3) r1 (by simp) (AllReadyH.cons ho1 (fun K hK => ?_) (AllReadyH.cons hoB (fun K hK => ?_) AllReadyH.nil))
  · -- 0, 1, B
   rw [if_pos (wanted_plain rfl)]
   obtain ⟨v1, w1, hrun, hown1, hgrow⟩ := run_append_src (w.alloc (.cells #[] e)) t ty1 nb e k bytes z ht hinfo hzk hk hkb [] zs1 0 n1 c1 _ hr0 A1 (hs1 _ hBa) (by omega) (hC.size _ hBa)
   refine oper_wp_append _ _ _ rfl (eval_put_eq _ _ _ z0) (by rw [eval_put_ne _ _ _ _ q0j, e1]) hrun ?_
   have hB1 := hC.grown _ _ _ hBa hgrow (fun k hk => (World.ownsRow.lt hr0 k hk).1)
   refine hK.out _ _ hB1 (fun _ => ?_)
   clear hK K
   refine wpAnyH_ready (fuel := fuel + 2) r3 (by simp) (AllReadyH.cons hoB (fun K hK => ?_) AllReadyH.nil)
   rw [if_pos (wanted_plain hgB)]
   refine oper_wp_value (runB _ w1 (fun j h0 h1 => by rw [eval_put_ne _ _ _ _ (Ne.symm h1), eval_put_ne _ _ _ _ (Ne.symm h0)])) ?_
   rw [hdB]
   have hBb := hC.alloc _ (.cells (row.map (Value.int .i64)).toArray e) hB1
   refine hK.out _ _ hBb (fun _ => ?_)
   clear hK K
   rw [Nat.zero_add] at hown1
   exact last _ _ _ _ hBb ((by simpa using hown1 : w1.ownsRow nb e k v1 n1 (zs1.map (Value.int .i64))).alloc _) ⟨_, rfl, row_cells w1⟩
  · -- 0, B, 1
   rw [if_pos (wanted_plain hgB)]
   refine oper_wp_value (runB _ _ (fun j h0 h1 => by rw [eval_put_ne _ _ _ _ (Ne.symm h0)])) ?_
   rw [hdB]
   have hBb := hC.alloc _ (.cells (row.map (Value.int .i64)).toArray e) hBa
   have hr1 := hr0.alloc (.cells (row.map (Value.int .i64)).toArray e)
   refine hK.out _ _ hBb (fun _ => ?_)
   clear hK K
   obtain ⟨v1, w1, hrun, hown1, hgrow⟩ := run_append_src ((w.alloc (.cells #[] e)).alloc (.cells (row.map (Value.int .i64)).toArray e)) t ty1 nb e k bytes z ht hinfo hzk hk hkb [] zs1 0 n1 c1 _ hr1 A1 (hs1 _ hBb) (by omega) (hC.size _ hBb)
   refine wpAnyH_ready (fuel := fuel + 2) r4 (by simp) (AllReadyH.cons ho1 (fun K hK => ?_) AllReadyH.nil)
   rw [if_pos (wanted_plain rfl)]
   refine oper_wp_append _ _ _ rfl (by rw [eval_put_ne _ _ _ _ (Ne.symm q0B), eval_put_eq _ _ _ z0]) (by rw [eval_put_ne _ _ _ _ qBj, eval_put_ne _ _ _ _ q0j, e1]) hrun ?_
   have hB1 := hC.grown _ _ _ hBb hgrow (fun k hk => (World.ownsRow.lt hr1 k hk).1)
   refine hK.out _ _ hB1 (fun _ => ?_)
   clear hK K
   rw [Nat.zero_add] at hown1
   rw [put_comm _ _ _ (Ne.symm q1B), listed_comm _ (Ne.symm hij.2)]
   refine last _ _ _ _ hB1 (by simpa using hown1) ⟨_, rfl, fun j u hu => ?_⟩
   have hblk := hgrow.block (w.alloc (.cells #[] e)).heap.size (by simp) (by simp [Value.ownBlock])
   have hq := row_cells (w.alloc (.cells #[] e)) j u hu
   rw [Addr.add_lit] at hq ⊢
   rw [World.cell?_of_block (a := (⟨(w.alloc (.cells #[] e)).heap.size, 0 + j, none⟩ : Addr)) hblk]
   exact hq
 · -- B, 0, 1
  rw [if_pos (wanted_plain hgB)]
  refine oper_wp_value (runB _ _ (fun j h0 h1 => rfl)) ?_
  rw [hdB]
  have hBa := hC.alloc _ (.cells (row.map (Value.int .i64)).toArray e) hS
  refine hK.out _ _ hBa (fun _ => ?_)
  clear hK K
  refine wpAnyH_ready (fuel := fuel + 3) r2 (by simp) (AllReadyH.cons ho0 (fun K hK => ?_) AllReadyH.nil)
  rw [if_pos (wanted_plain hg0)]
  refine oper_wp_value (run0 _ _) ?_
  rw [hd0]
  have hBb := hC.alloc _ (.cells #[] e) hBa
  have hr1 := World.ownsRow_made (base := nb) (e := e) (size := k) (w.alloc (.cells (row.map (Value.int .i64)).toArray e)) #[] 0 (hC.size _ hBa) (Nat.zero_le _) (by simp)
  refine hK.out _ _ hBb (fun _ => ?_)
  clear hK K
  rw [listed_comm _ (Ne.symm hij.1)]
  obtain ⟨v1, w1, hrun, hown1, hgrow⟩ := run_append_src ((w.alloc (.cells (row.map (Value.int .i64)).toArray e)).alloc (.cells #[] e)) t ty1 nb e k bytes z ht hinfo hzk hk hkb [] zs1 0 n1 c1 _ hr1 A1 (hs1 _ hBb) (by omega) (hC.size _ hBb)
  refine wpAnyH_ready (fuel := fuel + 2) r4 (by simp) (AllReadyH.cons ho1 (fun K hK => ?_) AllReadyH.nil)
  rw [if_pos (wanted_plain rfl)]
  refine oper_wp_append _ _ _ rfl (eval_put_eq _ _ _ (by rw [size_put]; exact z0)) (by rw [eval_put_ne _ _ _ _ q0j, eval_put_ne _ _ _ _ qBj, e1]) hrun ?_
  have hB1 := hC.grown _ _ _ hBb hgrow (fun k hk => (World.ownsRow.lt hr1 k hk).1)
  refine hK.out _ _ hB1 (fun _ => ?_)
  clear hK K
  rw [Nat.zero_add] at hown1
  rw [listed_comm _ (Ne.symm hij.2)]
  rw [put_comm a _ _ (Ne.symm q0B), put_comm (a.put (some d0) _) _ _ (Ne.symm q1B)]
  refine last _ _ _ _ hB1 (by simpa using hown1) ⟨_, rfl, fun j u hu => ?_⟩
  have hblk := hgrow.block w.heap.size (by simp; omega) (by simp [Value.ownBlock])
  have h2 := ((Below.refl (w.alloc (.cells (row.map (Value.int .i64)).toArray e)).heap.size (w.alloc (.cells (row.map (Value.int .i64)).toArray e))).alloc (Nat.le_refl _) (.cells #[] e)).block w.heap.size (by simp)
  have hq := row_cells w j u hu
  rw [Addr.add_lit] at hq ⊢
  rw [World.cell?_of_block (a := (⟨w.heap.size, 0 + j, none⟩ : Addr)) (hblk.trans h2)]
  exact hq
end
end Go.Proofs.YtpndjhelpoenpaaGreatDoor
namespace Go.Proofs.YtpndjhelpoenpaaGreatDoor
open Go.RowKit Go.Sort
attribute [local go_sem ↓] Go.wp_at_zero Go.wp_at_succ
def placeV (f : Nat → Int) (id : Int) : Nat → Nat → Nat
 | 0, k => k
 | m + 1, k => if f (k * 4) < id then placeV f id m (k + 1) else k
def buildL (f : Nat → Int) (n p : Nat) (id hd : Int) : List Int := (cellsL f n).take (p * 4) ++ [id, hd, 0, 0] ++ (cellsL f n).drop (p * 4)
def buildPost (w : World) (L : List Int) (n : Nat) (I H S P : Int) (e : Ending) (w' : World) : Prop :=
 ∃ A' c', e = .returned (.agg #[.slice A' n c', .int .i64 I, .int .i64 H, .int .i64 S, .int .i64 P]) ∧ n ≤ c' ∧ c' ≤ maxLen ∧ w'.ownsRow w.heap.size 97 4 (.slice A' n c') n (L.map (Value.int .i64)) ∧ Below w.heap.size w w'
theorem Sl.srcTake {w : World} {lo hi n c : Nat} {A : Option Addr} {f : Nat → Int} (h : Sl w lo hi 4 A n f) (hz : A = none → n = 0 ∧ c = 0) {p : Nat} (hp : p ≤ n) : Src w 4 A p c ((cellsL f n).take (p * 4)) := by
 refine ⟨by rw [List.length_take, cellsL_len]; omega, fun e => by have := hz e; omega, fun ad had j u hu => ?_⟩
 have hl := (List.getElem?_eq_some_iff.1 hu).1
 rw [List.length_take, cellsL_len] at hl
 rw [List.getElem?_take_of_lt (by omega)] at hu
 exact (h.src hz).cell ad had j u hu
theorem Sl.srcDrop {w : World} {lo hi n c' b off : Nat} {f : Nat → Int} (h : Sl w lo hi 4 (some ⟨b, off, none⟩) n f) {p : Nat} (hp : p ≤ n) : Src w 4 (some ⟨b, off + p * 4, none⟩) (n - p) c' ((cellsL f n).drop (p * 4)) := by
 refine ⟨by rw [List.length_drop, cellsL_len]; omega, (by intro e; cases e), fun ad had j u hu => ?_⟩
 cases had
 rw [List.getElem?_drop] at hu
 have := (h.src (c := n) (by intro e; cases e)).cell _ rfl _ u hu
 rw [Addr.add_lit] at this ⊢
 rw [Nat.add_assoc]
 exact this
theorem infoPans : (Tryz.prog.info? 30).map (·.size) = some 1 := by kernel_rfl
theorem Cls.box {S : World → Prop} {nb : Nat} (h : Cls S nb) {r : Nat} (hr : r < nb) (Qb : Option Obj → Prop) : Cls (fun w => S w ∧ Qb w.heap[r]?) nb :=
 ⟨fun w hw => h.size w hw.1, fun w o hw => ⟨h.alloc w o hw.1, by rw [heap_alloc_old w o (Nat.lt_of_lt_of_le hr (h.size w hw.1))]; exact hw.2⟩,
  fun w w' k hw hg hk => ⟨h.grown w w' k hw.1 hg hk, by rw [hg.block r (Nat.lt_of_lt_of_le hr (h.size w hw.1)) (fun e => by have := hk r e.symm; omega)]; exact hw.2⟩⟩
section
variable {P : Program} {md : Region.Mode} {ops : Array Oper} {Q : Exit → Act → World → Prop} {S : World → Prop}
theorem wpAnyH_store2 {i : Nat} {fuel : Nat} {listed : Array Bool} {a : Act} {w : World} {t ty : TypeId} {pos : String} {af : Array Edge} {p x : Operand}
  (ho : ops[i]? = some ⟨none, .store t p x, ty, pos, af, none⟩) (hr : Region.ready md ops listed = [i])
  (g o : Nat) (v : Value) (T : TypeId) (cur : Array Value) (hp : a.eval p = .pointer (some ⟨g, o, none⟩)) (hx : a.eval x = v) (hi : (P.info? t).map (·.size) = some v.cells.size)
  (hg : w.heap[g]? = some (.cells cur T (0, 0))) (hfit : o + v.cells.size ≤ cur.size) (h1 : v.cells.all (·.oneCell') = true)
  (hS : ∀ w', w'.heap[g]? = some (.cells (putRow cur o v.cells) T (0, 0)) → w.grownBy w' (some g) → S w')
  (h : ∀ w', w'.heap[g]? = some (.cells (putRow cur o v.cells) T (0, 0)) → w.grownBy w' (some g) → S w' →
   wpAnyH P md ops Q S fuel (listed.setIfInBounds i true) a w') :
  wpAnyH P md ops Q S (fuel + 1) listed a w := by
 have hrun := run_storeAt_at (P := P) w t g o v T cur hi hg hfit h1
 have hgr := grown_setRow w g (putRow cur o v.cells)
 have hh := setRow_heap w g cur (putRow cur o v.cells) T _ hg
 have hB := hS _ hh hgr
 refine wpAnyH_ready hr (by simp) (AllReadyH.cons ho (fun K hK => ?_) AllReadyH.nil)
 rw [if_pos (wanted_plain rfl)]
 unfold Oper.wp execOp
 simp only [hp, hx, Sem.run_bind, hrun, Result.andThen_ok, Sem.run_pure]
 exact hK.out _ _ hB (fun _ => h _ hh hgr hB)
end
theorem l25Build_any (A : Option Addr) (n c lo hi : Nat) (f : Nat → Int) (I H S P id hd : Int) (w : World) (hs : Sl w lo hi 4 A n f) (hn : n ≤ 1048576) (hnc : n ≤ c) (hnone : A = none → n = 0 ∧ c = 0) (hform : ∀ ad, A = some ad → ∃ b off, ad = ⟨b, off, none⟩) :
  Calls Tryz.prog 155 #[.agg #[.slice A n c, .int .i64 I, .int .i64 H, .int .i64 S, .int .i64 P], .int .i64 id, .int .i64 hd] w (buildPost w (buildL f n (placeV f id n 0) id hd) (n + 1) I H S P) := by
 have hX : Below w.heap.size w ((w.alloc (.cells #[.slice A n c, .int .i64 I, .int .i64 H, .int .i64 S, .int .i64 P] 32)).alloc (.cells #[.slice none 0 0, .int .i64 0, .int .i64 0, .int .i64 0, .int .i64 0] 32)) := ((Below.refl _ w).alloc (Nat.le_refl _) _).alloc (by simp) _
 have HX := lh hX
 clear hX
 go_enter Tryz.func155, Tryz.ntmps155
 go_wp2_with fail
 refine (l25Own_any A n c lo hi f I H S P _ (hs.below HX.out) hn hnc hnone).mono ?_
 rintro e w1 ⟨A1, c1, rfl, _, _, _, hb1⟩
 obtain ⟨b0, b1, b2, b3, b4⟩ := cells5 (bx (g := w.heap.size) hb1)
 have hr1 : w1.heap[w.heap.size + 1]? = some (.cells #[.slice none 0 0, .int .i64 0, .int .i64 0, .int .i64 0, .int .i64 0] 32) := (hb1.block (w.heap.size + 1) (by simp)).trans (by have := heap_alloc_new (w.alloc (.cells #[.slice A n c, .int .i64 I, .int .i64 H, .int .i64 S, .int .i64 P] 32)) (.cells #[.slice none 0 0, .int .i64 0, .int .i64 0, .int .i64 0, .int .i64 0] 32); simpa using this)
 have z1 := hb1.size
 simp only [World.size_alloc] at z1
 have B1 := HX.out.trans (hb1.mono HX.out.size)
 clear hb1
 have hR1 := lh hr1
 have hB1 := lh B1
 clear hr1 B1
 go_upto_region 2 with fail
 refine name_wp ?_
 intro w2 hw2
 have b12 := ba hw2
 have p0 := kp b12 b0
 have p1 := kp b12 b1
 have p2 := kp b12 b2
 have p3 := kp b12 b3
 have p4 := kp b12 b4
 have h7 : w2.heap[w1.heap.size]? = some (.cells #[.slice A1 n c1, .int .i64 I, .int .i64 H, .int .i64 S, .int .i64 P] 32) := by
  rw [hw2]
  exact heap_alloc_new w1 _
 have hr2 : w2.heap[w.heap.size + 1]? = some (.cells #[.slice none 0 0, .int .i64 0, .int .i64 0, .int .i64 0, .int .i64 0] 32) := by
  rw [hw2, heap_alloc_old _ _ (by omega)]
  exact hR1.out
 have B2 : Below w.heap.size w w2 := by
  rw [hw2]
  exact hB1.out.alloc hB1.out.size _
 clear hw2 b0 b1 b2 b3 b4 hR1 hB1 b12
 generalize w1.heap.size = g7 at *
 have HBw : Hid (∀ w', w2.grownBy w' (some g7) → Below w.heap.size w w') := fun w' hq => B2.grown hq B2.size (fun k hk => by cases hk; omega)
 have HF : Hid (∀ w', w2.grownBy w' (some g7) ∧ (∃ V, w'.heap[g7]? = some (.cells #[V, .int .i64 I, .int .i64 H, .int .i64 S, .int .i64 P] 32)) → w'.cell? ⟨w.heap.size, 0, none⟩ = some (.slice A n c) ∧ w'.cell? ⟨w.heap.size, 1, none⟩ = some (.int .i64 I) ∧ w'.cell? ⟨w.heap.size, 2, none⟩ = some (.int .i64 H) ∧ w'.cell? ⟨w.heap.size, 3, none⟩ = some (.int .i64 S) ∧ w'.cell? ⟨w.heap.size, 4, none⟩ = some (.int .i64 P)) := by
  rintro w' ⟨hq, _⟩
  have u0 := hq.block w.heap.size (World.block_lt_of_cell? _ _ p0) (by simp; omega)
  exact ⟨(World.cell?_of_block (a := ⟨w.heap.size, 0, none⟩) u0).trans p0, (World.cell?_of_block (a := ⟨w.heap.size, 1, none⟩) u0).trans p1, (World.cell?_of_block (a := ⟨w.heap.size, 2, none⟩) u0).trans p2, (World.cell?_of_block (a := ⟨w.heap.size, 3, none⟩) u0).trans p3, (World.cell?_of_block (a := ⟨w.heap.size, 4, none⟩) u0).trans p4⟩
 have hg7 : g7 < w2.heap.size := (Array.getElem?_eq_some_iff.1 h7).1
 have H7 := lh h7
 have HR2 := lh hr2
 have HSW := lh hs
 have HB2 := lh B2
 clear p1 p2 p3 p4 h7 hr2 B2 hs HX
 go_wp2_with fail
 go_loopw [8] (fun kv wr => wr = w2 ∧ ∃ k : Nat, k ≤ n ∧ kv = .int .i64 k ∧ placeV f id n 0 = placeV f id (n - k) k) (fun kv _ => n - (intOf kv).toNat)
 case atStart => exact ⟨rfl, 0, Nat.zero_le _, rfl, rfl⟩
 case round =>
  obtain ⟨rfl, k, hk, rfl, hpl⟩ := hrel
  by_cases hlt : k < n
  ·obtain ⟨b, off, rfl, hbw, HC⟩ := HSW.out.open_ HB2.out (by omega)
   obtain ⟨c0, c1, c2, c3⟩ := cell4 HC hlt
   have hk0i : (0 : Int) ≤ (k : Int) := by omega
   have hkni : (k : Int) < (n : Int) := by omega
   have hkci : (k : Int) ≤ (c : Int) := by omega
   have hkcn : k ≤ c := by omega
   have hknn : k ≤ n := hk
   have e1 : n - k = (n - k - 1) + 1 := by omega
   clear HC
   by_cases hid : f (k * 4) < id
   ·have hst : placeV f id n 0 = placeV f id (n - (k + 1)) (k + 1) := by
     rw [hpl, e1]
     show (if f (k * 4) < id then placeV f id (n - k - 1) (k + 1) else k) = _
     rw [if_pos hid]
     rfl
    have HST := lh hst
    clear hst hpl e1 hkci hkcn hknn
    go_wp2
    go_roundw
    case rel => exact ⟨trivial, k + 1, by omega, by go_num, HST.out⟩
    case measure => simp [intOf]; omega
   ·have hst : placeV f id n 0 = k := by
     rw [hpl, e1]
     show (if f (k * 4) < id then placeV f id (n - k - 1) (k + 1) else k) = _
     rw [if_neg hid]
    have HST := lh hst
    have hck : ¬ c = k := by omega
    clear hst hpl e1
    go_wp2_with fail
    refine wp_region_held_drew (S := (fun w' => wr.grownBy w' (some g7) ∧ ∃ V, w'.heap[g7]? = some (.cells #[V, .int .i64 I, .int .i64 H, .int .i64 S, .int .i64 P] 32))) (by kernel_rfl) ⟨⟨rfl, rfl, rfl, Nat.le_refl _, fun _ _ _ => rfl⟩, _, H7.out⟩ (fun jd => ?_)
    refine tj4 1 29 3 31 6 34 7 35 HF jd ?_
    refine tj4 11 39 13 41 2 30 8 36 HF jd ?_
    refine tj3 12 40 4 32 14 42 HF jd ?_
    refine wpAnyH_append3S (fuel := 2) (i0 := 0) (i1 := 5) (iB := 9) (i2 := 10) (i3 := 15) (d0 := 28) (d1 := 33) (dB := 37) (d2 := 38) (d3 := 43) (j1 := 32) (j3 := 42) rfl rfl rfl rfl rfl ⟨rfl, rfl⟩ ⟨rfl, rfl⟩ (by kernel_rfl) (by kernel_rfl) (by kernel_rfl) (by kernel_rfl) (by kernel_rfl) (by kernel_rfl) (by kernel_rfl) (by decide) (by decide) (by simp) 97 4 32 (.agg #[.int .i64 0, .int .i64 0, .int .i64 0, .int .i64 0]) Tryz.underlying30 infoPan rfl (by decide) (by decide) ?run0a [id, hd, 0, 0] rfl ?runBa ((cellsL f n).take (k * 4)) ((cellsL f n).drop (k * 4)) k c (n - k) (c - k) (some ⟨b, off, none⟩) (some ⟨b, off + k * 4, none⟩) rfl rfl (cls_but.box (r := g7) hg7 (fun o => ∃ V, o = some (.cells #[V, .int .i64 I, .int .i64 H, .int .i64 S, .int .i64 P] 32))) jd ?s1a ?s3a (by omega) ?nexta
    case run0a => intro a w; go_simp
    case runBa =>
     intro a' w hev
     have h1 : a'.eval (.tmp 36) = .agg #[.int .i64 id, .int .i64 hd, .int .i64 0, .int .i64 0] := (hev 36 (by decide) (by decide)).trans rfl
     have h2 : a'.tmps[36]?.getD undef = .agg #[.int .i64 id, .int .i64 hd, .int .i64 0, .int .i64 0] := by simpa [Act.eval] using h1
     clear h1 hev
     go_simp
    case s1a =>
     intro w' hb'
     exact Sl.srcTake (HSW.out.below (HBw.out w' hb'.1)) (by simp) (by omega)
    case s3a =>
     intro w' hb'
     exact Sl.srcDrop (HSW.out.below (HBw.out w' hb'.1)) (by omega)
    case nexta =>
    intro u0 u1 uB u2 g' c' w3 hc1 hc2 hg1 hown' hS3
    simp only [Act.put, p1, p2, p3]
    have jd := hS3
    refine tj 16 44 HF rfl jd ?_
    obtain ⟨hS31, V, hV⟩ := hS3
    refine wpAnyH_store2 (fuel := 0) (i := 17) rfl (by kernel_rfl) g7 0 (.slice (some ⟨g', 0, none⟩) (k + 1 + (n - k)) c') 32 #[V, .int .i64 I, .int .i64 H, .int .i64 S, .int .i64 P] rfl rfl infoPans hV (Nat.le_add_left 1 4) (by simp [Value.cells, Value.oneCell']) (fun w' h1 hg => ⟨grown_trans hS31 hg, _, h1⟩) ?sta
    case sta =>
    intro w4 h4 hg4 hS4
    have h4' : w4.heap[g7]? = some (.cells #[.slice (some ⟨g', 0, none⟩) (k + 1 + (n - k)) c', .int .i64 I, .int .i64 H, .int .i64 S, .int .i64 P] 32) := h4
    have hk1 : k + 1 + (n - k) = n + 1 := by omega
    rw [hk1] at h4' hown' hc1
    refine wpAnyH_done (by kernel_rfl) ?_ _
    have hO4 := own_other hown' hV (by decide) hg4
    have hB4 := HBw.out w4 hS4.1
    have hr4 := (hS4.1.block (w.heap.size + 1) (Array.getElem?_eq_some_iff.1 HR2.out).1 (by simp; omega)).trans HR2.out
    obtain ⟨e0, e1, e2, e3, e4⟩ := cells5 h4'
    obtain ⟨r0, r1, r2, r3, r4⟩ := cells5 hr4
    have rf := fz hr4
    have n1 : g7 ≠ w.heap.size + 1 := by omega
    have n2 : w.heap.size + 1 ≠ g7 := by omega
    have lg : wr.heap.size ≤ g' := (World.ownsRow.lt hO4 g' rfl).1
    have n3 : g' ≠ w.heap.size + 1 := by omega
    have HO4 := lh hO4
    have HB4 := lh hB4
    clear hO4 hB4 h4 h4' hV hS4 hg4 hr4 hown' HF H7 HR2 HSW HBw HB2 jd p0
    go_wp2
    obtain ⟨wq, hwq⟩ : ∃ wq, wq = (((((w4.setCell ⟨w.heap.size + 1, 0, none⟩ (.slice (some ⟨g', 0, none⟩) (n + 1) c')).setCell ⟨w.heap.size + 1, 1, none⟩ (.int .i64 I)).setCell ⟨w.heap.size + 1, 2, none⟩ (.int .i64 H)).setCell ⟨w.heap.size + 1, 3, none⟩ (.int .i64 S)).setCell ⟨w.heap.size + 1, 4, none⟩ (.int .i64 P)) := ⟨_, rfl⟩
    rw [← hwq]
    have q0 : wq.cell? ⟨w.heap.size + 1, 0, none⟩ = some (.slice (some ⟨g', 0, none⟩) (n + 1) c') := by rw [hwq]; go_simp
    have q1 : wq.cell? ⟨w.heap.size + 1, 1, none⟩ = some (.int .i64 I) := by rw [hwq]; go_simp
    have q2 : wq.cell? ⟨w.heap.size + 1, 2, none⟩ = some (.int .i64 H) := by rw [hwq]; go_simp
    have q3 : wq.cell? ⟨w.heap.size + 1, 3, none⟩ = some (.int .i64 S) := by rw [hwq]; go_simp
    have q4 : wq.cell? ⟨w.heap.size + 1, 4, none⟩ = some (.int .i64 P) := by rw [hwq]; go_simp
    have hBq : Below w.heap.size w wq := by
     rw [hwq]
     exact ((((HB4.out.setCell (show w.heap.size ≤ w.heap.size + 1 by omega) _).setCell (show w.heap.size ≤ w.heap.size + 1 by omega) _).setCell (show w.heap.size ≤ w.heap.size + 1 by omega) _).setCell (show w.heap.size ≤ w.heap.size + 1 by omega) _).setCell (show w.heap.size ≤ w.heap.size + 1 by omega) _
    have hOq := HO4.out
    have no : ∀ j : Nat, (Value.slice (some ⟨g', 0, none⟩) (n + 1) c').ownBlock ≠ some (⟨w.heap.size + 1, j, none⟩ : Addr).block := fun j => by simp [Value.ownBlock, n3]
    have hOq := ownsRow_setCell_other (ownsRow_setCell_other (ownsRow_setCell_other (ownsRow_setCell_other (ownsRow_setCell_other hOq (no 0) (.slice (some ⟨g', 0, none⟩) (n + 1) c')) (no 1) (.int .i64 I)) (no 2) (.int .i64 H)) (no 3) (.int .i64 S)) (no 4) (.int .i64 P)
    rw [← hwq] at hOq
    clear hwq HO4 HB4
    refine bodyPost_ret (by simp [results, Tryz.results155, go_sem, q0, q1, q2, q3, q4]; try rfl) rfl ?_
    rw [HST.out]
    exact ⟨_, c', rfl, hc1, hc2, ownsRow_monoP hOq (by omega), hBq⟩
  ·have hkn : k = n := by omega
   subst hkn
   have hst : placeV f id k 0 = k := by rw [hpl, Nat.sub_self]; rfl
   have HST := lh hst
   have hki : ¬ ((k : Int) < (k : Int)) := by omega
   have hk0i : (0 : Int) ≤ (k : Int) := by omega
   have hkci : (k : Int) ≤ (c : Int) := by omega
   clear hst hpl
   cases A with
   | none =>
    have H0 := lh (hnone rfl)
    clear hnone
    go_wp2_with fail
    refine wp_region_held_drew (S := (fun w' => wr.grownBy w' (some g7) ∧ ∃ V, w'.heap[g7]? = some (.cells #[V, .int .i64 I, .int .i64 H, .int .i64 S, .int .i64 P] 32))) (by kernel_rfl) ⟨⟨rfl, rfl, rfl, Nat.le_refl _, fun _ _ _ => rfl⟩, _, H7.out⟩ (fun jd => ?_)
    refine tj4 1 29 3 31 6 34 7 35 HF jd ?_
    refine tj4 11 39 13 41 2 30 8 36 HF jd ?_
    refine tj3 12 40 4 32 14 42 HF jd ?_
    refine wpAnyH_append3S (fuel := 2) (i0 := 0) (i1 := 5) (iB := 9) (i2 := 10) (i3 := 15) (d0 := 28) (d1 := 33) (dB := 37) (d2 := 38) (d3 := 43) (j1 := 32) (j3 := 42) rfl rfl rfl rfl rfl ⟨rfl, rfl⟩ ⟨rfl, rfl⟩ (by kernel_rfl) (by kernel_rfl) (by kernel_rfl) (by kernel_rfl) (by kernel_rfl) (by kernel_rfl) (by kernel_rfl) (by decide) (by decide) (by simp) 97 4 32 (.agg #[.int .i64 0, .int .i64 0, .int .i64 0, .int .i64 0]) Tryz.underlying30 infoPan rfl (by decide) (by decide) ?run0d [id, hd, 0, 0] rfl ?runBd ((cellsL f k).take (k * 4)) ((cellsL f k).drop (k * 4)) k c (0) (c - k) none none rfl rfl (cls_but.box (r := g7) hg7 (fun o => ∃ V, o = some (.cells #[V, .int .i64 I, .int .i64 H, .int .i64 S, .int .i64 P] 32))) jd ?s1d ?s3d (by omega) ?nextd
    case run0d => intro a w; go_simp
    case runBd =>
     intro a' w hev
     have h1 : a'.eval (.tmp 36) = .agg #[.int .i64 id, .int .i64 hd, .int .i64 0, .int .i64 0] := (hev 36 (by decide) (by decide)).trans rfl
     have h2 : a'.tmps[36]?.getD undef = .agg #[.int .i64 id, .int .i64 hd, .int .i64 0, .int .i64 0] := by simpa [Act.eval] using h1
     clear h1 hev
     go_simp
    case s1d =>
     intro w' hb'
     exact Sl.srcTake (HSW.out.below (HBw.out w' hb'.1)) (fun _ => H0.out) (Nat.le_refl _)
    case s3d =>
     intro w' hb'
     exact ⟨by rw [List.drop_of_length_le (by rw [cellsL_len]; exact Nat.le_refl _)]; rfl, fun _ => ⟨rfl, by have := H0.out; omega⟩, fun ad had => by cases had⟩
    case nextd =>
    intro u0 u1 uB u2 g' c' w3 hc1 hc2 hg1 hown' hS3
    simp only [Act.put, p1, p2, p3]
    have jd := hS3
    refine tj 16 44 HF rfl jd ?_
    obtain ⟨hS31, V, hV⟩ := hS3
    refine wpAnyH_store2 (fuel := 0) (i := 17) rfl (by kernel_rfl) g7 0 (.slice (some ⟨g', 0, none⟩) (k + 1 + (0)) c') 32 #[V, .int .i64 I, .int .i64 H, .int .i64 S, .int .i64 P] rfl rfl infoPans hV (Nat.le_add_left 1 4) (by simp [Value.cells, Value.oneCell']) (fun w' h1 hg => ⟨grown_trans hS31 hg, _, h1⟩) ?std
    case std =>
    intro w4 h4 hg4 hS4
    have h4' : w4.heap[g7]? = some (.cells #[.slice (some ⟨g', 0, none⟩) (k + 1 + (0)) c', .int .i64 I, .int .i64 H, .int .i64 S, .int .i64 P] 32) := h4
    have hk1 : k + 1 + (0) = k + 1 := by omega
    rw [hk1] at h4' hown' hc1
    refine wpAnyH_done (by kernel_rfl) ?_ _
    have hO4 := own_other hown' hV (by decide) hg4
    have hB4 := HBw.out w4 hS4.1
    have hr4 := (hS4.1.block (w.heap.size + 1) (Array.getElem?_eq_some_iff.1 HR2.out).1 (by simp; omega)).trans HR2.out
    obtain ⟨e0, e1, e2, e3, e4⟩ := cells5 h4'
    obtain ⟨r0, r1, r2, r3, r4⟩ := cells5 hr4
    have rf := fz hr4
    have n1 : g7 ≠ w.heap.size + 1 := by omega
    have n2 : w.heap.size + 1 ≠ g7 := by omega
    have lg : wr.heap.size ≤ g' := (World.ownsRow.lt hO4 g' rfl).1
    have n3 : g' ≠ w.heap.size + 1 := by omega
    have HO4 := lh hO4
    have HB4 := lh hB4
    clear hO4 hB4 h4 h4' hV hS4 hg4 hr4 hown' HF H7 HR2 HSW HBw HB2 jd p0
    go_wp2
    obtain ⟨wq, hwq⟩ : ∃ wq, wq = (((((w4.setCell ⟨w.heap.size + 1, 0, none⟩ (.slice (some ⟨g', 0, none⟩) (k + 1) c')).setCell ⟨w.heap.size + 1, 1, none⟩ (.int .i64 I)).setCell ⟨w.heap.size + 1, 2, none⟩ (.int .i64 H)).setCell ⟨w.heap.size + 1, 3, none⟩ (.int .i64 S)).setCell ⟨w.heap.size + 1, 4, none⟩ (.int .i64 P)) := ⟨_, rfl⟩
    rw [← hwq]
    have q0 : wq.cell? ⟨w.heap.size + 1, 0, none⟩ = some (.slice (some ⟨g', 0, none⟩) (k + 1) c') := by rw [hwq]; go_simp
    have q1 : wq.cell? ⟨w.heap.size + 1, 1, none⟩ = some (.int .i64 I) := by rw [hwq]; go_simp
    have q2 : wq.cell? ⟨w.heap.size + 1, 2, none⟩ = some (.int .i64 H) := by rw [hwq]; go_simp
    have q3 : wq.cell? ⟨w.heap.size + 1, 3, none⟩ = some (.int .i64 S) := by rw [hwq]; go_simp
    have q4 : wq.cell? ⟨w.heap.size + 1, 4, none⟩ = some (.int .i64 P) := by rw [hwq]; go_simp
    have hBq : Below w.heap.size w wq := by
     rw [hwq]
     exact ((((HB4.out.setCell (show w.heap.size ≤ w.heap.size + 1 by omega) _).setCell (show w.heap.size ≤ w.heap.size + 1 by omega) _).setCell (show w.heap.size ≤ w.heap.size + 1 by omega) _).setCell (show w.heap.size ≤ w.heap.size + 1 by omega) _).setCell (show w.heap.size ≤ w.heap.size + 1 by omega) _
    have hOq := HO4.out
    have no : ∀ j : Nat, (Value.slice (some ⟨g', 0, none⟩) (k + 1) c').ownBlock ≠ some (⟨w.heap.size + 1, j, none⟩ : Addr).block := fun j => by simp [Value.ownBlock, n3]
    have hOq := ownsRow_setCell_other (ownsRow_setCell_other (ownsRow_setCell_other (ownsRow_setCell_other (ownsRow_setCell_other hOq (no 0) (.slice (some ⟨g', 0, none⟩) (k + 1) c')) (no 1) (.int .i64 I)) (no 2) (.int .i64 H)) (no 3) (.int .i64 S)) (no 4) (.int .i64 P)
    rw [← hwq] at hOq
    clear hwq HO4 HB4
    refine bodyPost_ret (by simp [results, Tryz.results155, go_sem, q0, q1, q2, q3, q4]; try rfl) rfl ?_
    rw [HST.out]
    exact ⟨_, c', rfl, hc1, hc2, ownsRow_monoP hOq (by omega), hBq⟩
   | some ad =>
    obtain ⟨b, off, rfl⟩ := hform ad rfl
    by_cases hck : c = k
    ·subst hck
     go_wp2_with fail
     refine wp_region_held_drew (S := (fun w' => wr.grownBy w' (some g7) ∧ ∃ V, w'.heap[g7]? = some (.cells #[V, .int .i64 I, .int .i64 H, .int .i64 S, .int .i64 P] 32))) (by kernel_rfl) ⟨⟨rfl, rfl, rfl, Nat.le_refl _, fun _ _ _ => rfl⟩, _, H7.out⟩ (fun jd => ?_)
     refine tj4 1 29 3 31 6 34 7 35 HF jd ?_
     refine tj4 11 39 13 41 2 30 8 36 HF jd ?_
     refine tj3 12 40 4 32 14 42 HF jd ?_
     refine wpAnyH_append3S (fuel := 2) (i0 := 0) (i1 := 5) (iB := 9) (i2 := 10) (i3 := 15) (d0 := 28) (d1 := 33) (dB := 37) (d2 := 38) (d3 := 43) (j1 := 32) (j3 := 42) rfl rfl rfl rfl rfl ⟨rfl, rfl⟩ ⟨rfl, rfl⟩ (by kernel_rfl) (by kernel_rfl) (by kernel_rfl) (by kernel_rfl) (by kernel_rfl) (by kernel_rfl) (by kernel_rfl) (by decide) (by decide) (by simp) 97 4 32 (.agg #[.int .i64 0, .int .i64 0, .int .i64 0, .int .i64 0]) Tryz.underlying30 infoPan rfl (by decide) (by decide) ?run0b [id, hd, 0, 0] rfl ?runBb ((cellsL f c).take (c * 4)) ((cellsL f c).drop (c * 4)) c c (0) (0) (some ⟨b, off, none⟩) (some ⟨b, off, none⟩) rfl rfl (cls_but.box (r := g7) hg7 (fun o => ∃ V, o = some (.cells #[V, .int .i64 I, .int .i64 H, .int .i64 S, .int .i64 P] 32))) jd ?s1b ?s3b (by omega) ?nextb
     case run0b => intro a w; go_simp
     case runBb =>
      intro a' w hev
      have h1 : a'.eval (.tmp 36) = .agg #[.int .i64 id, .int .i64 hd, .int .i64 0, .int .i64 0] := (hev 36 (by decide) (by decide)).trans rfl
      have h2 : a'.tmps[36]?.getD undef = .agg #[.int .i64 id, .int .i64 hd, .int .i64 0, .int .i64 0] := by simpa [Act.eval] using h1
      clear h1 hev
      go_simp
     case s1b =>
      intro w' hb'
      exact Sl.srcTake (HSW.out.below (HBw.out w' hb'.1)) (by simp) (by omega)
     case s3b =>
      intro w' hb'
      exact Src.none_of (by rw [List.drop_of_length_le (by rw [cellsL_len]; exact Nat.le_refl _)]) (by simp)
     case nextb =>
     intro u0 u1 uB u2 g' c' w3 hc1 hc2 hg1 hown' hS3
     simp only [Act.put, p1, p2, p3]
     have jd := hS3
     refine tj 16 44 HF rfl jd ?_
     obtain ⟨hS31, V, hV⟩ := hS3
     refine wpAnyH_store2 (fuel := 0) (i := 17) rfl (by kernel_rfl) g7 0 (.slice (some ⟨g', 0, none⟩) (c + 1 + (0)) c') 32 #[V, .int .i64 I, .int .i64 H, .int .i64 S, .int .i64 P] rfl rfl infoPans hV (Nat.le_add_left 1 4) (by simp [Value.cells, Value.oneCell']) (fun w' h1 hg => ⟨grown_trans hS31 hg, _, h1⟩) ?stb
     case stb =>
     intro w4 h4 hg4 hS4
     have h4' : w4.heap[g7]? = some (.cells #[.slice (some ⟨g', 0, none⟩) (c + 1 + (0)) c', .int .i64 I, .int .i64 H, .int .i64 S, .int .i64 P] 32) := h4
     have hk1 : c + 1 + (0) = c + 1 := by omega
     rw [hk1] at h4' hown' hc1
     refine wpAnyH_done (by kernel_rfl) ?_ _
     have hO4 := own_other hown' hV (by decide) hg4
     have hB4 := HBw.out w4 hS4.1
     have hr4 := (hS4.1.block (w.heap.size + 1) (Array.getElem?_eq_some_iff.1 HR2.out).1 (by simp; omega)).trans HR2.out
     obtain ⟨e0, e1, e2, e3, e4⟩ := cells5 h4'
     obtain ⟨r0, r1, r2, r3, r4⟩ := cells5 hr4
     have rf := fz hr4
     have n1 : g7 ≠ w.heap.size + 1 := by omega
     have n2 : w.heap.size + 1 ≠ g7 := by omega
     have lg : wr.heap.size ≤ g' := (World.ownsRow.lt hO4 g' rfl).1
     have n3 : g' ≠ w.heap.size + 1 := by omega
     have HO4 := lh hO4
     have HB4 := lh hB4
     clear hO4 hB4 h4 h4' hV hS4 hg4 hr4 hown' HF H7 HR2 HSW HBw HB2 jd p0
     go_wp2
     obtain ⟨wq, hwq⟩ : ∃ wq, wq = (((((w4.setCell ⟨w.heap.size + 1, 0, none⟩ (.slice (some ⟨g', 0, none⟩) (c + 1) c')).setCell ⟨w.heap.size + 1, 1, none⟩ (.int .i64 I)).setCell ⟨w.heap.size + 1, 2, none⟩ (.int .i64 H)).setCell ⟨w.heap.size + 1, 3, none⟩ (.int .i64 S)).setCell ⟨w.heap.size + 1, 4, none⟩ (.int .i64 P)) := ⟨_, rfl⟩
     rw [← hwq]
     have q0 : wq.cell? ⟨w.heap.size + 1, 0, none⟩ = some (.slice (some ⟨g', 0, none⟩) (c + 1) c') := by rw [hwq]; go_simp
     have q1 : wq.cell? ⟨w.heap.size + 1, 1, none⟩ = some (.int .i64 I) := by rw [hwq]; go_simp
     have q2 : wq.cell? ⟨w.heap.size + 1, 2, none⟩ = some (.int .i64 H) := by rw [hwq]; go_simp
     have q3 : wq.cell? ⟨w.heap.size + 1, 3, none⟩ = some (.int .i64 S) := by rw [hwq]; go_simp
     have q4 : wq.cell? ⟨w.heap.size + 1, 4, none⟩ = some (.int .i64 P) := by rw [hwq]; go_simp
     have hBq : Below w.heap.size w wq := by
      rw [hwq]
      exact ((((HB4.out.setCell (show w.heap.size ≤ w.heap.size + 1 by omega) _).setCell (show w.heap.size ≤ w.heap.size + 1 by omega) _).setCell (show w.heap.size ≤ w.heap.size + 1 by omega) _).setCell (show w.heap.size ≤ w.heap.size + 1 by omega) _).setCell (show w.heap.size ≤ w.heap.size + 1 by omega) _
     have hOq := HO4.out
     have no : ∀ j : Nat, (Value.slice (some ⟨g', 0, none⟩) (c + 1) c').ownBlock ≠ some (⟨w.heap.size + 1, j, none⟩ : Addr).block := fun j => by simp [Value.ownBlock, n3]
     have hOq := ownsRow_setCell_other (ownsRow_setCell_other (ownsRow_setCell_other (ownsRow_setCell_other (ownsRow_setCell_other hOq (no 0) (.slice (some ⟨g', 0, none⟩) (c + 1) c')) (no 1) (.int .i64 I)) (no 2) (.int .i64 H)) (no 3) (.int .i64 S)) (no 4) (.int .i64 P)
     rw [← hwq] at hOq
     clear hwq HO4 HB4
     refine bodyPost_ret (by simp [results, Tryz.results155, go_sem, q0, q1, q2, q3, q4]; try rfl) rfl ?_
     rw [HST.out]
     exact ⟨_, c', rfl, hc1, hc2, ownsRow_monoP hOq (by omega), hBq⟩
    ·go_wp2_with fail
     refine wp_region_held_drew (S := (fun w' => wr.grownBy w' (some g7) ∧ ∃ V, w'.heap[g7]? = some (.cells #[V, .int .i64 I, .int .i64 H, .int .i64 S, .int .i64 P] 32))) (by kernel_rfl) ⟨⟨rfl, rfl, rfl, Nat.le_refl _, fun _ _ _ => rfl⟩, _, H7.out⟩ (fun jd => ?_)
     refine tj4 1 29 3 31 6 34 7 35 HF jd ?_
     refine tj4 11 39 13 41 2 30 8 36 HF jd ?_
     refine tj3 12 40 4 32 14 42 HF jd ?_
     refine wpAnyH_append3S (fuel := 2) (i0 := 0) (i1 := 5) (iB := 9) (i2 := 10) (i3 := 15) (d0 := 28) (d1 := 33) (dB := 37) (d2 := 38) (d3 := 43) (j1 := 32) (j3 := 42) rfl rfl rfl rfl rfl ⟨rfl, rfl⟩ ⟨rfl, rfl⟩ (by kernel_rfl) (by kernel_rfl) (by kernel_rfl) (by kernel_rfl) (by kernel_rfl) (by kernel_rfl) (by kernel_rfl) (by decide) (by decide) (by simp) 97 4 32 (.agg #[.int .i64 0, .int .i64 0, .int .i64 0, .int .i64 0]) Tryz.underlying30 infoPan rfl (by decide) (by decide) ?run0c [id, hd, 0, 0] rfl ?runBc ((cellsL f k).take (k * 4)) ((cellsL f k).drop (k * 4)) k c (0) (c - k) (some ⟨b, off, none⟩) (some ⟨b, off + k * 4, none⟩) rfl rfl (cls_but.box (r := g7) hg7 (fun o => ∃ V, o = some (.cells #[V, .int .i64 I, .int .i64 H, .int .i64 S, .int .i64 P] 32))) jd ?s1c ?s3c (by omega) ?nextc
     case run0c => intro a w; go_simp
     case runBc =>
      intro a' w hev
      have h1 : a'.eval (.tmp 36) = .agg #[.int .i64 id, .int .i64 hd, .int .i64 0, .int .i64 0] := (hev 36 (by decide) (by decide)).trans rfl
      have h2 : a'.tmps[36]?.getD undef = .agg #[.int .i64 id, .int .i64 hd, .int .i64 0, .int .i64 0] := by simpa [Act.eval] using h1
      clear h1 hev
      go_simp
     case s1c =>
      intro w' hb'
      exact Sl.srcTake (HSW.out.below (HBw.out w' hb'.1)) (by simp) (by omega)
     case s3c =>
      intro w' hb'
      exact Src.none_of (by rw [List.drop_of_length_le (by rw [cellsL_len]; exact Nat.le_refl _)]) (by simp)
     case nextc =>
     intro u0 u1 uB u2 g' c' w3 hc1 hc2 hg1 hown' hS3
     simp only [Act.put, p1, p2, p3]
     have jd := hS3
     refine tj 16 44 HF rfl jd ?_
     obtain ⟨hS31, V, hV⟩ := hS3
     refine wpAnyH_store2 (fuel := 0) (i := 17) rfl (by kernel_rfl) g7 0 (.slice (some ⟨g', 0, none⟩) (k + 1 + (0)) c') 32 #[V, .int .i64 I, .int .i64 H, .int .i64 S, .int .i64 P] rfl rfl infoPans hV (Nat.le_add_left 1 4) (by simp [Value.cells, Value.oneCell']) (fun w' h1 hg => ⟨grown_trans hS31 hg, _, h1⟩) ?stc
     case stc =>
     intro w4 h4 hg4 hS4
     have h4' : w4.heap[g7]? = some (.cells #[.slice (some ⟨g', 0, none⟩) (k + 1 + (0)) c', .int .i64 I, .int .i64 H, .int .i64 S, .int .i64 P] 32) := h4
     have hk1 : k + 1 + (0) = k + 1 := by omega
     rw [hk1] at h4' hown' hc1
     refine wpAnyH_done (by kernel_rfl) ?_ _
     have hO4 := own_other hown' hV (by decide) hg4
     have hB4 := HBw.out w4 hS4.1
     have hr4 := (hS4.1.block (w.heap.size + 1) (Array.getElem?_eq_some_iff.1 HR2.out).1 (by simp; omega)).trans HR2.out
     obtain ⟨e0, e1, e2, e3, e4⟩ := cells5 h4'
     obtain ⟨r0, r1, r2, r3, r4⟩ := cells5 hr4
     have rf := fz hr4
     have n1 : g7 ≠ w.heap.size + 1 := by omega
     have n2 : w.heap.size + 1 ≠ g7 := by omega
     have lg : wr.heap.size ≤ g' := (World.ownsRow.lt hO4 g' rfl).1
     have n3 : g' ≠ w.heap.size + 1 := by omega
     have HO4 := lh hO4
     have HB4 := lh hB4
     clear hO4 hB4 h4 h4' hV hS4 hg4 hr4 hown' HF H7 HR2 HSW HBw HB2 jd p0
     go_wp2
     obtain ⟨wq, hwq⟩ : ∃ wq, wq = (((((w4.setCell ⟨w.heap.size + 1, 0, none⟩ (.slice (some ⟨g', 0, none⟩) (k + 1) c')).setCell ⟨w.heap.size + 1, 1, none⟩ (.int .i64 I)).setCell ⟨w.heap.size + 1, 2, none⟩ (.int .i64 H)).setCell ⟨w.heap.size + 1, 3, none⟩ (.int .i64 S)).setCell ⟨w.heap.size + 1, 4, none⟩ (.int .i64 P)) := ⟨_, rfl⟩
     rw [← hwq]
     have q0 : wq.cell? ⟨w.heap.size + 1, 0, none⟩ = some (.slice (some ⟨g', 0, none⟩) (k + 1) c') := by rw [hwq]; go_simp
     have q1 : wq.cell? ⟨w.heap.size + 1, 1, none⟩ = some (.int .i64 I) := by rw [hwq]; go_simp
     have q2 : wq.cell? ⟨w.heap.size + 1, 2, none⟩ = some (.int .i64 H) := by rw [hwq]; go_simp
     have q3 : wq.cell? ⟨w.heap.size + 1, 3, none⟩ = some (.int .i64 S) := by rw [hwq]; go_simp
     have q4 : wq.cell? ⟨w.heap.size + 1, 4, none⟩ = some (.int .i64 P) := by rw [hwq]; go_simp
     have hBq : Below w.heap.size w wq := by
      rw [hwq]
      exact ((((HB4.out.setCell (show w.heap.size ≤ w.heap.size + 1 by omega) _).setCell (show w.heap.size ≤ w.heap.size + 1 by omega) _).setCell (show w.heap.size ≤ w.heap.size + 1 by omega) _).setCell (show w.heap.size ≤ w.heap.size + 1 by omega) _).setCell (show w.heap.size ≤ w.heap.size + 1 by omega) _
     have hOq := HO4.out
     have no : ∀ j : Nat, (Value.slice (some ⟨g', 0, none⟩) (k + 1) c').ownBlock ≠ some (⟨w.heap.size + 1, j, none⟩ : Addr).block := fun j => by simp [Value.ownBlock, n3]
     have hOq := ownsRow_setCell_other (ownsRow_setCell_other (ownsRow_setCell_other (ownsRow_setCell_other (ownsRow_setCell_other hOq (no 0) (.slice (some ⟨g', 0, none⟩) (k + 1) c')) (no 1) (.int .i64 I)) (no 2) (.int .i64 H)) (no 3) (.int .i64 S)) (no 4) (.int .i64 P)
     rw [← hwq] at hOq
     clear hwq HO4 HB4
     refine bodyPost_ret (by simp [results, Tryz.results155, go_sem, q0, q1, q2, q3, q4]; try rfl) rfl ?_
     rw [HST.out]
     exact ⟨_, c', rfl, hc1, hc2, ownsRow_monoP hOq (by omega), hBq⟩
end Go.Proofs.YtpndjhelpoenpaaGreatDoor
namespace Go.Proofs.YtpndjhelpoenpaaGreatDoor
open Go.RowKit
theorem putRow_two (cur : Array Value) (o : Nat) (a b : Value) (h : o + 2 ≤ cur.size) : putRow cur o #[a, b] = (cur.setIfInBounds o a).setIfInBounds (o + 1) b := by
 apply Array.ext'
 simp only [putRow, Array.toList_setIfInBounds]
 apply List.ext_getElem?
 intro j
 have hl : (cur.toList.take o).length = o := by simp; omega
 simp only [List.getElem?_set, List.length_set, Array.length_toList]
 by_cases h1 : j < o
 ·rw [List.append_assoc, List.getElem?_append_left (by omega), List.getElem?_take_of_lt h1, if_neg (by omega), if_neg (by omega)]
 ·rw [List.append_assoc, List.getElem?_append_right (by omega), hl]
  by_cases h2 : j = o
  ·subst h2
   rw [if_neg (by omega), if_pos rfl, if_pos (by omega)]
   simp
  ·by_cases h3 : j = o + 1
   ·subst h3
    rw [if_pos rfl, if_pos (by omega)]
    simp
   ·rw [List.getElem?_append_right (by simp; omega), if_neg (by omega), if_neg (by omega), List.getElem?_drop]
    congr 1
    simp
    omega
theorem row_open {w : World} {base k n c g : Nat} {e : TypeId} {xs : List Value} (h : w.ownsRow base e k (.slice (some ⟨g, 0, none⟩) n c) n xs) : ∃ cur, w.heap[g]? = some (.cells cur e (0, 0)) ∧ n * k ≤ cur.size ∧
  ∀ (w' : World) (j : Nat) (u v : Value), w'.heap[g]? = some (.cells ((cur.setIfInBounds j u).setIfInBounds (j + 1) v) e (0, 0)) → w'.ownsRow base e k (.slice (some ⟨g, 0, none⟩) n c) n ((xs.set j u).set (j + 1) v) := by
 rcases h.2 with ⟨h', _⟩ | ⟨g', cap', cur, h', hb, hg, hnc, hcm, hcs, htake⟩
 ·cases h'
 ·cases h'
  refine ⟨cur, hg, by rw [hcs]; exact Nat.mul_le_mul_right k hnc, fun w' j u v hw => ⟨by simpa using h.1, .inr ⟨g, c, _, rfl, hb, hw, hnc, hcm, by simpa using hcs, ?_⟩⟩⟩
  rw [Array.toList_setIfInBounds, Array.toList_setIfInBounds, ← htake, List.take_set, List.take_set]
end Go.Proofs.YtpndjhelpoenpaaGreatDoor
