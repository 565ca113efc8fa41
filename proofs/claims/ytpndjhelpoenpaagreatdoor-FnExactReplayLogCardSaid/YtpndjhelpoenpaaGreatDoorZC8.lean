/-
  Texts of this claim, merged.
-/
import Derived.Test.YtpndjhelpoenpaaGreatDoorZC7
set_option linter.unusedVariables false
set_option linter.unusedSimpArgs false
set_option maxRecDepth 100000
set_option maxHeartbeats 8000000
namespace Go.Proofs.YtpndjhelpoenpaaGreatDoor
open Go.RowKit Go.Sort
attribute [local go_sem ↓] Go.wp_at_zero Go.wp_at_succ
theorem infoWorks : (Tryz.prog.info? 32).map (·.size) = some 5 := by kernel_rfl
def cellsL (f : Nat → Int) (n : Nat) : List Int := (List.range (n * 4)).map f
theorem cellsL_len (f : Nat → Int) (n : Nat) : (cellsL f n).length = n * 4 := by simp [cellsL]
theorem cellsL_get (f : Nat → Int) (n j : Nat) (u : Int) (h : (cellsL f n)[j]? = some u) : j < n * 4 ∧ u = f j := by
 have hl := (List.getElem?_eq_some_iff.1 h).1
 rw [cellsL_len] at hl
 refine ⟨hl, ?_⟩
 simp [cellsL, hl] at h
 exact h.symm
theorem cellsL_getD (f : Nat → Int) (n j : Nat) (h : j < n * 4) : (cellsL f n).getD j 0 = f j := by
 simp [cellsL, List.getD_eq_getElem?_getD, h]
theorem Sl.src {w : World} {lo hi n c : Nat} {A : Option Addr} {f : Nat → Int} (h : Sl w lo hi 4 A n f) (hz : A = none → n = 0 ∧ c = 0) : Src w 4 A n c (cellsL f n) := by
 refine ⟨cellsL_len f n, hz, fun ad had j u hu => ?_⟩
 obtain ⟨hj, rfl⟩ := cellsL_get f n j u hu
 obtain ⟨b, off, e, _, _, h3⟩ := h.here (by omega)
 subst e
 cases had
 have := h3 j hj
 rw [Addr.add_lit]
 exact this
def ownPost (w : World) (f : Nat → Int) (n : Nat) (I H S P : Int) (e : Ending) (w' : World) : Prop :=
 ∃ A' c', e = .returned (.agg #[.slice A' n c', .int .i64 I, .int .i64 H, .int .i64 S, .int .i64 P]) ∧ n ≤ c' ∧ c' ≤ maxLen ∧ w'.ownsRow w.heap.size 97 4 (.slice A' n c') n ((cellsL f n).map (Value.int .i64)) ∧ Below w.heap.size w w'
theorem row_slice {w : World} {lo k : Nat} {e : TypeId} {v : Value} {n : Nat} {xs : List Value} (h : w.ownsRow lo e k v n xs) : ∃ A c, v = .slice A n c ∧ n ≤ c ∧ c ≤ maxLen := by
 rcases h.2 with ⟨rfl, rfl⟩ | ⟨g, c, cur, rfl, _, _, h1, h2, _⟩
 ·exact ⟨none, 0, rfl, Nat.le_refl _, by unfold maxLen; omega⟩
 ·exact ⟨_, c, rfl, h1, h2⟩
theorem own_other {w w' : World} {base k n b : Nat} {e T0 : TypeId} {v : Value} {xs : List Value} {cur : Array Value} (h : w.ownsRow base e k v n xs) (hb : w.heap[b]? = some (.cells cur T0 (0, 0))) (hne : e ≠ T0) (hg : w.grownBy w' (some b)) : w'.ownsRow base e k v n xs := by
 rcases h.2 with h2 | ⟨g, cap, cu, hv, h3, hG, r⟩
 ·exact ⟨h.1, Or.inl h2⟩
 ·have hlt := (Array.getElem?_eq_some_iff.1 hG).1
  refine ⟨h.1, Or.inr ⟨g, cap, cu, hv, h3, ?_, r⟩⟩
  rw [hg.block g hlt (by
   intro he
   simp at he
   subst he
   rw [hb] at hG
   simp at hG
   exact hne hG.2.symm)]
  exact hG
theorem l25Own_any (A : Option Addr) (n c lo hi : Nat) (f : Nat → Int) (I H S P : Int) (w : World) (hs : Sl w lo hi 4 A n f) (hn : n ≤ 1048576) (hnc : n ≤ c) (hz : A = none → n = 0 ∧ c = 0) :
  Calls Tryz.prog 79 #[.agg #[.slice A n c, .int .i64 I, .int .i64 H, .int .i64 S, .int .i64 P]] w (ownPost w f n I H S P) := by
 have HF : Hid (∀ w', Below (w.alloc (.cells #[.slice A n c, .int .i64 I, .int .i64 H, .int .i64 S, .int .i64 P] 32)).heap.size (w.alloc (.cells #[.slice A n c, .int .i64 I, .int .i64 H, .int .i64 S, .int .i64 P] 32)) w' → w'.cell? ⟨w.heap.size, 0, none⟩ = some (.slice A n c) ∧ w'.cell? ⟨w.heap.size, 1, none⟩ = some (.int .i64 I) ∧ w'.cell? ⟨w.heap.size, 2, none⟩ = some (.int .i64 H) ∧ w'.cell? ⟨w.heap.size, 3, none⟩ = some (.int .i64 S) ∧ w'.cell? ⟨w.heap.size, 4, none⟩ = some (.int .i64 P)) := fun w' hq => (cells5 (bx (g := w.heap.size) hq))
 have HS : Hid (Sl (w.alloc (.cells #[.slice A n c, .int .i64 I, .int .i64 H, .int .i64 S, .int .i64 P] 32)) lo hi 4 A n f) := hs.below ((Below.refl _ w).alloc (Nat.le_refl _) _)
 have HBW : Hid (Below w.heap.size w (w.alloc (.cells #[.slice A n c, .int .i64 I, .int .i64 H, .int .i64 S, .int .i64 P] 32))) := (Below.refl _ w).alloc (Nat.le_refl _) _
 clear hs
 go_enter Tryz.func79, Tryz.ntmps79
 go_wp2_with fail
 refine wp_region_held_drew (S := fun w' => Below (w.alloc (.cells #[.slice A n c, .int .i64 I, .int .i64 H, .int .i64 S, .int .i64 P] 32)).heap.size (w.alloc (.cells #[.slice A n c, .int .i64 I, .int .i64 H, .int .i64 S, .int .i64 P] 32)) w') (by kernel_rfl) (((Below.refl _ (w.alloc (.cells #[.slice A n c, .int .i64 I, .int .i64 H, .int .i64 S, .int .i64 P] 32))).alloc (Nat.le_refl _) _).drew) (fun jd => ?_)
 have HR : Hid (((w.alloc (.cells #[.slice A n c, .int .i64 I, .int .i64 H, .int .i64 S, .int .i64 P] 32)).alloc (.cells #[.slice none 0 0, .int .i64 0, .int .i64 0, .int .i64 0, .int .i64 0] 32)).drew.heap[w.heap.size + 1]? = some (.cells #[.slice none 0 0, .int .i64 0, .int .i64 0, .int .i64 0, .int .i64 0] 32)) := by
  show ((w.alloc (.cells #[.slice A n c, .int .i64 I, .int .i64 H, .int .i64 S, .int .i64 P] 32)).alloc (.cells #[.slice none 0 0, .int .i64 0, .int .i64 0, .int .i64 0, .int .i64 0] 32)).heap[w.heap.size + 1]? = _
  rw [show w.heap.size + 1 = (w.alloc (.cells #[.slice A n c, .int .i64 I, .int .i64 H, .int .i64 S, .int .i64 P] 32)).heap.size by simp]
  exact heap_alloc_new (w.alloc (.cells #[.slice A n c, .int .i64 I, .int .i64 H, .int .i64 S, .int .i64 P] 32)) _
 have hsz : ((w.alloc (.cells #[.slice A n c, .int .i64 I, .int .i64 H, .int .i64 S, .int .i64 P] 32)).alloc (.cells #[.slice none 0 0, .int .i64 0, .int .i64 0, .int .i64 0, .int .i64 0] 32)).drew.heap.size = w.heap.size + 2 := by simp [World.drew]
 generalize ((w.alloc (.cells #[.slice A n c, .int .i64 I, .int .i64 H, .int .i64 S, .int .i64 P] 32)).alloc (.cells #[.slice none 0 0, .int .i64 0, .int .i64 0, .int .i64 0, .int .i64 0] 32)).drew = wz at *
 refine tj4 1 4 2 5 4 7 5 8 HF jd ?_
 refine tj4 6 9 7 10 8 11 9 12 HF jd ?_
 refine tj2 10 13 11 14 HF jd ?_
 refine wpAnyH_new (fuel := 3) (i := 0) (d := 3) (obj := .cells #[] 97) (v := .slice (some ⟨wz.heap.size, 0, none⟩) 0 0) rfl ⟨rfl, rfl⟩ (by kernel_rfl) jd (by go_simp; try rfl) ?_
 intro hHeld2
 have hro := World.ownsRow_made (base := (w.alloc (.cells #[.slice A n c, .int .i64 I, .int .i64 H, .int .i64 S, .int .i64 P] 32)).heap.size) (e := 97) (size := 4) wz #[] 0 jd.size (Nat.zero_le _) (by simp)
 refine wpAnyH_app (fuel := 2) (i := 3) (ds := 3) (d := 6) (j := 5) rfl (by kernel_rfl) 97 4 32 (.agg #[.int .i64 0, .int .i64 0, .int .i64 0, .int .i64 0]) Tryz.underlying30 infoPan rfl (by decide) (by decide) [] (cellsL f n) 0 n c _ A rfl rfl hHeld2 hro (Sl.src (HS.out.below hHeld2) hz) (by omega) ?n1
 case n1 =>
  intro v' w3 hown3 hB3 hgrow3
  replace hgrow3 : (wz.alloc (.cells #[] 97)).grownBy w3 (some wz.heap.size) := hgrow3
  rw [Nat.zero_add, List.nil_append] at hown3
  obtain ⟨A', c', rfl, hnc', hcm'⟩ := row_slice hown3
  have HO3 := lh hown3
  clear hown3 hro hHeld2
  have jd := hB3
  have hr3 : w3.heap[w.heap.size + 1]? = some (.cells #[.slice none 0 0, .int .i64 0, .int .i64 0, .int .i64 0, .int .i64 0] 32) := (hgrow3.block _ (by simp; omega) (by intro he; simp at he; omega)).trans (by rw [heap_alloc_old _ _ (by omega)]; exact HR.out)
  simp only [Act.put, p1, p2, p3]
  refine tj 12 15 HF rfl jd ?_
  refine wpAnyH_store (fuel := 0) (i := 13) rfl (by kernel_rfl) (w.heap.size + 1) 0 (.agg #[.slice A' n c', .int .i64 I, .int .i64 H, .int .i64 S, .int .i64 P]) 32 _ rfl rfl ?i1 hr3 ?f1 ?a1 (fun w' hg => jd.grown hg jd.size (fun k hk => by cases hk; simp)) ?k1
  case i1 => exact infoWorks
  case f1 => exact Nat.le_refl 5
  case a1 => simp [Value.cells, Value.oneCell']
  case k1 =>
   intro w4 h4 hg4 hHeld4
   refine wpAnyH_done (by kernel_rfl) ?_ _
   have h4' : w4.heap[w.heap.size + 1]? = some (.cells #[.slice A' n c', .int .i64 I, .int .i64 H, .int .i64 S, .int .i64 P] 32) := h4
   obtain ⟨r0, r1, r2, r3, r4⟩ := cells5 h4'
   have hX4 : Below w.heap.size w w4 := HBW.out.trans (hHeld4.mono HBW.out.size)
   have hO4 := ownsRow_monoP (own_other HO3.out hr3 (by decide) hg4) HBW.out.size
   clear h4 h4' hg4 hHeld4 HO3 hr3 jd hB3 hgrow3 HF HS HR hsz
   go_wp2
   try simp only [Exit.inBlock, Exit.then]
   refine bodyPost_ret (by simp [results, Tryz.results79, go_sem, r0, r1, r2, r3, r4]; try rfl) rfl ?_
   exact ⟨A', c', rfl, hnc', hcm', hO4, hX4⟩
end Go.Proofs.YtpndjhelpoenpaaGreatDoor
namespace Go.Proofs.YtpndjhelpoenpaaGreatDoor
open Go.RowKit
section
variable {P : Program} {md : Region.Mode} {ops : Array Oper} {Q : Exit → Act → World → Prop} {S : World → Prop}
def Job (P : Program) (Q : Exit → Act → World → Prop) (S : World → Prop) (o : Oper) (d : Nat) (a : Act) (skip : List Nat) (Post : Value → World → Prop) : Prop :=
 ∀ (a' : Act) (w1 : World) (K : Act → World → Prop), (∀ j, j ∉ skip → a'.eval (.tmp j) = a.eval (.tmp j)) → S w1 →
  (∀ v w2, Post v w2 → Below w1.heap.size w1 w2 → K (a'.put (some d) v) w2) → o.wp P a' w1 K Q
def Stays (Post : Value → World → Prop) : Prop := ∀ v w1 w2, Post v w1 → Below w1.heap.size w1 w2 → Post v w2
theorem Job.put {o : Oper} {d : Nat} {a : Act} {skip : List Nat} {Post : Value → World → Prop} (h : Job P Q S o d a skip Post) {d' : Nat} (hd : d' ∈ skip) (u : Value) : Job P Q S o d (a.put (some d') u) skip Post :=
 fun a' w1 K hev hb hK => h a' w1 K (fun j hj => (hev j hj).trans (eval_put_ne _ _ _ _ (fun e => hj (e ▸ hd)))) hb hK
theorem Job.alloc {nb : Nat} {o : Oper} {d : Nat} {a : Act} {skip : List Nat} {obj : Obj} (hd : o.dst = some d) (hnb : ∀ w, S w → nb ≤ w.heap.size)
  (run : ∀ (a' : Act) (w1 : World), (execOp a'.eval o).run P w1 = .ok (.value (.pointer (some ⟨w1.heap.size, 0, none⟩))) (w1.alloc obj)) :
  Job P Q S o d a skip (fun v w => ∃ g, v = .pointer (some ⟨g, 0, none⟩) ∧ nb ≤ g ∧ w.heap[g]? = some obj) := by
 intro a' w1 K _ hb hK
 refine oper_wp_value (run a' w1) ?_
 rw [hd]
 exact hK _ _ ⟨w1.heap.size, rfl, hnb _ hb, heap_alloc_new w1 obj⟩ ((Below.refl _ _).alloc (Nat.le_refl _) _)
theorem but_stays {X : World} {r : Option Nat} : ∀ w1 w2, X.grownBy w1 r → Below w1.heap.size w1 w2 → X.grownBy w2 r := fun w1 w2 h hb =>
 ⟨hb.os.trans h.os, hb.tape.trans h.tape, hb.output.trans h.output, Nat.le_trans h.size hb.size, fun k hk hr => (hb.block k (Nat.lt_of_lt_of_le hk h.size)).trans (h.block k hk hr)⟩
theorem below_stays {X : World} : ∀ w1 w2, Below X.heap.size X w1 → Below w1.heap.size w1 w2 → Below X.heap.size X w2 := fun w1 w2 h hb => h.trans (hb.mono h.size)
theorem stays_alloc {n : Nat} {obj : Obj} : Stays (fun v w => ∃ g, v = .pointer (some ⟨g, 0, none⟩) ∧ n ≤ g ∧ w.heap[g]? = some obj) := by
 rintro v w1 w2 ⟨g, e, h1, h2⟩ hb
 exact ⟨g, e, h1, (hb.block g (Array.getElem?_eq_some_iff.1 h2).1).trans h2⟩
theorem wpAnyH_job {i d : Nat} {fuel : Nat} {listed : Array Bool} {a : Act} {w : World} {o : Oper} {skip : List Nat} {Post : Value → World → Prop} (ho : ops[i]? = some o) (hg : o.guard = none)
  (r0 : Region.ready md ops listed = [i]) (J : Job P Q S o d a skip Post) (hst : ∀ w1 w2, S w1 → Below w1.heap.size w1 w2 → S w2) (hS : S w)
  (h : ∀ v w', Post v w' → S w' → Below w.heap.size w w' → wpAnyH P md ops Q S fuel (listed.setIfInBounds i true) (a.put (some d) v) w') :
  wpAnyH P md ops Q S (fuel + 1) listed a w := by
 refine wpAnyH_ready r0 (by simp) (AllReadyH.cons ho (fun K hK => ?_) AllReadyH.nil)
 rw [if_pos (wanted_plain hg)]
 refine J a w K (fun _ _ => rfl) hS (fun v w2 hp hb => ?_)
 have hB := hst _ _ hS hb
 exact hK.out _ _ hB (fun _ => h v w2 hp hB hb)
theorem wpAnyH_two {i j di dj : Nat} {fuel : Nat} {listed : Array Bool} {a : Act} {w : World} {oi oj : Oper} {skip : List Nat} {Pi Pj : Value → World → Prop}
  (hoi : ops[i]? = some oi) (hoj : ops[j]? = some oj) (hgi : oi.guard = none) (hgj : oj.guard = none) (hij : i ≠ j) (hd : di ≠ dj) (hsi : di ∈ skip) (hsj : dj ∈ skip)
  (r0 : Region.ready md ops listed = [i, j]) (ri : Region.ready md ops (listed.setIfInBounds i true) = [j]) (rj : Region.ready md ops (listed.setIfInBounds j true) = [i])
  (Ji : Job P Q S oi di a skip Pi) (Jj : Job P Q S oj dj a skip Pj) (si : Stays Pi) (sj : Stays Pj) (hst : ∀ w1 w2, S w1 → Below w1.heap.size w1 w2 → S w2) (hS : S w)
  (h : ∀ vi vj w', Pi vi w' → Pj vj w' → S w' → Below w.heap.size w w' →
   wpAnyH P md ops Q S fuel ((listed.setIfInBounds i true).setIfInBounds j true) ((a.put (some di) vi).put (some dj) vj) w') :
  wpAnyH P md ops Q S (fuel + 2) listed a w := by
 refine wpAnyH_ready (fuel := fuel + 1) r0 (by simp) (AllReadyH.cons hoi (fun K hK => ?_) (AllReadyH.cons hoj (fun K hK => ?_) AllReadyH.nil))
 ·rw [if_pos (wanted_plain hgi)]
  refine Ji a w K (fun _ _ => rfl) hS (fun v w2 hp hb => ?_)
  have hB := hst _ _ hS hb
  refine hK.out _ _ hB (fun _ => ?_)
  refine wpAnyH_job (fuel := fuel) hoj hgj ri (Jj.put hsi v) hst hB (fun u w3 hp3 hB3 hb3 => ?_)
  exact h v u w3 (si _ _ _ hp hb3) hp3 hB3 (hb.trans (hb3.mono hb.size))
 ·rw [if_pos (wanted_plain hgj)]
  refine Jj a w K (fun _ _ => rfl) hS (fun v w2 hp hb => ?_)
  have hB := hst _ _ hS hb
  refine hK.out _ _ hB (fun _ => ?_)
  refine wpAnyH_job (fuel := fuel) hoi hgi rj (Ji.put hsj v) hst hB (fun u w3 hp3 hB3 hb3 => ?_)
  rw [listed_comm _ (Ne.symm hij), put_comm _ _ _ (Ne.symm hd)]
  exact h u v w3 hp3 (sj _ _ _ hp hb3) hB3 (hb.trans (hb3.mono hb.size))
theorem wpAnyH_three {i j k di dj dk : Nat} {fuel : Nat} {listed : Array Bool} {a : Act} {w : World} {oi oj ok : Oper} {skip : List Nat} {Pi Pj Pk : Value → World → Prop}
  (hoi : ops[i]? = some oi) (hoj : ops[j]? = some oj) (hok : ops[k]? = some ok) (hgi : oi.guard = none) (hgj : oj.guard = none) (hgk : ok.guard = none)
  (hij : i ≠ j ∧ i ≠ k ∧ j ≠ k) (hd : di ≠ dj ∧ di ≠ dk ∧ dj ≠ dk) (hs : di ∈ skip ∧ dj ∈ skip ∧ dk ∈ skip)
  (r0 : Region.ready md ops listed = [i, j, k]) (ri : Region.ready md ops (listed.setIfInBounds i true) = [j, k]) (rj : Region.ready md ops (listed.setIfInBounds j true) = [i, k]) (rk : Region.ready md ops (listed.setIfInBounds k true) = [i, j])
  (rij : Region.ready md ops ((listed.setIfInBounds i true).setIfInBounds j true) = [k]) (rik : Region.ready md ops ((listed.setIfInBounds i true).setIfInBounds k true) = [j]) (rjk : Region.ready md ops ((listed.setIfInBounds j true).setIfInBounds k true) = [i])
  (Ji : Job P Q S oi di a skip Pi) (Jj : Job P Q S oj dj a skip Pj) (Jk : Job P Q S ok dk a skip Pk) (si : Stays Pi) (sj : Stays Pj) (sk : Stays Pk) (hst : ∀ w1 w2, S w1 → Below w1.heap.size w1 w2 → S w2) (hS : S w)
  (h : ∀ vi vj vk w', Pi vi w' → Pj vj w' → Pk vk w' → S w' → Below w.heap.size w w' →
   wpAnyH P md ops Q S fuel (((listed.setIfInBounds i true).setIfInBounds j true).setIfInBounds k true) (((a.put (some di) vi).put (some dj) vj).put (some dk) vk) w') :
  wpAnyH P md ops Q S (fuel + 3) listed a w := by
 obtain ⟨qij, qik, qjk⟩ := hij
 obtain ⟨dij, dik, djk⟩ := hd
 obtain ⟨si', sj', sk'⟩ := hs
 refine wpAnyH_ready (fuel := fuel + 2) r0 (by simp) (AllReadyH.cons hoi (fun K hK => ?_) (AllReadyH.cons hoj (fun K hK => ?_) (AllReadyH.cons hok (fun K hK => ?_) AllReadyH.nil)))
 ·rw [if_pos (wanted_plain hgi)]
  refine Ji a w K (fun _ _ => rfl) hS (fun v w2 hp hb => ?_)
  have hB := hst _ _ hS hb
  refine hK.out _ _ hB (fun _ => ?_)
  refine wpAnyH_two (fuel := fuel) hoj hok hgj hgk qjk djk sj' sk' ri rij rik (Jj.put si' v) (Jk.put si' v) sj sk hst hB (fun u t w3 h1 h2 hB3 hb3 => ?_)
  exact h v u t w3 (si _ _ _ hp hb3) h1 h2 hB3 (hb.trans (hb3.mono hb.size))
 ·rw [if_pos (wanted_plain hgj)]
  refine Jj a w K (fun _ _ => rfl) hS (fun v w2 hp hb => ?_)
  have hB := hst _ _ hS hb
  refine hK.out _ _ hB (fun _ => ?_)
  refine wpAnyH_two (fuel := fuel) hoi hok hgi hgk qik dik si' sk' rj (by rw [listed_comm _ (Ne.symm qij)]; exact rij) rjk (Ji.put sj' v) (Jk.put sj' v) si sk hst hB (fun u t w3 h1 h2 hB3 hb3 => ?_)
  rw [listed_comm _ (Ne.symm qij), put_comm _ _ _ (Ne.symm dij)]
  exact h u v t w3 h1 (sj _ _ _ hp hb3) h2 hB3 (hb.trans (hb3.mono hb.size))
 ·rw [if_pos (wanted_plain hgk)]
  refine Jk a w K (fun _ _ => rfl) hS (fun v w2 hp hb => ?_)
  have hB := hst _ _ hS hb
  refine hK.out _ _ hB (fun _ => ?_)
  refine wpAnyH_two (fuel := fuel) hoi hoj hgi hgj qij dij si' sj' rk (by rw [listed_comm _ (Ne.symm qik)]; exact rik) (by rw [listed_comm _ (Ne.symm qjk)]; exact rjk) (Ji.put sk' v) (Jj.put sk' v) si sj hst hB (fun u t w3 h1 h2 hB3 hb3 => ?_)
  rw [listed_comm _ (Ne.symm qik), listed_comm (listed.setIfInBounds i true) (Ne.symm qjk), put_comm _ _ _ (Ne.symm dik), put_comm (a.put (some di) u) _ _ (Ne.symm djk)]
  exact h u t v w3 h1 h2 (sk _ _ _ hp hb3) hB3 (hb.trans (hb3.mono hb.size))
end
end Go.Proofs.YtpndjhelpoenpaaGreatDoor
namespace Go.Proofs.YtpndjhelpoenpaaGreatDoor
open Go.RowKit Go.Sort
attribute [local go_sem ↓] Go.wp_at_zero Go.wp_at_succ
def panPost (w : World) (f : Nat → Int) (n : Nat) (I H S P : Int) (ok : Bool) (e : Ending) (w' : World) : Prop :=
 ∃ A' c', e = .returned (.tuple #[.agg #[.slice A' n c', .int .i64 I, .int .i64 H, .int .i64 S, .int .i64 P], .bool ok]) ∧ n ≤ c' ∧ c' ≤ maxLen ∧ w'.ownsRow w.heap.size 97 4 (.slice A' n c') n ((cellsL f n).map (Value.int .i64)) ∧ Below w.heap.size w w'
def setB (f : Nat → Int) (i : Nat) (wt s : Int) : Nat → Int := upd (upd f (i * 4 + 2) wt) (i * 4 + 3) s
theorem cellsL_set (f : Nat → Int) (n j : Nat) (z : Int) : ((cellsL f n).map (Value.int .i64)).set j (.int .i64 z) = (cellsL (upd f j z) n).map (Value.int .i64) := by
 apply List.ext_getElem?
 intro q
 simp only [List.getElem?_set, List.getElem?_map, List.length_map, cellsL_len, cellsL]
 by_cases hq : q < n * 4
 ·by_cases hj : j = q
  ·subst hj
   simp [hq, upd]
  ·simp [hj, hq, upd, Ne.symm hj]
 ·by_cases hj : j = q
  ·subst hj; simp [hq]
  ·simp [hj, hq]
theorem cellsL_at (f : Nat → Int) (n j : Nat) (h : j < n * 4) : (cellsL f n)[j]? = some (f j) := by simp [cellsL, h]
theorem row_ne {w : World} {lo k n c g : Nat} {e T0 : TypeId} {xs : List Value} {cur : Array Value} (h : w.ownsRow lo e k (.slice (some ⟨g, 0, none⟩) n c) n xs) (hb : w.heap[g]? = some (.cells cur T0 (0, 0))) (hne : e ≠ T0) : False := by
 rcases h.2 with ⟨hv, _⟩ | ⟨g', cap, cu, hv, _, hG, _⟩
 ·cases hv
 ·cases hv
  rw [hb] at hG
  simp at hG
  exact hne hG.2.symm
theorem grown_trans {a b c : World} {r : Option Nat} (h1 : a.grownBy b r) (h2 : b.grownBy c r) : a.grownBy c r :=
 ⟨h2.os.trans h1.os, h2.tape.trans h1.tape, h2.output.trans h1.output, Nat.le_trans h1.size h2.size, fun k hk hr => (h2.block k (Nat.lt_of_lt_of_le hk h1.size) hr).trans (h1.block k hk hr)⟩
theorem infoBrine : (Tryz.prog.info? 95).map (·.size) = some 2 := by kernel_rfl
theorem l25Pan_rake (A : Option Addr) (n c lo hi : Nat) (f : Nat → Int) (I H S P : Int) (id tt0 z : Int) (i : Nat) (hi' : i < n) (w : World) (hs : Sl w lo hi 4 A n f) (hn : n ≤ 1048576) (hnc : n ≤ c) :
  Calls Tryz.prog 156 #[.agg #[.slice A n c, .int .i64 I, .int .i64 H, .int .i64 S, .int .i64 P], .agg #[.int .i64 5, .int .i64 id, .int .i64 tt0, .int .i64 z], .int .i64 i] w (panPost w (setB f i (f (i * 4 + 2)) (wrap64 (f (i * 4 + 3) - z))) n I (wrap64 (H + z)) S P (mayV (f (i * 4 + 2)) (f (i * 4 + 3)))) := by
 have hX : Below w.heap.size w (((w.alloc (.cells #[.slice A n c, .int .i64 I, .int .i64 H, .int .i64 S, .int .i64 P] 32)).alloc (.cells #[.int .i64 5, .int .i64 id, .int .i64 tt0, .int .i64 z] 107)).alloc (.cells #[.slice none 0 0, .int .i64 0, .int .i64 0, .int .i64 0, .int .i64 0] 32)) := (((Below.refl _ w).alloc (Nat.le_refl _) _).alloc (by simp) _).alloc (by simp; omega) _
 have HS : Hid (Sl (((w.alloc (.cells #[.slice A n c, .int .i64 I, .int .i64 H, .int .i64 S, .int .i64 P] 32)).alloc (.cells #[.int .i64 5, .int .i64 id, .int .i64 tt0, .int .i64 z] 107)).alloc (.cells #[.slice none 0 0, .int .i64 0, .int .i64 0, .int .i64 0, .int .i64 0] 32)) lo hi 4 A n f) := hs.below hX
 have HX := lh hX
 clear hs hX
 obtain ⟨b, off, rfl, hbw, _⟩ := HS.out.open_ (Below.refl _ _) (by omega)
 have HC : ∀ w', Below (((w.alloc (.cells #[.slice (some ⟨b, off, none⟩) n c, .int .i64 I, .int .i64 H, .int .i64 S, .int .i64 P] 32)).alloc (.cells #[.int .i64 5, .int .i64 id, .int .i64 tt0, .int .i64 z] 107)).alloc (.cells #[.slice none 0 0, .int .i64 0, .int .i64 0, .int .i64 0, .int .i64 0] 32)).heap.size (((w.alloc (.cells #[.slice (some ⟨b, off, none⟩) n c, .int .i64 I, .int .i64 H, .int .i64 S, .int .i64 P] 32)).alloc (.cells #[.int .i64 5, .int .i64 id, .int .i64 tt0, .int .i64 z] 107)).alloc (.cells #[.slice none 0 0, .int .i64 0, .int .i64 0, .int .i64 0, .int .i64 0] 32)) w' → w'.cell? ⟨b, off + i * 4 + 2, none⟩ = some (.int .i64 (f (i * 4 + 2))) ∧ w'.cell? ⟨b, off + i * 4 + 3, none⟩ = some (.int .i64 (f (i * 4 + 3))) := by
  intro w' hq
  obtain ⟨_, HC⟩ := HS.out.open_at hq (by omega)
  obtain ⟨c0, c1, c2, c3⟩ := cell4 HC hi'
  exact ⟨c2, c3⟩
 have HF : Hid (∀ w', Below (((w.alloc (.cells #[.slice (some ⟨b, off, none⟩) n c, .int .i64 I, .int .i64 H, .int .i64 S, .int .i64 P] 32)).alloc (.cells #[.int .i64 5, .int .i64 id, .int .i64 tt0, .int .i64 z] 107)).alloc (.cells #[.slice none 0 0, .int .i64 0, .int .i64 0, .int .i64 0, .int .i64 0] 32)).heap.size (((w.alloc (.cells #[.slice (some ⟨b, off, none⟩) n c, .int .i64 I, .int .i64 H, .int .i64 S, .int .i64 P] 32)).alloc (.cells #[.int .i64 5, .int .i64 id, .int .i64 tt0, .int .i64 z] 107)).alloc (.cells #[.slice none 0 0, .int .i64 0, .int .i64 0, .int .i64 0, .int .i64 0] 32)) w' → w'.cell? ⟨w.heap.size, 0, none⟩ = some (.slice (some ⟨b, off, none⟩) n c) ∧ w'.cell? ⟨w.heap.size, 1, none⟩ = some (.int .i64 I) ∧ w'.cell? ⟨w.heap.size, 2, none⟩ = some (.int .i64 H) ∧ w'.cell? ⟨w.heap.size, 3, none⟩ = some (.int .i64 S) ∧ w'.cell? ⟨w.heap.size, 4, none⟩ = some (.int .i64 P) ∧ w'.cell? ⟨b, off + i * 4 + 2, none⟩ = some (.int .i64 (f (i * 4 + 2))) ∧ w'.cell? ⟨b, off + i * 4 + 3, none⟩ = some (.int .i64 (f (i * 4 + 3)))) := fun w' hq => ⟨(hq.cell (p := ⟨w.heap.size, 0, none⟩) (by simp; omega)).trans (by go_simp), (hq.cell (p := ⟨w.heap.size, 1, none⟩) (by simp; omega)).trans (by go_simp), (hq.cell (p := ⟨w.heap.size, 2, none⟩) (by simp; omega)).trans (by go_simp), (hq.cell (p := ⟨w.heap.size, 3, none⟩) (by simp; omega)).trans (by go_simp), (hq.cell (p := ⟨w.heap.size, 4, none⟩) (by simp; omega)).trans (by go_simp), (HC w' hq).1, (HC w' hq).2⟩
 have hi0 : (0 : Int) ≤ (i : Int) := by omega
 have hin : (i : Int) < (n : Int) := by omega
 clear HC
 go_enter Tryz.func156, Tryz.ntmps156
 go_wp2_with fail
 refine wp_region_held_drew (S := fun w' => Below (((w.alloc (.cells #[.slice (some ⟨b, off, none⟩) n c, .int .i64 I, .int .i64 H, .int .i64 S, .int .i64 P] 32)).alloc (.cells #[.int .i64 5, .int .i64 id, .int .i64 tt0, .int .i64 z] 107)).alloc (.cells #[.slice none 0 0, .int .i64 0, .int .i64 0, .int .i64 0, .int .i64 0] 32)).heap.size (((w.alloc (.cells #[.slice (some ⟨b, off, none⟩) n c, .int .i64 I, .int .i64 H, .int .i64 S, .int .i64 P] 32)).alloc (.cells #[.int .i64 5, .int .i64 id, .int .i64 tt0, .int .i64 z] 107)).alloc (.cells #[.slice none 0 0, .int .i64 0, .int .i64 0, .int .i64 0, .int .i64 0] 32)) w') (by kernel_rfl) ((Below.refl _ (((w.alloc (.cells #[.slice (some ⟨b, off, none⟩) n c, .int .i64 I, .int .i64 H, .int .i64 S, .int .i64 P] 32)).alloc (.cells #[.int .i64 5, .int .i64 id, .int .i64 tt0, .int .i64 z] 107)).alloc (.cells #[.slice none 0 0, .int .i64 0, .int .i64 0, .int .i64 0, .int .i64 0] 32))).drew) (fun jd => ?_)
 refine tj4 0 13 2 15 4 17 3 16 HF jd ?_
 refine tj3 5 18 6 19 7 20 HF jd ?_
 refine wpAnyH_three (fuel := 2) (i := 1) (j := 8) (k := 9) (di := 14) (dj := 8) (dk := 9) (skip := [14, 8, 9]) (Pi := (fun v w' => ∃ A' c', v = .agg #[.slice A' n c', .int .i64 I, .int .i64 H, .int .i64 S, .int .i64 P] ∧ n ≤ c' ∧ c' ≤ maxLen ∧ w'.ownsRow (((w.alloc (.cells #[.slice (some ⟨b, off, none⟩) n c, .int .i64 I, .int .i64 H, .int .i64 S, .int .i64 P] 32)).alloc (.cells #[.int .i64 5, .int .i64 id, .int .i64 tt0, .int .i64 z] 107)).alloc (.cells #[.slice none 0 0, .int .i64 0, .int .i64 0, .int .i64 0, .int .i64 0] 32)).heap.size 97 4 (.slice A' n c') n ((cellsL f n).map (Value.int .i64)))) rfl rfl rfl rfl rfl rfl (by decide) (by decide) (by decide) (by kernel_rfl) (by kernel_rfl) (by kernel_rfl) (by kernel_rfl) (by kernel_rfl) (by kernel_rfl) (by kernel_rfl) ?jc (Job.alloc (nb := (((w.alloc (.cells #[.slice (some ⟨b, off, none⟩) n c, .int .i64 I, .int .i64 H, .int .i64 S, .int .i64 P] 32)).alloc (.cells #[.int .i64 5, .int .i64 id, .int .i64 tt0, .int .i64 z] 107)).alloc (.cells #[.slice none 0 0, .int .i64 0, .int .i64 0, .int .i64 0, .int .i64 0] 32)).heap.size) (obj := .cells #[.slice none 0 0, .int .i64 0, .int .i64 0, .int .i64 0, .int .i64 0] 32) rfl (fun _ h => h.size) (fun a' w1 => by go_simp; try rfl)) (Job.alloc (nb := (((w.alloc (.cells #[.slice (some ⟨b, off, none⟩) n c, .int .i64 I, .int .i64 H, .int .i64 S, .int .i64 P] 32)).alloc (.cells #[.int .i64 5, .int .i64 id, .int .i64 tt0, .int .i64 z] 107)).alloc (.cells #[.slice none 0 0, .int .i64 0, .int .i64 0, .int .i64 0, .int .i64 0] 32)).heap.size) (obj := .cells #[.int .i64 0, .int .i64 0] 95) rfl (fun _ h => h.size) (fun a' w1 => by go_simp; try rfl)) ?stc stays_alloc stays_alloc below_stays jd ?nx
 case stc =>
  rintro v w1 w2 ⟨A', c', e, h1, h2, h⟩ hb
  exact ⟨A', c', e, h1, h2, ownsRow_below h hb⟩
 case jc =>
  intro a' w1 K hev hb hK
  have h1 : a'.eval (.tmp 13) = .agg #[.slice (some ⟨b, off, none⟩) n c, .int .i64 I, .int .i64 H, .int .i64 S, .int .i64 P] := (hev 13 (by decide)).trans rfl
  have h2 : a'.tmps[13]?.getD undef = .agg #[.slice (some ⟨b, off, none⟩) n c, .int .i64 I, .int .i64 H, .int .i64 S, .int .i64 P] := by simpa [Act.eval] using h1
  have HK := lh hK
  have HSL := lh (HS.out.below hb)
  have hbs := hb.size
  clear hev h1 hK HF
  go_simp
  go_at_call 79
  refine (l25Own_any _ n c lo hi f I H S P w1 HSL.out hn hnc (by simp)).mono ?_
  rintro e w2 ⟨A', c', rfl, h3, h4, ho, hb2⟩
  exact HK.out _ w2 ⟨A', c', rfl, h3, h4, ownsRow_monoP ho hbs⟩ hb2
 case nx =>
 rintro vi vj vk w4 ⟨A', c', rfl, hnc', hcm', hO⟩ ⟨g8, rfl, l8, h8⟩ ⟨g9, rfl, l9, h9⟩ hB4 _
 obtain ⟨ga, rfl⟩ : ∃ ga, A' = some ⟨ga, 0, none⟩ := by
  rcases form_ofP hO with ⟨h0, _⟩ | ⟨g, gc, hv⟩
  ·omega
  ·cases hv; exact ⟨g, rfl⟩
 simp only [Act.put, p1, p2, p3]
 refine wS0 10 g8 #[.slice (some ⟨ga, 0, none⟩) n c', .int .i64 I, .int .i64 H, .int .i64 S, .int .i64 P] 32 infoWorks h8 (fun w' hg => hB4.grown hg hB4.size (fun k hk => by cases hk; exact l8)) ?k8
 case k8 =>
 intro w5 h85 hg5 hB5
 have ne89 : g9 ≠ g8 := by
  intro e
  subst e
  rw [h8] at h9
  simp at h9
 have h95 := (hg5.block g9 (Array.getElem?_eq_some_iff.1 h9).1 (by simp [ne89])).trans h9
 have hO5 := own_other hO h8 (by decide) hg5
 refine wS0 11 g9 #[.int .i64 (f (i * 4 + 2)), .int .i64 (f (i * 4 + 3))] 95 infoBrine h95 (fun w' hg => hB5.grown hg hB5.size (fun k hk => by cases hk; exact l9)) ?k9
 case k9 =>
 intro w6 h96 hg6 hB6
 have h86 := (hg6.block g8 (Array.getElem?_eq_some_iff.1 h85).1 (by simp [Ne.symm ne89])).trans h85
 have hO6 := own_other hO5 h95 (by decide) hg6
 refine wpAnyH_done (by kernel_rfl) ?_ _
 obtain ⟨b0, b1, b2, b3, b4, c2, c3⟩ := HF.out w6 hB6
 obtain ⟨s0, s1, s2, s3⟩ := cells4 (bx (g := w.heap.size + 1) hB6)
 have hr6 : w6.heap[w.heap.size + 1 + 1]? = some (.cells #[.slice none 0 0, .int .i64 0, .int .i64 0, .int .i64 0, .int .i64 0] 32) := (hB6.block (w.heap.size + 1 + 1) (by simp)).trans (by have := heap_alloc_new ((w.alloc (.cells #[.slice (some ⟨b, off, none⟩) n c, .int .i64 I, .int .i64 H, .int .i64 S, .int .i64 P] 32)).alloc (.cells #[.int .i64 5, .int .i64 id, .int .i64 tt0, .int .i64 z] 107)) (.cells #[.slice none 0 0, .int .i64 0, .int .i64 0, .int .i64 0, .int .i64 0] 32); simpa using this)
 have h86' : w6.heap[g8]? = some (.cells #[.slice (some ⟨ga, 0, none⟩) n c', .int .i64 I, .int .i64 H, .int .i64 S, .int .i64 P] 32) := h86
 have h96' : w6.heap[g9]? = some (.cells #[.int .i64 (f (i * 4 + 2)), .int .i64 (f (i * 4 + 3))] 95) := h96
 obtain ⟨e0, e1, e2, e3, e4⟩ := cells5 h86'
 have ef := fz h86'
 obtain ⟨d0, d1⟩ := cells2 h96'
 have a2 : w6.cell? ⟨ga, i * 4 + 2, none⟩ = some (.int .i64 (f (i * 4 + 2))) := by rw [World.ownsRow.cellAt hO6 (i * 4 + 2) (by omega), List.getElem?_map, cellsL_at f n _ (by omega)]; rfl
 have a3 : w6.cell? ⟨ga, i * 4 + 3, none⟩ = some (.int .i64 (f (i * 4 + 3))) := by rw [World.ownsRow.cellAt hO6 (i * 4 + 3) (by omega), List.getElem?_map, cellsL_at f n _ (by omega)]; rfl
 have af : ∀ j, w6.frozen? ⟨ga, j, none⟩ = false := fun j => World.ownsRow.frozenAt hO6 j
 have nga : ga ≠ g8 := by
  intro e
  subst e
  exact row_ne hO6 h86' (by decide)
 have lga : (((w.alloc (.cells #[.slice (some ⟨b, off, none⟩) n c, .int .i64 I, .int .i64 H, .int .i64 S, .int .i64 P] 32)).alloc (.cells #[.int .i64 5, .int .i64 id, .int .i64 tt0, .int .i64 z] 107)).alloc (.cells #[.slice none 0 0, .int .i64 0, .int .i64 0, .int .i64 0, .int .i64 0] 32)).heap.size ≤ ga := (World.ownsRow.lt hO6 ga rfl).1
 have nga9 : ga ≠ g9 := by
  intro e
  subst e
  exact row_ne hO6 h96' (by decide)
 simp only [World.size_alloc] at lga l8 l9
 have nga0 : ga ≠ w.heap.size := by omega
 have mga0 : w.heap.size ≠ ga := by omega
 have nga1 : ga ≠ w.heap.size + 1 := by omega
 have mga1 : w.heap.size + 1 ≠ ga := by omega
 have nga2 : ga ≠ w.heap.size + 1 + 1 := by omega
 have mga2 : w.heap.size + 1 + 1 ≠ ga := by omega
 have ng80 : g8 ≠ w.heap.size := by omega
 have mg80 : w.heap.size ≠ g8 := by omega
 have ng81 : g8 ≠ w.heap.size + 1 := by omega
 have mg81 : w.heap.size + 1 ≠ g8 := by omega
 have ng82 : g8 ≠ w.heap.size + 1 + 1 := by omega
 have mg82 : w.heap.size + 1 + 1 ≠ g8 := by omega
 have ng90 : g9 ≠ w.heap.size := by omega
 have mg90 : w.heap.size ≠ g9 := by omega
 have ng91 : g9 ≠ w.heap.size + 1 := by omega
 have mg91 : w.heap.size + 1 ≠ g9 := by omega
 have ng92 : g9 ≠ w.heap.size + 1 + 1 := by omega
 have mg92 : w.heap.size + 1 + 1 ≠ g9 := by omega
 have nn1 : g8 ≠ ga := Ne.symm nga
 have nn2 : g9 ≠ ga := Ne.symm nga9
 have nn3 : g8 ≠ g9 := Ne.symm ne89
 have HO6 := lh hO6
 have HB6 := lh hB6
 have H86 := lh h86'
 have HR6 := lh hr6
 clear hO6 hB6 h86 h86' h96 h96' hg6 hg5 hB5 hB4 hO hO5 h8 h9 h85 h95 HF HS hr6 jd
 go_wp2_with fail
 obtain ⟨w7, hw7⟩ : ∃ w7, w7 = (((w6.setCell ⟨ga, i * 4 + 2, none⟩ (.int .i64 (f (i * 4 + 2)))).setCell ⟨ga, i * 4 + 2 + 1, none⟩ (.int .i64 (wrap64 (f (i * 4 + 3) - z)))).setCell ⟨g8, 2, none⟩ (.int .i64 (wrap64 (H + z)))) := ⟨_, rfl⟩
 rw [← hw7]
 clear e0 e1 e2 e3 e4 b0 b1 b2 b3 b4 s0 s1 s2 s3 c2 c3
 have t1 := (World.ownsRow.stored HO6.out (i * 4 + 2) (.int .i64 (f (i * 4 + 2)))).1
 have t2 := (World.ownsRow.stored t1 (i * 4 + 2 + 1) (.int .i64 (wrap64 (f (i * 4 + 3) - z)))).1
 have t3 := ownsRow_setCell_other (a := ⟨g8, 2, none⟩) t2 (by simp [Value.ownBlock, nga]) (.int .i64 (wrap64 (H + z)))
 rw [← hw7, cellsL_set, cellsL_set] at t3
 have x8 : w7.heap[g8]? = some (.cells #[.slice (some ⟨ga, 0, none⟩) n c', .int .i64 I, .int .i64 (wrap64 (H + z)), .int .i64 S, .int .i64 P] 32) := by
  rw [hw7]
  exact heap_setCell_same _ g8 2 #[.slice (some ⟨ga, 0, none⟩) n c', .int .i64 I, .int .i64 H, .int .i64 S, .int .i64 P] 32 _ (by rw [heap_setCell_other _ _ _ _ nn1, heap_setCell_other _ _ _ _ nn1]; exact H86.out)
 have xr : w7.heap[w.heap.size + 1 + 1]? = some (.cells #[.slice none 0 0, .int .i64 0, .int .i64 0, .int .i64 0, .int .i64 0] 32) := by
  rw [hw7, heap_setCell_other _ _ _ _ mg82, heap_setCell_other _ _ _ _ mga2, heap_setCell_other _ _ _ _ mga2]
  exact HR6.out
 have x90 : w7.cell? ⟨g9, 0, none⟩ = some (.int .i64 (f (i * 4 + 2))) := by rw [hw7]; go_simp
 have x91 : w7.cell? ⟨g9, 1, none⟩ = some (.int .i64 (f (i * 4 + 3))) := by rw [hw7]; go_simp
 have B7 : Below w.heap.size w w7 := by
  rw [hw7]
  exact (((HX.out.trans (HB6.out.mono HX.out.size)).setCell (show w.heap.size ≤ ga by omega) _).setCell (show w.heap.size ≤ ga by omega) _).setCell (show w.heap.size ≤ g8 by omega) _
 have z9 := World.block_lt_of_cell? _ _ x90
 clear hw7 t1 t2 a2 a3 af ef d0 d1 HO6 HB6 H86 HR6
 have HO7 := lh t3
 have X8 := lh x8
 have XR := lh xr
 have BB := lh B7
 clear t3 B7
 have HF : Hid (∀ w', w7.grownBy w' (some (w.heap.size + 1 + 1)) → w'.cell? ⟨g8, 0, none⟩ = some (.slice (some ⟨ga, 0, none⟩) n c') ∧ w'.cell? ⟨g8, 1, none⟩ = some (.int .i64 I) ∧ w'.cell? ⟨g8, 2, none⟩ = some (.int .i64 (wrap64 (H + z))) ∧ w'.cell? ⟨g8, 3, none⟩ = some (.int .i64 S) ∧ w'.cell? ⟨g8, 4, none⟩ = some (.int .i64 P) ∧ w'.cell? ⟨g9, 0, none⟩ = some (.int .i64 (f (i * 4 + 2))) ∧ w'.cell? ⟨g9, 1, none⟩ = some (.int .i64 (f (i * 4 + 3)))) := by
  intro w' hq
  have y8 := (hq.block g8 (Array.getElem?_eq_some_iff.1 X8.out).1 (by simp; omega)).trans X8.out
  have y9 := hq.block g9 z9 (by simp; omega)
  exact ⟨by rw [cell_of_row w' g8 0 _ _ (0, 0) y8]; rfl, by rw [cell_of_row w' g8 1 _ _ (0, 0) y8]; rfl, by rw [cell_of_row w' g8 2 _ _ (0, 0) y8]; rfl, by rw [cell_of_row w' g8 3 _ _ (0, 0) y8]; rfl, by rw [cell_of_row w' g8 4 _ _ (0, 0) y8]; rfl, (World.cell?_of_block (a := ⟨g9, 0, none⟩) y9).trans x90, (World.cell?_of_block (a := ⟨g9, 1, none⟩) y9).trans x91⟩
 clear x8 xr x90 x91
 refine wp_region_held_drew (S := fun w' => w7.grownBy w' (some (w.heap.size + 1 + 1))) (by kernel_rfl) ⟨rfl, rfl, rfl, Nat.le_refl _, fun _ _ _ => rfl⟩ (fun jd => ?_)
 refine tj2 0 123 1 124 HF jd ?_
 refine wpAnyH_job (fuel := 2) (i := 2) (d := 125) (skip := []) (Post := fun v _ => v = .bool (mayV (f (i * 4 + 2)) (f (i * 4 + 3)))) rfl rfl (by kernel_rfl) ?jm but_stays jd ?nm
 case jm =>
  intro a' w1 K hev hb hK
  have h1 : a'.eval (.tmp 124) = .agg #[.int .i64 (f (i * 4 + 2)), .int .i64 (f (i * 4 + 3))] := (hev 124 (by decide)).trans rfl
  have h2 : a'.tmps[124]?.getD undef = .agg #[.int .i64 (f (i * 4 + 2)), .int .i64 (f (i * 4 + 3))] := by simpa [Act.eval] using h1
  have HK := lh hK
  clear hev h1 hK HF
  go_simp
  go_at_call 185
  refine (l25May_any _ _ w1).mono ?_
  rintro e w2 ⟨rfl, hb2⟩
  exact HK.out _ w2 rfl hb2
 case nm =>
 rintro v w8 rfl hS8 hb8
 simp only [Act.put, p1, p2, p3]
 refine wS0 3 (w.heap.size + 1 + 1) #[.slice (some ⟨ga, 0, none⟩) n c', .int .i64 I, .int .i64 (wrap64 (H + z)), .int .i64 S, .int .i64 P] 32 infoWorks ((hb8.block _ (Array.getElem?_eq_some_iff.1 XR.out).1).trans XR.out) (fun w' hg => grown_trans hS8 hg) ?kr
 case kr =>
 intro w9 h9 hg9 hS9
 have jd := hS9
 refine tj 4 7 HF rfl jd ?_
 refine wpAnyH_done (by kernel_rfl) ?_ _
 have h9' : w9.heap[w.heap.size + 1 + 1]? = some (.cells #[.slice (some ⟨ga, 0, none⟩) n c', .int .i64 I, .int .i64 (wrap64 (H + z)), .int .i64 S, .int .i64 P] 32) := h9
 obtain ⟨r0, r1, r2, r3, r4⟩ := cells5 h9'
 have hO9 := ownsRow_monoP (own_other HO7.out XR.out (by decide) hS9) HX.out.size
 have hX9 := BB.out.grown hS9 BB.out.size (fun k hk => by cases hk; omega)
 clear h9 h9' hg9 hS9 jd HF XR X8 HO7
 go_wp2
 try simp only [Exit.inBlock, Exit.then]
 refine bodyPost_ret (by simp [results, Tryz.results156, go_sem, r0, r1, r2, r3, r4]; try rfl) rfl ?_
 exact ⟨_, c', rfl, hnc', hcm', hO9, hX9⟩
end Go.Proofs.YtpndjhelpoenpaaGreatDoor
namespace Go.Proofs.YtpndjhelpoenpaaGreatDoor
open Go.RowKit Go.Sort
attribute [local go_sem ↓] Go.wp_at_zero Go.wp_at_succ
section
variable {P : Program} {md : Region.Mode} {ops : Array Oper} {Q : Exit → Act → World → Prop} {S : World → Prop}
theorem wpAnyH_jobG {i d : Nat} {fuel : Nat} {listed : Array Bool} {a : Act} {w : World} {o : Oper} {skip : List Nat} {Post : Value → World → Prop} (ho : ops[i]? = some o) (hg : Region.wanted o (yielded ops a.tmps) = true)
  (r0 : Region.ready md ops listed = [i]) (J : Job P Q S o d a skip Post) (hst : ∀ w1 w2, S w1 → Below w1.heap.size w1 w2 → S w2) (hS : S w)
  (h : ∀ v w', Post v w' → S w' → Below w.heap.size w w' → wpAnyH P md ops Q S fuel (listed.setIfInBounds i true) (a.put (some d) v) w') :
  wpAnyH P md ops Q S (fuel + 1) listed a w := by
 refine wpAnyH_ready r0 (by simp) (AllReadyH.cons ho (fun K hK => ?_) AllReadyH.nil)
 rw [if_pos hg]
 refine J a w K (fun _ _ => rfl) hS (fun v w2 hp hb => ?_)
 have hB := hst _ _ hS hb
 exact hK.out _ _ hB (fun _ => h v w2 hp hB hb)
end
theorem l25Make_rake (A : Option Addr) (n c lo hi : Nat) (f : Nat → Int) (I H S P : Int) (id tt0 z : Int) (i : Nat) (hi' : i < n) (w : World) (hs : Sl w lo hi 4 A n f) (hn : n ≤ 1048576) (hnc : n ≤ c) (hnone : A = none → n = 0 ∧ c = 0) (hfd : findV (pid f) id n 0 = (i : Int)) (hz1 : z ≤ 1000000) :
  Calls Tryz.prog 114 #[.agg #[.slice A n c, .int .i64 I, .int .i64 H, .int .i64 S, .int .i64 P], .agg #[.int .i64 5, .int .i64 id, .int .i64 tt0, .int .i64 z]] w (panPost w (setB f i (f (i * 4 + 2)) (wrap64 (f (i * 4 + 3) - z))) n I (wrap64 (H + z)) S P ((mayV (f (i * 4 + 2)) (f (i * 4 + 3))) && goodWorks (setB f i (f (i * 4 + 2)) (wrap64 (f (i * 4 + 3) - z))) n I (wrap64 (H + z)) S P)) := by
 have hX : Below w.heap.size w (((w.alloc (.cells #[.slice A n c, .int .i64 I, .int .i64 H, .int .i64 S, .int .i64 P] 32)).alloc (.cells #[.int .i64 5, .int .i64 id, .int .i64 tt0, .int .i64 z] 107)).alloc (.cells #[.slice none 0 0, .int .i64 0, .int .i64 0, .int .i64 0, .int .i64 0] 32)) := (((Below.refl _ w).alloc (Nat.le_refl _) _).alloc (by simp) _).alloc (by simp; omega) _
 have HX := lh hX
 clear hX
 have hz2 : ¬ (1000000 : Int) < z := by omega
 go_enter Tryz.func114, Tryz.ntmps114
 go_wp2_with fail
 refine (l25Own_any A n c lo hi f I H S P _ (hs.below HX.out) hn hnc hnone).mono ?_
 rintro e w1 ⟨A1, c1, rfl, _, _, _, hb1⟩
 obtain ⟨b0, b1, b2, b3, b4⟩ := cells5 (bx (g := w.heap.size) hb1)
 obtain ⟨s0, s1, s2, s3⟩ := cells4 (bx (g := w.heap.size + 1) hb1)
 have hr1 : w1.heap[w.heap.size + 1 + 1]? = some (.cells #[.slice none 0 0, .int .i64 0, .int .i64 0, .int .i64 0, .int .i64 0] 32) := (hb1.block (w.heap.size + 1 + 1) (by simp)).trans (by have := heap_alloc_new ((w.alloc (.cells #[.slice A n c, .int .i64 I, .int .i64 H, .int .i64 S, .int .i64 P] 32)).alloc (.cells #[.int .i64 5, .int .i64 id, .int .i64 tt0, .int .i64 z] 107)) (.cells #[.slice none 0 0, .int .i64 0, .int .i64 0, .int .i64 0, .int .i64 0] 32); simpa using this)
 have z1 := hb1.size
 simp only [World.size_alloc] at z1
 have B1 := HX.out.trans (hb1.mono HX.out.size)
 clear hb1
 have nz1 : w1.heap.size ≠ w.heap.size := by omega
 have nz2 : w1.heap.size ≠ w.heap.size + 1 := by omega
 have nz3 : w.heap.size + 1 + 1 ≠ w1.heap.size := by omega
 have nz4 : w.heap.size ≠ w1.heap.size := by omega
 have nz5 : w.heap.size + 1 ≠ w1.heap.size := by omega
 have hR1 := lh hr1
 have hB1 := lh B1
 clear hr1 B1
 go_upto_region 3 with fail
 refine name_wp ?_
 intro w2 hw2
 have b12 := ba hw2
 have p0 := kp b12 b0
 have p1 := kp b12 b1
 have p2 := kp b12 b2
 have p3 := kp b12 b3
 have p4 := kp b12 b4
 have q0 := kp b12 s0
 have q1 := kp b12 s1
 have q2 := kp b12 s2
 have q3 := kp b12 s3
 have h6 : w2.heap[w1.heap.size]? = some (.cells #[.slice A1 n c1, .int .i64 I, .int .i64 H, .int .i64 S, .int .i64 P] 32) := by
  rw [hw2]
  exact heap_alloc_new w1 _
 have hr2 : w2.heap[w.heap.size + 1 + 1]? = some (.cells #[.slice none 0 0, .int .i64 0, .int .i64 0, .int .i64 0, .int .i64 0] 32) := by
  rw [hw2, heap_alloc_old _ _ (by omega)]
  exact hR1.out
 have B2 : Below w.heap.size w w2 := by
  rw [hw2]
  exact hB1.out.alloc hB1.out.size _
 clear hw2 b0 b1 b2 b3 b4 s0 s1 s2 s3 hR1 hB1 b12
 go_wp2_with fail
 generalize w1.heap.size = g6 at *
 have HBw : Hid (∀ w', w2.grownBy w' (some g6) → Below w.heap.size w w') := fun w' hq => B2.grown hq B2.size (fun k hk => by cases hk; omega)
 have HF : Hid (∀ w', w2.grownBy w' (some g6) → w'.cell? ⟨w.heap.size, 0, none⟩ = some (.slice A n c) ∧ w'.cell? ⟨w.heap.size, 1, none⟩ = some (.int .i64 I) ∧ w'.cell? ⟨w.heap.size, 2, none⟩ = some (.int .i64 H) ∧ w'.cell? ⟨w.heap.size, 3, none⟩ = some (.int .i64 S) ∧ w'.cell? ⟨w.heap.size, 4, none⟩ = some (.int .i64 P) ∧ w'.cell? ⟨w.heap.size + 1, 0, none⟩ = some (.int .i64 5) ∧ w'.cell? ⟨w.heap.size + 1, 1, none⟩ = some (.int .i64 id) ∧ w'.cell? ⟨w.heap.size + 1, 2, none⟩ = some (.int .i64 tt0) ∧ w'.cell? ⟨w.heap.size + 1, 3, none⟩ = some (.int .i64 z)) := by
  intro w' hq
  have u0 := hq.block w.heap.size (World.block_lt_of_cell? _ _ p0) (by simp; omega)
  have u1 := hq.block (w.heap.size + 1) (World.block_lt_of_cell? _ _ q0) (by simp; omega)
  exact ⟨(World.cell?_of_block (a := ⟨w.heap.size, 0, none⟩) u0).trans p0, (World.cell?_of_block (a := ⟨w.heap.size, 1, none⟩) u0).trans p1, (World.cell?_of_block (a := ⟨w.heap.size, 2, none⟩) u0).trans p2, (World.cell?_of_block (a := ⟨w.heap.size, 3, none⟩) u0).trans p3, (World.cell?_of_block (a := ⟨w.heap.size, 4, none⟩) u0).trans p4, (World.cell?_of_block (a := ⟨w.heap.size + 1, 0, none⟩) u1).trans q0, (World.cell?_of_block (a := ⟨w.heap.size + 1, 1, none⟩) u1).trans q1, (World.cell?_of_block (a := ⟨w.heap.size + 1, 2, none⟩) u1).trans q2, (World.cell?_of_block (a := ⟨w.heap.size + 1, 3, none⟩) u1).trans q3⟩
 have X6 := lh h6
 have XR2 := lh hr2
 clear p0 p1 p2 p3 p4 q0 q1 q2 q3 h6 hr2 B2
 refine wp_region_held_drew (S := fun w' => w2.grownBy w' (some g6)) (by kernel_rfl) ⟨rfl, rfl, rfl, Nat.le_refl _, fun _ _ _ => rfl⟩ (fun jd => ?_)
 refine tj4 0 11 1 12 2 13 3 14 HF jd ?_
 refine tj 4 15 HF rfl jd ?_
 refine wpAnyH_job (fuel := 6) (i := 5) (d := 16) (skip := []) (Post := fun v _ => v = .int .i64 (i : Int)) rfl rfl (by kernel_rfl) ?jf but_stays jd ?nf
 case jf =>
  intro a' w1' K hev hb hK
  have h1 : a'.eval (.tmp 13) = .agg #[.slice A n c, .int .i64 I, .int .i64 H, .int .i64 S, .int .i64 P] := (hev 13 (by decide)).trans rfl
  have h2 : a'.tmps[13]?.getD undef = .agg #[.slice A n c, .int .i64 I, .int .i64 H, .int .i64 S, .int .i64 P] := by simpa [Act.eval] using h1
  have h3 : a'.eval (.tmp 15) = .int .i64 id := (hev 15 (by decide)).trans rfl
  have h4 : a'.tmps[15]?.getD undef = .int .i64 id := by simpa [Act.eval] using h3
  have HK := lh hK
  have HSL := lh (hs.below (HBw.out w1' hb))
  clear hev h1 h3 hK HF
  go_simp
  go_at_call 154
  refine (l25Find_any A n c lo hi f I H S P id w1' HSL.out hn hnc).mono ?_
  rw [hfd]
  rintro e w2' ⟨rfl, hb2⟩
  exact HK.out _ w2' rfl hb2
 case nf =>
 rintro v w3 rfl hS3 hb3
 simp only [Act.put, p1, p2, p3]
 refine wpAnyH_job (fuel := 5) (i := 6) (d := 17) (skip := []) (Post := (fun v w' => ∃ A' c', v = .tuple #[.agg #[.slice A' n c', .int .i64 I, .int .i64 (wrap64 (H + z)), .int .i64 S, .int .i64 P], .bool (mayV (f (i * 4 + 2)) (f (i * 4 + 3)))] ∧ n ≤ c' ∧ c' ≤ maxLen ∧ w'.ownsRow w.heap.size 97 4 (.slice A' n c') n ((cellsL (setB f i (f (i * 4 + 2)) (wrap64 (f (i * 4 + 3) - z))) n).map (Value.int .i64)))) rfl rfl (by kernel_rfl) ?jp but_stays hS3 ?np
 case jp =>
  intro a' w1' K hev hb hK
  have h1 : a'.eval (.tmp 11) = .agg #[.slice A n c, .int .i64 I, .int .i64 H, .int .i64 S, .int .i64 P] := (hev 11 (by decide)).trans rfl
  have h2 : a'.tmps[11]?.getD undef = .agg #[.slice A n c, .int .i64 I, .int .i64 H, .int .i64 S, .int .i64 P] := by simpa [Act.eval] using h1
  have h3 : a'.eval (.tmp 12) = .agg #[.int .i64 5, .int .i64 id, .int .i64 tt0, .int .i64 z] := (hev 12 (by decide)).trans rfl
  have h4 : a'.tmps[12]?.getD undef = .agg #[.int .i64 5, .int .i64 id, .int .i64 tt0, .int .i64 z] := by simpa [Act.eval] using h3
  have h5 : a'.eval (.tmp 16) = .int .i64 i := (hev 16 (by decide)).trans rfl
  have h6 : a'.tmps[16]?.getD undef = .int .i64 i := by simpa [Act.eval] using h5
  have HK := lh hK
  have HBb := lh (HBw.out w1' hb)
  clear hev h1 h3 h5 hK HF
  go_simp
  go_at_call 156
  refine (l25Pan_rake A n c lo hi f I H S P id tt0 z i hi' w1' (hs.below HBb.out) hn hnc).mono ?_
  rintro e w2' ⟨A', c', rfl, u1, u2, ho, hb2⟩
  exact HK.out _ w2' ⟨A', c', rfl, u1, u2, ownsRow_monoP ho HBb.out.size⟩ hb2
 case np =>
 rintro v w4 ⟨A2, c2, rfl, hc2, hm2, hO4⟩ hS4 hb4
 simp only [Act.put, p1, p2, p3]
 have jd := hS4
 refine tj3 7 10 8 18 9 19 HF jd ?_
 have hB24 : Below w2.heap.size w2 w4 := (below_drewN (Below.refl w2.heap.size w2) 1).trans ((show Below w2.heap.size _ w3 from hb3).trans (hb4.mono hb3.size))
 have h64 := (hB24.block g6 (Array.getElem?_eq_some_iff.1 X6.out).1).trans X6.out
 refine wS0 10 g6 #[.slice A2 n c2, .int .i64 I, .int .i64 (wrap64 (H + z)), .int .i64 S, .int .i64 P] 32 infoWorks h64 (fun w' hg => grown_trans hS4 hg) ?k6
 case k6 =>
 intro w5 h5 hg5 hS5
 have jd := hS5
 refine tj 11 7 HF rfl jd ?_
 refine wpAnyH_done (by kernel_rfl) ?_ _
 have h5' : w5.heap[g6]? = some (.cells #[.slice A2 n c2, .int .i64 I, .int .i64 (wrap64 (H + z)), .int .i64 S, .int .i64 P] 32) := h5
 have hO5 := own_other hO4 h64 (by decide) hg5
 have hr5 := (hS5.block _ (Array.getElem?_eq_some_iff.1 XR2.out).1 (by simp; omega)).trans XR2.out
 have HO5 := lh hO5
 have X8 := lh h5'
 have XR := lh hr5
 have BB := lh (HBw.out w5 hS5)
 have HS5 : Hid (∀ w', w5.grownBy w' (some (w.heap.size + 1 + 1)) → Sl w' w.heap.size w'.heap.size 4 A2 n (setB f i (f (i * 4 + 2)) (wrap64 (f (i * 4 + 3) - z)))) := by
  intro w' hq
  obtain ⟨A0, c0, e0, _, _, h0⟩ := own_of_row (own_other hO5 hr5 (by decide) hq)
  cases e0
  exact (h0.congr (fun j hj => cellsL_getD _ n j hj)).sl
 clear HF
 have HF : Hid (∀ w', w5.grownBy w' (some (w.heap.size + 1 + 1)) → w'.cell? ⟨g6, 0, none⟩ = some (.slice A2 n c2) ∧ w'.cell? ⟨g6, 1, none⟩ = some (.int .i64 I) ∧ w'.cell? ⟨g6, 2, none⟩ = some (.int .i64 (wrap64 (H + z))) ∧ w'.cell? ⟨g6, 3, none⟩ = some (.int .i64 S) ∧ w'.cell? ⟨g6, 4, none⟩ = some (.int .i64 P)) := by
  intro w' hq
  have y8 := (hq.block g6 (Array.getElem?_eq_some_iff.1 X8.out).1 (by simp; omega)).trans X8.out
  exact (cells5 y8)
 clear jd hS5 hg5 h5 h5' h64 hO4 hO5 hr5 hS4 hb4 hb3 hS3 hB24 X6 XR2 HBw
 go_wp2_with fail
 cases hm : (mayV (f (i * 4 + 2)) (f (i * 4 + 3))) with
 | true =>
  rw [Bool.true_and]
  refine wp_region_held_drew (S := fun w' => w5.grownBy w' (some (w.heap.size + 1 + 1))) (by kernel_rfl) ⟨rfl, rfl, rfl, Nat.le_refl _, fun _ _ _ => rfl⟩ (fun jd => ?_)
  refine tj4 0 51 1 52 2 53 3 54 HF jd ?_
  refine wpAnyH_jobG (fuel := 3) (i := 4) (d := 55) (skip := []) (Post := fun v _ => v = .bool (goodWorks (setB f i (f (i * 4 + 2)) (wrap64 (f (i * 4 + 3) - z))) n I (wrap64 (H + z)) S P)) rfl rfl (by kernel_rfl) ?jgtrue but_stays jd ?ngtrue
  case jgtrue =>
   intro a' w1 K hev hb hK
   have h1 : a'.eval (.tmp 54) = (.agg #[.slice A2 n c2, .int .i64 I, .int .i64 (wrap64 (H + z)), .int .i64 S, .int .i64 P]) := (hev 54 (by decide)).trans rfl
   have h2 : a'.tmps[54]?.getD undef = (.agg #[.slice A2 n c2, .int .i64 I, .int .i64 (wrap64 (H + z)), .int .i64 S, .int .i64 P]) := by simpa [Act.eval] using h1
   have HK := lh hK
   have HSL := lh (HS5.out w1 hb)
   clear hev h1 hK HF
   go_simp
   go_at_call 80
   refine (l25Good_any _ n _ _ _ _ I (wrap64 (H + z)) S P w1 HSL.out hn hc2).mono ?_
   rintro e w2' ⟨rfl, hb2⟩
   exact HK.out _ w2' rfl hb2
  case ngtrue =>
  rintro v w8 rfl hS8 hb8
  simp only [Act.put, p1, p2, p3]
  have jd := hS8
  refine tj 5 56 HF rfl jd ?_
  refine wS0 6 (w.heap.size + 1 + 1) #[.slice A2 n c2, .int .i64 I, .int .i64 (wrap64 (H + z)), .int .i64 S, .int .i64 P] 32 infoWorks ((hb8.block _ (Array.getElem?_eq_some_iff.1 XR.out).1).trans XR.out) (fun w' hg => grown_trans hS8 hg) ?krtrue
  case krtrue =>
  intro w9 h9 hg9 hS9
  have jd := hS9
  refine tj 7 5 HF rfl jd ?_
  refine wpAnyH_done (by kernel_rfl) ?_ _
  have h9' : w9.heap[w.heap.size + 1 + 1]? = some (.cells #[.slice A2 n c2, .int .i64 I, .int .i64 (wrap64 (H + z)), .int .i64 S, .int .i64 P] 32) := h9
  obtain ⟨r0, r1, r2, r3, r4⟩ := cells5 h9'
  have hO9 := own_other HO5.out XR.out (by decide) hS9
  have hX9 := BB.out.grown hS9 BB.out.size (fun k hk => by cases hk; omega)
  clear h9 h9' hg9 hS9 jd HF XR X8 HO5 HS5
  go_wp2
  try simp only [Exit.inBlock, Exit.then]
  refine bodyPost_ret (by simp [results, Tryz.results114, go_sem, r0, r1, r2, r3, r4]; try rfl) rfl ?_
  exact ⟨_, c2, by rw [hm]; rfl, hc2, hm2, hO9, hX9⟩
 | false =>
  rw [Bool.false_and]
  refine wp_region_held_drew (S := fun w' => w5.grownBy w' (some (w.heap.size + 1 + 1))) (by kernel_rfl) ⟨rfl, rfl, rfl, Nat.le_refl _, fun _ _ _ => rfl⟩ (fun jd => ?_)
  refine tj3 0 51 1 52 2 53 HF jd ?_
  refine wpAnyH_skips (by kernel_rfl) (fun _ _ _ _ _ h => h) jd [(3, 54), (4, 55)] 3 2 _ _ rfl (by kernel_rfl) ?_
  simp only [skipL, skipA, Act.put, p1, p2, p3]
  refine tj 5 56 HF rfl jd ?_
  have hS8 := jd
  have hb8 : Below w5.drew.heap.size w5.drew w5.drew := Below.refl _ _
  refine wS0 6 (w.heap.size + 1 + 1) #[.slice A2 n c2, .int .i64 I, .int .i64 (wrap64 (H + z)), .int .i64 S, .int .i64 P] 32 infoWorks ((hb8.block _ (Array.getElem?_eq_some_iff.1 XR.out).1).trans XR.out) (fun w' hg => grown_trans hS8 hg) ?krfalse
  case krfalse =>
  intro w9 h9 hg9 hS9
  have jd := hS9
  refine tj 7 5 HF rfl jd ?_
  refine wpAnyH_done (by kernel_rfl) ?_ _
  have h9' : w9.heap[w.heap.size + 1 + 1]? = some (.cells #[.slice A2 n c2, .int .i64 I, .int .i64 (wrap64 (H + z)), .int .i64 S, .int .i64 P] 32) := h9
  obtain ⟨r0, r1, r2, r3, r4⟩ := cells5 h9'
  have hO9 := own_other HO5.out XR.out (by decide) hS9
  have hX9 := BB.out.grown hS9 BB.out.size (fun k hk => by cases hk; omega)
  clear h9 h9' hg9 hS9 jd HF XR X8 HO5 HS5
  go_wp2
  try simp only [Exit.inBlock, Exit.then]
  refine bodyPost_ret (by simp [results, Tryz.results114, go_sem, r0, r1, r2, r3, r4]; try rfl) rfl ?_
  exact ⟨_, c2, by rw [hm]; rfl, hc2, hm2, hO9, hX9⟩
end Go.Proofs.YtpndjhelpoenpaaGreatDoor
