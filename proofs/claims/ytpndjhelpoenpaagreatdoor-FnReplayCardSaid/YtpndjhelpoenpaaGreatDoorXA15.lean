/-
  Texts of this claim, merged.
-/
import Derived.Test.YtpndjhelpoenpaaGreatDoorXA14
set_option linter.unusedVariables false
set_option linter.unusedSimpArgs false
set_option maxRecDepth 100000
set_option maxHeartbeats 8000000
namespace Go.Proofs.YtpndjhelpoenpaaGreatDoor
open Go.RowKit Go.Sort
attribute [local go_sem ↓] Go.wp_at_zero Go.wp_at_succ
def leadOk (f : Nat → Int) (i : Nat) (z : Int) : Bool := decide (z ≤ massV (f (i * 4 + 2)) (f (i * 4 + 3)))
def leadF (f : Nat → Int) (i k : Nat) (z : Int) : Nat → Int :=
 if leadOk f i z then setB (setB f i (wrap64 (f (i * 4 + 2) - wrap64 (z - (partV (f (i * 4 + 2)) (f (i * 4 + 3)) z)))) (wrap64 (f (i * 4 + 3) - (partV (f (i * 4 + 2)) (f (i * 4 + 3)) z)))) k (wrap64 (f (k * 4 + 2) + wrap64 (z - (partV (f (i * 4 + 2)) (f (i * 4 + 3)) z)))) (wrap64 (f (k * 4 + 3) + (partV (f (i * 4 + 2)) (f (i * 4 + 3)) z))) else f
section
variable {P : Program} {md : Region.Mode} {ops : Array Oper} {Q : Exit → Act → World → Prop} {S : World → Prop}
theorem wpAnyH_seqA {i j k di dj dk : Nat} {fuel : Nat} {listed : Array Bool} {a : Act} {w : World} {oi oj ok : Oper} {skip : List Nat} {Pi Pj Pk : Value → World → Prop}
  (hoi : ops[i]? = some oi) (hoj : ops[j]? = some oj) (hok : ops[k]? = some ok) (hgi : oi.guard = none) (hgj : oj.guard = none) (hgk : ok.guard = none)
  (hij : i ≠ j ∧ i ≠ k ∧ j ≠ k) (hd : di ≠ dj ∧ di ≠ dk ∧ dj ≠ dk) (hs : di ∈ skip ∧ dj ∈ skip ∧ dk ∈ skip)
  (r0 : Region.ready md ops listed = [i, k]) (ri : Region.ready md ops (listed.setIfInBounds i true) = [j, k]) (rk : Region.ready md ops (listed.setIfInBounds k true) = [i])
  (rij : Region.ready md ops ((listed.setIfInBounds i true).setIfInBounds j true) = [k]) (rik : Region.ready md ops ((listed.setIfInBounds i true).setIfInBounds k true) = [j])
  (Ji : Job P Q S oi di a skip Pi) (Jj : Job P Q S oj dj a skip Pj) (Jk : Job P Q S ok dk a skip Pk) (si : Stays Pi) (sj : Stays Pj) (sk : Stays Pk) (hst : ∀ w1 w2, S w1 → bW w1 w2 → S w2) (hS : S w)
  (h : ∀ vi vj vk w', Pi vi w' → Pj vj w' → Pk vk w' → S w' → bW w w' →
   wpAnyH P md ops Q S fuel (((listed.setIfInBounds i true).setIfInBounds j true).setIfInBounds k true) (((a.put (some di) vi).put (some dj) vj).put (some dk) vk) w') :
  wpAnyH P md ops Q S (fuel + 3) listed a w := by
 obtain ⟨qij, qik, qjk⟩ := hij
 obtain ⟨dij, dik, djk⟩ := hd
 obtain ⟨si', sj', sk'⟩ := hs
 refine wpAnyH_ready (fuel := fuel + 2) r0 (by simp) (AllReadyH.cons hoi (fun K hK => ?_) (AllReadyH.cons hok (fun K hK => ?_) AllReadyH.nil))
 ·exact z145
 ·rw [if_pos (wanted_plain hgk)]
  refine Jk a w K (fun _ _ => rfl) hS (fun v w2 hp hb => ?_)
  have hB := hst _ _ hS hb
  refine hK.out _ _ hB (fun _ => ?_)
  refine wpAnyH_job (fuel := fuel + 1) hoi hgi rk (Ji.put sk' v) hst hB (fun u w3 hp3 hB3 hb3 => ?_)
  refine wpAnyH_job (fuel := fuel) hoj hgj (by rw [listed_comm _ (Ne.symm qik)]; exact rik) ((Jj.put sk' v).put si' u) hst hB3 (fun t w4 hp4 hB4 hb4 => ?_)
  rw [listed_comm _ (Ne.symm qik), listed_comm (listed.setIfInBounds i true) (Ne.symm qjk), put_comm _ _ _ (Ne.symm dik), put_comm (a.put (some di) u) _ _ (Ne.symm djk)]
  have hb24 := hb3.trans (hb4.mono hb3.size)
  exact h u t v w4 (si _ _ _ hp3 hb4) hp4 (sk _ _ _ hp hb24) hB4 (hb.trans (hb24.mono hb.size))
end
theorem l25Pan_lead (A : Option Addr) (n c lo hi : Nat) (f : Nat → Int) (I H S P : Int) (id tt0 z : Int) (i kk : Nat) (hi' : i < n) (hk' : kk < n) (w : World) (hs : Sl w lo hi 4 A n f) (hn : n ≤ 1048576) (hnc : n ≤ c) (hz0 : 0 < z) (hfk : findV (pid f) tt0 n 0 = (kk : Int)) :
  Calls Tryz.prog 156 #[.agg (wB A n c I H S P), .agg (iV 3 id tt0 z), .int .i64 i] w (panPost w (leadF f i kk z) n I H S P (leadOk f i z)) := by
 have hX : bW w (((w.alloc (.cells (wB A n c I H S P) 32)).alloc (.cells (iV 3 id tt0 z) 107)).alloc (.cells (wB none 0 0 0 0 0 0) 32)) := (((Below.refl _ w).alloc nL _).alloc (by simp) _).alloc (by simp; omega) _
 have HS : Hid (Sl (((w.alloc (.cells (wB A n c I H S P) 32)).alloc (.cells (iV 3 id tt0 z) 107)).alloc (.cells (wB none 0 0 0 0 0 0) 32)) lo hi 4 A n f) := hs.below hX
 have HX := lh hX
 clear hs hX
 obtain ⟨b, off, rfl, hbw, _⟩ := HS.out.open_ (Below.refl _ _) (by omega)
 have HC : ∀ w', bW (((w.alloc (.cells (wB (some ⟨b, off, none⟩) n c I H S P) 32)).alloc (.cells (iV 3 id tt0 z) 107)).alloc (.cells (wB none 0 0 0 0 0 0) 32)) w' → ∀ m, m < n → cI w' b (off + m * 4 + 2) (f (m * 4 + 2)) ∧ cI w' b (off + m * 4 + 3) (f (m * 4 + 3)) := by
  intro w' hq m hm
  obtain ⟨_, HC⟩ := HS.out.open_at hq (by omega)
  obtain ⟨c0, c1, c2, c3⟩ := cell4 HC hm
  exact ⟨c2, c3⟩
 have HSK := HS
 have HCK := lh (fun w' hq => HC w' hq kk hk')
 replace HC := fun w' hq => HC w' hq i hi'
 have HF : Hid (∀ w', bW (((w.alloc (.cells (wB (some ⟨b, off, none⟩) n c I H S P) 32)).alloc (.cells (iV 3 id tt0 z) 107)).alloc (.cells (wB none 0 0 0 0 0 0) 32)) w' → cE w' w.heap.size 0 (.slice (some ⟨b, off, none⟩) n c) ∧ cI w' w.heap.size 1 I ∧ cI w' w.heap.size 2 H ∧ cI w' w.heap.size 3 S ∧ cI w' w.heap.size 4 P ∧ cI w' b (off + i * 4 + 2) (f (i * 4 + 2)) ∧ cI w' b (off + i * 4 + 3) (f (i * 4 + 3))) := fun w' hq => ⟨(hq.cell (p := ⟨w.heap.size, 0, none⟩) (by simp; omega)).trans (by go_simp), (hq.cell (p := ⟨w.heap.size, 1, none⟩) (by simp; omega)).trans (by go_simp), (hq.cell (p := ⟨w.heap.size, 2, none⟩) (by simp; omega)).trans (by go_simp), (hq.cell (p := ⟨w.heap.size, 3, none⟩) (by simp; omega)).trans (by go_simp), (hq.cell (p := ⟨w.heap.size, 4, none⟩) (by simp; omega)).trans (by go_simp), (HC w' hq).1, (HC w' hq).2⟩
 refine z147 ?_
 intro hi0 hin
 have hk0i : (0 : Int) ≤ (kk : Int) := by omega
 have hkni : (kk : Int) < (n : Int) := by omega
 clear HC
 go_enter Tryz.func156, Tryz.ntmps156
 go_wp2_with fail
 refine wp_region_held_drew (S := fun w' => bW (((w.alloc (.cells (wB (some ⟨b, off, none⟩) n c I H S P) 32)).alloc (.cells (iV 3 id tt0 z) 107)).alloc (.cells (wB none 0 0 0 0 0 0) 32)) w') (by exact z12) ((Below.refl _ (((w.alloc (.cells (wB (some ⟨b, off, none⟩) n c I H S P) 32)).alloc (.cells (iV 3 id tt0 z) 107)).alloc (.cells (wB none 0 0 0 0 0 0) 32))).drew) (fun jd => ?_)
 refine z148 ?_
 refine wpAnyH_three (fuel := 2) (i := 1) (j := 8) (k := 9) (di := 14) (dj := 8) (dk := 9) (skip := [14, 8, 9]) (Pi := (fun v w' => ∃ A' c', v = .agg (wB A' n c' I H S P) ∧ n ≤ c' ∧ c' ≤ maxLen ∧ w'.ownsRow (((w.alloc (.cells (wB (some ⟨b, off, none⟩) n c I H S P) 32)).alloc (.cells (iV 3 id tt0 z) 107)).alloc (.cells (wB none 0 0 0 0 0 0) 32)).heap.size 97 4 (.slice A' n c') n ((cellsL f n).map (Value.int .i64)))) rfl rfl rfl rfl rfl rfl (by decide) (by decide) (by decide) (by exact z12) (by exact z12) (by exact z12) (by exact z12) (by exact z12) (by exact z12) (by exact z12) ?jc (Job.alloc (nb := (((w.alloc (.cells (wB (some ⟨b, off, none⟩) n c I H S P) 32)).alloc (.cells (iV 3 id tt0 z) 107)).alloc (.cells (wB none 0 0 0 0 0 0) 32)).heap.size) (obj := .cells (wB none 0 0 0 0 0 0) 32) rfl (fun _ h => h.size) (fun a' w1 => by go_simp; try rfl)) (Job.alloc (nb := (((w.alloc (.cells (wB (some ⟨b, off, none⟩) n c I H S P) 32)).alloc (.cells (iV 3 id tt0 z) 107)).alloc (.cells (wB none 0 0 0 0 0 0) 32)).heap.size) (obj := .cells (jV 0 0) 95) rfl (fun _ h => h.size) (fun a' w1 => by go_simp; try rfl)) ?stc stays_alloc stays_alloc below_stays jd ?nx
 case stc =>
  exact z149
 case jc =>
  exact z150
 case nx =>
 rintro vi vj vk w4 ⟨A', c', rfl, hnc', hcm', hO⟩ ⟨g8, rfl, l8, h8⟩ ⟨g9, rfl, l9, h9⟩ hB4 _
 revert A' hO
 refine z151 ?_
 intro ga hO
 refine z15 ?_
 refine wS0 10 g8 (wB (some ⟨ga, 0, none⟩) n c' I H S P) 32 infoWorks h8 (fun w' hg => hB4.grown hg hB4.size (fun k hk => by cases hk; exact l8)) ?k8
 case k8 =>
 intro w5 h85 hg5 hB5
 refine z152 ?_
 intro ne89 h95 hO5
 refine wS0 11 g9 (jV (f (i * 4 + 2)) (f (i * 4 + 3))) 95 infoBrine h95 (fun w' hg => hB5.grown hg hB5.size (fun k hk => by cases hk; exact l9)) ?k9
 case k9 =>
 intro w6 h96 hg6 hB6
 refine z153 ?_
 intro h86 hO6
 refine z49 ?_
 refine z154 ?_
 intro b0 b1 b2 b3 b4 c2 c3 s0 s1 s2 s3
 have hr6 : w6.heap[w.heap.size + 1 + 1]? = some (.cells (wB none 0 0 0 0 0 0) 32) := (hB6.block (w.heap.size + 1 + 1) (by simp)).trans (by have := heap_alloc_new ((w.alloc (.cells (wB (some ⟨b, off, none⟩) n c I H S P) 32)).alloc (.cells (iV 3 id tt0 z) 107)) (.cells (wB none 0 0 0 0 0 0) 32); simpa using this)
 refine z155 ?_
 intro h86' h96' e0 e1 e2 e3 e4 ef d0 d1 a2 a3 af nga
 have lga : (((w.alloc (.cells (wB (some ⟨b, off, none⟩) n c I H S P) 32)).alloc (.cells (iV 3 id tt0 z) 107)).alloc (.cells (wB none 0 0 0 0 0 0) 32)).heap.size ≤ ga := (World.ownsRow.lt hO6 ga rfl).1
 revert l8 l9 lga
 refine z156 ?_
 intro nga9 lga l8 l9 nga0 mga0 nga1 mga1 nga2 mga2 ng80 mg80 ng81 mg81 ng82 mg82 ng90 mg90 ng91 mg91 ng92 mg92 nn1 nn2 nn3 HO6 HB6 H86 HR6
 clear hO6 hB6 h86 h86' h96 h96' hg6 hg5 hB5 hB4 hO hO5 h8 h9 h85 h95 HF HS hr6 jd
 go_wp2_with fail
 clear a2 a3 af
 have HF : Hid (∀ w', bW w6 w' → cI w' (w.heap.size + 1) 3 z ∧ cI w' g9 0 (f (i * 4 + 2)) ∧ cI w' g9 1 (f (i * 4 + 3))) := by
  intro w' hq
  exact ⟨kp hq s3, kp hq d0, kp hq d1⟩
 refine wp_region_held_drew (S := fun w' => bW (w6) w') (by exact z12) ((Below.refl _ _).drew) (fun jd => ?_)
 refine tj3 0 50 1 51 2 52 HF jd ?_
 refine wpAnyH_ready (rs := [3]) (by exact z12) (by simp) ?_
 refine z44 ?_
 intro K hK
 (go_at_call 150; refine (l2Mass_any _ _ _).mono ?_; rintro e w7 ⟨rfl, hb2⟩)
 revert K hK hb2
 refine z45 ?_
 intro jd
 refine tj 4 54 HF rfl jd ?_
 refine z49 ?_
 have h87 := (jd.block g8 (gL H86.out)).trans H86.out
 have xr7 := (jd.block (w.heap.size + 1 + 1) (gL HR6.out)).trans HR6.out
 have hO7 := ownsRow_below HO6.out jd
 have hX37 := HB6.out.trans (jd.mono HB6.out.size)
 have hB7 := HX.out.trans (hX37.mono HX.out.size)
 have d07 := kp jd d0
 have d17 := kp jd d1
 have s27 := kp jd s2
 have s37 := kp jd s3
 have b07 := kp jd b0
 have b17 := kp jd b1
 have b27 := kp jd b2
 have b37 := kp jd b3
 have b47 := kp jd b4
 clear jd HF e0 e1 e2 e3 e4 ef b0 b1 b2 b3 b4 s0 s1 s2 s3 c2 c3 d0 d1 HO6 HB6 H86 HR6
 by_cases hzm : massV (f (i * 4 + 2)) (f (i * 4 + 3)) < z
 ·have x8 : w7.heap[g8]? = some (.cells (wB (some ⟨ga, 0, none⟩) n c' I H S P) 32) := h87
  have xr : w7.heap[w.heap.size + 1 + 1]? = some (.cells (wB none 0 0 0 0 0 0) 32) := xr7
  have HO7 := lh hO7
  have BB := lh hB7
  have hpo : leadOk f i z = false := by simp [leadOk]; omega
  have hpf : leadF f i kk z = f := by simp [leadF, hpo]
  have HPO := lh hpo
  have HPF := lh hpf
  clear hpo hpf
  clear h87 xr7 hO7 hX37 hB7 d07 d17 s27 s37 b07 b17 b27 b37 b47
  obtain ⟨e0, e1, e2, e3, e4⟩ := cells5 x8
  obtain ⟨r0, r1, r2, r3, r4⟩ := cells5 xr
  have rf := fz xr
  clear x8 xr
  go_wp2
  refine z193 ?_
  intro wq hwq
  revert HO7 BB hwq
  refine z194 ?_
  intro q0 q1 q2 q3 q4 hBq no hOq
  rw [HPO.out, HPF.out]
  exact z192
 ·refine z198 ?_
  intro hpo hpf hm0 HPO
  have HX37 := lh hX37
  have HO7 := lh hO7
  have X87 := lh h87
  have XR7 := lh xr7
  have BB7 := lh hB7
  have HPF := lh hpf
  clear hX37 hO7 h87 xr7 hB7 hpo hpf
  have HF : Hid (∀ w', bW w7 w' → cE w' w.heap.size 0 (.slice (some ⟨b, off, none⟩) n c) ∧ cI w' w.heap.size 1 I ∧ cI w' w.heap.size 2 H ∧ cI w' w.heap.size 3 S ∧ cI w' w.heap.size 4 P ∧ cI w' (w.heap.size + 1) 2 tt0 ∧ cI w' (w.heap.size + 1) 3 z ∧ cI w' g9 0 (f (i * 4 + 2)) ∧ cI w' g9 1 (f (i * 4 + 3))) := by
   intro w' hq
   exact ⟨kp hq b07, kp hq b17, kp hq b27, kp hq b37, kp hq b47, kp hq s27, kp hq s37, kp hq d07, kp hq d17⟩
  go_wp2_with fail
  refine wp_region_held_drew (S := fun w' => bW w7 w') (by exact z12) ((Below.refl _ w7).drew) (fun jd => ?_)
  refine tj4 0 56 1 57 4 60 5 61 HF jd ?_
  refine tj2 2 58 6 62 HF jd ?_
  refine wpAnyH_seqA (fuel := 2) (i := 3) (j := 7) (k := 8) (di := 59) (dj := 63) (dk := 12) (skip := [59, 63, 12]) (Pi := fun v _ => v = .int .i64 (kk : Int)) (Pj := fun v _ => v = .agg (jV (wrap64 (z - (partV (f (i * 4 + 2)) (f (i * 4 + 3)) z))) (partV (f (i * 4 + 2)) (f (i * 4 + 3)) z))) rfl rfl rfl rfl rfl rfl (by decide) (by decide) (by decide) (by exact z12) (by exact z12) (by exact z12) (by exact z12) (by exact z12) ?ji ?jj (Job.alloc (nb := w7.heap.size) (obj := (.cells (jV 0 0) 95)) rfl (fun _ h => h.size) (fun a' w1 => by go_simp; try rfl)) (fun v w1 w2 h _ => h) (fun v w1 w2 h _ => h) stays_alloc below_stays jd ?nx
  case ji =>
   intro a' w1 K hev hb hK
   have h1 : a'.eval (.tmp 56) = .agg (wB (some ⟨b, off, none⟩) n c I H S P) := (hev 56 (by decide)).trans rfl
   have h2 : a'.tmps[56]?.getD undef = .agg (wB (some ⟨b, off, none⟩) n c I H S P) := by simpa [Act.eval] using h1
   have h3 : a'.eval (.tmp 58) = .int .i64 tt0 := (hev 58 (by decide)).trans rfl
   have h4 : a'.tmps[58]?.getD undef = .int .i64 tt0 := by simpa [Act.eval] using h3
   have HK := lh hK
   have HSL := lh (HSK.out.below (HX37.out.trans (hb.mono HX37.out.size)))
   clear hev h1 h3 hK HF
   go_simp
   go_at_call 154
   refine (l25Find_any _ n c lo hi f I H S P tt0 w1 HSL.out hn hnc).mono ?_
   rw [hfk]
   exact z157
  case jj =>
   intro a' w1 K hev hb hK
   have h1 : a'.eval (.tmp 60) = .agg (jV (f (i * 4 + 2)) (f (i * 4 + 3))) := (hev 60 (by decide)).trans rfl
   have h2 : a'.tmps[60]?.getD undef = .agg (jV (f (i * 4 + 2)) (f (i * 4 + 3))) := by simpa [Act.eval] using h1
   have h3 : a'.eval (.tmp 62) = .int .i64 z := (hev 62 (by decide)).trans rfl
   have h4 : a'.tmps[62]?.getD undef = .int .i64 z := by simpa [Act.eval] using h3
   have HK := lh hK
   clear hev h1 h3 hK HF
   go_simp
   go_at_call 183
   refine (l2Part_any _ _ z w1 (by omega) hm0).mono ?_
   exact z157
  case nx =>
  rintro vi vj vk w8 rfl rfl ⟨g12, rfl, l12, h12⟩ hB8 _
  refine z15 ?_
  have jd := hB8
  refine tj 9 11 HF rfl jd ?_
  refine wS0 10 g12 (jV (wrap64 (z - (partV (f (i * 4 + 2)) (f (i * 4 + 3)) z))) (partV (f (i * 4 + 2)) (f (i * 4 + 3)) z)) 95 infoBrine h12 (fun w' hg => hB8.grown hg hB8.size (fun k hk => by cases hk; exact l12)) ?kst
  case kst =>
  intro w9 h129 hg9 hB9
  refine z49 ?_
  have h129' : w9.heap[g12]? = some (.cells (jV (wrap64 (z - (partV (f (i * 4 + 2)) (f (i * 4 + 3)) z))) (partV (f (i * 4 + 2)) (f (i * 4 + 3)) z)) 95) := h129
  have hO9 := ownsRow_below HO7.out hB9
  have h89 := (hB9.block g8 (gL X87.out)).trans X87.out
  have xr9 := (hB9.block (w.heap.size + 1 + 1) (gL XR7.out)).trans XR7.out
  have hX39 := HX37.out.trans (hB9.mono HX37.out.size)
  have hBB9 := BB7.out.trans (hB9.mono BB7.out.size)
  have e09 : cE w9 g8 0 (.slice (some ⟨ga, 0, none⟩) n c') := by rw [cell_of_row w9 g8 0 _ _ (0, 0) h89]; rfl
  obtain ⟨p09, p19⟩ := cells2 h129'
  have d09 := kp hB9 d07
  have d19 := kp hB9 d17
  have b09 := kp hB9 b07
  have lga7 : ga < w7.heap.size := (World.ownsRow.lt HO7.out ga rfl).2
  have nga12 : g12 ≠ ga := by omega
  have nbga : b ≠ ga := by
   have hbw' := hbw
   simp only [World.size_alloc] at hbw'
   omega
  obtain ⟨c2k, c3k⟩ := HCK.out w9 hX39
  clear b07 b17 b27 b37 b47 s27 s37 d07 d17 HF hB8 jd h129 hg9 hB9 h12 l12 HO7 X87 XR7 BB7 HX37
  obtain ⟨cur, hcur, hcs, hput⟩ := row_open hO9
  have hfit : i * 4 + 2 + 2 ≤ cur.size := by omega
  have HF : Hid (∀ w', w9.grownBy w' (some ga) → cE w' g8 0 (.slice (some ⟨ga, 0, none⟩) n c') ∧ cI w' g9 0 (f (i * 4 + 2)) ∧ cI w' g9 1 (f (i * 4 + 3)) ∧ cI w' g12 0 (wrap64 (z - (partV (f (i * 4 + 2)) (f (i * 4 + 3)) z))) ∧ cI w' g12 1 (partV (f (i * 4 + 2)) (f (i * 4 + 3)) z)) := by
   intro w' hq
   exact ⟨(World.cell?_of_block (a := ⟨g8, 0, none⟩) (hq.block _ (World.block_lt_of_cell? _ _ e09) (by simp; omega))).trans e09, (World.cell?_of_block (a := ⟨g9, 0, none⟩) (hq.block _ (World.block_lt_of_cell? _ _ d09) (by simp; omega))).trans d09, (World.cell?_of_block (a := ⟨g9, 1, none⟩) (hq.block _ (World.block_lt_of_cell? _ _ d19) (by simp; omega))).trans d19, (World.cell?_of_block (a := ⟨g12, 0, none⟩) (hq.block _ (World.block_lt_of_cell? _ _ p09) (by simp; omega))).trans p09, (World.cell?_of_block (a := ⟨g12, 1, none⟩) (hq.block _ (World.block_lt_of_cell? _ _ p19) (by simp; omega))).trans p19⟩
  go_wp2_with fail
  refine wp_region_held_drew (S := fun w' => w9.grownBy w' (some ga)) (by exact z12) ⟨rfl, rfl, rfl, Nat.le_refl _, fun _ _ _ => rfl⟩ (fun jd => ?_)
  refine tj4 0 64 2 66 3 67 4 68 HF jd ?_
  refine tj 1 65 HF rfl jd ?_
  refine wpAnyH_job (fuel := 3) (i := 5) (d := 69) (skip := []) (Post := fun v _ => v = (.agg (jV (wrap64 (f (i * 4 + 2) - wrap64 (z - (partV (f (i * 4 + 2)) (f (i * 4 + 3)) z)))) (wrap64 (f (i * 4 + 3) - (partV (f (i * 4 + 2)) (f (i * 4 + 3)) z)))))) rfl rfl (by exact z12) ?jl but_stays jd ?nl
  case jl =>
   intro a' w1 K hev hb hK
   have h1 : a'.eval (.tmp 67) = .agg (jV (f (i * 4 + 2)) (f (i * 4 + 3))) := (hev 67 (by decide)).trans rfl
   have h2 : a'.tmps[67]?.getD undef = .agg (jV (f (i * 4 + 2)) (f (i * 4 + 3))) := by simpa [Act.eval] using h1
   have h3 : a'.eval (.tmp 68) = .agg (jV (wrap64 (z - (partV (f (i * 4 + 2)) (f (i * 4 + 3)) z))) (partV (f (i * 4 + 2)) (f (i * 4 + 3)) z)) := (hev 68 (by decide)).trans rfl
   have h4 : a'.tmps[68]?.getD undef = .agg (jV (wrap64 (z - (partV (f (i * 4 + 2)) (f (i * 4 + 3)) z))) (partV (f (i * 4 + 2)) (f (i * 4 + 3)) z)) := by simpa [Act.eval] using h3
   have HK := lh hK
   clear hev h1 h3 hK HF
   go_simp
   go_at_call 184
   refine (l2Left_any _ _ _ _ w1).mono ?_
   exact z157
  case nl =>
  rintro v wl rfl hSl hbl
  refine z15 ?_
  have jd := hSl
  refine tj2 6 70 7 71 HF jd ?_
  refine z199 ?_
  intro hcurl
  refine wpAnyH_store (fuel := 0) (i := 8) rfl (by exact z12) ga (i * 4 + 2) (.agg (jV (wrap64 (f (i * 4 + 2) - wrap64 (z - (partV (f (i * 4 + 2)) (f (i * 4 + 3)) z)))) (wrap64 (f (i * 4 + 3) - (partV (f (i * 4 + 2)) (f (i * 4 + 3)) z))))) 97 cur rfl rfl infoBrine hcurl hfit (by exact z143) (fun w' hg => grown_trans hSl hg) ?kt
  case kt =>
  intro w10 h10 hg10 hS10
  refine z49 ?_
  rw [show putRow cur (i * 4 + 2) ((.agg (jV (wrap64 (f (i * 4 + 2) - wrap64 (z - (partV (f (i * 4 + 2)) (f (i * 4 + 3)) z)))) (wrap64 (f (i * 4 + 3) - (partV (f (i * 4 + 2)) (f (i * 4 + 3)) z))))) : Value).cells = _ from putRow_two cur _ _ _ hfit] at h10
  have hO10 := hput w10 (i * 4 + 2) _ _ h10
  rw [cellsL_set, cellsL_set] at hO10
  have h810 := (hS10.block g8 (gL h89) (by simp; omega)).trans h89
  have xr10 := (hS10.block (w.heap.size + 1 + 1) (gL xr9) (by simp; omega)).trans xr9
  have hBB10 := hBB9.grown hS10 hBB9.size (fun k hk => by cases hk; omega)
  have e010 := (World.cell?_of_block (a := ⟨g8, 0, none⟩) (hS10.block _ (World.block_lt_of_cell? _ _ e09) (by simp; omega))).trans e09
  have b010 := (World.cell?_of_block (a := ⟨w.heap.size, 0, none⟩) (hS10.block _ (World.block_lt_of_cell? _ _ b09) (by simp; omega))).trans b09
  have p010 := (World.cell?_of_block (a := ⟨g12, 0, none⟩) (hS10.block _ (World.block_lt_of_cell? _ _ p09) (by simp; omega))).trans p09
  have p110 := (World.cell?_of_block (a := ⟨g12, 1, none⟩) (hS10.block _ (World.block_lt_of_cell? _ _ p19) (by simp; omega))).trans p19
  have c210 := (World.cell?_of_block (a := ⟨b, off + kk * 4 + 2, none⟩) (hS10.block _ (World.block_lt_of_cell? _ _ c2k) (by simp; omega))).trans c2k
  have c310 := (World.cell?_of_block (a := ⟨b, off + kk * 4 + 3, none⟩) (hS10.block _ (World.block_lt_of_cell? _ _ c3k) (by simp; omega))).trans c3k
  clear jd HF hS10 hg10 h10 hSl hbl hcurl hcur hput hcs hfit hO9 h89 xr9 hBB9 e09 b09 p09 p19 c2k c3k d09 d19 hX39 h129'
  obtain ⟨cur2, hcur, hcs, hput⟩ := row_open hO10
  have hfit : kk * 4 + 2 + 2 ≤ cur2.size := by omega
  have HF : Hid (∀ w', w10.grownBy w' (some ga) → cE w' g8 0 (.slice (some ⟨ga, 0, none⟩) n c') ∧ cE w' w.heap.size 0 (.slice (some ⟨b, off, none⟩) n c) ∧ cI w' g12 0 (wrap64 (z - (partV (f (i * 4 + 2)) (f (i * 4 + 3)) z))) ∧ cI w' g12 1 (partV (f (i * 4 + 2)) (f (i * 4 + 3)) z) ∧ cI w' b (off + kk * 4 + 2) (f (kk * 4 + 2)) ∧ cI w' b (off + kk * 4 + 3) (f (kk * 4 + 3))) := by
   intro w' hq
   exact ⟨(World.cell?_of_block (a := ⟨g8, 0, none⟩) (hq.block _ (World.block_lt_of_cell? _ _ e010) (by simp; omega))).trans e010, (World.cell?_of_block (a := ⟨w.heap.size, 0, none⟩) (hq.block _ (World.block_lt_of_cell? _ _ b010) (by simp; omega))).trans b010, (World.cell?_of_block (a := ⟨g12, 0, none⟩) (hq.block _ (World.block_lt_of_cell? _ _ p010) (by simp; omega))).trans p010, (World.cell?_of_block (a := ⟨g12, 1, none⟩) (hq.block _ (World.block_lt_of_cell? _ _ p110) (by simp; omega))).trans p110, (World.cell?_of_block (a := ⟨b, off + kk * 4 + 2, none⟩) (hq.block _ (World.block_lt_of_cell? _ _ c210) (by simp; omega))).trans c210, (World.cell?_of_block (a := ⟨b, off + kk * 4 + 3, none⟩) (hq.block _ (World.block_lt_of_cell? _ _ c310) (by simp; omega))).trans c310⟩
  go_wp2_with fail
  refine wp_region_held_drew (S := fun w' => w10.grownBy w' (some ga)) (by exact z12) ⟨rfl, rfl, rfl, Nat.le_refl _, fun _ _ _ => rfl⟩ (fun jd => ?_)
  refine tj4 0 72 2 74 3 75 5 77 HF jd ?_
  refine tj4 9 81 1 73 4 76 6 78 HF jd ?_
  refine tj2 7 79 8 80 HF jd ?_
  refine wpAnyH_job (fuel := 3) (i := 10) (d := 82) (skip := []) (Post := fun v _ => v = (.agg (jV (wrap64 (f (kk * 4 + 2) + wrap64 (z - (partV (f (i * 4 + 2)) (f (i * 4 + 3)) z)))) (wrap64 (f (kk * 4 + 3) + (partV (f (i * 4 + 2)) (f (i * 4 + 3)) z)))))) rfl rfl (by exact z12) ?jm but_stays jd ?nm
  case jm =>
   intro a' w1 K hev hb hK
   have h1 : a'.eval (.tmp 80) = .agg (jV (f (kk * 4 + 2)) (f (kk * 4 + 3))) := (hev 80 (by decide)).trans rfl
   have h2 : a'.tmps[80]?.getD undef = .agg (jV (f (kk * 4 + 2)) (f (kk * 4 + 3))) := by simpa [Act.eval] using h1
   have h3 : a'.eval (.tmp 81) = .agg (jV (wrap64 (z - (partV (f (i * 4 + 2)) (f (i * 4 + 3)) z))) (partV (f (i * 4 + 2)) (f (i * 4 + 3)) z)) := (hev 81 (by decide)).trans rfl
   have h4 : a'.tmps[81]?.getD undef = .agg (jV (wrap64 (z - (partV (f (i * 4 + 2)) (f (i * 4 + 3)) z))) (partV (f (i * 4 + 2)) (f (i * 4 + 3)) z)) := by simpa [Act.eval] using h3
   have HK := lh hK
   clear hev h1 h3 hK HF
   go_simp
   go_at_call 182
   refine (l2Sum_any _ _ _ _ w1).mono ?_
   exact z157
  case nm =>
  rintro v wl rfl hSl hbl
  refine z15 ?_
  have jd := hSl
  refine tj2 11 83 12 84 HF jd ?_
  have hcurl : wl.heap[ga]? = some (.cells cur2 97) := (hbl.block ga (gL hcur)).trans hcur
  refine wpAnyH_store (fuel := 0) (i := 13) rfl (by exact z12) ga (kk * 4 + 2) (.agg (jV (wrap64 (f (kk * 4 + 2) + wrap64 (z - (partV (f (i * 4 + 2)) (f (i * 4 + 3)) z)))) (wrap64 (f (kk * 4 + 3) + (partV (f (i * 4 + 2)) (f (i * 4 + 3)) z))))) 97 cur2 rfl rfl infoBrine hcurl hfit (by exact z143) (fun w' hg => grown_trans hSl hg) ?ku
  case ku =>
  intro w11 h11 hg11 hS11
  refine z49 ?_
  rw [show putRow cur2 (kk * 4 + 2) ((.agg (jV (wrap64 (f (kk * 4 + 2) + wrap64 (z - (partV (f (i * 4 + 2)) (f (i * 4 + 3)) z)))) (wrap64 (f (kk * 4 + 3) + (partV (f (i * 4 + 2)) (f (i * 4 + 3)) z))))) : Value).cells = _ from putRow_two cur2 _ _ _ hfit] at h11
  have hO11 := hput w11 (kk * 4 + 2) _ _ h11
  rw [cellsL_set, cellsL_set] at hO11
  have x8 := (hS11.block g8 (gL h810) (by simp; omega)).trans h810
  have xr := (hS11.block (w.heap.size + 1 + 1) (gL xr10) (by simp; omega)).trans xr10
  have hBB11 := hBB10.grown hS11 hBB10.size (fun k hk => by cases hk; omega)
  clear jd HF hS11 hg11 h11 hSl hbl hcurl hcur hput hcs hfit hO10 h810 xr10 hBB10 e010 b010 p010 p110 c210 c310
  have HO7 := lh hO11
  have BB := lh hBB11
  clear hO11 hBB11
  obtain ⟨e0, e1, e2, e3, e4⟩ := cells5 x8
  obtain ⟨r0, r1, r2, r3, r4⟩ := cells5 xr
  have rf := fz xr
  clear x8 xr
  go_wp2
  obtain ⟨wq, hwq⟩ : ∃ wq, wq = (((((w11.setCell ⟨w.heap.size + 1 + 1, 0, none⟩ (.slice (some ⟨ga, 0, none⟩) n c')).setCell ⟨w.heap.size + 1 + 1, 1, none⟩ (.int .i64 I)).setCell ⟨w.heap.size + 1 + 1, 2, none⟩ (.int .i64 H)).setCell ⟨w.heap.size + 1 + 1, 3, none⟩ (.int .i64 S)).setCell ⟨w.heap.size + 1 + 1, 4, none⟩ (.int .i64 P)) := ⟨_, rfl⟩
  revert HO7 BB hwq
  refine z194 ?_
  intro q0 q1 q2 q3 q4 hBq no hOq
  rw [HPO.out, HPF.out]
  exact z192
end Go.Proofs.YtpndjhelpoenpaaGreatDoor
namespace Go.Proofs.YtpndjhelpoenpaaGreatDoor
open Go.RowKit Go.Sort
attribute [local go_sem ↓] Go.wp_at_zero Go.wp_at_succ
def atN (f : Nat → Int) (n : Nat) (id : Int) : Nat := (findV (pid f) id n 0).toNat
def stV (f : Nat → Int) (n : Nat) (kd id tt0 z : Int) : Bool :=
 if kd = 1 then inR id 1 99 && (decide (findV (pid f) id n 0 < 0) && (decide (tt0 = 0) && inR z 1 100000))
 else if kd = 2 ∨ kd = 4 ∨ kd = 5 then decide (0 ≤ findV (pid f) id n 0) && (decide (tt0 = 0) && decide (1 ≤ z))
 else if kd = 3 then decide (0 ≤ findV (pid f) id n 0) && (decide (0 ≤ findV (pid f) tt0 n 0) && (decide (tt0 ≠ id) && decide (1 ≤ z)))
 else if kd = 6 then decide (id = 0) && (decide (tt0 = 0) && decide (1 ≤ z))
 else decide (kd = 7) && (decide (0 ≤ findV (pid f) id n 0) && (decide (tt0 = 0) && decide (z = 0)))
def stL (f : Nat → Int) (n : Nat) (kd id tt0 z : Int) : List Int :=
 if kd = 1 then buildL f n (placeV f id n 0) id z
 else if kd = 2 then cellsL (setB f (atN f n id) (wrap64 (f (atN f n id * 4 + 2) + wrap64 (z - takeV z))) (wrap64 (f (atN f n id * 4 + 3) + takeV z))) n
 else if kd = 3 then cellsL (leadF f (atN f n id) (atN f n tt0) z) n
 else if kd = 4 then cellsL (setB f (atN f n id) (wrap64 (f (atN f n id * 4 + 2) - z)) (f (atN f n id * 4 + 3))) n
 else if kd = 5 then cellsL (setB f (atN f n id) (f (atN f n id * 4 + 2)) (wrap64 (f (atN f n id * 4 + 3) - z))) n
 else if kd = 6 then cellsL f n
 else shutL f n (atN f n id)
def stN (n : Nat) (kd : Int) : Nat := if kd = 1 then n + 1 else if kd = 7 then n - 1 else n
def stI (I kd z : Int) : Int := if kd = 2 then wrap64 (I + takeV z) else I
def stH (H kd z : Int) : Int := if kd = 5 then wrap64 (H + z) else if kd = 6 then wrap64 (H - z) else H
def stS (S kd z : Int) : Int := if kd = 6 then wrap64 (S + z) else S
def stP (f : Nat → Int) (n : Nat) (P kd id : Int) : Int := if kd = 7 then wrap64 (P + f (atN f n id * 4 + 3)) else P
def stM (f : Nat → Int) (n : Nat) (kd id z : Int) : Bool := if kd = 3 then leadOk f (atN f n id) z else if kd = 5 then mayV (f (atN f n id * 4 + 2)) (f (atN f n id * 4 + 3)) else true
def stG (f : Nat → Int) (n : Nat) (I H S P kd id tt0 z : Int) : Bool := goodWorks (lf (stL f n kd id tt0 z)) (stN n kd) (stI I kd z) (stH H kd z) (stS S kd z) (stP f n P kd id)
def mkOk (f : Nat → Int) (n : Nat) (I H S P kd id tt0 z : Int) : Bool := decide (z ≤ 1000000) && (stM f n kd id z && stG f n I H S P kd id tt0 z)
def stOk (f : Nat → Int) (n : Nat) (I H S P kd id tt0 z : Int) : Bool := goodWorks f n I H S P && (stV f n kd id tt0 z && mkOk f n I H S P kd id tt0 z)
def stepPost (w : World) (f : Nat → Int) (n : Nat) (I H S P kd id tt0 z : Int) (ok : Bool) (e : Ending) (w' : World) : Prop :=
 panPostL w (if ok then stL f n kd id tt0 z else []) (if ok then stN n kd else 0) (if ok then stI I kd z else 0) (if ok then stH H kd z else 0) (if ok then stS S kd z else 0) (if ok then stP f n P kd id else 0) ok e w'
theorem stepPost_no {w w' : World} {f : Nat → Int} {n : Nat} {I H S P kd id tt0 z : Int} (hb : bW w w') :
  stepPost w f n I H S P kd id tt0 z false (.returned (.tuple #[.agg (wB none 0 0 0 0 0 0), .bool false])) w' :=
 ⟨none, 0, rfl, Nat.le_refl _, by unfold maxLen; omega, by simpa using World.ownsRow_nil w' w.heap.size 97 4, hb⟩
theorem stepPost_yes {w w' : World} {f : Nat → Int} {n m c' : Nat} {A' : Option Addr} {L : List Int} {I H S P kd id tt0 z I' H' S' P' : Int}
  (h : L = stL f n kd id tt0 z ∧ m = stN n kd ∧ I' = stI I kd z ∧ H' = stH H kd z ∧ S' = stS S kd z ∧ P' = stP f n P kd id) (h1 : m ≤ c') (h2 : c' ≤ maxLen)
  (ho : w'.ownsRow w.heap.size 97 4 (.slice A' m c') m (L.map (Value.int .i64))) (hb : bW w w') :
  stepPost w f n I H S P kd id tt0 z true (.returned (.tuple #[.agg (wB A' m c' I' H' S' P'), .bool true])) w' := by
 obtain ⟨rfl, rfl, rfl, rfl, rfl, rfl⟩ := h
 exact ⟨A', c', rfl, h1, h2, ho, hb⟩
theorem l25Step_any (A : Option Addr) (n c lo hi : Nat) (f : Nat → Int) (I H S P : Int) (kd id tt0 z : Int) (w : World) (hs : Sl w lo hi 4 A n f) (hn : n ≤ 1048576) (hnc : n ≤ c) :
  Calls Tryz.prog 113 #[.agg (wB A n c I H S P), .agg (iV kd id tt0 z)] w fun e w' => e = .returned (.bool (stV f n kd id tt0 z)) ∧ bW w w' := by
 have hX2 : bW w ((w.alloc (.cells (wB A n c I H S P) 32)).alloc (.cells (iV kd id tt0 z) 107)) := ((Below.refl _ w).alloc nL _).alloc (by simp) _
 have HX := lh hX2
 clear hX2
 have HF : Hid (∀ w', bW ((w.alloc (.cells (wB A n c I H S P) 32)).alloc (.cells (iV kd id tt0 z) 107)) w' → cE w' w.heap.size 0 (.slice A n c) ∧ cI w' w.heap.size 1 I ∧ cI w' w.heap.size 2 H ∧ cI w' w.heap.size 3 S ∧ cI w' w.heap.size 4 P ∧ cI w' (w.heap.size + 1) 0 kd ∧ cI w' (w.heap.size + 1) 1 id ∧ cI w' (w.heap.size + 1) 2 tt0 ∧ cI w' (w.heap.size + 1) 3 z) := fun w' hq => ⟨(hq.cell (p := ⟨w.heap.size, 0, none⟩) (by simp; omega)).trans (by go_simp), (hq.cell (p := ⟨w.heap.size, 1, none⟩) (by simp; omega)).trans (by go_simp), (hq.cell (p := ⟨w.heap.size, 2, none⟩) (by simp; omega)).trans (by go_simp), (hq.cell (p := ⟨w.heap.size, 3, none⟩) (by simp; omega)).trans (by go_simp), (hq.cell (p := ⟨w.heap.size, 4, none⟩) (by simp; omega)).trans (by go_simp), cells4 (bx (g := w.heap.size + 1) hq)⟩
 have HSW : Hid (∀ w', bW ((w.alloc (.cells (wB A n c I H S P) 32)).alloc (.cells (iV kd id tt0 z) 107)) w' → Sl w' lo hi 4 A n f) := fun w' hq => hs.below (HX.out.trans (hq.mono HX.out.size))
 clear hs
 go_enter Tryz.func113, Tryz.ntmps113
 go_wp2_with fail
 refine (l25Find_any A n c lo hi f I H S P id _ (HSW.out _ (Below.refl _ _)) hn hnc).mono ?_
 rintro e w1 ⟨rfl, hb1⟩
 obtain ⟨b0, b1, b2, b3, b4, s0, s1, s2, s3⟩ := HF.out w1 hb1
 have B1 := HX.out.trans (hb1.mono HX.out.size)
 obtain ⟨at', hat⟩ : ∃ at', at' = findV (pid f) id n 0 := ⟨_, rfl⟩
 rw [← hat]
 have HAT := lh hat
 clear hat
 by_cases k1 : kd = 1
 ·subst k1
  cases c1 : inR id 1 99 with
  | false =>
   go_wp2_with (go_at_call 126; refine (l1In_any _ _ _ _).mono ?_; refine z56 ?_)
   go_ret
   exact ⟨ret_bool (by rw [stV]; first | (simp [← HAT.out, c1]; done) | (simp [← HAT.out, c1]; intros; omega)), B1⟩
  | true =>
   by_cases c2 : at' < 0
   ·skip
    by_cases c3 : tt0 = 0
    ·skip
     have c3t : (tt0 == 0) = true := by simp [c3]
     cases c4 : inR z 1 100000 with
     | false =>
      exact z200
     | true =>
      exact z200
    ·skip
     have c3f : (tt0 == 0) = false := by simp [c3]
     go_wp2_with (go_at_call 126; refine (l1In_any _ _ _ _).mono ?_; refine z56 ?_)
     go_ret
     exact ⟨ret_bool (by rw [stV]; first | (simp [← HAT.out, c1, c2, c3]; done) | (simp [← HAT.out, c1, c2, c3]; intros; omega)), B1⟩
   ·skip
    go_wp2_with (go_at_call 126; refine (l1In_any _ _ _ _).mono ?_; refine z56 ?_)
    go_ret
    exact ⟨ret_bool (by rw [stV]; first | (simp [← HAT.out, c1, c2]; done) | (simp [← HAT.out, c1, c2]; intros; omega)), B1⟩
 have k1f : (kd == 1) = false := by simp [k1]
 by_cases k2 : kd = 2
 ·subst k2
  by_cases c2 : 0 ≤ at'
  ·skip
   exact z201
  ·skip
   exact z204
 have k2f : (kd == 2) = false := by simp [k2]
 by_cases k4 : kd = 4
 ·subst k4
  by_cases c2 : 0 ≤ at'
  ·skip
   exact z201
  ·skip
   exact z204
 have k4f : (kd == 4) = false := by simp [k4]
 by_cases k5 : kd = 5
 ·subst k5
  by_cases c2 : 0 ≤ at'
  ·skip
   exact z201
  ·skip
   exact z204
 have k5f : (kd == 5) = false := by simp [k5]
 by_cases k3 : kd = 3
 ·subst k3
  by_cases c2 : 0 ≤ at'
  ·go_wp2_with fail
   refine (l25Find_any A n c lo hi f I H S P tt0 _ (HSW.out _ hb1) hn hnc).mono ?_
   rintro e w2 ⟨rfl, hb2⟩
   have hb12 := hb1.trans (hb2.mono hb1.size)
   clear b0 b1 b2 b3 b4 s0 s1 s2 s3
   obtain ⟨b0, b1, b2, b3, b4, s0, s1, s2, s3⟩ := HF.out w2 hb12
   have B1 := HX.out.trans (hb12.mono HX.out.size)
   obtain ⟨tk, htk⟩ : ∃ tk, tk = findV (pid f) tt0 n 0 := ⟨_, rfl⟩
   rw [← htk]
   have HTK := lh htk
   clear htk
   by_cases c3 : 0 ≤ tk
   ·skip
    by_cases c4 : tt0 ≠ id
    ·skip
     have c4t : (tt0 == id) = false := by simp [c4]
     by_cases c5 : 1 ≤ z
     ·exact z205
     ·exact z205
    ·skip
     have c4f : (tt0 == id) = true := by simp at c4; simp [c4]
     go_wp2_with (go_at_call 126; refine (l1In_any _ _ _ _).mono ?_; rintro e w2 ⟨rfl, rfl⟩)
     go_ret
     exact ⟨ret_bool (by rw [stV]; first | (simp [← HAT.out, ← HTK.out, c2, c3, c4]; done) | (simp [← HAT.out, ← HTK.out, c2, c3, c4]; intros; omega)), B1⟩
   ·skip
    go_wp2_with (go_at_call 126; refine (l1In_any _ _ _ _).mono ?_; rintro e w2 ⟨rfl, rfl⟩)
    go_ret
    exact ⟨ret_bool (by rw [stV]; first | (simp [← HAT.out, ← HTK.out, c2, c3]; done) | (simp [← HAT.out, ← HTK.out, c2, c3]; intros; omega)), B1⟩
  ·skip
   exact z204
 have k3f : (kd == 3) = false := by simp [k3]
 by_cases k6 : kd = 6
 ·subst k6
  by_cases c2 : id = 0
  ·skip
   have c2t : (id == 0) = true := by simp [c2]
   exact z201
  ·skip
   have c2f : (id == 0) = false := by simp [c2]
   exact z204
 have k6f : (kd == 6) = false := by simp [k6]
 by_cases k7 : kd = 7
 ·subst k7
  by_cases c2 : 0 ≤ at'
  ·skip
   have c2f : decide (0 ≤ at') = true := decide_eq_true c2
   by_cases c3 : tt0 = 0
   ·skip
    have c3t : (tt0 == 0) = true := by simp [c3]
    by_cases c4 : z = 0
    ·skip
     have c4t : (z == 0) = true := by simp [c4]
     exact z202
    ·skip
     have c4f : (z == 0) = false := by simp [c4]
     exact z202
   exact z203
  ·skip
   have c2f : decide (0 ≤ at') = false := decide_eq_false c2
   have c2g : at' < 0 := by omega
   exact z204
 have k7f : (kd == 7) = false := by simp [k7]
 go_wp2_with (go_at_call 126; refine (l1In_any _ _ _ _).mono ?_; rintro e w2 ⟨rfl, rfl⟩)
 go_ret
 exact ⟨ret_bool (by rw [stV]; first | (simp [← HAT.out, k1, k2, k3, k4, k5, k6, k7]; done) | (simp [← HAT.out, k1, k2, k3, k4, k5, k6, k7]; intros; omega)), B1⟩
theorem l25Make_any (A : Option Addr) (n c lo hi : Nat) (f : Nat → Int) (I H S P : Int) (kd id tt0 z : Int) (w : World) (hs : Sl w lo hi 4 A n f) (hn : n ≤ 1048576) (hnc : n ≤ c) (hnone : A = none → n = 0 ∧ c = 0) (hform : ∀ ad, A = some ad → ∃ b off, ad = ⟨b, off, none⟩) (hn6 : n ≤ 6) (hv : stV f n kd id tt0 z = true) :
  Calls Tryz.prog 114 #[.agg (wB A n c I H S P), .agg (iV kd id tt0 z)] w (fun e w' => ∃ L m I' H' S' P', (mkOk f n I H S P kd id tt0 z = true → L = stL f n kd id tt0 z ∧ m = stN n kd ∧ I' = stI I kd z ∧ H' = stH H kd z ∧ S' = stS S kd z ∧ P' = stP f n P kd id) ∧ panPostL w L m I' H' S' P' (mkOk f n I H S P kd id tt0 z) e w') := by
 by_cases hz : 1000000 < z
 ·refine (l25Make_big A n c lo hi f I H S P kd id tt0 z w hs hn hnc hnone hz).mono ?_
  intro e w' hp
  have hm : mkOk f n I H S P kd id tt0 z = false := by
   have : ¬ z ≤ 1000000 := by omega
   simp [mkOk, this]
  rw [hm]
  exact ⟨_, _, _, _, _, _, (fun h => by cases h), hp⟩
 have hz' : z ≤ 1000000 := by omega
 by_cases k1 : kd = 1
 ·subst k1
  refine (l25Make_build A n c lo hi f I H S P id tt0 z w hs hn hnc hnone hform hz' (by omega)).mono ?_
  exact z206
 by_cases k2 : kd = 2
 ·subst k2
  have hc : 0 ≤ findV (pid f) id n 0 ∧ tt0 = 0 ∧ 1 ≤ z := by simpa [stV, and_assoc] using hv
  rcases findV_cases (pid f) id n 0 with ⟨h1, _⟩ | ⟨i, _, hii, hfd, _⟩
  ·exfalso; omega
  refine z207 ?_
  intro hi' ha
  have h := l25Make_pan A n c lo hi f I H S P 2 id tt0 z i hi' w hs hn hnc (cellsL (setB f i (wrap64 (f (i * 4 + 2) + wrap64 (z - takeV z))) (wrap64 (f (i * 4 + 3) + takeV z))) n) n (wrap64 (I + takeV z)) H S P true hnone hfd (by omega) (by decide) (by decide) (by omega) (lh fun w1 hs1 => l25Pan_take A n c lo hi f I H S P id tt0 z i hi' w1 hs1 hn hnc)
  exact z208
 by_cases k3 : kd = 3
 ·subst k3
  have hc : 0 ≤ findV (pid f) id n 0 ∧ 0 ≤ findV (pid f) tt0 n 0 ∧ tt0 ≠ id ∧ 1 ≤ z := by simpa [stV, and_assoc] using hv
  rcases findV_cases (pid f) id n 0 with ⟨h1, _⟩ | ⟨i, _, hii, hfd, _⟩
  ·exfalso; omega
  refine z207 ?_
  intro hi' ha
  rcases findV_cases (pid f) tt0 n 0 with ⟨h1, _⟩ | ⟨j, _, hjj, hfk, _⟩
  ·exfalso; omega
  have hj' : j < n := by omega
  have hb : atN f n tt0 = j := by simp [atN, hfk]
  have h := l25Make_pan A n c lo hi f I H S P 3 id tt0 z i hi' w hs hn hnc (cellsL (leadF f i j z) n) n I H S P (leadOk f i z) hnone hfd (by omega) (by decide) (by decide) (by omega) (lh fun w1 hs1 => l25Pan_lead A n c lo hi f I H S P id tt0 z i j hi' hj' w1 hs1 hn hnc (by omega) hfk)
  refine h.mono ?_
  intro e w' hp
  refine ⟨_, _, _, _, _, _, fun _ => ⟨rfl, rfl, rfl, rfl, rfl, rfl⟩, ?_⟩
  simpa [mkOk, stM, stG, stL, stN, stI, stH, stS, stP, ha, hb, hz'] using hp
 by_cases k4 : kd = 4
 ·subst k4
  have hc : 0 ≤ findV (pid f) id n 0 ∧ tt0 = 0 ∧ 1 ≤ z := by simpa [stV, and_assoc] using hv
  rcases findV_cases (pid f) id n 0 with ⟨h1, _⟩ | ⟨i, _, hii, hfd, _⟩
  ·exfalso; omega
  refine z207 ?_
  intro hi' ha
  have h := l25Make_pan A n c lo hi f I H S P 4 id tt0 z i hi' w hs hn hnc (cellsL (setB f i (wrap64 (f (i * 4 + 2) - z)) (f (i * 4 + 3))) n) n I H S P true hnone hfd (by omega) (by decide) (by decide) (by omega) (lh fun w1 hs1 => l25Pan_dry A n c lo hi f I H S P id tt0 z i hi' w1 hs1 hn hnc)
  exact z208
 by_cases k5 : kd = 5
 ·subst k5
  have hc : 0 ≤ findV (pid f) id n 0 ∧ tt0 = 0 ∧ 1 ≤ z := by simpa [stV, and_assoc] using hv
  rcases findV_cases (pid f) id n 0 with ⟨h1, _⟩ | ⟨i, _, hii, hfd, _⟩
  ·exfalso; omega
  refine z207 ?_
  intro hi' ha
  have h := l25Make_pan A n c lo hi f I H S P 5 id tt0 z i hi' w hs hn hnc (cellsL (setB f i (f (i * 4 + 2)) (wrap64 (f (i * 4 + 3) - z))) n) n I (wrap64 (H + z)) S P (mayV (f (i * 4 + 2)) (f (i * 4 + 3))) hnone hfd (by omega) (by decide) (by decide) (by omega) (lh fun w1 hs1 => l25Pan_rake A n c lo hi f I H S P id tt0 z i hi' w1 hs1 hn hnc)
  exact z208
 by_cases k6 : kd = 6
 ·subst k6
  refine (l25Make_ship A n c lo hi f I H S P id tt0 z w hs hn hnc hnone hz').mono ?_
  exact z206
 by_cases k7 : kd = 7
 ·subst k7
  have hc : 0 ≤ findV (pid f) id n 0 ∧ tt0 = 0 ∧ z = 0 := by simpa [stV, and_assoc] using hv
  rcases findV_cases (pid f) id n 0 with ⟨h1, _⟩ | ⟨i, _, hii, hfd, _⟩
  ·exfalso; omega
  refine z207 ?_
  intro hi' ha
  have h := l25Make_pan A n c lo hi f I H S P 7 id tt0 z i hi' w hs hn hnc (shutL f n i) (n - 1) I H S (wrap64 (P + f (i * 4 + 3))) true hnone hfd (by omega) (by decide) (by decide) (by omega) (lh fun w1 hs1 => l25Pan_shut A n c lo hi f I H S P id tt0 z i hi' w1 hs1 hn hnc)
  exact z208
 exfalso
 simp [stV, k1, k2, k3, k4, k5, k6, k7] at hv
theorem sStepWorks_any (A : Option Addr) (n c lo hi : Nat) (f : Nat → Int) (I H S P : Int) (kd id tt0 z : Int) (w : World) (hs : Sl w lo hi 4 A n f) (hn : n ≤ 1048576) (hnc : n ≤ c) (hnone : A = none → n = 0 ∧ c = 0) (hform : ∀ ad, A = some ad → ∃ b off, ad = ⟨b, off, none⟩) :
  Calls Tryz.prog 71 #[.agg (wB A n c I H S P), .agg (iV kd id tt0 z)] w (stepPost w f n I H S P kd id tt0 z (stOk f n I H S P kd id tt0 z)) := by
 revert hs
 refine z209 ?_
 intro HX HF HSW HR3
 cases hg : goodWorks f n I H S P with
 | false =>
  have ho : stOk f n I H S P kd id tt0 z = false := by simp [stOk, hg]
  rw [ho]
  go_enter Tryz.func71, Tryz.ntmps71
  go_wp2_with fail
  refine z210 ?_
  intro w1 hb1
  refine z211 ?_
  intro hr1 B1
  clear hb1
  obtain ⟨r0, r1, r2, r3, r4⟩ := cells5 hr1
  have rf := fz hr1
  have HBW := lh B1
  clear hr1
  go_wp2
  refine z212 ?_
  intro wq hwq
  revert hwq
  refine z213 ?_
  intro u0 u1 u2 u3 u4 hBq
  exact z215
 | true =>
 have hn6 := good_len hg
 cases hv : stV f n kd id tt0 z with
 | false =>
  have ho : stOk f n I H S P kd id tt0 z = false := by simp [stOk, hv]
  rw [ho]
  go_enter Tryz.func71, Tryz.ntmps71
  go_wp2_with fail
  refine z210 ?_
  intro w1 hb1
  obtain ⟨b0, b1, b2, b3, b4, s0, s1, s2, s3⟩ := HF.out w1 hb1
  go_wp2_with fail
  refine (l25Step_any A n c lo hi f I H S P kd id tt0 z _ (HSW.out _ hb1) hn hnc).mono ?_
  rw [hv]
  rintro e w2 ⟨rfl, hb2⟩
  have hb12 := hb1.trans (hb2.mono hb1.size)
  have hr1 := (hb12.block (w.heap.size + 1 + 1) (gL HR3.out)).trans HR3.out
  have B1 := HX.out.trans (hb12.mono HX.out.size)
  clear hb1 hb2 hb12 b0 b1 b2 b3 b4 s0 s1 s2 s3
  obtain ⟨r0, r1, r2, r3, r4⟩ := cells5 hr1
  have rf := fz hr1
  have HBW := lh B1
  clear hr1
  go_wp2
  obtain ⟨wq, hwq⟩ : ∃ wq, wq = (((((w2.setCell ⟨w.heap.size + 1 + 1, 0, none⟩ (.slice none 0 0)).setCell ⟨w.heap.size + 1 + 1, 1, none⟩ (.int .i64 0)).setCell ⟨w.heap.size + 1 + 1, 2, none⟩ (.int .i64 0)).setCell ⟨w.heap.size + 1 + 1, 3, none⟩ (.int .i64 0)).setCell ⟨w.heap.size + 1 + 1, 4, none⟩ (.int .i64 0)) := ⟨_, rfl⟩
  revert hwq
  refine z213 ?_
  intro u0 u1 u2 u3 u4 hBq
  exact z215
 | true =>
 have ho : stOk f n I H S P kd id tt0 z = mkOk f n I H S P kd id tt0 z := by simp [stOk, hg, hv]
 rw [ho]
 clear ho
 go_enter Tryz.func71, Tryz.ntmps71
 go_wp2_with fail
 refine z210 ?_
 intro w1 hb1
 obtain ⟨b0, b1, b2, b3, b4, s0, s1, s2, s3⟩ := HF.out w1 hb1
 go_wp2_with fail
 refine (l25Step_any A n c lo hi f I H S P kd id tt0 z _ (HSW.out _ hb1) hn hnc).mono ?_
 rw [hv]
 rintro e w2 ⟨rfl, hb2⟩
 have hb12 := hb1.trans (hb2.mono hb1.size)
 clear b0 b1 b2 b3 b4 s0 s1 s2 s3 hb1 hb2
 obtain ⟨b0, b1, b2, b3, b4, s0, s1, s2, s3⟩ := HF.out w2 hb12
 go_wp2_with fail
 refine (l25Make_any A n c lo hi f I H S P kd id tt0 z _ (HSW.out _ hb12) hn hnc hnone hform hn6 hv).mono ?_
 rintro e w3 ⟨L, m, I', H', S', P', hok, A', c', rfl, hmc, hcm, hown, hb3⟩
 have hb13 := hb12.trans (hb3.mono hb12.size)
 have hr1 := (hb13.block (w.heap.size + 1 + 1) (gL HR3.out)).trans HR3.out
 have B3 := HX.out.trans (hb13.mono HX.out.size)
 have hown := ownsRow_monoP hown (HX.out.trans (hb12.mono HX.out.size)).size
 have lR : w.heap.size + 1 + 1 < w2.heap.size := by have := hb12.size; simp only [World.size_alloc] at this; omega
 have low : ∀ k : Nat, (Value.slice A' m c').ownBlock = some k → w.heap.size ≤ k ∧ k < w3.heap.size := fun k e => World.ownsRow.lt hown k e
 have nR : ∀ k : Nat, (Value.slice A' m c').ownBlock = some k → k ≠ w.heap.size + 1 + 1 := fun k e hk => by
  subst hk
  exact row_none_ne hown hr1 (by decide) e
 clear b0 b1 b2 b3 b4 s0 s1 s2 s3 hb12 hb3 hb13 HF HSW HR3 HX
 cases hmk : mkOk f n I H S P kd id tt0 z with
 | false =>
  rw [hmk] at hok
  clear hok hown nR low
  go_upto_region 4 with fail
  refine z161 ?_
  intro w4 hw4
  have hr4 : w4.heap[w.heap.size + 1 + 1]? = some (.cells (wB none 0 0 0 0 0 0) 32) := by
   rw [hw4, heap_alloc_old _ _ (by have := (gL hr1); omega)]
   exact hr1
  have B4 : bW w w4 := by
   rw [hw4]
   exact B3.alloc B3.size _
  clear hw4 hr1 B3
  obtain ⟨r0, r1, r2, r3, r4⟩ := cells5 hr4
  have rf := fz hr4
  have HBW := lh B4
  clear hr4
  go_wp2
  obtain ⟨wq, hwq⟩ : ∃ wq, wq = (((((w4.setCell ⟨w.heap.size + 1 + 1, 0, none⟩ (.slice none 0 0)).setCell ⟨w.heap.size + 1 + 1, 1, none⟩ (.int .i64 0)).setCell ⟨w.heap.size + 1 + 1, 2, none⟩ (.int .i64 0)).setCell ⟨w.heap.size + 1 + 1, 3, none⟩ (.int .i64 0)).setCell ⟨w.heap.size + 1 + 1, 4, none⟩ (.int .i64 0)) := ⟨_, rfl⟩
  revert hwq
  refine z213 ?_
  intro u0 u1 u2 u3 u4 hBq
  exact z215
 | true =>
  obtain ⟨eL, em, eI, eH, eS, eP⟩ := hok hmk
  have HE := lh (⟨eL, em, eI, eH, eS, eP⟩ : L = stL f n kd id tt0 z ∧ m = stN n kd ∧ I' = stI I kd z ∧ H' = stH H kd z ∧ S' = stS S kd z ∧ P' = stP f n P kd id)
  clear hok eL em eI eH eS eP
  go_upto_region 4 with fail
  refine z161 ?_
  intro w4 hw4
  have b34 := ba hw4
  have h6 := an hw4
  have hr4 := (b34.block (w.heap.size + 1 + 1) (gL hr1)).trans hr1
  have B4 := below_of B3 b34 B3.size
  have hO4 := ownsRow_below hown b34
  have l3 : w.heap.size + 1 + 1 < w3.heap.size := (gL hr1)
  clear hw4 hr1 B3 hown b34
  generalize w3.heap.size = g6 at *
  have n1 : g6 ≠ w.heap.size + 1 + 1 := by omega
  have n2 : w.heap.size + 1 + 1 ≠ g6 := by omega
  obtain ⟨e0, e1, e2, e3, e4⟩ := cells5 h6
  obtain ⟨r0, r1, r2, r3, r4⟩ := cells5 hr4
  have rf := fz hr4
  have HBW := lh B4
  have HOW := lh hO4
  have NR := lh nR
  clear h6 hr4 B4 hO4 nR low
  go_wp2
  obtain ⟨wq, hwq⟩ : ∃ wq, wq = (((((w4.setCell ⟨w.heap.size + 1 + 1, 0, none⟩ (.slice A' m c')).setCell ⟨w.heap.size + 1 + 1, 1, none⟩ (.int .i64 I')).setCell ⟨w.heap.size + 1 + 1, 2, none⟩ (.int .i64 H')).setCell ⟨w.heap.size + 1 + 1, 3, none⟩ (.int .i64 S')).setCell ⟨w.heap.size + 1 + 1, 4, none⟩ (.int .i64 P')) := ⟨_, rfl⟩
  rw [← hwq]
  have u0 : cE wq (w.heap.size + 1 + 1) 0 (.slice A' m c') := by rw [hwq]; go_simp
  have u1 : cI wq (w.heap.size + 1 + 1) 1 I' := by rw [hwq]; go_simp
  have u2 : cI wq (w.heap.size + 1 + 1) 2 H' := by rw [hwq]; go_simp
  have u3 : cI wq (w.heap.size + 1 + 1) 3 S' := by rw [hwq]; go_simp
  have u4 : cI wq (w.heap.size + 1 + 1) 4 P' := by rw [hwq]; go_simp
  refine z214 ?_
  intro hBq
  have no : ∀ j : Nat, (Value.slice A' m c').ownBlock ≠ some (⟨w.heap.size + 1 + 1, j, none⟩ : Addr).block := fun j e => NR.out _ e rfl
  have hOq := ownsRow_setCell_other (ownsRow_setCell_other (ownsRow_setCell_other (ownsRow_setCell_other (ownsRow_setCell_other HOW.out (no 0) (.slice A' m c')) (no 1) (.int .i64 I')) (no 2) (.int .i64 H')) (no 3) (.int .i64 S')) (no 4) (.int .i64 P')
  rw [← hwq] at hOq
  clear hwq HOW HBW
  refine z66 ?_
  refine bodyPost_ret (by simp [results, Tryz.results71, go_sem, u0, u1, u2, u3, u4]; try rfl) rfl ?_
  rw [hmk]
  exact stepPost_yes HE.out hmc hcm hOq hBq
end Go.Proofs.YtpndjhelpoenpaaGreatDoor
