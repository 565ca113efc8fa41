/-
  The reference's step of one pan, where it leads brine to another one.
-/
import Derived.Test.YtjkockhldaacbaaDoorPk1
import Derived.Test.YtjkockhldaacbaaDoorPutRow
import Derived.Test.YtjkockhldaacbaaDoorBrineW
import Derived.Test.YtjkockhldaacbaaDoorPartW
namespace Go.Proofs.YtjkockhldaacbaaDoor
open Go.RowKit Go.Sort
set_option linter.unusedVariables false
set_option linter.unusedSimpArgs false
attribute [local go_sem ↓] Go.wp_at_zero Go.wp_at_succ
def leadOk (f : Nat → Int) (i : Nat) (z : Int) : Bool := decide (z ≤ massV (f (i * 4 + 2)) (f (i * 4 + 3)))
def leadF (f : Nat → Int) (i k : Nat) (z : Int) : Nat → Int :=
  if leadOk f i z then setB (setB f i (wrap64 (f (i * 4 + 2) - wrap64 (z - (partV (f (i * 4 + 2)) (f (i * 4 + 3)) z)))) (wrap64 (f (i * 4 + 3) - (partV (f (i * 4 + 2)) (f (i * 4 + 3)) z)))) k (wrap64 (f (k * 4 + 2) + wrap64 (z - (partV (f (i * 4 + 2)) (f (i * 4 + 3)) z)))) (wrap64 (f (k * 4 + 3) + (partV (f (i * 4 + 2)) (f (i * 4 + 3)) z))) else f
section
variable {P : Program} {md : Region.Mode} {ops : Array Oper} {Q : Exit → Act → World → Prop} {S : World → Prop}
/-- Two operations one behind the other, a third at any place. -/
theorem wpAnyH_seqA {i j k di dj dk : Nat} {fuel : Nat} {listed : Array Bool} {a : Act} {w : World} {oi oj ok : Oper} {skip : List Nat} {Pi Pj Pk : Value → World → Prop}
    (hoi : ops[i]? = some oi) (hoj : ops[j]? = some oj) (hok : ops[k]? = some ok) (hgi : oi.guard = none) (hgj : oj.guard = none) (hgk : ok.guard = none)
    (hij : i ≠ j ∧ i ≠ k ∧ j ≠ k) (hd : di ≠ dj ∧ di ≠ dk ∧ dj ≠ dk) (hs : di ∈ skip ∧ dj ∈ skip ∧ dk ∈ skip)
    (r0 : Region.ready md ops listed = [i, k]) (ri : Region.ready md ops (listed.setIfInBounds i true) = [j, k]) (rk : Region.ready md ops (listed.setIfInBounds k true) = [i])
    (rij : Region.ready md ops ((listed.setIfInBounds i true).setIfInBounds j true) = [k]) (rik : Region.ready md ops ((listed.setIfInBounds i true).setIfInBounds k true) = [j])
    (Ji : Job P Q S oi di a skip Pi) (Jj : Job P Q S oj dj a skip Pj) (Jk : Job P Q S ok dk a skip Pk) (si : Stays Pi) (sj : Stays Pj) (sk : Stays Pk) (hst : ∀ w1 w2, S w1 → Below w1.heap.size w1 w2 → S w2) (hS : S w)
    (h : ∀ vi vj vk w', Pi vi w' → Pj vj w' → Pk vk w' → S w' → Below w.heap.size w w' →
      wpAnyH P md ops Q S fuel (((listed.setIfInBounds i true).setIfInBounds j true).setIfInBounds k true) (((a.put (some di) vi).put (some dj) vj).put (some dk) vk) w') :
    wpAnyH P md ops Q S (fuel + 3) listed a w := by
  obtain ⟨qij, qik, qjk⟩ := hij
  obtain ⟨dij, dik, djk⟩ := hd
  obtain ⟨si', sj', sk'⟩ := hs
  refine wpAnyH_ready (fuel := fuel + 2) r0 (by simp) (AllReadyH.cons hoi (fun K hK => ?_) (AllReadyH.cons hok (fun K hK => ?_) AllReadyH.nil))
  · rw [if_pos (wanted_plain hgi)]
    refine Ji a w K (fun _ _ => rfl) hS (fun v w2 hp hb => ?_)
    have hB := hst _ _ hS hb
    refine hK.out _ _ hB (fun _ => ?_)
    refine wpAnyH_two (fuel := fuel) hoj hok hgj hgk qjk djk sj' sk' ri rij rik (Jj.put si' v) (Jk.put si' v) sj sk hst hB (fun u t w3 h1 h2 hB3 hb3 => ?_)
    exact h v u t w3 (si _ _ _ hp hb3) h1 h2 hB3 (hb.trans (hb3.mono hb.size))
  · rw [if_pos (wanted_plain hgk)]
    refine Jk a w K (fun _ _ => rfl) hS (fun v w2 hp hb => ?_)
    have hB := hst _ _ hS hb
    refine hK.out _ _ hB (fun _ => ?_)
    refine wpAnyH_job (fuel := fuel + 1) hoi hgi rk (Ji.put sk' v) hst hB (fun u w3 hp3 hB3 hb3 => ?_)
    refine wpAnyH_job (fuel := fuel) hoj hgj (by rw [listed_comm _ (Ne.symm qik)]; exact rik) ((Jj.put sk' v).put si' u) hst hB3 (fun t w4 hp4 hB4 hb4 => ?_)
    rw [listed_comm _ (Ne.symm qik), listed_comm (listed.setIfInBounds i true) (Ne.symm qjk), put_comm _ _ _ (Ne.symm dik), put_comm (a.put (some di) u) _ _ (Ne.symm djk)]
    have hb24 := hb3.trans (hb4.mono hb3.size)
    exact h u t v w4 (si _ _ _ hp3 hb4) hp4 (sk _ _ _ hp hb24) hB4 (hb.trans (hb24.mono hb.size))
end
set_option maxRecDepth 100000 in
set_option maxHeartbeats 2000000 in
theorem l25Pan_lead (A : Option Addr) (n c lo hi : Nat) (f : Nat → Int) (I H S P : Int) (id tt0 z : Int) (i kk : Nat) (hi' : i < n) (hk' : kk < n) (w : World) (hs : Sl w lo hi 4 A n f) (hn : n ≤ 1048576) (hnc : n ≤ c) (hz0 : 0 < z) (hfk : findV (pid f) tt0 n 0 = (kk : Int)) :
    Calls Tryd.prog 64 #[.agg #[.slice A n c, .int .i64 I, .int .i64 H, .int .i64 S, .int .i64 P], .agg #[.int .i64 3, .int .i64 id, .int .i64 tt0, .int .i64 z], .int .i64 i] w (panPost w (leadF f i kk z) n I H S P (leadOk f i z)) := by
  have hX : Below w.heap.size w (((w.alloc (.cells #[.slice A n c, .int .i64 I, .int .i64 H, .int .i64 S, .int .i64 P] 26)).alloc (.cells #[.int .i64 3, .int .i64 id, .int .i64 tt0, .int .i64 z] 34)).alloc (.cells #[.slice none 0 0, .int .i64 0, .int .i64 0, .int .i64 0, .int .i64 0] 26)) := (((Below.refl _ w).alloc (Nat.le_refl _) _).alloc (by simp) _).alloc (by simp; omega) _
  have HS : Hid (Sl (((w.alloc (.cells #[.slice A n c, .int .i64 I, .int .i64 H, .int .i64 S, .int .i64 P] 26)).alloc (.cells #[.int .i64 3, .int .i64 id, .int .i64 tt0, .int .i64 z] 34)).alloc (.cells #[.slice none 0 0, .int .i64 0, .int .i64 0, .int .i64 0, .int .i64 0] 26)) lo hi 4 A n f) := hs.below hX
  have HX := Lib.hid hX
  clear hs hX
  obtain ⟨b, off, rfl, hbw, _⟩ := HS.out.open_ (Below.refl _ _) (by omega)
  have HC : ∀ w', Below (((w.alloc (.cells #[.slice (some ⟨b, off, none⟩) n c, .int .i64 I, .int .i64 H, .int .i64 S, .int .i64 P] 26)).alloc (.cells #[.int .i64 3, .int .i64 id, .int .i64 tt0, .int .i64 z] 34)).alloc (.cells #[.slice none 0 0, .int .i64 0, .int .i64 0, .int .i64 0, .int .i64 0] 26)).heap.size (((w.alloc (.cells #[.slice (some ⟨b, off, none⟩) n c, .int .i64 I, .int .i64 H, .int .i64 S, .int .i64 P] 26)).alloc (.cells #[.int .i64 3, .int .i64 id, .int .i64 tt0, .int .i64 z] 34)).alloc (.cells #[.slice none 0 0, .int .i64 0, .int .i64 0, .int .i64 0, .int .i64 0] 26)) w' → ∀ m, m < n → w'.cell? ⟨b, off + m * 4 + 2, none⟩ = some (.int .i64 (f (m * 4 + 2))) ∧ w'.cell? ⟨b, off + m * 4 + 3, none⟩ = some (.int .i64 (f (m * 4 + 3))) := by
    intro w' hq m hm
    obtain ⟨_, HC⟩ := HS.out.open_at hq (by omega)
    obtain ⟨c0, c1, c2, c3⟩ := cell4 HC hm
    exact ⟨c2, c3⟩
  have HSK := HS
  have HCK := Lib.hid (fun w' hq => HC w' hq kk hk')
  replace HC := fun w' hq => HC w' hq i hi'
  have HF : Hid (∀ w', Below (((w.alloc (.cells #[.slice (some ⟨b, off, none⟩) n c, .int .i64 I, .int .i64 H, .int .i64 S, .int .i64 P] 26)).alloc (.cells #[.int .i64 3, .int .i64 id, .int .i64 tt0, .int .i64 z] 34)).alloc (.cells #[.slice none 0 0, .int .i64 0, .int .i64 0, .int .i64 0, .int .i64 0] 26)).heap.size (((w.alloc (.cells #[.slice (some ⟨b, off, none⟩) n c, .int .i64 I, .int .i64 H, .int .i64 S, .int .i64 P] 26)).alloc (.cells #[.int .i64 3, .int .i64 id, .int .i64 tt0, .int .i64 z] 34)).alloc (.cells #[.slice none 0 0, .int .i64 0, .int .i64 0, .int .i64 0, .int .i64 0] 26)) w' → w'.cell? ⟨w.heap.size, 0, none⟩ = some (.slice (some ⟨b, off, none⟩) n c) ∧ w'.cell? ⟨w.heap.size, 1, none⟩ = some (.int .i64 I) ∧ w'.cell? ⟨w.heap.size, 2, none⟩ = some (.int .i64 H) ∧ w'.cell? ⟨w.heap.size, 3, none⟩ = some (.int .i64 S) ∧ w'.cell? ⟨w.heap.size, 4, none⟩ = some (.int .i64 P) ∧ w'.cell? ⟨b, off + i * 4 + 2, none⟩ = some (.int .i64 (f (i * 4 + 2))) ∧ w'.cell? ⟨b, off + i * 4 + 3, none⟩ = some (.int .i64 (f (i * 4 + 3)))) := fun w' hq => ⟨(hq.cell (p := ⟨w.heap.size, 0, none⟩) (by simp; omega)).trans (by go_simp), (hq.cell (p := ⟨w.heap.size, 1, none⟩) (by simp; omega)).trans (by go_simp), (hq.cell (p := ⟨w.heap.size, 2, none⟩) (by simp; omega)).trans (by go_simp), (hq.cell (p := ⟨w.heap.size, 3, none⟩) (by simp; omega)).trans (by go_simp), (hq.cell (p := ⟨w.heap.size, 4, none⟩) (by simp; omega)).trans (by go_simp), (HC w' hq).1, (HC w' hq).2⟩
  have hi0 : (0 : Int) ≤ (i : Int) := by omega
  have hin : (i : Int) < (n : Int) := by omega
  have hk0i : (0 : Int) ≤ (kk : Int) := by omega
  have hkni : (kk : Int) < (n : Int) := by omega
  clear HC
  go_enter Tryd.func64, Tryd.ntmps64
  go_wp2_with fail
  refine wp_region_held_drew (S := fun w' => Below (((w.alloc (.cells #[.slice (some ⟨b, off, none⟩) n c, .int .i64 I, .int .i64 H, .int .i64 S, .int .i64 P] 26)).alloc (.cells #[.int .i64 3, .int .i64 id, .int .i64 tt0, .int .i64 z] 34)).alloc (.cells #[.slice none 0 0, .int .i64 0, .int .i64 0, .int .i64 0, .int .i64 0] 26)).heap.size (((w.alloc (.cells #[.slice (some ⟨b, off, none⟩) n c, .int .i64 I, .int .i64 H, .int .i64 S, .int .i64 P] 26)).alloc (.cells #[.int .i64 3, .int .i64 id, .int .i64 tt0, .int .i64 z] 34)).alloc (.cells #[.slice none 0 0, .int .i64 0, .int .i64 0, .int .i64 0, .int .i64 0] 26)) w') (by kernel_rfl) ((Below.refl _ (((w.alloc (.cells #[.slice (some ⟨b, off, none⟩) n c, .int .i64 I, .int .i64 H, .int .i64 S, .int .i64 P] 26)).alloc (.cells #[.int .i64 3, .int .i64 id, .int .i64 tt0, .int .i64 z] 34)).alloc (.cells #[.slice none 0 0, .int .i64 0, .int .i64 0, .int .i64 0, .int .i64 0] 26))).drew) (fun hHeld => ?_)
  refine tk (v := ?_) 0 13 HF rfl ?_ hHeld ?_
  rotate_left; · (intro _ _ _; go_simp; try with_reducible rfl)
  simp only [Act.put, p1, p2, p3]
  refine tk (v := ?_) 2 15 HF rfl ?_ hHeld ?_
  rotate_left; · (intro _ _ _; go_simp; try with_reducible rfl)
  simp only [Act.put, p1, p2, p3]
  refine tk (v := ?_) 4 17 HF rfl ?_ hHeld ?_
  rotate_left; · (intro _ _ _; go_simp; try with_reducible rfl)
  simp only [Act.put, p1, p2, p3]
  refine tk (v := ?_) 3 16 HF rfl ?_ hHeld ?_
  rotate_left; · (intro _ _ _; go_simp; try with_reducible rfl)
  simp only [Act.put, p1, p2, p3]
  refine tk (v := ?_) 5 18 HF rfl ?_ hHeld ?_
  rotate_left; · (intro _ _ _; go_simp; try with_reducible rfl)
  simp only [Act.put, p1, p2, p3]
  refine tk (v := ?_) 6 19 HF rfl ?_ hHeld ?_
  rotate_left; · (intro _ _ _; go_simp; try with_reducible rfl)
  simp only [Act.put, p1, p2, p3]
  refine tk (v := ?_) 7 20 HF rfl ?_ hHeld ?_
  rotate_left; · (intro _ _ _; go_simp; try with_reducible rfl)
  simp only [Act.put, p1, p2, p3]
  refine wpAnyH_three (fuel := 2) (i := 1) (j := 8) (k := 9) (di := 14) (dj := 8) (dk := 9) (skip := [14, 8, 9]) (Pi := (fun v w' => ∃ A' c', v = .agg #[.slice A' n c', .int .i64 I, .int .i64 H, .int .i64 S, .int .i64 P] ∧ n ≤ c' ∧ c' ≤ maxLen ∧ w'.ownsRow (((w.alloc (.cells #[.slice (some ⟨b, off, none⟩) n c, .int .i64 I, .int .i64 H, .int .i64 S, .int .i64 P] 26)).alloc (.cells #[.int .i64 3, .int .i64 id, .int .i64 tt0, .int .i64 z] 34)).alloc (.cells #[.slice none 0 0, .int .i64 0, .int .i64 0, .int .i64 0, .int .i64 0] 26)).heap.size 48 4 (.slice A' n c') n ((cellsL f n).map (Value.int .i64)))) rfl rfl rfl rfl rfl rfl (by decide) (by decide) (by decide) (by kernel_rfl) (by kernel_rfl) (by kernel_rfl) (by kernel_rfl) (by kernel_rfl) (by kernel_rfl) (by kernel_rfl) ?jc (Job.alloc (nb := (((w.alloc (.cells #[.slice (some ⟨b, off, none⟩) n c, .int .i64 I, .int .i64 H, .int .i64 S, .int .i64 P] 26)).alloc (.cells #[.int .i64 3, .int .i64 id, .int .i64 tt0, .int .i64 z] 34)).alloc (.cells #[.slice none 0 0, .int .i64 0, .int .i64 0, .int .i64 0, .int .i64 0] 26)).heap.size) (obj := .cells #[.slice none 0 0, .int .i64 0, .int .i64 0, .int .i64 0, .int .i64 0] 26) rfl (fun _ h => h.size) (fun a' w1 => by go_simp; try rfl)) (Job.alloc (nb := (((w.alloc (.cells #[.slice (some ⟨b, off, none⟩) n c, .int .i64 I, .int .i64 H, .int .i64 S, .int .i64 P] 26)).alloc (.cells #[.int .i64 3, .int .i64 id, .int .i64 tt0, .int .i64 z] 34)).alloc (.cells #[.slice none 0 0, .int .i64 0, .int .i64 0, .int .i64 0, .int .i64 0] 26)).heap.size) (obj := .cells #[.int .i64 0, .int .i64 0] 46) rfl (fun _ h => h.size) (fun a' w1 => by go_simp; try rfl)) ?stc stays_alloc stays_alloc below_stays hHeld ?nx
  case stc =>
    rintro v w1 w2 ⟨A', c', e, h1, h2, h⟩ hb
    exact ⟨A', c', e, h1, h2, ownsRow_below h hb⟩
  case jc =>
    intro a' w1 K hev hb hK
    have h1 : a'.eval (.tmp 13) = .agg #[.slice (some ⟨b, off, none⟩) n c, .int .i64 I, .int .i64 H, .int .i64 S, .int .i64 P] := (hev 13 (by decide)).trans rfl
    have h2 : a'.tmps[13]?.getD undef = .agg #[.slice (some ⟨b, off, none⟩) n c, .int .i64 I, .int .i64 H, .int .i64 S, .int .i64 P] := by simpa [Act.eval] using h1
    have HK := Lib.hid hK
    have HSL := Lib.hid (HS.out.below hb)
    have hbs := hb.size
    clear hev h1 hK HF
    go_simp
    go_at_call 62
    refine (l25Own_any _ n c lo hi f I H S P w1 HSL.out hn hnc (by simp)).mono ?_
    rintro e w2 ⟨A', c', rfl, h3, h4, ho, hb2⟩
    exact HK.out _ w2 ⟨A', c', rfl, h3, h4, ownsRow_monoP ho hbs⟩ hb2
  case nx =>
  rintro vi vj vk w4 ⟨A', c', rfl, hnc', hcm', hO⟩ ⟨g8, rfl, l8, h8⟩ ⟨g9, rfl, l9, h9⟩ hB4 _
  obtain ⟨ga, rfl⟩ : ∃ ga, A' = some ⟨ga, 0, none⟩ := by
    rcases form_ofP hO with ⟨h0, _⟩ | ⟨g, gc, hv⟩
    · omega
    · cases hv; exact ⟨g, rfl⟩
  simp only [Act.put, p1, p2, p3]
  refine wpAnyH_store (fuel := 1) (i := 10) rfl (by kernel_rfl) g8 0 (.agg #[.slice (some ⟨ga, 0, none⟩) n c', .int .i64 I, .int .i64 H, .int .i64 S, .int .i64 P]) 26 #[.slice none 0 0, .int .i64 0, .int .i64 0, .int .i64 0, .int .i64 0] rfl rfl infoWorks h8 (Nat.le_refl 5) (by simp [Value.cells, Value.oneCell']) (fun w' hg => hB4.grown hg hB4.size (fun k hk => by cases hk; exact l8)) ?k8
  case k8 =>
  intro w5 h85 hg5 hB5
  have ne89 : g9 ≠ g8 := by
    intro e
    subst e
    rw [h8] at h9
    simp at h9
  have h95 := (hg5.block g9 (Array.getElem?_eq_some_iff.1 h9).1 (by simp [ne89])).trans h9
  have hO5 := own_other hO h8 (by decide) hg5
  refine wpAnyH_store (fuel := 0) (i := 11) rfl (by kernel_rfl) g9 0 (.agg #[.int .i64 (f (i * 4 + 2)), .int .i64 (f (i * 4 + 3))]) 46 #[.int .i64 0, .int .i64 0] rfl rfl infoBrine h95 (Nat.le_refl 2) (by simp [Value.cells, Value.oneCell']) (fun w' hg => hB5.grown hg hB5.size (fun k hk => by cases hk; exact l9)) ?k9
  case k9 =>
  intro w6 h96 hg6 hB6
  have h86 := (hg6.block g8 (Array.getElem?_eq_some_iff.1 h85).1 (by simp [Ne.symm ne89])).trans h85
  have hO6 := own_other hO5 h95 (by decide) hg6
  refine wpAnyH_done (by kernel_rfl) ?_ _
  obtain ⟨b0, b1, b2, b3, b4, c2, c3⟩ := HF.out w6 hB6
  have s0 : w6.cell? ⟨w.heap.size + 1, 0, none⟩ = some (.int .i64 3) := (hB6.cell (p := ⟨w.heap.size + 1, 0, none⟩) (by simp)).trans (by go_simp)
  have s1 : w6.cell? ⟨w.heap.size + 1, 1, none⟩ = some (.int .i64 id) := (hB6.cell (p := ⟨w.heap.size + 1, 1, none⟩) (by simp)).trans (by go_simp)
  have s2 : w6.cell? ⟨w.heap.size + 1, 2, none⟩ = some (.int .i64 tt0) := (hB6.cell (p := ⟨w.heap.size + 1, 2, none⟩) (by simp)).trans (by go_simp)
  have s3 : w6.cell? ⟨w.heap.size + 1, 3, none⟩ = some (.int .i64 z) := (hB6.cell (p := ⟨w.heap.size + 1, 3, none⟩) (by simp)).trans (by go_simp)
  have hr6 : w6.heap[w.heap.size + 1 + 1]? = some (.cells #[.slice none 0 0, .int .i64 0, .int .i64 0, .int .i64 0, .int .i64 0] 26) := (hB6.block (w.heap.size + 1 + 1) (by simp)).trans (by have := heap_alloc_new ((w.alloc (.cells #[.slice (some ⟨b, off, none⟩) n c, .int .i64 I, .int .i64 H, .int .i64 S, .int .i64 P] 26)).alloc (.cells #[.int .i64 3, .int .i64 id, .int .i64 tt0, .int .i64 z] 34)) (.cells #[.slice none 0 0, .int .i64 0, .int .i64 0, .int .i64 0, .int .i64 0] 26); simpa using this)
  have h86' : w6.heap[g8]? = some (.cells #[.slice (some ⟨ga, 0, none⟩) n c', .int .i64 I, .int .i64 H, .int .i64 S, .int .i64 P] 26) := h86
  have h96' : w6.heap[g9]? = some (.cells #[.int .i64 (f (i * 4 + 2)), .int .i64 (f (i * 4 + 3))] 46) := h96
  have e0 : w6.cell? ⟨g8, 0, none⟩ = some (.slice (some ⟨ga, 0, none⟩) n c') := by rw [cell_of_row w6 g8 0 _ _ (0, 0) h86']; rfl
  have e1 : w6.cell? ⟨g8, 1, none⟩ = some (.int .i64 I) := by rw [cell_of_row w6 g8 1 _ _ (0, 0) h86']; rfl
  have e2 : w6.cell? ⟨g8, 2, none⟩ = some (.int .i64 H) := by rw [cell_of_row w6 g8 2 _ _ (0, 0) h86']; rfl
  have e3 : w6.cell? ⟨g8, 3, none⟩ = some (.int .i64 S) := by rw [cell_of_row w6 g8 3 _ _ (0, 0) h86']; rfl
  have e4 : w6.cell? ⟨g8, 4, none⟩ = some (.int .i64 P) := by rw [cell_of_row w6 g8 4 _ _ (0, 0) h86']; rfl
  have ef : ∀ j, w6.frozen? ⟨g8, j, none⟩ = false := fun j => frozen_of_row w6 g8 j _ _ h86'
  have d0 : w6.cell? ⟨g9, 0, none⟩ = some (.int .i64 (f (i * 4 + 2))) := by rw [cell_of_row w6 g9 0 _ _ (0, 0) h96']; rfl
  have d1 : w6.cell? ⟨g9, 1, none⟩ = some (.int .i64 (f (i * 4 + 3))) := by rw [cell_of_row w6 g9 1 _ _ (0, 0) h96']; rfl
  have a2 : w6.cell? ⟨ga, i * 4 + 2, none⟩ = some (.int .i64 (f (i * 4 + 2))) := by rw [World.ownsRow.cellAt hO6 (i * 4 + 2) (by omega), List.getElem?_map, cellsL_at f n _ (by omega)]; rfl
  have a3 : w6.cell? ⟨ga, i * 4 + 3, none⟩ = some (.int .i64 (f (i * 4 + 3))) := by rw [World.ownsRow.cellAt hO6 (i * 4 + 3) (by omega), List.getElem?_map, cellsL_at f n _ (by omega)]; rfl
  have af : ∀ j, w6.frozen? ⟨ga, j, none⟩ = false := fun j => World.ownsRow.frozenAt hO6 j
  have nga : ga ≠ g8 := by
    intro e
    subst e
    exact row_ne hO6 h86' (by decide)
  have lga : (((w.alloc (.cells #[.slice (some ⟨b, off, none⟩) n c, .int .i64 I, .int .i64 H, .int .i64 S, .int .i64 P] 26)).alloc (.cells #[.int .i64 3, .int .i64 id, .int .i64 tt0, .int .i64 z] 34)).alloc (.cells #[.slice none 0 0, .int .i64 0, .int .i64 0, .int .i64 0, .int .i64 0] 26)).heap.size ≤ ga := (World.ownsRow.lt hO6 ga rfl).1
  have nga9 : ga ≠ g9 := by
    intro e
    subst e
    exact row_ne hO6 h96' (by decide)
  simp only [World.size_alloc] at lga l8 l9
  have nga0 : ga ≠ w.heap.size := by omega
  have mga0 : w.heap.size ≠ ga := by omega
  have nga1 : ga ≠ w.heap.size + 1 := by omega
  have mga1 : w.heap.size + 1 ≠ ga := by omega
  have nga2 : ga ≠ w.heap.size + 1 + 1 := by omega
  have mga2 : w.heap.size + 1 + 1 ≠ ga := by omega
  have ng80 : g8 ≠ w.heap.size := by omega
  have mg80 : w.heap.size ≠ g8 := by omega
  have ng81 : g8 ≠ w.heap.size + 1 := by omega
  have mg81 : w.heap.size + 1 ≠ g8 := by omega
  have ng82 : g8 ≠ w.heap.size + 1 + 1 := by omega
  have mg82 : w.heap.size + 1 + 1 ≠ g8 := by omega
  have ng90 : g9 ≠ w.heap.size := by omega
  have mg90 : w.heap.size ≠ g9 := by omega
  have ng91 : g9 ≠ w.heap.size + 1 := by omega
  have mg91 : w.heap.size + 1 ≠ g9 := by omega
  have ng92 : g9 ≠ w.heap.size + 1 + 1 := by omega
  have mg92 : w.heap.size + 1 + 1 ≠ g9 := by omega
  have nn1 : g8 ≠ ga := Ne.symm nga
  have nn2 : g9 ≠ ga := Ne.symm nga9
  have nn3 : g8 ≠ g9 := Ne.symm ne89
  have HO6 := Lib.hid hO6
  have HB6 := Lib.hid hB6
  have H86 := Lib.hid h86'
  have HR6 := Lib.hid hr6
  clear hO6 hB6 h86 h86' h96 h96' hg6 hg5 hB5 hB4 hO hO5 h8 h9 h85 h95 HF HS hr6 hHeld
  go_wp2_with fail
  clear a2 a3 af
  have HF : Hid (∀ w', Below w6.heap.size w6 w' → w'.cell? ⟨w.heap.size + 1, 3, none⟩ = some (.int .i64 z) ∧ w'.cell? ⟨g9, 0, none⟩ = some (.int .i64 (f (i * 4 + 2))) ∧ w'.cell? ⟨g9, 1, none⟩ = some (.int .i64 (f (i * 4 + 3)))) := by
    intro w' hq
    exact ⟨(hq.cell (p := ⟨w.heap.size + 1, 3, none⟩) (World.block_lt_of_cell? _ _ s3)).trans s3, (hq.cell (p := ⟨g9, 0, none⟩) (World.block_lt_of_cell? _ _ d0)).trans d0, (hq.cell (p := ⟨g9, 1, none⟩) (World.block_lt_of_cell? _ _ d1)).trans d1⟩
  refine wp_region_held_drew (S := fun w' => Below (w6).heap.size (w6) w') (by kernel_rfl) ((Below.refl _ _).drew) (fun hHeld => ?_)
  refine tk (v := ?_) 0 50 HF rfl ?_ hHeld ?_
  rotate_left; · (intro _ _ _; go_simp; try with_reducible rfl)
  simp only [Act.put, p1, p2, p3]
  refine tk (v := ?_) 1 51 HF rfl ?_ hHeld ?_
  rotate_left; · (intro _ _ _; go_simp; try with_reducible rfl)
  simp only [Act.put, p1, p2, p3]
  refine tk (v := ?_) 2 52 HF rfl ?_ hHeld ?_
  rotate_left; · (intro _ _ _; go_simp; try with_reducible rfl)
  simp only [Act.put, p1, p2, p3]
  refine wpAnyH_ready (rs := [3]) (by kernel_rfl) (by simp) ?_
  refine AllReadyH.cons rfl (fun K hK => ?_) AllReadyH.nil
  go_simp
  (go_at_call 28; refine (l2Mass_any _ _ _).mono ?_; rintro e w7 ⟨rfl, hb2⟩)
  refine hK.out _ _ (hHeld.trans (hb2.mono hHeld.size)) (fun hHeld => ?_)
  clear hK K hb2
  refine tk (v := ?_) 4 54 HF rfl ?_ hHeld ?_
  rotate_left; · (intro _ _ _; go_simp; try with_reducible rfl)
  simp only [Act.put, p1, p2, p3]
  refine wpAnyH_done (by kernel_rfl) ?_ _
  have h87 := (hHeld.block g8 (Array.getElem?_eq_some_iff.1 H86.out).1).trans H86.out
  have xr7 := (hHeld.block (w.heap.size + 1 + 1) (Array.getElem?_eq_some_iff.1 HR6.out).1).trans HR6.out
  have hO7 := ownsRow_below HO6.out hHeld
  have hX37 := HB6.out.trans (hHeld.mono HB6.out.size)
  have hB7 := HX.out.trans (hX37.mono HX.out.size)
  have d07 := (hHeld.cell (p := ⟨g9, 0, none⟩) (World.block_lt_of_cell? _ _ d0)).trans d0
  have d17 := (hHeld.cell (p := ⟨g9, 1, none⟩) (World.block_lt_of_cell? _ _ d1)).trans d1
  have s27 := (hHeld.cell (p := ⟨w.heap.size + 1, 2, none⟩) (World.block_lt_of_cell? _ _ s2)).trans s2
  have s37 := (hHeld.cell (p := ⟨w.heap.size + 1, 3, none⟩) (World.block_lt_of_cell? _ _ s3)).trans s3
  have b07 := (hHeld.cell (p := ⟨w.heap.size, 0, none⟩) (World.block_lt_of_cell? _ _ b0)).trans b0
  have b17 := (hHeld.cell (p := ⟨w.heap.size, 1, none⟩) (World.block_lt_of_cell? _ _ b1)).trans b1
  have b27 := (hHeld.cell (p := ⟨w.heap.size, 2, none⟩) (World.block_lt_of_cell? _ _ b2)).trans b2
  have b37 := (hHeld.cell (p := ⟨w.heap.size, 3, none⟩) (World.block_lt_of_cell? _ _ b3)).trans b3
  have b47 := (hHeld.cell (p := ⟨w.heap.size, 4, none⟩) (World.block_lt_of_cell? _ _ b4)).trans b4
  clear hHeld HF e0 e1 e2 e3 e4 ef b0 b1 b2 b3 b4 s0 s1 s2 s3 c2 c3 d0 d1 HO6 HB6 H86 HR6
  by_cases hzm : massV (f (i * 4 + 2)) (f (i * 4 + 3)) < z
  · have x8 : w7.heap[g8]? = some (.cells #[.slice (some ⟨ga, 0, none⟩) n c', .int .i64 I, .int .i64 H, .int .i64 S, .int .i64 P] 26) := h87
    have xr : w7.heap[w.heap.size + 1 + 1]? = some (.cells #[.slice none 0 0, .int .i64 0, .int .i64 0, .int .i64 0, .int .i64 0] 26) := xr7
    have HO7 := Lib.hid hO7
    have BB := Lib.hid hB7
    have hpo : leadOk f i z = false := by simp [leadOk]; omega
    have hpf : leadF f i kk z = f := by simp [leadF, hpo]
    have HPO := Lib.hid hpo
    have HPF := Lib.hid hpf
    clear hpo hpf
    clear h87 xr7 hO7 hX37 hB7 d07 d17 s27 s37 b07 b17 b27 b37 b47
    obtain ⟨e0, e1, e2, e3, e4⟩ := cells5 x8
    obtain ⟨r0, r1, r2, r3, r4⟩ := cells5 xr
    have rf : ∀ j, w7.frozen? ⟨w.heap.size + 1 + 1, j, none⟩ = false := fun j => frozen_of_row w7 (w.heap.size + 1 + 1) j _ _ xr
    clear x8 xr
    go_wp2
    obtain ⟨wq, hwq⟩ : ∃ wq, wq = (((((w7.setCell ⟨w.heap.size + 1 + 1, 0, none⟩ (.slice (some ⟨ga, 0, none⟩) n c')).setCell ⟨w.heap.size + 1 + 1, 1, none⟩ (.int .i64 I)).setCell ⟨w.heap.size + 1 + 1, 2, none⟩ (.int .i64 H)).setCell ⟨w.heap.size + 1 + 1, 3, none⟩ (.int .i64 S)).setCell ⟨w.heap.size + 1 + 1, 4, none⟩ (.int .i64 P)) := ⟨_, rfl⟩
    rw [← hwq]
    have q0 : wq.cell? ⟨w.heap.size + 1 + 1, 0, none⟩ = some (.slice (some ⟨ga, 0, none⟩) n c') := by rw [hwq]; go_simp
    have q1 : wq.cell? ⟨w.heap.size + 1 + 1, 1, none⟩ = some (.int .i64 I) := by rw [hwq]; go_simp
    have q2 : wq.cell? ⟨w.heap.size + 1 + 1, 2, none⟩ = some (.int .i64 H) := by rw [hwq]; go_simp
    have q3 : wq.cell? ⟨w.heap.size + 1 + 1, 3, none⟩ = some (.int .i64 S) := by rw [hwq]; go_simp
    have q4 : wq.cell? ⟨w.heap.size + 1 + 1, 4, none⟩ = some (.int .i64 P) := by rw [hwq]; go_simp
    have hBq : Below w.heap.size w wq := by
      rw [hwq]
      exact (((((BB.out.setCell (show w.heap.size ≤ w.heap.size + 1 + 1 by omega) _).setCell (show w.heap.size ≤ w.heap.size + 1 + 1 by omega) _).setCell (show w.heap.size ≤ w.heap.size + 1 + 1 by omega) _).setCell (show w.heap.size ≤ w.heap.size + 1 + 1 by omega) _).setCell (show w.heap.size ≤ w.heap.size + 1 + 1 by omega) _)
    have no : ∀ j : Nat, (.slice (some ⟨ga, 0, none⟩) n c' : Value).ownBlock ≠ some (⟨w.heap.size + 1 + 1, j, none⟩ : Addr).block := fun j => by simp [Value.ownBlock, nga2]
    have hOq := (ownsRow_setCell_other (ownsRow_setCell_other (ownsRow_setCell_other (ownsRow_setCell_other (ownsRow_setCell_other HO7.out (no 0) (.slice (some ⟨ga, 0, none⟩) n c')) (no 1) (.int .i64 I)) (no 2) (.int .i64 H)) (no 3) (.int .i64 S)) (no 4) (.int .i64 P))
    rw [← hwq] at hOq
    clear hwq HO7 BB
    try simp only [Exit.inBlock, Exit.then]
    refine bodyPost_ret (by simp [results, Tryd.results64, go_sem, q0, q1, q2, q3, q4]; try rfl) rfl ?_
    rw [HPO.out, HPF.out]
    exact ⟨_, c', rfl, hnc', hcm', ownsRow_monoP hOq HX.out.size, hBq⟩
  · have hpo : leadOk f i z = true := by simp [leadOk]; omega
    have hpf : leadF f i kk z = setB (setB f i (wrap64 (f (i * 4 + 2) - wrap64 (z - (partV (f (i * 4 + 2)) (f (i * 4 + 3)) z)))) (wrap64 (f (i * 4 + 3) - (partV (f (i * 4 + 2)) (f (i * 4 + 3)) z)))) kk (wrap64 (f (kk * 4 + 2) + wrap64 (z - (partV (f (i * 4 + 2)) (f (i * 4 + 3)) z)))) (wrap64 (f (kk * 4 + 3) + (partV (f (i * 4 + 2)) (f (i * 4 + 3)) z))) := by
      unfold leadF
      rw [if_pos hpo]
    have hm0 : massV (f (i * 4 + 2)) (f (i * 4 + 3)) ≠ 0 := by omega
    have HPO := Lib.hid hpo
    have HX37 := Lib.hid hX37
    have HO7 := Lib.hid hO7
    have X87 := Lib.hid h87
    have XR7 := Lib.hid xr7
    have BB7 := Lib.hid hB7
    have HPF := Lib.hid hpf
    clear hX37 hO7 h87 xr7 hB7 hpo hpf
    have HF : Hid (∀ w', Below w7.heap.size w7 w' → w'.cell? ⟨w.heap.size, 0, none⟩ = some (.slice (some ⟨b, off, none⟩) n c) ∧ w'.cell? ⟨w.heap.size, 1, none⟩ = some (.int .i64 I) ∧ w'.cell? ⟨w.heap.size, 2, none⟩ = some (.int .i64 H) ∧ w'.cell? ⟨w.heap.size, 3, none⟩ = some (.int .i64 S) ∧ w'.cell? ⟨w.heap.size, 4, none⟩ = some (.int .i64 P) ∧ w'.cell? ⟨w.heap.size + 1, 2, none⟩ = some (.int .i64 tt0) ∧ w'.cell? ⟨w.heap.size + 1, 3, none⟩ = some (.int .i64 z) ∧ w'.cell? ⟨g9, 0, none⟩ = some (.int .i64 (f (i * 4 + 2))) ∧ w'.cell? ⟨g9, 1, none⟩ = some (.int .i64 (f (i * 4 + 3)))) := by
      intro w' hq
      exact ⟨(hq.cell (p := ⟨w.heap.size, 0, none⟩) (World.block_lt_of_cell? _ _ b07)).trans b07, (hq.cell (p := ⟨w.heap.size, 1, none⟩) (World.block_lt_of_cell? _ _ b17)).trans b17, (hq.cell (p := ⟨w.heap.size, 2, none⟩) (World.block_lt_of_cell? _ _ b27)).trans b27, (hq.cell (p := ⟨w.heap.size, 3, none⟩) (World.block_lt_of_cell? _ _ b37)).trans b37, (hq.cell (p := ⟨w.heap.size, 4, none⟩) (World.block_lt_of_cell? _ _ b47)).trans b47, (hq.cell (p := ⟨w.heap.size + 1, 2, none⟩) (World.block_lt_of_cell? _ _ s27)).trans s27, (hq.cell (p := ⟨w.heap.size + 1, 3, none⟩) (World.block_lt_of_cell? _ _ s37)).trans s37, (hq.cell (p := ⟨g9, 0, none⟩) (World.block_lt_of_cell? _ _ d07)).trans d07, (hq.cell (p := ⟨g9, 1, none⟩) (World.block_lt_of_cell? _ _ d17)).trans d17⟩
    go_wp2_with fail
    refine wp_region_held_drew (S := fun w' => Below w7.heap.size w7 w') (by kernel_rfl) ((Below.refl _ w7).drew) (fun hHeld => ?_)
    refine tk (v := ?_) 0 56 HF rfl ?_ hHeld ?_
    rotate_left; · (intro _ _ _; go_simp; try with_reducible rfl)
    simp only [Act.put, p1, p2, p3]
    refine tk (v := ?_) 1 57 HF rfl ?_ hHeld ?_
    rotate_left; · (intro _ _ _; go_simp; try with_reducible rfl)
    simp only [Act.put, p1, p2, p3]
    refine tk (v := ?_) 4 60 HF rfl ?_ hHeld ?_
    rotate_left; · (intro _ _ _; go_simp; try with_reducible rfl)
    simp only [Act.put, p1, p2, p3]
    refine tk (v := ?_) 5 61 HF rfl ?_ hHeld ?_
    rotate_left; · (intro _ _ _; go_simp; try with_reducible rfl)
    simp only [Act.put, p1, p2, p3]
    refine tk (v := ?_) 2 58 HF rfl ?_ hHeld ?_
    rotate_left; · (intro _ _ _; go_simp; try with_reducible rfl)
    simp only [Act.put, p1, p2, p3]
    refine tk (v := ?_) 6 62 HF rfl ?_ hHeld ?_
    rotate_left; · (intro _ _ _; go_simp; try with_reducible rfl)
    simp only [Act.put, p1, p2, p3]
    refine wpAnyH_seqA (fuel := 2) (i := 3) (j := 7) (k := 8) (di := 59) (dj := 63) (dk := 12) (skip := [59, 63, 12]) (Pi := fun v _ => v = .int .i64 (kk : Int)) (Pj := fun v _ => v = .agg #[.int .i64 (wrap64 (z - (partV (f (i * 4 + 2)) (f (i * 4 + 3)) z))), .int .i64 (partV (f (i * 4 + 2)) (f (i * 4 + 3)) z)]) rfl rfl rfl rfl rfl rfl (by decide) (by decide) (by decide) (by kernel_rfl) (by kernel_rfl) (by kernel_rfl) (by kernel_rfl) (by kernel_rfl) ?ji ?jj (Job.alloc (nb := w7.heap.size) (obj := (.cells #[.int .i64 0, .int .i64 0] 46)) rfl (fun _ h => h.size) (fun a' w1 => by go_simp; try rfl)) (fun v w1 w2 h _ => h) (fun v w1 w2 h _ => h) stays_alloc below_stays hHeld ?nx
    case ji =>
      intro a' w1 K hev hb hK
      have h1 : a'.eval (.tmp 56) = .agg #[.slice (some ⟨b, off, none⟩) n c, .int .i64 I, .int .i64 H, .int .i64 S, .int .i64 P] := (hev 56 (by decide)).trans rfl
      have h2 : a'.tmps[56]?.getD undef = .agg #[.slice (some ⟨b, off, none⟩) n c, .int .i64 I, .int .i64 H, .int .i64 S, .int .i64 P] := by simpa [Act.eval] using h1
      have h3 : a'.eval (.tmp 58) = .int .i64 tt0 := (hev 58 (by decide)).trans rfl
      have h4 : a'.tmps[58]?.getD undef = .int .i64 tt0 := by simpa [Act.eval] using h3
      have HK := Lib.hid hK
      have HSL := Lib.hid (HSK.out.below (HX37.out.trans (hb.mono HX37.out.size)))
      clear hev h1 h3 hK HF
      go_simp
      go_at_call 25
      refine (l25Find_any _ n c lo hi f I H S P tt0 w1 HSL.out hn hnc).mono ?_
      rw [hfk]
      rintro e w2 ⟨rfl, hb2⟩
      exact HK.out _ w2 rfl hb2
    case jj =>
      intro a' w1 K hev hb hK
      have h1 : a'.eval (.tmp 60) = .agg #[.int .i64 (f (i * 4 + 2)), .int .i64 (f (i * 4 + 3))] := (hev 60 (by decide)).trans rfl
      have h2 : a'.tmps[60]?.getD undef = .agg #[.int .i64 (f (i * 4 + 2)), .int .i64 (f (i * 4 + 3))] := by simpa [Act.eval] using h1
      have h3 : a'.eval (.tmp 62) = .int .i64 z := (hev 62 (by decide)).trans rfl
      have h4 : a'.tmps[62]?.getD undef = .int .i64 z := by simpa [Act.eval] using h3
      have HK := Lib.hid hK
      clear hev h1 h3 hK HF
      go_simp
      go_at_call 81
      refine (l2Part_any _ _ z w1 (by omega) hm0).mono ?_
      rintro e w2 ⟨rfl, hb2⟩
      exact HK.out _ w2 rfl hb2
    case nx =>
    rintro vi vj vk w8 rfl rfl ⟨g12, rfl, l12, h12⟩ hB8 _
    simp only [Act.put, p1, p2, p3]
    have hHeld := hB8
    refine tk (v := ?_) 9 11 HF rfl ?_ hHeld ?_
    rotate_left; · (intro _ _ _; go_simp; try with_reducible rfl)
    simp only [Act.put, p1, p2, p3]
    refine wpAnyH_store (fuel := 0) (i := 10) rfl (by kernel_rfl) g12 0 (.agg #[.int .i64 (wrap64 (z - (partV (f (i * 4 + 2)) (f (i * 4 + 3)) z))), .int .i64 (partV (f (i * 4 + 2)) (f (i * 4 + 3)) z)]) 46 #[.int .i64 0, .int .i64 0] rfl rfl infoBrine h12 (Nat.le_refl 2) (by simp [Value.cells, Value.oneCell']) (fun w' hg => hB8.grown hg hB8.size (fun k hk => by cases hk; exact l12)) ?kst
    case kst =>
    intro w9 h129 hg9 hB9
    refine wpAnyH_done (by kernel_rfl) ?_ _
    have h129' : w9.heap[g12]? = some (.cells #[.int .i64 (wrap64 (z - (partV (f (i * 4 + 2)) (f (i * 4 + 3)) z))), .int .i64 (partV (f (i * 4 + 2)) (f (i * 4 + 3)) z)] 46) := h129
    have hO9 := ownsRow_below HO7.out hB9
    have h89 := (hB9.block g8 (Array.getElem?_eq_some_iff.1 X87.out).1).trans X87.out
    have xr9 := (hB9.block (w.heap.size + 1 + 1) (Array.getElem?_eq_some_iff.1 XR7.out).1).trans XR7.out
    have hX39 := HX37.out.trans (hB9.mono HX37.out.size)
    have hBB9 := BB7.out.trans (hB9.mono BB7.out.size)
    have e09 : w9.cell? ⟨g8, 0, none⟩ = some (.slice (some ⟨ga, 0, none⟩) n c') := by rw [cell_of_row w9 g8 0 _ _ (0, 0) h89]; rfl
    have p09 : w9.cell? ⟨g12, 0, none⟩ = some (.int .i64 (wrap64 (z - (partV (f (i * 4 + 2)) (f (i * 4 + 3)) z)))) := by rw [cell_of_row w9 g12 0 _ _ (0, 0) h129']; rfl
    have p19 : w9.cell? ⟨g12, 1, none⟩ = some (.int .i64 (partV (f (i * 4 + 2)) (f (i * 4 + 3)) z)) := by rw [cell_of_row w9 g12 1 _ _ (0, 0) h129']; rfl
    have d09 := (hB9.cell (p := ⟨g9, 0, none⟩) (World.block_lt_of_cell? _ _ d07)).trans d07
    have d19 := (hB9.cell (p := ⟨g9, 1, none⟩) (World.block_lt_of_cell? _ _ d17)).trans d17
    have b09 := (hB9.cell (p := ⟨w.heap.size, 0, none⟩) (World.block_lt_of_cell? _ _ b07)).trans b07
    have lga7 : ga < w7.heap.size := (World.ownsRow.lt HO7.out ga rfl).2
    have nga12 : g12 ≠ ga := by omega
    have nbga : b ≠ ga := by
      have hbw' := hbw
      simp only [World.size_alloc] at hbw'
      omega
    obtain ⟨c2k, c3k⟩ := HCK.out w9 hX39
    clear b07 b17 b27 b37 b47 s27 s37 d07 d17 HF hB8 hHeld h129 hg9 hB9 h12 l12 HO7 X87 XR7 BB7 HX37
    obtain ⟨cur, hcur, hcs, hput⟩ := row_open hO9
    have hfit : i * 4 + 2 + 2 ≤ cur.size := by omega
    have HF : Hid (∀ w', w9.grownBy w' (some ga) → w'.cell? ⟨g8, 0, none⟩ = some (.slice (some ⟨ga, 0, none⟩) n c') ∧ w'.cell? ⟨g9, 0, none⟩ = some (.int .i64 (f (i * 4 + 2))) ∧ w'.cell? ⟨g9, 1, none⟩ = some (.int .i64 (f (i * 4 + 3))) ∧ w'.cell? ⟨g12, 0, none⟩ = some (.int .i64 (wrap64 (z - (partV (f (i * 4 + 2)) (f (i * 4 + 3)) z)))) ∧ w'.cell? ⟨g12, 1, none⟩ = some (.int .i64 (partV (f (i * 4 + 2)) (f (i * 4 + 3)) z))) := by
      intro w' hq
      exact ⟨(World.cell?_of_block (a := ⟨g8, 0, none⟩) (hq.block _ (World.block_lt_of_cell? _ _ e09) (by simp; omega))).trans e09, (World.cell?_of_block (a := ⟨g9, 0, none⟩) (hq.block _ (World.block_lt_of_cell? _ _ d09) (by simp; omega))).trans d09, (World.cell?_of_block (a := ⟨g9, 1, none⟩) (hq.block _ (World.block_lt_of_cell? _ _ d19) (by simp; omega))).trans d19, (World.cell?_of_block (a := ⟨g12, 0, none⟩) (hq.block _ (World.block_lt_of_cell? _ _ p09) (by simp; omega))).trans p09, (World.cell?_of_block (a := ⟨g12, 1, none⟩) (hq.block _ (World.block_lt_of_cell? _ _ p19) (by simp; omega))).trans p19⟩
    go_wp2_with fail
    refine wp_region_held_drew (S := fun w' => w9.grownBy w' (some ga)) (by kernel_rfl) ⟨rfl, rfl, rfl, Nat.le_refl _, fun _ _ _ => rfl⟩ (fun hHeld => ?_)
    refine tk (v := ?_) 0 64 HF rfl ?_ hHeld ?_
    rotate_left; · (intro _ _ _; go_simp; try with_reducible rfl)
    simp only [Act.put, p1, p2, p3]
    refine tk (v := ?_) 2 66 HF rfl ?_ hHeld ?_
    rotate_left; · (intro _ _ _; go_simp; try with_reducible rfl)
    simp only [Act.put, p1, p2, p3]
    refine tk (v := ?_) 3 67 HF rfl ?_ hHeld ?_
    rotate_left; · (intro _ _ _; go_simp; try with_reducible rfl)
    simp only [Act.put, p1, p2, p3]
    refine tk (v := ?_) 4 68 HF rfl ?_ hHeld ?_
    rotate_left; · (intro _ _ _; go_simp; try with_reducible rfl)
    simp only [Act.put, p1, p2, p3]
    refine tk (v := ?_) 1 65 HF rfl ?_ hHeld ?_
    rotate_left; · (intro _ _ _; go_simp; try with_reducible rfl)
    simp only [Act.put, p1, p2, p3]
    refine wpAnyH_job (fuel := 3) (i := 5) (d := 69) (skip := []) (Post := fun v _ => v = (.agg #[.int .i64 (wrap64 (f (i * 4 + 2) - wrap64 (z - (partV (f (i * 4 + 2)) (f (i * 4 + 3)) z)))), .int .i64 (wrap64 (f (i * 4 + 3) - (partV (f (i * 4 + 2)) (f (i * 4 + 3)) z)))])) rfl rfl (by kernel_rfl) ?jl but_stays hHeld ?nl
    case jl =>
      intro a' w1 K hev hb hK
      have h1 : a'.eval (.tmp 67) = .agg #[.int .i64 (f (i * 4 + 2)), .int .i64 (f (i * 4 + 3))] := (hev 67 (by decide)).trans rfl
      have h2 : a'.tmps[67]?.getD undef = .agg #[.int .i64 (f (i * 4 + 2)), .int .i64 (f (i * 4 + 3))] := by simpa [Act.eval] using h1
      have h3 : a'.eval (.tmp 68) = .agg #[.int .i64 (wrap64 (z - (partV (f (i * 4 + 2)) (f (i * 4 + 3)) z))), .int .i64 (partV (f (i * 4 + 2)) (f (i * 4 + 3)) z)] := (hev 68 (by decide)).trans rfl
      have h4 : a'.tmps[68]?.getD undef = .agg #[.int .i64 (wrap64 (z - (partV (f (i * 4 + 2)) (f (i * 4 + 3)) z))), .int .i64 (partV (f (i * 4 + 2)) (f (i * 4 + 3)) z)] := by simpa [Act.eval] using h3
      have HK := Lib.hid hK
      clear hev h1 h3 hK HF
      go_simp
      go_at_call 82
      refine (l2Left_any _ _ _ _ w1).mono ?_
      rintro e w2 ⟨rfl, hb2⟩
      exact HK.out _ w2 rfl hb2
    case nl =>
    rintro v wl rfl hSl hbl
    simp only [Act.put, p1, p2, p3]
    have hHeld := hSl
    refine tk (v := ?_) 6 70 HF rfl ?_ hHeld ?_
    rotate_left; · (intro _ _ _; go_simp; try with_reducible rfl)
    simp only [Act.put, p1, p2, p3]
    refine tk (v := ?_) 7 71 HF rfl ?_ hHeld ?_
    rotate_left; · (intro _ _ _; go_simp; try with_reducible rfl)
    simp only [Act.put, p1, p2, p3]
    have hcurl : wl.heap[ga]? = some (.cells cur 48) := (hbl.block ga (Array.getElem?_eq_some_iff.1 hcur).1).trans hcur
    refine wpAnyH_store (fuel := 0) (i := 8) rfl (by kernel_rfl) ga (i * 4 + 2) (.agg #[.int .i64 (wrap64 (f (i * 4 + 2) - wrap64 (z - (partV (f (i * 4 + 2)) (f (i * 4 + 3)) z)))), .int .i64 (wrap64 (f (i * 4 + 3) - (partV (f (i * 4 + 2)) (f (i * 4 + 3)) z)))]) 48 cur rfl rfl infoBrine hcurl hfit (by simp [Value.cells, Value.oneCell']) (fun w' hg => grown_trans hSl hg) ?kt
    case kt =>
    intro w10 h10 hg10 hS10
    refine wpAnyH_done (by kernel_rfl) ?_ _
    rw [show putRow cur (i * 4 + 2) ((.agg #[.int .i64 (wrap64 (f (i * 4 + 2) - wrap64 (z - (partV (f (i * 4 + 2)) (f (i * 4 + 3)) z)))), .int .i64 (wrap64 (f (i * 4 + 3) - (partV (f (i * 4 + 2)) (f (i * 4 + 3)) z)))]) : Value).cells = _ from putRow_two cur _ _ _ hfit] at h10
    have hO10 := hput w10 (i * 4 + 2) _ _ h10
    rw [cellsL_set, cellsL_set] at hO10
    have h810 := (hS10.block g8 (Array.getElem?_eq_some_iff.1 h89).1 (by simp; omega)).trans h89
    have xr10 := (hS10.block (w.heap.size + 1 + 1) (Array.getElem?_eq_some_iff.1 xr9).1 (by simp; omega)).trans xr9
    have hBB10 := hBB9.grown hS10 hBB9.size (fun k hk => by cases hk; omega)
    have e010 := (World.cell?_of_block (a := ⟨g8, 0, none⟩) (hS10.block _ (World.block_lt_of_cell? _ _ e09) (by simp; omega))).trans e09
    have b010 := (World.cell?_of_block (a := ⟨w.heap.size, 0, none⟩) (hS10.block _ (World.block_lt_of_cell? _ _ b09) (by simp; omega))).trans b09
    have p010 := (World.cell?_of_block (a := ⟨g12, 0, none⟩) (hS10.block _ (World.block_lt_of_cell? _ _ p09) (by simp; omega))).trans p09
    have p110 := (World.cell?_of_block (a := ⟨g12, 1, none⟩) (hS10.block _ (World.block_lt_of_cell? _ _ p19) (by simp; omega))).trans p19
    have c210 := (World.cell?_of_block (a := ⟨b, off + kk * 4 + 2, none⟩) (hS10.block _ (World.block_lt_of_cell? _ _ c2k) (by simp; omega))).trans c2k
    have c310 := (World.cell?_of_block (a := ⟨b, off + kk * 4 + 3, none⟩) (hS10.block _ (World.block_lt_of_cell? _ _ c3k) (by simp; omega))).trans c3k
    clear hHeld HF hS10 hg10 h10 hSl hbl hcurl hcur hput hcs hfit hO9 h89 xr9 hBB9 e09 b09 p09 p19 c2k c3k d09 d19 hX39 h129'
    obtain ⟨cur2, hcur, hcs, hput⟩ := row_open hO10
    have hfit : kk * 4 + 2 + 2 ≤ cur2.size := by omega
    have HF : Hid (∀ w', w10.grownBy w' (some ga) → w'.cell? ⟨g8, 0, none⟩ = some (.slice (some ⟨ga, 0, none⟩) n c') ∧ w'.cell? ⟨w.heap.size, 0, none⟩ = some (.slice (some ⟨b, off, none⟩) n c) ∧ w'.cell? ⟨g12, 0, none⟩ = some (.int .i64 (wrap64 (z - (partV (f (i * 4 + 2)) (f (i * 4 + 3)) z)))) ∧ w'.cell? ⟨g12, 1, none⟩ = some (.int .i64 (partV (f (i * 4 + 2)) (f (i * 4 + 3)) z)) ∧ w'.cell? ⟨b, off + kk * 4 + 2, none⟩ = some (.int .i64 (f (kk * 4 + 2))) ∧ w'.cell? ⟨b, off + kk * 4 + 3, none⟩ = some (.int .i64 (f (kk * 4 + 3)))) := by
      intro w' hq
      exact ⟨(World.cell?_of_block (a := ⟨g8, 0, none⟩) (hq.block _ (World.block_lt_of_cell? _ _ e010) (by simp; omega))).trans e010, (World.cell?_of_block (a := ⟨w.heap.size, 0, none⟩) (hq.block _ (World.block_lt_of_cell? _ _ b010) (by simp; omega))).trans b010, (World.cell?_of_block (a := ⟨g12, 0, none⟩) (hq.block _ (World.block_lt_of_cell? _ _ p010) (by simp; omega))).trans p010, (World.cell?_of_block (a := ⟨g12, 1, none⟩) (hq.block _ (World.block_lt_of_cell? _ _ p110) (by simp; omega))).trans p110, (World.cell?_of_block (a := ⟨b, off + kk * 4 + 2, none⟩) (hq.block _ (World.block_lt_of_cell? _ _ c210) (by simp; omega))).trans c210, (World.cell?_of_block (a := ⟨b, off + kk * 4 + 3, none⟩) (hq.block _ (World.block_lt_of_cell? _ _ c310) (by simp; omega))).trans c310⟩
    go_wp2_with fail
    refine wp_region_held_drew (S := fun w' => w10.grownBy w' (some ga)) (by kernel_rfl) ⟨rfl, rfl, rfl, Nat.le_refl _, fun _ _ _ => rfl⟩ (fun hHeld => ?_)
    refine tk (v := ?_) 0 72 HF rfl ?_ hHeld ?_
    rotate_left; · (intro _ _ _; go_simp; try with_reducible rfl)
    simp only [Act.put, p1, p2, p3]
    refine tk (v := ?_) 2 74 HF rfl ?_ hHeld ?_
    rotate_left; · (intro _ _ _; go_simp; try with_reducible rfl)
    simp only [Act.put, p1, p2, p3]
    refine tk (v := ?_) 3 75 HF rfl ?_ hHeld ?_
    rotate_left; · (intro _ _ _; go_simp; try with_reducible rfl)
    simp only [Act.put, p1, p2, p3]
    refine tk (v := ?_) 5 77 HF rfl ?_ hHeld ?_
    rotate_left; · (intro _ _ _; go_simp; try with_reducible rfl)
    simp only [Act.put, p1, p2, p3]
    refine tk (v := ?_) 9 81 HF rfl ?_ hHeld ?_
    rotate_left; · (intro _ _ _; go_simp; try with_reducible rfl)
    simp only [Act.put, p1, p2, p3]
    refine tk (v := ?_) 1 73 HF rfl ?_ hHeld ?_
    rotate_left; · (intro _ _ _; go_simp; try with_reducible rfl)
    simp only [Act.put, p1, p2, p3]
    refine tk (v := ?_) 4 76 HF rfl ?_ hHeld ?_
    rotate_left; · (intro _ _ _; go_simp; try with_reducible rfl)
    simp only [Act.put, p1, p2, p3]
    refine tk (v := ?_) 6 78 HF rfl ?_ hHeld ?_
    rotate_left; · (intro _ _ _; go_simp; try with_reducible rfl)
    simp only [Act.put, p1, p2, p3]
    refine tk (v := ?_) 7 79 HF rfl ?_ hHeld ?_
    rotate_left; · (intro _ _ _; go_simp; try with_reducible rfl)
    simp only [Act.put, p1, p2, p3]
    refine tk (v := ?_) 8 80 HF rfl ?_ hHeld ?_
    rotate_left; · (intro _ _ _; go_simp; try with_reducible rfl)
    simp only [Act.put, p1, p2, p3]
    refine wpAnyH_job (fuel := 3) (i := 10) (d := 82) (skip := []) (Post := fun v _ => v = (.agg #[.int .i64 (wrap64 (f (kk * 4 + 2) + wrap64 (z - (partV (f (i * 4 + 2)) (f (i * 4 + 3)) z)))), .int .i64 (wrap64 (f (kk * 4 + 3) + (partV (f (i * 4 + 2)) (f (i * 4 + 3)) z)))])) rfl rfl (by kernel_rfl) ?jm but_stays hHeld ?nm
    case jm =>
      intro a' w1 K hev hb hK
      have h1 : a'.eval (.tmp 80) = .agg #[.int .i64 (f (kk * 4 + 2)), .int .i64 (f (kk * 4 + 3))] := (hev 80 (by decide)).trans rfl
      have h2 : a'.tmps[80]?.getD undef = .agg #[.int .i64 (f (kk * 4 + 2)), .int .i64 (f (kk * 4 + 3))] := by simpa [Act.eval] using h1
      have h3 : a'.eval (.tmp 81) = .agg #[.int .i64 (wrap64 (z - (partV (f (i * 4 + 2)) (f (i * 4 + 3)) z))), .int .i64 (partV (f (i * 4 + 2)) (f (i * 4 + 3)) z)] := (hev 81 (by decide)).trans rfl
      have h4 : a'.tmps[81]?.getD undef = .agg #[.int .i64 (wrap64 (z - (partV (f (i * 4 + 2)) (f (i * 4 + 3)) z))), .int .i64 (partV (f (i * 4 + 2)) (f (i * 4 + 3)) z)] := by simpa [Act.eval] using h3
      have HK := Lib.hid hK
      clear hev h1 h3 hK HF
      go_simp
      go_at_call 80
      refine (l2Sum_any _ _ _ _ w1).mono ?_
      rintro e w2 ⟨rfl, hb2⟩
      exact HK.out _ w2 rfl hb2
    case nm =>
    rintro v wl rfl hSl hbl
    simp only [Act.put, p1, p2, p3]
    have hHeld := hSl
    refine tk (v := ?_) 11 83 HF rfl ?_ hHeld ?_
    rotate_left; · (intro _ _ _; go_simp; try with_reducible rfl)
    simp only [Act.put, p1, p2, p3]
    refine tk (v := ?_) 12 84 HF rfl ?_ hHeld ?_
    rotate_left; · (intro _ _ _; go_simp; try with_reducible rfl)
    simp only [Act.put, p1, p2, p3]
    have hcurl : wl.heap[ga]? = some (.cells cur2 48) := (hbl.block ga (Array.getElem?_eq_some_iff.1 hcur).1).trans hcur
    refine wpAnyH_store (fuel := 0) (i := 13) rfl (by kernel_rfl) ga (kk * 4 + 2) (.agg #[.int .i64 (wrap64 (f (kk * 4 + 2) + wrap64 (z - (partV (f (i * 4 + 2)) (f (i * 4 + 3)) z)))), .int .i64 (wrap64 (f (kk * 4 + 3) + (partV (f (i * 4 + 2)) (f (i * 4 + 3)) z)))]) 48 cur2 rfl rfl infoBrine hcurl hfit (by simp [Value.cells, Value.oneCell']) (fun w' hg => grown_trans hSl hg) ?ku
    case ku =>
    intro w11 h11 hg11 hS11
    refine wpAnyH_done (by kernel_rfl) ?_ _
    rw [show putRow cur2 (kk * 4 + 2) ((.agg #[.int .i64 (wrap64 (f (kk * 4 + 2) + wrap64 (z - (partV (f (i * 4 + 2)) (f (i * 4 + 3)) z)))), .int .i64 (wrap64 (f (kk * 4 + 3) + (partV (f (i * 4 + 2)) (f (i * 4 + 3)) z)))]) : Value).cells = _ from putRow_two cur2 _ _ _ hfit] at h11
    have hO11 := hput w11 (kk * 4 + 2) _ _ h11
    rw [cellsL_set, cellsL_set] at hO11
    have x8 := (hS11.block g8 (Array.getElem?_eq_some_iff.1 h810).1 (by simp; omega)).trans h810
    have xr := (hS11.block (w.heap.size + 1 + 1) (Array.getElem?_eq_some_iff.1 xr10).1 (by simp; omega)).trans xr10
    have hBB11 := hBB10.grown hS11 hBB10.size (fun k hk => by cases hk; omega)
    clear hHeld HF hS11 hg11 h11 hSl hbl hcurl hcur hput hcs hfit hO10 h810 xr10 hBB10 e010 b010 p010 p110 c210 c310
    have HO7 := Lib.hid hO11
    have BB := Lib.hid hBB11
    clear hO11 hBB11
    obtain ⟨e0, e1, e2, e3, e4⟩ := cells5 x8
    obtain ⟨r0, r1, r2, r3, r4⟩ := cells5 xr
    have rf : ∀ j, w11.frozen? ⟨w.heap.size + 1 + 1, j, none⟩ = false := fun j => frozen_of_row w11 (w.heap.size + 1 + 1) j _ _ xr
    clear x8 xr
    go_wp2
    obtain ⟨wq, hwq⟩ : ∃ wq, wq = (((((w11.setCell ⟨w.heap.size + 1 + 1, 0, none⟩ (.slice (some ⟨ga, 0, none⟩) n c')).setCell ⟨w.heap.size + 1 + 1, 1, none⟩ (.int .i64 I)).setCell ⟨w.heap.size + 1 + 1, 2, none⟩ (.int .i64 H)).setCell ⟨w.heap.size + 1 + 1, 3, none⟩ (.int .i64 S)).setCell ⟨w.heap.size + 1 + 1, 4, none⟩ (.int .i64 P)) := ⟨_, rfl⟩
    rw [← hwq]
    have q0 : wq.cell? ⟨w.heap.size + 1 + 1, 0, none⟩ = some (.slice (some ⟨ga, 0, none⟩) n c') := by rw [hwq]; go_simp
    have q1 : wq.cell? ⟨w.heap.size + 1 + 1, 1, none⟩ = some (.int .i64 I) := by rw [hwq]; go_simp
    have q2 : wq.cell? ⟨w.heap.size + 1 + 1, 2, none⟩ = some (.int .i64 H) := by rw [hwq]; go_simp
    have q3 : wq.cell? ⟨w.heap.size + 1 + 1, 3, none⟩ = some (.int .i64 S) := by rw [hwq]; go_simp
    have q4 : wq.cell? ⟨w.heap.size + 1 + 1, 4, none⟩ = some (.int .i64 P) := by rw [hwq]; go_simp
    have hBq : Below w.heap.size w wq := by
      rw [hwq]
      exact (((((BB.out.setCell (show w.heap.size ≤ w.heap.size + 1 + 1 by omega) _).setCell (show w.heap.size ≤ w.heap.size + 1 + 1 by omega) _).setCell (show w.heap.size ≤ w.heap.size + 1 + 1 by omega) _).setCell (show w.heap.size ≤ w.heap.size + 1 + 1 by omega) _).setCell (show w.heap.size ≤ w.heap.size + 1 + 1 by omega) _)
    have no : ∀ j : Nat, (.slice (some ⟨ga, 0, none⟩) n c' : Value).ownBlock ≠ some (⟨w.heap.size + 1 + 1, j, none⟩ : Addr).block := fun j => by simp [Value.ownBlock, nga2]
    have hOq := (ownsRow_setCell_other (ownsRow_setCell_other (ownsRow_setCell_other (ownsRow_setCell_other (ownsRow_setCell_other HO7.out (no 0) (.slice (some ⟨ga, 0, none⟩) n c')) (no 1) (.int .i64 I)) (no 2) (.int .i64 H)) (no 3) (.int .i64 S)) (no 4) (.int .i64 P))
    rw [← hwq] at hOq
    clear hwq HO7 BB
    try simp only [Exit.inBlock, Exit.then]
    refine bodyPost_ret (by simp [results, Tryd.results64, go_sem, q0, q1, q2, q3, q4]; try rfl) rfl ?_
    rw [HPO.out, HPF.out]
    exact ⟨_, c', rfl, hnc', hcm', ownsRow_monoP hOq HX.out.size, hBq⟩
end Go.Proofs.YtjkockhldaacbaaDoor
