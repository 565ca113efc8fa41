/-
  Texts of this claim, merged.
-/
import Derived.Test.YtpndjhelpoenpaaGreatDoorZC16
set_option linter.unusedVariables false
set_option linter.unusedSimpArgs false
set_option maxRecDepth 100000
set_option maxHeartbeats 8000000
namespace Go.Proofs.YtpndjhelpoenpaaGreatDoor
open Go.RowKit Go.Sort
attribute [local go_sem ↓] Go.wp_at_zero Go.wp_at_succ
def BoxOwn (w : World) (lo g : Nat) (L : List Int) (m : Nat) (I H S P : Int) : Prop :=
 ∃ A' c', w.heap[g]? = some (.cells #[.slice A' m c', .int .i64 I, .int .i64 H, .int .i64 S, .int .i64 P] 32 (0, 0)) ∧ m ≤ c' ∧ c' ≤ maxLen ∧ w.ownsRow lo 97 4 (.slice A' m c') m (L.map (Value.int .i64))
theorem copyWorks_any (A : Option Addr) (n c lo hi : Nat) (f : Nat → Int) (I H S P : Int) (w : World) (hs : Sl w lo hi 4 A n f) (hn : n ≤ 1048576) (hnc : n ≤ c) (hnone : A = none → n = 0 ∧ c = 0) :
  Calls Tryz.prog 90 #[.agg #[.slice A n c, .int .i64 I, .int .i64 H, .int .i64 S, .int .i64 P]] w (ownPost w f n I H S P) := by
 have hX : Below w.heap.size w ((w.alloc (.cells #[.slice A n c, .int .i64 I, .int .i64 H, .int .i64 S, .int .i64 P] 32)).alloc (.cells #[.slice none 0 0, .int .i64 0, .int .i64 0, .int .i64 0, .int .i64 0] 32)) := ((Below.refl _ w).alloc (Nat.le_refl _) _).alloc (by simp) _
 have HX := lh hX
 clear hX
 have h0 : ((w.alloc (.cells #[.slice A n c, .int .i64 I, .int .i64 H, .int .i64 S, .int .i64 P] 32)).alloc (.cells #[.slice none 0 0, .int .i64 0, .int .i64 0, .int .i64 0, .int .i64 0] 32)).heap[w.heap.size]? = some (.cells #[.slice A n c, .int .i64 I, .int .i64 H, .int .i64 S, .int .i64 P] 32) := by
  rw [heap_alloc_old _ _ (by simp)]
  exact heap_alloc_new w _
 have hr : ((w.alloc (.cells #[.slice A n c, .int .i64 I, .int .i64 H, .int .i64 S, .int .i64 P] 32)).alloc (.cells #[.slice none 0 0, .int .i64 0, .int .i64 0, .int .i64 0, .int .i64 0] 32)).heap[w.heap.size + 1]? = some (.cells #[.slice none 0 0, .int .i64 0, .int .i64 0, .int .i64 0, .int .i64 0] 32) := by have := heap_alloc_new (w.alloc (.cells #[.slice A n c, .int .i64 I, .int .i64 H, .int .i64 S, .int .i64 P] 32)) (.cells #[.slice none 0 0, .int .i64 0, .int .i64 0, .int .i64 0, .int .i64 0] 32); simpa using this
 have H0 := lh h0
 have HR := lh hr
 clear h0 hr
 go_enter Tryz.func90, Tryz.ntmps90
 go_wp2_with fail
 refine (clonePan_any A n c lo hi f _ (hs.below HX.out) hn hnone).mono ?_
 rintro e w1 ⟨v', rfl, ho, hb1⟩
 obtain ⟨A', c', rfl, h1, h2⟩ := row_slice ho
 have h01 := (hb1.block w.heap.size (by simp; omega)).trans H0.out
 have hr1 := (hb1.block (w.heap.size + 1) (by simp)).trans HR.out
 have hB1 := HX.out.trans (hb1.mono HX.out.size)
 have hz : w.heap.size + 2 ≤ w1.heap.size := by have := hb1.size; simp only [World.size_alloc] at this; omega
 have now : ∀ k : Nat, (Value.slice A' n c').ownBlock = some k → w.heap.size + 2 ≤ k := fun k e => by have := (World.ownsRow.lt ho k e).1; simp only [World.size_alloc] at this; omega
 have ho := ownsRow_monoP ho HX.out.size
 obtain ⟨e0, e1, e2, e3, e4⟩ := cells5 h01
 have ef := fz h01
 obtain ⟨r0, r1, r2, r3, r4⟩ := cells5 hr1
 have rf := fz hr1
 have HB1 := lh hB1
 have HO1 := lh ho
 have NOW := lh now
 clear hb1 h01 hr1 hB1 ho now H0 HR hs
 go_wp2
 obtain ⟨wq, hwq⟩ : ∃ wq, wq = ((((((w1.setCell ⟨w.heap.size, 0, none⟩ (.slice A' n c')).setCell ⟨w.heap.size + 1, 0, none⟩ (.slice A' n c')).setCell ⟨w.heap.size + 1, 1, none⟩ (.int .i64 I)).setCell ⟨w.heap.size + 1, 2, none⟩ (.int .i64 H)).setCell ⟨w.heap.size + 1, 3, none⟩ (.int .i64 S)).setCell ⟨w.heap.size + 1, 4, none⟩ (.int .i64 P)) := ⟨_, rfl⟩
 rw [← hwq]
 have u0 : wq.cell? ⟨w.heap.size + 1, 0, none⟩ = some (.slice A' n c') := by rw [hwq]; go_simp
 have u1 : wq.cell? ⟨w.heap.size + 1, 1, none⟩ = some (.int .i64 I) := by rw [hwq]; go_simp
 have u2 : wq.cell? ⟨w.heap.size + 1, 2, none⟩ = some (.int .i64 H) := by rw [hwq]; go_simp
 have u3 : wq.cell? ⟨w.heap.size + 1, 3, none⟩ = some (.int .i64 S) := by rw [hwq]; go_simp
 have u4 : wq.cell? ⟨w.heap.size + 1, 4, none⟩ = some (.int .i64 P) := by rw [hwq]; go_simp
 have hBq : Below w.heap.size w wq := by
  rw [hwq]
  exact ((((((HB1.out.setCell (show w.heap.size ≤ w.heap.size by omega) _).setCell (show w.heap.size ≤ w.heap.size + 1 by omega) _).setCell (show w.heap.size ≤ w.heap.size + 1 by omega) _).setCell (show w.heap.size ≤ w.heap.size + 1 by omega) _).setCell (show w.heap.size ≤ w.heap.size + 1 by omega) _).setCell (show w.heap.size ≤ w.heap.size + 1 by omega) _)
 have no : ∀ j : Nat, (Value.slice A' n c').ownBlock ≠ some (⟨w.heap.size + 1, j, none⟩ : Addr).block := fun j e => by have h := NOW.out _ e; have h2 : w.heap.size + 2 ≤ w.heap.size + 1 := h; omega
 have hOq := (ownsRow_setCell_other (ownsRow_setCell_other (ownsRow_setCell_other (ownsRow_setCell_other (ownsRow_setCell_other (ownsRow_setCell_other (a := ⟨w.heap.size, 0, none⟩) HO1.out (fun e => by have h := NOW.out _ e; have h2 : w.heap.size + 2 ≤ w.heap.size := h; omega) (.slice A' n c')) (no 0) (.slice A' n c')) (no 1) (.int .i64 I)) (no 2) (.int .i64 H)) (no 3) (.int .i64 S)) (no 4) (.int .i64 P))
 rw [← hwq] at hOq
 clear hwq HO1 HB1
 try simp only [Exit.inBlock, Exit.then]
 refine bodyPost_ret (by simp [results, Tryz.results90, go_sem, u0, u1, u2, u3, u4]; try rfl) rfl ?_
 exact ⟨A', c', rfl, h1, h2, hOq, hBq⟩
theorem sw_to (g lo n c' : Nat) (A' : Option Addr) (f : Nat → Int) (I H S P : Int) (kd id tt0 z : Int) (hn : n ≤ 1000) (w : World) (hg : w.heap[g]? = some (.cells #[.slice A' n c', .int .i64 I, .int .i64 H, .int .i64 S, .int .i64 P] 32 (0, 0))) (hO : w.ownsRow lo 97 4 (.slice A' n c') n ((cellsL f n).map (Value.int .i64))) (hlo : lo ≤ g) (at' : Int) (hfd : findV (pid f) id n 0 = at') (k3n : ¬ kd = 3) (ht0n : ¬ tt0 = 0) :
  Calls Tryz.prog 139 #[.pointer (some ⟨g, 0, none⟩), .agg #[.int .i64 kd, .int .i64 id, .int .i64 tt0, .int .i64 z]] w (fun e w' => e = .returned (.bool false) ∧ Below lo w w') := by
 have k3 : (kd == 3) = false := by simp [k3n]
 have ht0 : (tt0 == 0) = false := by simp [ht0n]
 go_enter Tryz.func139, Tryz.ntmps139
 have lg : g < w.heap.size := (Array.getElem?_eq_some_iff.1 hg).1
 have hnc : n ≤ c' ∧ c' ≤ maxLen := by
  obtain ⟨_, _, e, h1, h2⟩ := row_slice hO
  cases e
  exact ⟨h1, h2⟩
 have hncI : (n : Int) ≤ (c' : Int) := by omega
 go_upto_region 1 with fail
 refine name_wp ?_
 intro w1 hw1
 have hb1 : Below w.heap.size w w1 := by rw [hw1]; exact (Below.refl _ w).alloc (Nat.le_refl _) _
 have hs1 := an hw1
 have hg1 := (hb1.block g lg).trans hg
 have hO1 := ownsRow_below hO hb1
 have hB1 : Below lo w w1 := hb1.mono (by omega)
 have low : ∀ k : Nat, (Value.slice A' n c').ownBlock = some k → lo ≤ k ∧ k < w.heap.size := fun k e => World.ownsRow.lt hO k e
 clear hw1 hg hO hb1
 obtain ⟨s, hs⟩ : ∃ s, s = w.heap.size := ⟨_, rfl⟩
 rw [← hs] at hs1 lg low
 have lg1 := (Array.getElem?_eq_some_iff.1 hg1).1
 have ls1 := (Array.getElem?_eq_some_iff.1 hs1).1
 have lw1 : lo ≤ w1.heap.size := by omega
 have ngs : g ≠ s := by omega
 have nsg : s ≠ g := by omega
 have hles : lo ≤ s := by omega
 have HS0 := lh hs
 clear hs
 obtain ⟨s0, s1, s2, s3⟩ := cells4 hs1
 obtain ⟨e0, e1, e2, e3, e4⟩ := cells5 hg1
 have ef := fz hg1
 have HG1 := lh hg1
 have HO1 := lh hO1
 have HB1 := lh hB1
 have HS1 := lh hs1
 clear hg1 hO1 hB1 hs1
 have hszS : w.heap.size = s := HS0.out.symm
 rw [hszS]
 clear hszS
 have HF : Hid (∀ w', Below w1.heap.size w1 w' → w'.cell? ⟨g, 0, none⟩ = some (.slice A' n c') ∧ w'.cell? ⟨g, 1, none⟩ = some (.int .i64 I) ∧ w'.cell? ⟨g, 2, none⟩ = some (.int .i64 H) ∧ w'.cell? ⟨g, 3, none⟩ = some (.int .i64 S) ∧ w'.cell? ⟨g, 4, none⟩ = some (.int .i64 P) ∧ w'.cell? ⟨s, 1, none⟩ = some (.int .i64 id)) := by
  intro w' hq
  exact ⟨kp hq e0, kp hq e1, kp hq e2, kp hq e3, kp hq e4, kp hq s1⟩
 have HSL : Hid (∀ w', Below w1.heap.size w1 w' → Sl w' lo w'.heap.size 4 A' n f) := by
  intro w' hq
  obtain ⟨A0, c0, e0, _, _, h0⟩ := own_of_row (ownsRow_below HO1.out hq)
  cases e0
  exact (h0.congr (fun j hj => cellsL_getD _ n j hj)).sl
 go_upto_region 1 with fail
 refine wp_region_held_drew (S := fun w' => Below (w1).heap.size (w1) w') (by kernel_rfl) ((Below.refl _ _).drew) (fun jd => ?_)
 refine tj4 0 7 3 10 1 8 4 11 HF jd ?_
 refine tj 2 9 HF rfl jd ?_
 refine wpAnyH_ready (rs := [5]) (by kernel_rfl) (by simp) ?_
 refine AllReadyH.cons rfl (fun K hK => ?_) AllReadyH.nil
 go_simp
 (go_at_call 109; refine (panAt_any A' n c' lo _ f I H S P id _ (HSL.out _ jd) (by omega) hnc.1).mono ?_; rw [hfd]; rintro e w2 ⟨rfl, hb2⟩)
 refine hK.out _ _ (jd.trans (hb2.mono jd.size)) (fun jd => ?_)
 clear hK K hb2
 refine tj 6 5 HF rfl jd ?_
 refine wpAnyH_done (by kernel_rfl) ?_ _
 have hg2 := (jd.block g (Array.getElem?_eq_some_iff.1 HG1.out).1).trans HG1.out
 have hs2 := (jd.block s (Array.getElem?_eq_some_iff.1 HS1.out).1).trans HS1.out
 have hO2 := ownsRow_below HO1.out jd
 have hB2 := below_of HB1.out jd lw1
 have lw2 : lo ≤ w2.heap.size := Nat.le_trans lw1 jd.size
 have lgw2 : g < w2.heap.size := Nat.lt_of_lt_of_le lg1 jd.size
 have lsw2 : s < w2.heap.size := Nat.lt_of_lt_of_le ls1 jd.size
 clear jd HF HSL e0 e1 e2 e3 e4 ef s0 s1 s2 s3 HG1 HO1 HB1 HS1
 obtain ⟨e0, e1, e2, e3, e4⟩ := cells5 hg2
 have ef := fz hg2
 obtain ⟨s0, s1, s2, s3⟩ := cells4 hs2
 clear e0 e1 e2 e3 e4 ef hg2 hO2 hs2
 have HB2 := lh hB2
 clear hB2
 have s0' := s0
 go_wp2
 go_ret
 exact ⟨rfl, HB2.out⟩
theorem sw_there (g lo n c' : Nat) (A' : Option Addr) (f : Nat → Int) (I H S P : Int) (id tt0 z : Int) (hn : n ≤ 1000) (w : World) (hg : w.heap[g]? = some (.cells #[.slice A' n c', .int .i64 I, .int .i64 H, .int .i64 S, .int .i64 P] 32 (0, 0))) (hO : w.ownsRow lo 97 4 (.slice A' n c') n ((cellsL f n).map (Value.int .i64))) (hlo : lo ≤ g) (at' : Int) (hfd : findV (pid f) id n 0 = at') (ht0 : tt0 = 0) (hat : 0 ≤ at') :
  Calls Tryz.prog 139 #[.pointer (some ⟨g, 0, none⟩), .agg #[.int .i64 1, .int .i64 id, .int .i64 tt0, .int .i64 z]] w (fun e w' => e = .returned (.bool false) ∧ Below lo w w') := by
 subst ht0
 go_enter Tryz.func139, Tryz.ntmps139
 have lg : g < w.heap.size := (Array.getElem?_eq_some_iff.1 hg).1
 have hnc : n ≤ c' ∧ c' ≤ maxLen := by
  obtain ⟨_, _, e, h1, h2⟩ := row_slice hO
  cases e
  exact ⟨h1, h2⟩
 have hncI : (n : Int) ≤ (c' : Int) := by omega
 go_upto_region 1 with fail
 refine name_wp ?_
 intro w1 hw1
 have hb1 : Below w.heap.size w w1 := by rw [hw1]; exact (Below.refl _ w).alloc (Nat.le_refl _) _
 have hs1 := an hw1
 have hg1 := (hb1.block g lg).trans hg
 have hO1 := ownsRow_below hO hb1
 have hB1 : Below lo w w1 := hb1.mono (by omega)
 have low : ∀ k : Nat, (Value.slice A' n c').ownBlock = some k → lo ≤ k ∧ k < w.heap.size := fun k e => World.ownsRow.lt hO k e
 clear hw1 hg hO hb1
 obtain ⟨s, hs⟩ : ∃ s, s = w.heap.size := ⟨_, rfl⟩
 rw [← hs] at hs1 lg low
 have lg1 := (Array.getElem?_eq_some_iff.1 hg1).1
 have ls1 := (Array.getElem?_eq_some_iff.1 hs1).1
 have lw1 : lo ≤ w1.heap.size := by omega
 have ngs : g ≠ s := by omega
 have nsg : s ≠ g := by omega
 have hles : lo ≤ s := by omega
 have HS0 := lh hs
 clear hs
 obtain ⟨s0, s1, s2, s3⟩ := cells4 hs1
 obtain ⟨e0, e1, e2, e3, e4⟩ := cells5 hg1
 have ef := fz hg1
 have HG1 := lh hg1
 have HO1 := lh hO1
 have HB1 := lh hB1
 have HS1 := lh hs1
 clear hg1 hO1 hB1 hs1
 have hszS : w.heap.size = s := HS0.out.symm
 rw [hszS]
 clear hszS
 have HF : Hid (∀ w', Below w1.heap.size w1 w' → w'.cell? ⟨g, 0, none⟩ = some (.slice A' n c') ∧ w'.cell? ⟨g, 1, none⟩ = some (.int .i64 I) ∧ w'.cell? ⟨g, 2, none⟩ = some (.int .i64 H) ∧ w'.cell? ⟨g, 3, none⟩ = some (.int .i64 S) ∧ w'.cell? ⟨g, 4, none⟩ = some (.int .i64 P) ∧ w'.cell? ⟨s, 1, none⟩ = some (.int .i64 id)) := by
  intro w' hq
  exact ⟨kp hq e0, kp hq e1, kp hq e2, kp hq e3, kp hq e4, kp hq s1⟩
 have HSL : Hid (∀ w', Below w1.heap.size w1 w' → Sl w' lo w'.heap.size 4 A' n f) := by
  intro w' hq
  obtain ⟨A0, c0, e0, _, _, h0⟩ := own_of_row (ownsRow_below HO1.out hq)
  cases e0
  exact (h0.congr (fun j hj => cellsL_getD _ n j hj)).sl
 go_upto_region 1 with fail
 refine wp_region_held_drew (S := fun w' => Below (w1).heap.size (w1) w') (by kernel_rfl) ((Below.refl _ _).drew) (fun jd => ?_)
 refine tj4 0 7 3 10 1 8 4 11 HF jd ?_
 refine tj 2 9 HF rfl jd ?_
 refine wpAnyH_ready (rs := [5]) (by kernel_rfl) (by simp) ?_
 refine AllReadyH.cons rfl (fun K hK => ?_) AllReadyH.nil
 go_simp
 (go_at_call 109; refine (panAt_any A' n c' lo _ f I H S P id _ (HSL.out _ jd) (by omega) hnc.1).mono ?_; rw [hfd]; rintro e w2 ⟨rfl, hb2⟩)
 refine hK.out _ _ (jd.trans (hb2.mono jd.size)) (fun jd => ?_)
 clear hK K hb2
 refine tj 6 5 HF rfl jd ?_
 refine wpAnyH_done (by kernel_rfl) ?_ _
 have hg2 := (jd.block g (Array.getElem?_eq_some_iff.1 HG1.out).1).trans HG1.out
 have hs2 := (jd.block s (Array.getElem?_eq_some_iff.1 HS1.out).1).trans HS1.out
 have hO2 := ownsRow_below HO1.out jd
 have hB2 := below_of HB1.out jd lw1
 have lw2 : lo ≤ w2.heap.size := Nat.le_trans lw1 jd.size
 have lgw2 : g < w2.heap.size := Nat.lt_of_lt_of_le lg1 jd.size
 have lsw2 : s < w2.heap.size := Nat.lt_of_lt_of_le ls1 jd.size
 clear jd HF HSL e0 e1 e2 e3 e4 ef s0 s1 s2 s3 HG1 HO1 HB1 HS1
 obtain ⟨e0, e1, e2, e3, e4⟩ := cells5 hg2
 have ef := fz hg2
 obtain ⟨s0, s1, s2, s3⟩ := cells4 hs2
 clear e0 e1 e2 e3 e4 ef hg2 hO2 hs2
 have HB2 := lh hB2
 clear hB2
 have s0' := s0
 go_wp2
 go_ret
 exact ⟨rfl, HB2.out⟩
theorem sw_none (g lo n c' : Nat) (A' : Option Addr) (f : Nat → Int) (I H S P : Int) (kd id tt0 z : Int) (hn : n ≤ 1000) (w : World) (hg : w.heap[g]? = some (.cells #[.slice A' n c', .int .i64 I, .int .i64 H, .int .i64 S, .int .i64 P] 32 (0, 0))) (hO : w.ownsRow lo 97 4 (.slice A' n c') n ((cellsL f n).map (Value.int .i64))) (hlo : lo ≤ g) (hfd : findV (pid f) id n 0 = -1) (k1 : (kd == 1) = false) (k6 : (kd == 6) = false) (hto : kd = 3 ∨ tt0 = 0) :
  Calls Tryz.prog 139 #[.pointer (some ⟨g, 0, none⟩), .agg #[.int .i64 kd, .int .i64 id, .int .i64 tt0, .int .i64 z]] w (fun e w' => e = .returned (.bool false) ∧ Below lo w w') := by
 go_enter Tryz.func139, Tryz.ntmps139
 have lg : g < w.heap.size := (Array.getElem?_eq_some_iff.1 hg).1
 have hnc : n ≤ c' ∧ c' ≤ maxLen := by
  obtain ⟨_, _, e, h1, h2⟩ := row_slice hO
  cases e
  exact ⟨h1, h2⟩
 have hncI : (n : Int) ≤ (c' : Int) := by omega
 go_upto_region 1 with fail
 refine name_wp ?_
 intro w1 hw1
 have hb1 : Below w.heap.size w w1 := by rw [hw1]; exact (Below.refl _ w).alloc (Nat.le_refl _) _
 have hs1 := an hw1
 have hg1 := (hb1.block g lg).trans hg
 have hO1 := ownsRow_below hO hb1
 have hB1 : Below lo w w1 := hb1.mono (by omega)
 have low : ∀ k : Nat, (Value.slice A' n c').ownBlock = some k → lo ≤ k ∧ k < w.heap.size := fun k e => World.ownsRow.lt hO k e
 clear hw1 hg hO hb1
 obtain ⟨s, hs⟩ : ∃ s, s = w.heap.size := ⟨_, rfl⟩
 rw [← hs] at hs1 lg low
 have lg1 := (Array.getElem?_eq_some_iff.1 hg1).1
 have ls1 := (Array.getElem?_eq_some_iff.1 hs1).1
 have lw1 : lo ≤ w1.heap.size := by omega
 have ngs : g ≠ s := by omega
 have nsg : s ≠ g := by omega
 have hles : lo ≤ s := by omega
 have HS0 := lh hs
 clear hs
 obtain ⟨s0, s1, s2, s3⟩ := cells4 hs1
 obtain ⟨e0, e1, e2, e3, e4⟩ := cells5 hg1
 have ef := fz hg1
 have HG1 := lh hg1
 have HO1 := lh hO1
 have HB1 := lh hB1
 have HS1 := lh hs1
 clear hg1 hO1 hB1 hs1
 have hszS : w.heap.size = s := HS0.out.symm
 rw [hszS]
 clear hszS
 have HF : Hid (∀ w', Below w1.heap.size w1 w' → w'.cell? ⟨g, 0, none⟩ = some (.slice A' n c') ∧ w'.cell? ⟨g, 1, none⟩ = some (.int .i64 I) ∧ w'.cell? ⟨g, 2, none⟩ = some (.int .i64 H) ∧ w'.cell? ⟨g, 3, none⟩ = some (.int .i64 S) ∧ w'.cell? ⟨g, 4, none⟩ = some (.int .i64 P) ∧ w'.cell? ⟨s, 1, none⟩ = some (.int .i64 id)) := by
  intro w' hq
  exact ⟨kp hq e0, kp hq e1, kp hq e2, kp hq e3, kp hq e4, kp hq s1⟩
 have HSL : Hid (∀ w', Below w1.heap.size w1 w' → Sl w' lo w'.heap.size 4 A' n f) := by
  intro w' hq
  obtain ⟨A0, c0, e0, _, _, h0⟩ := own_of_row (ownsRow_below HO1.out hq)
  cases e0
  exact (h0.congr (fun j hj => cellsL_getD _ n j hj)).sl
 go_upto_region 1 with fail
 refine wp_region_held_drew (S := fun w' => Below (w1).heap.size (w1) w') (by kernel_rfl) ((Below.refl _ _).drew) (fun jd => ?_)
 refine tj4 0 7 3 10 1 8 4 11 HF jd ?_
 refine tj 2 9 HF rfl jd ?_
 refine wpAnyH_ready (rs := [5]) (by kernel_rfl) (by simp) ?_
 refine AllReadyH.cons rfl (fun K hK => ?_) AllReadyH.nil
 go_simp
 (go_at_call 109; refine (panAt_any A' n c' lo _ f I H S P id _ (HSL.out _ jd) (by omega) hnc.1).mono ?_; rw [hfd]; rintro e w2 ⟨rfl, hb2⟩)
 refine hK.out _ _ (jd.trans (hb2.mono jd.size)) (fun jd => ?_)
 clear hK K hb2
 refine tj 6 5 HF rfl jd ?_
 refine wpAnyH_done (by kernel_rfl) ?_ _
 have hg2 := (jd.block g (Array.getElem?_eq_some_iff.1 HG1.out).1).trans HG1.out
 have hs2 := (jd.block s (Array.getElem?_eq_some_iff.1 HS1.out).1).trans HS1.out
 have hO2 := ownsRow_below HO1.out jd
 have hB2 := below_of HB1.out jd lw1
 have lw2 : lo ≤ w2.heap.size := Nat.le_trans lw1 jd.size
 have lgw2 : g < w2.heap.size := Nat.lt_of_lt_of_le lg1 jd.size
 have lsw2 : s < w2.heap.size := Nat.lt_of_lt_of_le ls1 jd.size
 clear jd HF HSL e0 e1 e2 e3 e4 ef s0 s1 s2 s3 HG1 HO1 HB1 HS1
 obtain ⟨e0, e1, e2, e3, e4⟩ := cells5 hg2
 have ef := fz hg2
 obtain ⟨s0, s1, s2, s3⟩ := cells4 hs2
 have k1n : ¬ kd = 1 := by simpa using k1
 have k6n : ¬ kd = 6 := by simpa using k6
 have hneg : (-1 : Int) < 0 := by decide
 by_cases k3 : kd = 3
 ·subst k3
  clear e0 e1 e2 e3 e4 ef hg2 hO2 hs2
  have HB2 := lh hB2
  clear hB2
  have s0' := s0
  go_wp2
  go_ret
  exact ⟨rfl, HB2.out⟩
 ·have hto' := hto.resolve_left k3
  subst hto'
  have k3f : (kd == 3) = false := by simp [k3]
  clear e0 e1 e2 e3 e4 ef hg2 hO2 hs2
  have HB2 := lh hB2
  clear hB2
  have s0' := s0
  go_wp2
  go_ret
  exact ⟨rfl, HB2.out⟩
theorem sw_zero (g lo n c' : Nat) (A' : Option Addr) (f : Nat → Int) (I H S P : Int) (kd id tt0 z : Int) (hn : n ≤ 1000) (w : World) (hg : w.heap[g]? = some (.cells #[.slice A' n c', .int .i64 I, .int .i64 H, .int .i64 S, .int .i64 P] 32 (0, 0))) (hO : w.ownsRow lo 97 4 (.slice A' n c') n ((cellsL f n).map (Value.int .i64))) (hlo : lo ≤ g) (i : Nat) (hfd : findV (pid f) id n 0 = (i : Int)) (k1 : (kd == 1) = false) (k6 : (kd == 6) = false) (k7 : (kd == 7) = false) (hto : kd = 3 ∨ tt0 = 0) (hz : ¬ 1 ≤ z) :
  Calls Tryz.prog 139 #[.pointer (some ⟨g, 0, none⟩), .agg #[.int .i64 kd, .int .i64 id, .int .i64 tt0, .int .i64 z]] w (fun e w' => e = .returned (.bool false) ∧ Below lo w w') := by
 go_enter Tryz.func139, Tryz.ntmps139
 have lg : g < w.heap.size := (Array.getElem?_eq_some_iff.1 hg).1
 have hnc : n ≤ c' ∧ c' ≤ maxLen := by
  obtain ⟨_, _, e, h1, h2⟩ := row_slice hO
  cases e
  exact ⟨h1, h2⟩
 have hncI : (n : Int) ≤ (c' : Int) := by omega
 go_upto_region 1 with fail
 refine name_wp ?_
 intro w1 hw1
 have hb1 : Below w.heap.size w w1 := by rw [hw1]; exact (Below.refl _ w).alloc (Nat.le_refl _) _
 have hs1 := an hw1
 have hg1 := (hb1.block g lg).trans hg
 have hO1 := ownsRow_below hO hb1
 have hB1 : Below lo w w1 := hb1.mono (by omega)
 have low : ∀ k : Nat, (Value.slice A' n c').ownBlock = some k → lo ≤ k ∧ k < w.heap.size := fun k e => World.ownsRow.lt hO k e
 clear hw1 hg hO hb1
 obtain ⟨s, hs⟩ : ∃ s, s = w.heap.size := ⟨_, rfl⟩
 rw [← hs] at hs1 lg low
 have lg1 := (Array.getElem?_eq_some_iff.1 hg1).1
 have ls1 := (Array.getElem?_eq_some_iff.1 hs1).1
 have lw1 : lo ≤ w1.heap.size := by omega
 have ngs : g ≠ s := by omega
 have nsg : s ≠ g := by omega
 have hles : lo ≤ s := by omega
 have HS0 := lh hs
 clear hs
 obtain ⟨s0, s1, s2, s3⟩ := cells4 hs1
 obtain ⟨e0, e1, e2, e3, e4⟩ := cells5 hg1
 have ef := fz hg1
 have HG1 := lh hg1
 have HO1 := lh hO1
 have HB1 := lh hB1
 have HS1 := lh hs1
 clear hg1 hO1 hB1 hs1
 have hszS : w.heap.size = s := HS0.out.symm
 rw [hszS]
 clear hszS
 have HF : Hid (∀ w', Below w1.heap.size w1 w' → w'.cell? ⟨g, 0, none⟩ = some (.slice A' n c') ∧ w'.cell? ⟨g, 1, none⟩ = some (.int .i64 I) ∧ w'.cell? ⟨g, 2, none⟩ = some (.int .i64 H) ∧ w'.cell? ⟨g, 3, none⟩ = some (.int .i64 S) ∧ w'.cell? ⟨g, 4, none⟩ = some (.int .i64 P) ∧ w'.cell? ⟨s, 1, none⟩ = some (.int .i64 id)) := by
  intro w' hq
  exact ⟨kp hq e0, kp hq e1, kp hq e2, kp hq e3, kp hq e4, kp hq s1⟩
 have HSL : Hid (∀ w', Below w1.heap.size w1 w' → Sl w' lo w'.heap.size 4 A' n f) := by
  intro w' hq
  obtain ⟨A0, c0, e0, _, _, h0⟩ := own_of_row (ownsRow_below HO1.out hq)
  cases e0
  exact (h0.congr (fun j hj => cellsL_getD _ n j hj)).sl
 go_upto_region 1 with fail
 refine wp_region_held_drew (S := fun w' => Below (w1).heap.size (w1) w') (by kernel_rfl) ((Below.refl _ _).drew) (fun jd => ?_)
 refine tj4 0 7 3 10 1 8 4 11 HF jd ?_
 refine tj 2 9 HF rfl jd ?_
 refine wpAnyH_ready (rs := [5]) (by kernel_rfl) (by simp) ?_
 refine AllReadyH.cons rfl (fun K hK => ?_) AllReadyH.nil
 go_simp
 (go_at_call 109; refine (panAt_any A' n c' lo _ f I H S P id _ (HSL.out _ jd) (by omega) hnc.1).mono ?_; rw [hfd]; rintro e w2 ⟨rfl, hb2⟩)
 refine hK.out _ _ (jd.trans (hb2.mono jd.size)) (fun jd => ?_)
 clear hK K hb2
 refine tj 6 5 HF rfl jd ?_
 refine wpAnyH_done (by kernel_rfl) ?_ _
 have hg2 := (jd.block g (Array.getElem?_eq_some_iff.1 HG1.out).1).trans HG1.out
 have hs2 := (jd.block s (Array.getElem?_eq_some_iff.1 HS1.out).1).trans HS1.out
 have hO2 := ownsRow_below HO1.out jd
 have hB2 := below_of HB1.out jd lw1
 have lw2 : lo ≤ w2.heap.size := Nat.le_trans lw1 jd.size
 have lgw2 : g < w2.heap.size := Nat.lt_of_lt_of_le lg1 jd.size
 have lsw2 : s < w2.heap.size := Nat.lt_of_lt_of_le ls1 jd.size
 clear jd HF HSL e0 e1 e2 e3 e4 ef s0 s1 s2 s3 HG1 HO1 HB1 HS1
 obtain ⟨e0, e1, e2, e3, e4⟩ := cells5 hg2
 have ef := fz hg2
 obtain ⟨s0, s1, s2, s3⟩ := cells4 hs2
 have k1n : ¬ kd = 1 := by simpa using k1
 have k6n : ¬ kd = 6 := by simpa using k6
 have k7n : ¬ kd = 7 := by simpa using k7
 have hi0 : ¬ ((i : Int) < 0) := by omega
 by_cases k3 : kd = 3
 ·subst k3
  clear e0 e1 e2 e3 e4 ef hg2 hO2 hs2
  have HB2 := lh hB2
  clear hB2
  have s0' := s0
  go_wp2
  go_ret
  exact ⟨rfl, HB2.out⟩
 ·have hto' := hto.resolve_left k3
  subst hto'
  have k3f : (kd == 3) = false := by simp [k3]
  clear e0 e1 e2 e3 e4 ef hg2 hO2 hs2
  have HB2 := lh hB2
  clear hB2
  have s0' := s0
  go_wp2
  go_ret
  exact ⟨rfl, HB2.out⟩
theorem sw_ship (g lo n c' : Nat) (A' : Option Addr) (f : Nat → Int) (I H S P : Int) (id tt0 z : Int) (hn : n ≤ 1000) (w : World) (hg : w.heap[g]? = some (.cells #[.slice A' n c', .int .i64 I, .int .i64 H, .int .i64 S, .int .i64 P] 32 (0, 0))) (hO : w.ownsRow lo 97 4 (.slice A' n c') n ((cellsL f n).map (Value.int .i64))) (hlo : lo ≤ g) (at' : Int) (hfd : findV (pid f) id n 0 = at') (ht0 : tt0 = 0) :
  Calls Tryz.prog 139 #[.pointer (some ⟨g, 0, none⟩), .agg #[.int .i64 6, .int .i64 id, .int .i64 tt0, .int .i64 z]] w (fun e w' => e = .returned (.bool (decide (id = 0) && decide (1 ≤ z))) ∧ ((decide (id = 0) && decide (1 ≤ z)) = true → BoxOwn w' lo g (cellsL f n) n I (wrap64 (H - z)) (wrap64 (S + z)) P) ∧ Below lo w w') := by
 subst ht0
 go_enter Tryz.func139, Tryz.ntmps139
 have lg : g < w.heap.size := (Array.getElem?_eq_some_iff.1 hg).1
 have hnc : n ≤ c' ∧ c' ≤ maxLen := by
  obtain ⟨_, _, e, h1, h2⟩ := row_slice hO
  cases e
  exact ⟨h1, h2⟩
 have hncI : (n : Int) ≤ (c' : Int) := by omega
 go_upto_region 1 with fail
 refine name_wp ?_
 intro w1 hw1
 have hb1 : Below w.heap.size w w1 := by rw [hw1]; exact (Below.refl _ w).alloc (Nat.le_refl _) _
 have hs1 := an hw1
 have hg1 := (hb1.block g lg).trans hg
 have hO1 := ownsRow_below hO hb1
 have hB1 : Below lo w w1 := hb1.mono (by omega)
 have low : ∀ k : Nat, (Value.slice A' n c').ownBlock = some k → lo ≤ k ∧ k < w.heap.size := fun k e => World.ownsRow.lt hO k e
 clear hw1 hg hO hb1
 obtain ⟨s, hs⟩ : ∃ s, s = w.heap.size := ⟨_, rfl⟩
 rw [← hs] at hs1 lg low
 have lg1 := (Array.getElem?_eq_some_iff.1 hg1).1
 have ls1 := (Array.getElem?_eq_some_iff.1 hs1).1
 have lw1 : lo ≤ w1.heap.size := by omega
 have ngs : g ≠ s := by omega
 have nsg : s ≠ g := by omega
 have hles : lo ≤ s := by omega
 have HS0 := lh hs
 clear hs
 obtain ⟨s0, s1, s2, s3⟩ := cells4 hs1
 obtain ⟨e0, e1, e2, e3, e4⟩ := cells5 hg1
 have ef := fz hg1
 have HG1 := lh hg1
 have HO1 := lh hO1
 have HB1 := lh hB1
 have HS1 := lh hs1
 clear hg1 hO1 hB1 hs1
 have hszS : w.heap.size = s := HS0.out.symm
 rw [hszS]
 clear hszS
 have HF : Hid (∀ w', Below w1.heap.size w1 w' → w'.cell? ⟨g, 0, none⟩ = some (.slice A' n c') ∧ w'.cell? ⟨g, 1, none⟩ = some (.int .i64 I) ∧ w'.cell? ⟨g, 2, none⟩ = some (.int .i64 H) ∧ w'.cell? ⟨g, 3, none⟩ = some (.int .i64 S) ∧ w'.cell? ⟨g, 4, none⟩ = some (.int .i64 P) ∧ w'.cell? ⟨s, 1, none⟩ = some (.int .i64 id)) := by
  intro w' hq
  exact ⟨kp hq e0, kp hq e1, kp hq e2, kp hq e3, kp hq e4, kp hq s1⟩
 have HSL : Hid (∀ w', Below w1.heap.size w1 w' → Sl w' lo w'.heap.size 4 A' n f) := by
  intro w' hq
  obtain ⟨A0, c0, e0, _, _, h0⟩ := own_of_row (ownsRow_below HO1.out hq)
  cases e0
  exact (h0.congr (fun j hj => cellsL_getD _ n j hj)).sl
 go_upto_region 1 with fail
 refine wp_region_held_drew (S := fun w' => Below (w1).heap.size (w1) w') (by kernel_rfl) ((Below.refl _ _).drew) (fun jd => ?_)
 refine tj4 0 7 3 10 1 8 4 11 HF jd ?_
 refine tj 2 9 HF rfl jd ?_
 refine wpAnyH_ready (rs := [5]) (by kernel_rfl) (by simp) ?_
 refine AllReadyH.cons rfl (fun K hK => ?_) AllReadyH.nil
 go_simp
 (go_at_call 109; refine (panAt_any A' n c' lo _ f I H S P id _ (HSL.out _ jd) (by omega) hnc.1).mono ?_; rw [hfd]; rintro e w2 ⟨rfl, hb2⟩)
 refine hK.out _ _ (jd.trans (hb2.mono jd.size)) (fun jd => ?_)
 clear hK K hb2
 refine tj 6 5 HF rfl jd ?_
 refine wpAnyH_done (by kernel_rfl) ?_ _
 have hg2 := (jd.block g (Array.getElem?_eq_some_iff.1 HG1.out).1).trans HG1.out
 have hs2 := (jd.block s (Array.getElem?_eq_some_iff.1 HS1.out).1).trans HS1.out
 have hO2 := ownsRow_below HO1.out jd
 have hB2 := below_of HB1.out jd lw1
 have lw2 : lo ≤ w2.heap.size := Nat.le_trans lw1 jd.size
 have lgw2 : g < w2.heap.size := Nat.lt_of_lt_of_le lg1 jd.size
 have lsw2 : s < w2.heap.size := Nat.lt_of_lt_of_le ls1 jd.size
 clear jd HF HSL e0 e1 e2 e3 e4 ef s0 s1 s2 s3 HG1 HO1 HB1 HS1
 obtain ⟨e0, e1, e2, e3, e4⟩ := cells5 hg2
 have ef := fz hg2
 obtain ⟨s0, s1, s2, s3⟩ := cells4 hs2
 have HO2 := lh hO2
 have hsF : Hid (∀ w', w2.grownBy w' (some g) → w'.cell? ⟨s, 1, none⟩ = some (.int .i64 id) ∧ w'.cell? ⟨s, 3, none⟩ = some (.int .i64 z)) := by
  intro w' hq
  have u := hq.block s lsw2 (by simp; omega)
  exact ⟨(World.cell?_of_block (a := ⟨s, 1, none⟩) u).trans s1, (World.cell?_of_block (a := ⟨s, 3, none⟩) u).trans s3⟩
 have HF : Hid (∀ w', w2.grownBy w' (some g) → w'.cell? ⟨s, 1, none⟩ = some (.int .i64 id) ∧ w'.cell? ⟨s, 3, none⟩ = some (.int .i64 z)) := hsF.out
 clear hO2
 go_wp2_with fail
 refine wp_region_held_drew (S := fun w' => w2.grownBy w' (some g)) (by kernel_rfl) ⟨rfl, rfl, rfl, Nat.le_refl _, fun _ _ _ => rfl⟩ (fun jd => ?_)
 refine tj4 0 69 4 73 1 70 5 74 HF jd ?_
 refine tj 2 71 HF rfl jd ?_
 refine wpAnyH_ready (rs := [3]) (by kernel_rfl) (by simp) ?_
 refine AllReadyH.cons rfl (fun K hK => ?_) AllReadyH.nil
 go_simp
 refine hK.out _ _ jd (fun jd => ?_)
 clear hK K
 refine tj3 6 75 7 76 8 77 HF jd ?_
 refine wpAnyH_store (fuel := 0) (i := 9) rfl (by kernel_rfl) g (2) (.int .i64 (wrap64 (H - z))) 32 #[.slice A' n c', .int .i64 I, .int .i64 H, .int .i64 S, .int .i64 P] rfl (by first | rfl | exact congrArg (Value.int .i64) (IntWalk.i64_left _)) infoIntS hg2 (show 2 + 1 ≤ 5 by omega) (by simp [Value.cells, Value.oneCell']) (fun w' hg => grown_trans jd hg) ?ka
 case ka =>
 intro w3 hhw3 hgw3 hSw3
 refine wpAnyH_done (by kernel_rfl) ?_ _
 have hg3 : w3.heap[g]? = some (.cells #[.slice A' n c', .int .i64 I, .int .i64 (wrap64 (H - z)), .int .i64 S, .int .i64 P] 32) := hhw3
 have hO3 := own_other HO2.out hg2 (by decide) hSw3
 have hB3 := hB2.grown hSw3 lw2 (fun k hk => by cases hk; omega)
 have hgz3 := hSw3.size
 obtain ⟨s13, s33⟩ := hsF.out w3 hSw3
 clear jd HF hsF hSw3 hgw3 hhw3 e0 e1 e2 e3 e4 ef s0 s1 s2 s3 hs2 hg2 HO2 hB2
 obtain ⟨e0, e1, e2, e3, e4⟩ := cells5 hg3
 have ef := fz hg3
 have HF : Hid (∀ w', w3.grownBy w' (some g) → w'.cell? ⟨s, 3, none⟩ = some (.int .i64 z)) := by
  intro w' hq
  exact (World.cell?_of_block (a := ⟨s, 3, none⟩) (hq.block _ (World.block_lt_of_cell? _ _ s33) (by simp; omega))).trans s33
 have hsF : Hid (∀ w', w3.grownBy w' (some g) → w'.cell? ⟨s, 1, none⟩ = some (.int .i64 id) ∧ w'.cell? ⟨s, 3, none⟩ = some (.int .i64 z)) := by
  intro w' hq
  have u := hq.block s (World.block_lt_of_cell? _ _ s33) (by simp; omega)
  exact ⟨(World.cell?_of_block (a := ⟨s, 1, none⟩) u).trans s13, (World.cell?_of_block (a := ⟨s, 3, none⟩) u).trans s33⟩
 go_wp2_with fail
 refine wp_region_held_drew (S := fun w' => w3.grownBy w' (some g)) (by kernel_rfl) ⟨rfl, rfl, rfl, Nat.le_refl _, fun _ _ _ => rfl⟩ (fun jd => ?_)
 refine tj4 0 78 4 82 1 79 5 83 HF jd ?_
 refine tj 2 80 HF rfl jd ?_
 refine wpAnyH_ready (rs := [3]) (by kernel_rfl) (by simp) ?_
 refine AllReadyH.cons rfl (fun K hK => ?_) AllReadyH.nil
 go_simp
 refine hK.out _ _ jd (fun jd => ?_)
 clear hK K
 refine tj3 6 84 7 85 8 86 HF jd ?_
 refine wpAnyH_store (fuel := 0) (i := 9) rfl (by kernel_rfl) g (3) (.int .i64 (wrap64 (S + z))) 32 #[.slice A' n c', .int .i64 I, .int .i64 (wrap64 (H - z)), .int .i64 S, .int .i64 P] rfl (by first | rfl | exact congrArg (Value.int .i64) (IntWalk.i64_left _)) infoIntS hg3 (show 3 + 1 ≤ 5 by omega) (by simp [Value.cells, Value.oneCell']) (fun w' hg => grown_trans jd hg) ?kb
 case kb =>
 intro w4 hhw4 hgw4 hSw4
 refine wpAnyH_done (by kernel_rfl) ?_ _
 have hg4 : w4.heap[g]? = some (.cells #[.slice A' n c', .int .i64 I, .int .i64 (wrap64 (H - z)), .int .i64 (wrap64 (S + z)), .int .i64 P] 32) := hhw4
 have hO4 := own_other hO3 hg3 (by decide) hSw4
 have hB4 := hB3.grown hSw4 (Nat.le_trans lw2 hgz3) (fun k hk => by cases hk; omega)
 obtain ⟨s14, s34⟩ := hsF.out w4 hSw4
 clear jd HF hsF hSw4 hgw4 hhw4 e0 e1 e2 e3 e4 ef s13 s33 hg3 hO3 hB3
 have HG := lh hg4
 have HO := lh hO4
 have HB := lh hB4
 clear hg4 hO4 hB4
 by_cases c1 : id = 0
 ·have c1t : (id == 0) = true := by simp [c1]
  by_cases c2 : 1 ≤ z
  ·go_wp2
   go_ret
   exact ⟨ret_bool (by simp [c1, c2]), fun _ => ⟨A', c', HG.out, hnc.1, hnc.2, HO.out⟩, HB.out⟩
  ·go_wp2
   go_ret
   exact ⟨ret_bool (by simp [c1, c2]), fun _ => ⟨A', c', HG.out, hnc.1, hnc.2, HO.out⟩, HB.out⟩
 ·have c1f : (id == 0) = false := by simp [c1]
  go_wp2
  go_ret
  exact ⟨ret_bool (by simp [c1]), fun _ => ⟨A', c', HG.out, hnc.1, hnc.2, HO.out⟩, HB.out⟩
theorem sw_pan (g lo n c' : Nat) (A' : Option Addr) (f : Nat → Int) (I H S P : Int) (kd id tt0 z : Int) (hn : n ≤ 1000) (w : World) (hg : w.heap[g]? = some (.cells #[.slice A' n c', .int .i64 I, .int .i64 H, .int .i64 S, .int .i64 P] 32 (0, 0))) (hO : w.ownsRow lo 97 4 (.slice A' n c') n ((cellsL f n).map (Value.int .i64))) (hlo : lo ≤ g) (i : Nat) (hi' : i < n) (hfd : findV (pid f) id n 0 = (i : Int)) (k1 : (kd == 1) = false) (k6 : (kd == 6) = false) (k7 : (kd == 7) = false) (hto : kd = 3 ∨ tt0 = 0) (hz : 1 ≤ z) (b : Bool) (L : List Int) (I' H' : Int) (HPAN : Hid (∀ (w2 : World) (ga : Nat), w2.heap[g]? = some (.cells #[.slice (some ⟨ga, 0, none⟩) n c', .int .i64 I, .int .i64 H, .int .i64 S, .int .i64 P] 32 (0, 0)) → w2.ownsRow lo 97 4 (.slice (some ⟨ga, 0, none⟩) n c') n ((cellsL f n).map (Value.int .i64)) → Calls Tryz.prog 169 #[.pointer (some ⟨g, 0, none⟩), .int .i64 i, .agg #[.int .i64 kd, .int .i64 id, .int .i64 tt0, .int .i64 z]] w2 (fun e w' => e = .returned (.bool b) ∧ (b = true → BoxRow w' lo g ga n c' L I' H' S P) ∧ Below lo w2 w'))) :
  Calls Tryz.prog 139 #[.pointer (some ⟨g, 0, none⟩), .agg #[.int .i64 kd, .int .i64 id, .int .i64 tt0, .int .i64 z]] w (fun e w' => e = .returned (.bool b) ∧ (b = true → BoxOwn w' lo g L n I' H' S P) ∧ Below lo w w') := by
 have k1n : ¬ kd = 1 := by simpa using k1
 have k6n : ¬ kd = 6 := by simpa using k6
 have k7n : ¬ kd = 7 := by simpa using k7
 go_enter Tryz.func139, Tryz.ntmps139
 have lg : g < w.heap.size := (Array.getElem?_eq_some_iff.1 hg).1
 have hnc : n ≤ c' ∧ c' ≤ maxLen := by
  obtain ⟨_, _, e, h1, h2⟩ := row_slice hO
  cases e
  exact ⟨h1, h2⟩
 have hncI : (n : Int) ≤ (c' : Int) := by omega
 go_upto_region 1 with fail
 refine name_wp ?_
 intro w1 hw1
 have hb1 : Below w.heap.size w w1 := by rw [hw1]; exact (Below.refl _ w).alloc (Nat.le_refl _) _
 have hs1 := an hw1
 have hg1 := (hb1.block g lg).trans hg
 have hO1 := ownsRow_below hO hb1
 have hB1 : Below lo w w1 := hb1.mono (by omega)
 have low : ∀ k : Nat, (Value.slice A' n c').ownBlock = some k → lo ≤ k ∧ k < w.heap.size := fun k e => World.ownsRow.lt hO k e
 clear hw1 hg hO hb1
 obtain ⟨s, hs⟩ : ∃ s, s = w.heap.size := ⟨_, rfl⟩
 rw [← hs] at hs1 lg low
 have lg1 := (Array.getElem?_eq_some_iff.1 hg1).1
 have ls1 := (Array.getElem?_eq_some_iff.1 hs1).1
 have lw1 : lo ≤ w1.heap.size := by omega
 have ngs : g ≠ s := by omega
 have nsg : s ≠ g := by omega
 have hles : lo ≤ s := by omega
 have HS0 := lh hs
 clear hs
 obtain ⟨s0, s1, s2, s3⟩ := cells4 hs1
 obtain ⟨e0, e1, e2, e3, e4⟩ := cells5 hg1
 have ef := fz hg1
 have HG1 := lh hg1
 have HO1 := lh hO1
 have HB1 := lh hB1
 have HS1 := lh hs1
 clear hg1 hO1 hB1 hs1
 have hszS : w.heap.size = s := HS0.out.symm
 rw [hszS]
 clear hszS
 have HF : Hid (∀ w', Below w1.heap.size w1 w' → w'.cell? ⟨g, 0, none⟩ = some (.slice A' n c') ∧ w'.cell? ⟨g, 1, none⟩ = some (.int .i64 I) ∧ w'.cell? ⟨g, 2, none⟩ = some (.int .i64 H) ∧ w'.cell? ⟨g, 3, none⟩ = some (.int .i64 S) ∧ w'.cell? ⟨g, 4, none⟩ = some (.int .i64 P) ∧ w'.cell? ⟨s, 1, none⟩ = some (.int .i64 id)) := by
  intro w' hq
  exact ⟨kp hq e0, kp hq e1, kp hq e2, kp hq e3, kp hq e4, kp hq s1⟩
 have HSL : Hid (∀ w', Below w1.heap.size w1 w' → Sl w' lo w'.heap.size 4 A' n f) := by
  intro w' hq
  obtain ⟨A0, c0, e0, _, _, h0⟩ := own_of_row (ownsRow_below HO1.out hq)
  cases e0
  exact (h0.congr (fun j hj => cellsL_getD _ n j hj)).sl
 go_upto_region 1 with fail
 refine wp_region_held_drew (S := fun w' => Below (w1).heap.size (w1) w') (by kernel_rfl) ((Below.refl _ _).drew) (fun jd => ?_)
 refine tj4 0 7 3 10 1 8 4 11 HF jd ?_
 refine tj 2 9 HF rfl jd ?_
 refine wpAnyH_ready (rs := [5]) (by kernel_rfl) (by simp) ?_
 refine AllReadyH.cons rfl (fun K hK => ?_) AllReadyH.nil
 go_simp
 (go_at_call 109; refine (panAt_any A' n c' lo _ f I H S P id _ (HSL.out _ jd) (by omega) hnc.1).mono ?_; rw [hfd]; rintro e w2 ⟨rfl, hb2⟩)
 refine hK.out _ _ (jd.trans (hb2.mono jd.size)) (fun jd => ?_)
 clear hK K hb2
 refine tj 6 5 HF rfl jd ?_
 refine wpAnyH_done (by kernel_rfl) ?_ _
 have hg2 := (jd.block g (Array.getElem?_eq_some_iff.1 HG1.out).1).trans HG1.out
 have hs2 := (jd.block s (Array.getElem?_eq_some_iff.1 HS1.out).1).trans HS1.out
 have hO2 := ownsRow_below HO1.out jd
 have hB2 := below_of HB1.out jd lw1
 have lw2 : lo ≤ w2.heap.size := Nat.le_trans lw1 jd.size
 have lgw2 : g < w2.heap.size := Nat.lt_of_lt_of_le lg1 jd.size
 have lsw2 : s < w2.heap.size := Nat.lt_of_lt_of_le ls1 jd.size
 clear jd HF HSL e0 e1 e2 e3 e4 ef s0 s1 s2 s3 HG1 HO1 HB1 HS1
 obtain ⟨e0, e1, e2, e3, e4⟩ := cells5 hg2
 have ef := fz hg2
 obtain ⟨s0, s1, s2, s3⟩ := cells4 hs2
 obtain ⟨ga, rfl⟩ : ∃ ga, A' = some ⟨ga, 0, none⟩ := by
  rcases form_ofP hO2 with ⟨h0, _⟩ | ⟨g', gc, hv⟩
  ·omega
  ·cases hv; exact ⟨g', rfl⟩
 have hi0 : ¬ ((i : Int) < 0) := by omega
 have HG2 := lh hg2
 have HO2 := lh hO2
 have HB2 := lh hB2
 clear hg2 hO2 hB2 hs2 e0 e1 e2 e3 e4 ef
 by_cases k3 : kd = 3
 ·subst k3
  go_wp2_with fail
  refine (HPAN.out w2 ga HG2.out HO2.out).mono ?_
  rintro e w3 ⟨rfl, hyes, hb3⟩
  have hB3 : Below lo w w3 := HB2.out.trans hb3
  have HY := lh hyes
  have HB3 := lh hB3
  clear hyes hb3 hB3 HG2 HO2 HB2 HPAN
  go_wp2
  go_ret
  exact ⟨ret_bool (by simp), fun hb => ⟨_, c', (HY.out hb).1, hnc.1, hnc.2, (HY.out hb).2⟩, HB3.out⟩
 ·have hto' := hto.resolve_left k3
  subst hto'
  have k3f : (kd == 3) = false := by simp [k3]
  go_wp2_with fail
  refine (HPAN.out w2 ga HG2.out HO2.out).mono ?_
  rintro e w3 ⟨rfl, hyes, hb3⟩
  have hB3 : Below lo w w3 := HB2.out.trans hb3
  have HY := lh hyes
  have HB3 := lh hB3
  clear hyes hb3 hB3 HG2 HO2 HB2 HPAN
  go_wp2
  go_ret
  exact ⟨ret_bool (by simp), fun hb => ⟨_, c', (HY.out hb).1, hnc.1, hnc.2, (HY.out hb).2⟩, HB3.out⟩
theorem sw_shut (g lo n c' : Nat) (A' : Option Addr) (f : Nat → Int) (I H S P : Int) (id tt0 z : Int) (hn : n ≤ 1000) (w : World) (hg : w.heap[g]? = some (.cells #[.slice A' n c', .int .i64 I, .int .i64 H, .int .i64 S, .int .i64 P] 32 (0, 0))) (hO : w.ownsRow lo 97 4 (.slice A' n c') n ((cellsL f n).map (Value.int .i64))) (hlo : lo ≤ g) (i : Nat) (hi' : i < n) (hfd : findV (pid f) id n 0 = (i : Int)) (ht0 : tt0 = 0) :
  Calls Tryz.prog 139 #[.pointer (some ⟨g, 0, none⟩), .agg #[.int .i64 7, .int .i64 id, .int .i64 tt0, .int .i64 z]] w (fun e w' => e = .returned (.bool (decide (z = 0))) ∧ ((decide (z = 0)) = true → BoxOwn w' lo g (shutL f n i) (n - 1) I H S (wrap64 (P + f (i * 4 + 3)))) ∧ Below lo w w') := by
 subst ht0
 go_enter Tryz.func139, Tryz.ntmps139
 have lg : g < w.heap.size := (Array.getElem?_eq_some_iff.1 hg).1
 have hnc : n ≤ c' ∧ c' ≤ maxLen := by
  obtain ⟨_, _, e, h1, h2⟩ := row_slice hO
  cases e
  exact ⟨h1, h2⟩
 have hncI : (n : Int) ≤ (c' : Int) := by omega
 go_upto_region 1 with fail
 refine name_wp ?_
 intro w1 hw1
 have hb1 : Below w.heap.size w w1 := by rw [hw1]; exact (Below.refl _ w).alloc (Nat.le_refl _) _
 have hs1 := an hw1
 have hg1 := (hb1.block g lg).trans hg
 have hO1 := ownsRow_below hO hb1
 have hB1 : Below lo w w1 := hb1.mono (by omega)
 have low : ∀ k : Nat, (Value.slice A' n c').ownBlock = some k → lo ≤ k ∧ k < w.heap.size := fun k e => World.ownsRow.lt hO k e
 clear hw1 hg hO hb1
 obtain ⟨s, hs⟩ : ∃ s, s = w.heap.size := ⟨_, rfl⟩
 rw [← hs] at hs1 lg low
 have lg1 := (Array.getElem?_eq_some_iff.1 hg1).1
 have ls1 := (Array.getElem?_eq_some_iff.1 hs1).1
 have lw1 : lo ≤ w1.heap.size := by omega
 have ngs : g ≠ s := by omega
 have nsg : s ≠ g := by omega
 have hles : lo ≤ s := by omega
 have HS0 := lh hs
 clear hs
 obtain ⟨s0, s1, s2, s3⟩ := cells4 hs1
 obtain ⟨e0, e1, e2, e3, e4⟩ := cells5 hg1
 have ef := fz hg1
 have HG1 := lh hg1
 have HO1 := lh hO1
 have HB1 := lh hB1
 have HS1 := lh hs1
 clear hg1 hO1 hB1 hs1
 have hszS : w.heap.size = s := HS0.out.symm
 rw [hszS]
 clear hszS
 have HF : Hid (∀ w', Below w1.heap.size w1 w' → w'.cell? ⟨g, 0, none⟩ = some (.slice A' n c') ∧ w'.cell? ⟨g, 1, none⟩ = some (.int .i64 I) ∧ w'.cell? ⟨g, 2, none⟩ = some (.int .i64 H) ∧ w'.cell? ⟨g, 3, none⟩ = some (.int .i64 S) ∧ w'.cell? ⟨g, 4, none⟩ = some (.int .i64 P) ∧ w'.cell? ⟨s, 1, none⟩ = some (.int .i64 id)) := by
  intro w' hq
  exact ⟨kp hq e0, kp hq e1, kp hq e2, kp hq e3, kp hq e4, kp hq s1⟩
 have HSL : Hid (∀ w', Below w1.heap.size w1 w' → Sl w' lo w'.heap.size 4 A' n f) := by
  intro w' hq
  obtain ⟨A0, c0, e0, _, _, h0⟩ := own_of_row (ownsRow_below HO1.out hq)
  cases e0
  exact (h0.congr (fun j hj => cellsL_getD _ n j hj)).sl
 go_upto_region 1 with fail
 refine wp_region_held_drew (S := fun w' => Below (w1).heap.size (w1) w') (by kernel_rfl) ((Below.refl _ _).drew) (fun jd => ?_)
 refine tj4 0 7 3 10 1 8 4 11 HF jd ?_
 refine tj 2 9 HF rfl jd ?_
 refine wpAnyH_ready (rs := [5]) (by kernel_rfl) (by simp) ?_
 refine AllReadyH.cons rfl (fun K hK => ?_) AllReadyH.nil
 go_simp
 (go_at_call 109; refine (panAt_any A' n c' lo _ f I H S P id _ (HSL.out _ jd) (by omega) hnc.1).mono ?_; rw [hfd]; rintro e w2 ⟨rfl, hb2⟩)
 refine hK.out _ _ (jd.trans (hb2.mono jd.size)) (fun jd => ?_)
 clear hK K hb2
 refine tj 6 5 HF rfl jd ?_
 refine wpAnyH_done (by kernel_rfl) ?_ _
 have hg2 := (jd.block g (Array.getElem?_eq_some_iff.1 HG1.out).1).trans HG1.out
 have hs2 := (jd.block s (Array.getElem?_eq_some_iff.1 HS1.out).1).trans HS1.out
 have hO2 := ownsRow_below HO1.out jd
 have hB2 := below_of HB1.out jd lw1
 have lw2 : lo ≤ w2.heap.size := Nat.le_trans lw1 jd.size
 have lgw2 : g < w2.heap.size := Nat.lt_of_lt_of_le lg1 jd.size
 have lsw2 : s < w2.heap.size := Nat.lt_of_lt_of_le ls1 jd.size
 clear jd HF HSL e0 e1 e2 e3 e4 ef s0 s1 s2 s3 HG1 HO1 HB1 HS1
 obtain ⟨e0, e1, e2, e3, e4⟩ := cells5 hg2
 have ef := fz hg2
 obtain ⟨s0, s1, s2, s3⟩ := cells4 hs2
 obtain ⟨ga, rfl⟩ : ∃ ga, A' = some ⟨ga, 0, none⟩ := by
  rcases form_ofP hO2 with ⟨h0, _⟩ | ⟨g', gc, hv⟩
  ·omega
  ·cases hv; exact ⟨g', rfl⟩
 have nga : ga ≠ g := by
  intro e
  subst e
  exact row_ne hO2 hg2 (by decide)
 have hi0 : ¬ ((i : Int) < 0) := by omega
 have hi0' : (0 : Int) ≤ (i : Int) := by omega
 have hin : (i : Int) < (n : Int) := by omega
 have a3 : w2.cell? ⟨ga, i * 4 + 2 + 1, none⟩ = some (.int .i64 (f (i * 4 + 3))) := by rw [show i * 4 + 2 + 1 = i * 4 + 3 by omega, World.ownsRow.cellAt hO2 (i * 4 + 3) (by omega), List.getElem?_map, cellsL_at f n _ (by omega)]; rfl
 have lga2 : ga < w2.heap.size := (World.ownsRow.lt hO2 ga rfl).2
 have HF : Hid (∀ w', w2.grownBy w' (some g) ∧ (∃ V, w'.heap[g]? = some (.cells #[.slice (some ⟨ga, 0, none⟩) n c', .int .i64 I, .int .i64 H, .int .i64 S, V] 32)) → w'.cell? ⟨g, 0, none⟩ = some (.slice (some ⟨ga, 0, none⟩) n c') ∧ w'.cell? ⟨ga, i * 4 + 2 + 1, none⟩ = some (.int .i64 (f (i * 4 + 3)))) := by
  rintro w' ⟨hq, V, hV⟩
  exact ⟨by rw [cell_of_row w' g 0 _ _ (0, 0) hV]; rfl, (World.cell?_of_block (a := ⟨ga, i * 4 + 2 + 1, none⟩) (hq.block ga lga2 (by simp; omega))).trans a3⟩
 go_wp2_with fail
 refine wp_region_held_drew (S := (fun w' => w2.grownBy w' (some g) ∧ ∃ V, w'.heap[g]? = some (.cells #[.slice (some ⟨ga, 0, none⟩) n c', .int .i64 I, .int .i64 H, .int .i64 S, V] 32))) (by kernel_rfl) ⟨⟨rfl, rfl, rfl, Nat.le_refl _, fun _ _ _ => rfl⟩, _, hg2⟩ (fun jd => ?_)
 refine tj4 0 102 4 106 8 110 1 103 HF jd ?_
 refine tj4 5 107 2 104 6 108 7 109 HF jd ?_
 refine tj4 9 111 10 112 11 113 12 114 HF jd ?_
 refine wpAnyH_ready (rs := [3]) (by kernel_rfl) (by simp) ?_
 refine AllReadyH.cons rfl (fun K hK => ?_) AllReadyH.nil
 go_simp
 refine hK.out _ _ jd (fun jd => ?_)
 clear hK K
 refine tj3 13 115 14 116 15 117 HF jd ?_
 refine wpAnyH_store2 (fuel := 0) (i := 16) rfl (by kernel_rfl) g 4 (.int .i64 (wrap64 (P + f (i * 4 + 3)))) 32 #[.slice (some ⟨ga, 0, none⟩) n c', .int .i64 I, .int .i64 H, .int .i64 S, .int .i64 P] rfl (by first | rfl | exact congrArg (Value.int .i64) (IntWalk.i64_left _)) infoIntS hg2 (show 4 + 1 ≤ 5 by omega) (by simp [Value.cells, Value.oneCell']) (fun w' h1 hg => ⟨grown_trans jd.1 hg, _, h1⟩) ?ks
 case ks =>
 intro w3 hh3 hg3' hS3
 refine wpAnyH_done (by kernel_rfl) ?_ _
 have hg3 : w3.heap[g]? = some (.cells #[.slice (some ⟨ga, 0, none⟩) n c', .int .i64 I, .int .i64 H, .int .i64 S, .int .i64 (wrap64 (P + f (i * 4 + 3)))] 32) := hh3
 have hO3 := own_other hO2 hg2 (by decide) hS3.1
 have hB3 := hB2.grown hS3.1 lw2 (fun k hk => by cases hk; omega)
 have lw3 : lo ≤ w3.heap.size := Nat.le_trans lw2 hS3.1.size
 have s33 := (World.cell?_of_block (a := ⟨s, 3, none⟩) (hS3.1.block _ lsw2 (by simp; omega))).trans s3
 clear jd HF hS3 hg3' hh3 e0 e1 e2 e3 e4 ef s0 s1 s2 s3 hs2 hg2 hO2 hB2 a3
 obtain ⟨e0, e1, e2, e3, e4⟩ := cells5 hg3
 have ef := fz hg3
 obtain ⟨q, hq⟩ : ∃ q, q = i + 1 := ⟨_, rfl⟩
 have hqw : IntKind.i64.wrap ((i : Int) + 1) = (q : Int) := by rw [IntWalk.i64_in _ (by omega)]; omega
 have HQ := lh hq
 have HG3 := lh hg3
 have HO3 := lh hO3
 have HB3 := lh hB3
 clear hg3 hO3 hB3 hq
 go_wp2_with fail
 refine (DeletePan_any lo n i q (.slice (some ⟨ga, 0, none⟩) n c') (cellsL f n) w3 HO3.out hi' (by omega) HQ.out).mono ?_
 rintro e w4 ⟨v', rfl, ho4, hgr⟩
 obtain ⟨A2, c2, rfl, h1, h2⟩ := row_slice ho4
 have hgr' : w3.grownBy w4 (some ga) := hgr
 have hg4 := (hgr'.block g (Array.getElem?_eq_some_iff.1 HG3.out).1 (by simp; omega)).trans HG3.out
 have s34 := (World.cell?_of_block (a := ⟨s, 3, none⟩) (hgr'.block _ (World.block_lt_of_cell? _ _ s33) (by have := (low ga rfl).2; simp; omega))).trans s33
 have hB4 := HB3.out.grown hgr' lw3 (fun k hk => by cases hk; exact (low ga rfl).1)
 clear e0 e1 e2 e3 e4 ef s33 hgr hgr' HG3 HO3 HB3
 obtain ⟨e0, e1, e2, e3, e4⟩ := cells5 hg4
 have ef := fz hg4
 have HG4 := lh hg4
 have HO4 := lh ho4
 have HB4 := lh hB4
 have nog : ∀ j : Nat, (Value.slice A2 (n - 1) c2).ownBlock ≠ some (⟨g, j, none⟩ : Addr).block := fun j e => row_none_ne ho4 hg4 (by decide) e
 have NOG := lh nog
 clear hg4 ho4 hB4 nog
 go_upto_region 21 with fail
 refine name_wp ?_
 intro w5 hw5'
 have hw5 : w5 = w4.setCell ⟨g, 0, none⟩ (.slice A2 (n - 1) c2) := hw5'
 clear hw5' e0 e1 e2 e3 e4 ef
 have hg5 : w5.heap[g]? = some (.cells #[.slice A2 (n - 1) c2, .int .i64 I, .int .i64 H, .int .i64 S, .int .i64 (wrap64 (P + f (i * 4 + 3)))] 32) := by
  rw [hw5]
  exact heap_setCell_same _ g 0 #[.slice (some ⟨ga, 0, none⟩) n c', .int .i64 I, .int .i64 H, .int .i64 S, .int .i64 (wrap64 (P + f (i * 4 + 3)))] 32 _ HG4.out
 have hO5 := ownsRow_setCell_other (a := ⟨g, 0, none⟩) HO4.out (NOG.out 0) (.slice A2 (n - 1) c2)
 rw [← hw5] at hO5
 have hB5 : Below lo w w5 := by
  rw [hw5]
  exact HB4.out.setCell (p := ⟨g, 0, none⟩) (show lo ≤ g by omega) _
 have s35 : w5.cell? ⟨s, 3, none⟩ = some (.int .i64 z) := by rw [hw5]; go_simp
 clear hw5 HG4 HO4 HB4 NOG s34
 have HG5 := lh hg5
 have HO5 := lh hO5
 have HB5 := lh hB5
 clear hg5 hO5 hB5
 by_cases c1 : z = 0
 ·have c1t : (z == 0) = true := by simp [c1]
  go_wp2
  go_ret
  exact ⟨ret_bool (by simp [c1]), fun _ => ⟨A2, c2, HG5.out, h1, h2, by rw [HQ.out] at HO5; exact HO5.out⟩, HB5.out⟩
 ·have c1f : (z == 0) = false := by simp [c1]
  go_wp2
  go_ret
  exact ⟨ret_bool (by simp [c1]), fun _ => ⟨A2, c2, HG5.out, h1, h2, by rw [HQ.out] at HO5; exact HO5.out⟩, HB5.out⟩
end Go.Proofs.YtpndjhelpoenpaaGreatDoor
namespace Go.Proofs.YtpndjhelpoenpaaGreatDoor
open Go.RowKit
attribute [local go_sem ↓] Go.wp_at_zero Go.wp_at_succ
end Go.Proofs.YtpndjhelpoenpaaGreatDoor
namespace Go.Proofs.YtpndjhelpoenpaaGreatDoor
open Go.RowKit
attribute [local go_sem ↓] Go.wp_at_zero Go.wp_at_succ
end Go.Proofs.YtpndjhelpoenpaaGreatDoor
namespace Go.Proofs.YtpndjhelpoenpaaGreatDoor
open Go.RowKit
attribute [local go_sem ↓] Go.wp_at_zero Go.wp_at_succ
def recCells : List (BA × BA) → List Value
 | [] => []
 | e :: L => .string e.1 :: .string e.2 :: recCells L
theorem recCells_app (L : List (BA × BA)) (e : BA × BA) : recCells (L ++ [e]) = recCells L ++ [.string e.1, .string e.2] := by
 induction L with
 | nil => rfl
 | cons x L ih => simp [recCells, ih]
def lenOf : Value → Nat
 | .slice _ n _ => n
 | _ => 0
theorem own_form {w : World} {base : Nat} {e : TypeId} {size : Nat} {v : Value} {n : Nat} {xs : List Value} (h : w.ownsRow base e size v n xs) : ∃ A c, v = .slice A n c ∧ n ≤ c ∧ c ≤ maxLen := by
 rcases h.2 with ⟨rfl, rfl⟩ | ⟨g, cap, cur, rfl, _, _, h1, h2, _⟩
 ·exact ⟨none, 0, rfl, Nat.le_refl _, by unfold maxLen; omega⟩
 ·exact ⟨_, cap, rfl, h1, h2⟩
theorem infoRec : (Tryz.prog.info? 70).map (fun i => (i.zero, i.size, i.bytes)) = some (some (.agg #[.string ⟨#[]⟩, .string ⟨#[]⟩]), 2, 32) := by kernel_rfl
theorem wpList_append_rec {ops : Array Oper} {rest : List Oper} {o : Oper} {a : Act} {Q : Exit → Act → World → Prop} (w : World) (hg : o.guard = none) (s x : Operand) (t : TypeId)
  (hop : o.op = Op.call { callee := Callee.builtin Builtin.append, args := #[s, x], argTypes := #[t, t] }) (base : Nat) (ht : Tryz.prog.underlying t = some (.slice 70)) (L : List (BA × BA)) (p q : BA) (v : Value) (hs : a.eval s = v)
  (hown : w.ownsRow base 70 2 v L.length (recCells L)) (b : Nat) (hx : a.eval x = .slice (some ⟨b, 0, none⟩) 1 1) (hc : w.cell? ⟨b, 0, none⟩ = some (.string p)) (hc1 : w.cell? ⟨b, 1, none⟩ = some (.string q)) (hlen : L.length ≤ 100000000) (hbase : base ≤ w.heap.size)
  (h : ∀ v' w', w'.ownsRow base 70 2 v' (L ++ [(p, q)]).length (recCells (L ++ [(p, q)])) → w.grownBy w' v.ownBlock → wpList Tryz.prog ops Q rest (a.put o.dst v') w') :
  wpList Tryz.prog ops Q (o :: rest) a w := by
 obtain ⟨i, hi, hz0, hz1, hz2⟩ := info_parts infoRec
 refine wpList_append_own w hg s x t hop base 70 i (.agg #[.string ⟨#[]⟩, .string ⟨#[]⟩]) 2 32 ht hi hz0 hz1 hz2 rfl (by decide) v L.length (recCells L) hs hown ⟨b, 0, none⟩ 1 1 [.string p, .string q] hx rfl ?_ ?_ ?_ ?_ hbase ?_
 ·intro j u' hj
  match j, hj with
  | 0, hj => simp at hj; subst hj; simpa [Addr.add] using hc
  | 1, hj => simp at hj; subst hj; simpa [Addr.add] using hc1
 ·intro u' hu
  simp at hu
  rcases hu with rfl | rfl <;> rfl
 ·unfold maxLen; omega
 ·omega
 ·intro v' w' hown' hgrow _
  exact h v' w' (by rw [recCells_app]; simpa using hown') hgrow
theorem implText_size (s : BA) : (implText s).size ≤ s.size := by
 unfold implText
 split
 ·exact bef_size 35 s
 ·exact Nat.zero_le _
theorem aft_size (c : UInt8) (s : BA) : (aft c s).size ≤ s.size := by
 rw [← size_list (aft c s), aft_data, List.length_drop, ← size_list s]
 have := (List.dropWhile_sublist (fun x => x != c) (l := s.data.toList)).length_le
 omega
theorem readRecords_any (s : BA) (hs : s.size ≤ 4000000) (w : World) (ht : Tab w) (hm : Mx w) :
  Calls Tryz.prog 74 #[.string s] w fun e w' => ∃ v, e = .returned (.tuple #[v, .int .i64 ((readN s 60).2 : Nat)]) ∧ w'.ownsRow w.heap.size 70 2 v (readN s 60).1.length (recCells (readN s 60).1) ∧ Below w.heap.size w w' := by
 have HT := lh ht
 have HM := lh hm
 clear ht hm
 go_enter Tryz.func74, Tryz.ntmps74
 go_wp2_with fail
 go_loopw [4, 5] (fun v rd wr => ∃ m : Nat, m ≤ 60 ∧ Hid ((readN s m).1.length = m) ∧ rd = .int .i64 ((readN s m).2 : Nat) ∧ wr.ownsRow w.heap.size 70 2 v (readN s m).1.length (recCells (readN s m).1) ∧ Below w.heap.size w wr) (fun v _ _ => 60 - lenOf v)
 case atStart => exact ⟨0, by omega, rfl, rfl, World.ownsRow_nil _ _ _ _, Below.refl _ _⟩
 case round =>
  obtain ⟨m, hm60, hlm, rfl, hown, hB⟩ := hrel
  obtain ⟨hat, _⟩ := readN_at s m hm60
  have hsz := hB.size
  obtain ⟨A4, c4, hv4, _, _⟩ := own_form hown
  rw [hlm.out] at hv4
  have HST : Hid (∀ n, m ≤ n → stepR s m (readN s m).2 = none → readN s n = readN s m) := fun n hn hs => readN_stop hlm.out hs hn
  have HYE : Hid (∀ e a, stepR s m (readN s m).2 = some (e, a) → readN s (m + 1) = ((readN s m).1 ++ [e], a)) := fun e a hs => readN_yes hlm.out hs
  have HL : Hid ((readN s m).1.length = m) := hlm.out
  have hl : (readN s m).1.length ≤ 100000000 := by rw [hlm.out]; omega
  clear hlm
  have HRN := lh (Eq.refl (readN s m))
  generalize hR : readN s m = RN at *
  obtain ⟨L, at_⟩ := RN
  simp only at *
  have HR := lh hR
  have HO : Hid (wr.ownsRow w.heap.size 70 2 u4 L.length (recCells L)) := hown
  clear hR HRN hown
  subst hv4
  have hat0 : (0 : Int) ≤ (at_ : Int) := by omega
  have hat1 : (at_ : Int) ≤ (s.size : Int) := by omega
  by_cases hlt : m < 60
  ·have hst : Hid (stepR s m at_ = if noByte (s.extract at_ s.size) 10 then none else (dec m (bef 10 (s.extract at_ s.size))).map fun e => (e, at_ + (bef 10 (s.extract at_ s.size)).size + 1)) := rfl
   have hxs : (s.extract at_ s.size).size ≤ 4000000 := by simp [ByteArray.size_extract]; omega
   have hmi : (m : Int) < 60 := by omega
   have hm0 : (0 : Int) ≤ (m : Int) := by omega
   generalize hX : s.extract at_ s.size = X at hst hxs
   have hls := bef_size 10 X
   go_wp2_with fail
   first | rw [hX] | skip
   refine (Cut_any X 10 (by omega) wr (HM.out.below hB)).mono ?_
   rintro e w1 ⟨rfl, hb1⟩
   clear hX
   have B1 := below_of hB hb1 hB.size
   cases hn : noByte X 10 with
   | true =>
    have hnone : Hid (stepR s m at_ = none) := by show _ = _; rw [hst.out, hn]; simp
    go_wp2_with fail
    go_ret2
    refine ⟨.slice A4 m c4, ?_, ?_, B1⟩
    ·have hq := HST.out 60 (by omega) hnone.out; rw [hq]; try rfl
    ·rw [HST.out 60 (by omega) hnone.out]; exact ownsRow_below HO.out hb1
   | false =>
    have hst2 : Hid (stepR s m at_ = (dec m (bef 10 X)).map fun e => (e, at_ + (bef 10 X).size + 1)) := by show _ = _; rw [hst.out, hn]; simp
    clear hst
    generalize hLN : bef 10 X = line at hst2 hls
    have HO1 := lh (ownsRow_below HO.out hb1)
    clear HO hb1
    have T1 := HT.out.below B1
    have M1 := HM.out.below B1
    go_wp2_with fail
    first | rw [hLN] | skip
    refine (VerifyChecksum_any line (by omega) w1 T1 M1).mono ?_
    rintro e w2 ⟨⟨bb, rfl⟩, hb2⟩
    have B2 := below_of B1 hb2 B1.size
    have hti := implText_size line
    have hid := lh (impl_dec (k := m) (line := line) (by omega) (by omega))
    generalize implText line = txt at hti hid
    have HO2 := lh (ownsRow_below HO1.out hb2)
    clear HO1 hb2 T1 M1
    go_wp2_with fail
    refine (Cut_any txt 32 (by omega) w2 (HM.out.below B2)).mono ?_
    rintro e w3 ⟨rfl, hb3⟩
    have B3 := below_of B2 hb3 B2.size
    have hrs := aft_size 32 txt
    generalize aft 32 txt = rst at hrs hid
    have HO3 := lh (ownsRow_below HO2.out hb3)
    clear HO2 hb3
    go_wp2_with fail
    refine (Cut_any rst 64 (by omega) w3 (HM.out.below B3)).mono ?_
    rintro e w4 ⟨rfl, hb4⟩
    have B4 := below_of B3 hb4 B3.size
    have hcs := bef_size 64 rst
    have hrs2 := aft_size 64 rst
    generalize bef 64 rst = cm at hcs hid
    generalize aft 64 rst = rp at hrs2 hid
    have HO4 := lh (ownsRow_below HO3.out hb4)
    clear HO3 hb4
    have hci : (cm.size : Int) ≤ 9223372036854775807 := by omega
    have hri : (rp.size : Int) ≤ 9223372036854775807 := by omega
    have hl1 : (line.size : Int) + 1 ≤ 9223372036854775807 := by omega
    have hl2 : line.size + 1 ≤ 9223372036854775807 := by omega
    have AL4 := (Below.refl _ w4).alloc (Nat.le_refl _) (.cells #[.string cm, .string rp] 70)
    have B5 : Below w.heap.size w (w4.alloc (.cells #[.string cm, .string rp] 70)) := B4.alloc B4.size _
    have hin : inR (m : Int) 0 59 = true := by simp only [inR, decide_eq_true_eq]; omega
    have HE := lh (EncodeRecord_any m cm rp hci hri _ (HT.out.below B5))
    rw [hin] at HE
    simp only [Bool.true_and] at HE
    go_wp2_with fail
    refine HE.out.mono ?_
    clear HE
    cases hgd : goodRec cm rp with
    | false =>
     have hnone : Hid (stepR s m at_ = none) := by show _ = _; rw [hst2.out, hid.out, lineIs, hgd]; rfl
     rintro e w6 ⟨rfl, hb6⟩
     go_wp2_with fail
     go_ret2
     refine ⟨.slice A4 m c4, ?_, ?_, below_of B5 hb6 B5.size⟩
     ·have hq := HST.out 60 (by omega) hnone.out; rw [hq]; try rfl
     ·rw [HST.out 60 (by omega) hnone.out]; exact ownsRow_below (ownsRow_below HO4.out AL4) hb6
    | true =>
     by_cases hsl : sealB (bodyB m cm rp) = line
     ·have hsome : Hid (stepR s m at_ = some ((cm, rp), at_ + line.size + 1)) := by show _ = _; rw [hst2.out, hid.out, lineIs, hgd, hsl]; simp
      have hcmp : ((lineB m cm rp).toList == (line ++ ⟨#[10]⟩).toList) = true := by rw [toList_beq, lineB, hsl]; simp
      have HC := lh hcmp
      clear hsl hcmp
      rintro e w6 ⟨rfl, hb6⟩
      obtain ⟨q0, q1⟩ := cells2 (bx (g := w4.heap.size) hb6)
      have HO6 := lh (ownsRow_below (ownsRow_below HO4.out AL4) hb6)
      have B6 := below_of B5 hb6 B5.size
      have hs6 := B6.size
      have hcmp := HC.out
      generalize lineB m cm rp = LB at hcmp
      clear HO4 hb6 AL4 B5 HC
      go_wp2_with (at_builtin; refine wpList_append_rec _ rfl _ _ 66 rfl w.heap.size Tryz.underlying66 L cm rp _ rfl (HO6.out.alloc _) _ rfl (by simp) (by simp) hl (by simp; omega) ?_; intro v' w7 hown7 hgrow7)
      go_roundw
      case rel => exact ⟨m + 1, by omega, by show _ = _; rw [HYE.out _ _ hsome.out]; simp [HL.out], by rw [HYE.out _ _ hsome.out]; go_num, by rw [HYE.out _ _ hsome.out]; exact hown7, below_app (B6.alloc hs6 _) (HO6.out.alloc _) hgrow7⟩
      case measure =>
       obtain ⟨A7, c7, rfl, _, _⟩ := own_form hown7
       have := HL.out
       simp [lenOf]; omega
     ·have hnone : Hid (stepR s m at_ = none) := by show _ = _; rw [hst2.out, hid.out, lineIs]; simp [hsl]
      have hcmp : ((lineB m cm rp).toList == (line ++ ⟨#[10]⟩).toList) = false := by
       rw [toList_beq]
       refine decide_eq_false (fun e => hsl ?_)
       have := congrArg (fun x : BA => x.data.toList) e
       simp only [lineB, Joins.data_append] at this
       exact ba_ext (List.append_cancel_right this)
      have HC := lh hcmp
      clear hsl hcmp
      rintro e w6 ⟨rfl, hb6⟩
      have hcmp := HC.out
      generalize lineB m cm rp = LB at hcmp
      clear HC
      go_wp2_with fail
      go_ret2
      refine ⟨.slice A4 m c4, ?_, ?_, below_of B5 hb6 B5.size⟩
      ·have hq := HST.out 60 (by omega) hnone.out; rw [hq]; try rfl
      ·rw [HST.out 60 (by omega) hnone.out]; exact ownsRow_below (ownsRow_below HO4.out AL4) hb6
  ·obtain rfl : m = 60 := by omega
   go_wp2_with fail
   go_ret2
   exact ⟨.slice A4 60 c4, by have hq := HR.out; rw [hq]; try rfl, by rw [HR.out]; exact HO.out, hB⟩
end Go.Proofs.YtpndjhelpoenpaaGreatDoor
