/-
  The program's step in a copy of works: every kind, or why it does not fit.
-/
import Derived.Test.YtjkockhldaacbaaDoorPk1
import Derived.Test.YtjkockhldaacbaaDoorStepL
import Derived.Test.YtjkockhldaacbaaDoorDelK
namespace Go.Proofs.YtjkockhldaacbaaDoor
open Go.RowKit Go.Sort
set_option linter.unusedVariables false
set_option linter.unusedSimpArgs false
attribute [local go_sem ↓] Go.wp_at_zero Go.wp_at_succ
/-- Works in block g over a row of the call's own. -/
def BoxOwn (w : World) (lo g : Nat) (L : List Int) (m : Nat) (I H S P : Int) : Prop :=
  ∃ A' c', w.heap[g]? = some (.cells #[.slice A' m c', .int .i64 I, .int .i64 H, .int .i64 S, .int .i64 P] 26 (0, 0)) ∧ m ≤ c' ∧ c' ≤ maxLen ∧ w.ownsRow lo 48 4 (.slice A' m c') m (L.map (Value.int .i64))
theorem copyWorks_any (A : Option Addr) (n c lo hi : Nat) (f : Nat → Int) (I H S P : Int) (w : World) (hs : Sl w lo hi 4 A n f) (hn : n ≤ 1048576) (hnc : n ≤ c) (hnone : A = none → n = 0 ∧ c = 0) :
    Calls Tryd.prog 30 #[.agg #[.slice A n c, .int .i64 I, .int .i64 H, .int .i64 S, .int .i64 P]] w (ownPost w f n I H S P) := by
  have hX : Below w.heap.size w ((w.alloc (.cells #[.slice A n c, .int .i64 I, .int .i64 H, .int .i64 S, .int .i64 P] 26)).alloc (.cells #[.slice none 0 0, .int .i64 0, .int .i64 0, .int .i64 0, .int .i64 0] 26)) := ((Below.refl _ w).alloc (Nat.le_refl _) _).alloc (by simp) _
  have HX := Lib.hid hX
  clear hX
  have h0 : ((w.alloc (.cells #[.slice A n c, .int .i64 I, .int .i64 H, .int .i64 S, .int .i64 P] 26)).alloc (.cells #[.slice none 0 0, .int .i64 0, .int .i64 0, .int .i64 0, .int .i64 0] 26)).heap[w.heap.size]? = some (.cells #[.slice A n c, .int .i64 I, .int .i64 H, .int .i64 S, .int .i64 P] 26) := by
    rw [heap_alloc_old _ _ (by simp)]
    exact heap_alloc_new w _
  have hr : ((w.alloc (.cells #[.slice A n c, .int .i64 I, .int .i64 H, .int .i64 S, .int .i64 P] 26)).alloc (.cells #[.slice none 0 0, .int .i64 0, .int .i64 0, .int .i64 0, .int .i64 0] 26)).heap[w.heap.size + 1]? = some (.cells #[.slice none 0 0, .int .i64 0, .int .i64 0, .int .i64 0, .int .i64 0] 26) := by have := heap_alloc_new (w.alloc (.cells #[.slice A n c, .int .i64 I, .int .i64 H, .int .i64 S, .int .i64 P] 26)) (.cells #[.slice none 0 0, .int .i64 0, .int .i64 0, .int .i64 0, .int .i64 0] 26); simpa using this
  have H0 := Lib.hid h0
  have HR := Lib.hid hr
  clear h0 hr
  go_enter Tryd.func30, Tryd.ntmps30
  go_wp2_with fail
  refine (clonePan_any A n c lo hi f _ (hs.below HX.out) hn hnone).mono ?_
  rintro e w1 ⟨v', rfl, ho, hb1⟩
  obtain ⟨A', c', rfl, h1, h2⟩ := row_slice ho
  have h01 := (hb1.block w.heap.size (by simp; omega)).trans H0.out
  have hr1 := (hb1.block (w.heap.size + 1) (by simp)).trans HR.out
  have hB1 := HX.out.trans (hb1.mono HX.out.size)
  have hz : w.heap.size + 2 ≤ w1.heap.size := by have := hb1.size; simp only [World.size_alloc] at this; omega
  have now : ∀ k : Nat, (Value.slice A' n c').ownBlock = some k → w.heap.size + 2 ≤ k := fun k e => by have := (World.ownsRow.lt ho k e).1; simp only [World.size_alloc] at this; omega
  have ho := ownsRow_monoP ho HX.out.size
  obtain ⟨e0, e1, e2, e3, e4⟩ := cells5 h01
  have ef : ∀ j, w1.frozen? ⟨w.heap.size, j, none⟩ = false := fun j => frozen_of_row w1 w.heap.size j _ _ h01
  obtain ⟨r0, r1, r2, r3, r4⟩ := cells5 hr1
  have rf : ∀ j, w1.frozen? ⟨w.heap.size + 1, j, none⟩ = false := fun j => frozen_of_row w1 (w.heap.size + 1) j _ _ hr1
  have HB1 := Lib.hid hB1
  have HO1 := Lib.hid ho
  have NOW := Lib.hid now
  clear hb1 h01 hr1 hB1 ho now H0 HR hs
  go_wp2
  obtain ⟨wq, hwq⟩ : ∃ wq, wq = ((((((w1.setCell ⟨w.heap.size, 0, none⟩ (.slice A' n c')).setCell ⟨w.heap.size + 1, 0, none⟩ (.slice A' n c')).setCell ⟨w.heap.size + 1, 1, none⟩ (.int .i64 I)).setCell ⟨w.heap.size + 1, 2, none⟩ (.int .i64 H)).setCell ⟨w.heap.size + 1, 3, none⟩ (.int .i64 S)).setCell ⟨w.heap.size + 1, 4, none⟩ (.int .i64 P)) := ⟨_, rfl⟩
  rw [← hwq]
  have u0 : wq.cell? ⟨w.heap.size + 1, 0, none⟩ = some (.slice A' n c') := by rw [hwq]; go_simp
  have u1 : wq.cell? ⟨w.heap.size + 1, 1, none⟩ = some (.int .i64 I) := by rw [hwq]; go_simp
  have u2 : wq.cell? ⟨w.heap.size + 1, 2, none⟩ = some (.int .i64 H) := by rw [hwq]; go_simp
  have u3 : wq.cell? ⟨w.heap.size + 1, 3, none⟩ = some (.int .i64 S) := by rw [hwq]; go_simp
  have u4 : wq.cell? ⟨w.heap.size + 1, 4, none⟩ = some (.int .i64 P) := by rw [hwq]; go_simp
  have hBq : Below w.heap.size w wq := by
    rw [hwq]
    exact ((((((HB1.out.setCell (show w.heap.size ≤ w.heap.size by omega) _).setCell (show w.heap.size ≤ w.heap.size + 1 by omega) _).setCell (show w.heap.size ≤ w.heap.size + 1 by omega) _).setCell (show w.heap.size ≤ w.heap.size + 1 by omega) _).setCell (show w.heap.size ≤ w.heap.size + 1 by omega) _).setCell (show w.heap.size ≤ w.heap.size + 1 by omega) _)
  have no : ∀ j : Nat, (Value.slice A' n c').ownBlock ≠ some (⟨w.heap.size + 1, j, none⟩ : Addr).block := fun j e => by have h := NOW.out _ e; have h2 : w.heap.size + 2 ≤ w.heap.size + 1 := h; omega
  have hOq := (ownsRow_setCell_other (ownsRow_setCell_other (ownsRow_setCell_other (ownsRow_setCell_other (ownsRow_setCell_other (ownsRow_setCell_other (a := ⟨w.heap.size, 0, none⟩) HO1.out (fun e => by have h := NOW.out _ e; have h2 : w.heap.size + 2 ≤ w.heap.size := h; omega) (.slice A' n c')) (no 0) (.slice A' n c')) (no 1) (.int .i64 I)) (no 2) (.int .i64 H)) (no 3) (.int .i64 S)) (no 4) (.int .i64 P))
  rw [← hwq] at hOq
  clear hwq HO1 HB1
  try simp only [Exit.inBlock, Exit.then]
  refine bodyPost_ret (by simp [results, Tryd.results30, go_sem, u0, u1, u2, u3, u4]; try rfl) rfl ?_
  exact ⟨A', c', rfl, h1, h2, hOq, hBq⟩
set_option maxRecDepth 100000 in
set_option maxHeartbeats 2000000 in
theorem sw_to (g lo n c' : Nat) (A' : Option Addr) (f : Nat → Int) (I H S P : Int) (kd id tt0 z : Int) (hn : n ≤ 1000) (w : World) (hg : w.heap[g]? = some (.cells #[.slice A' n c', .int .i64 I, .int .i64 H, .int .i64 S, .int .i64 P] 26 (0, 0))) (hO : w.ownsRow lo 48 4 (.slice A' n c') n ((cellsL f n).map (Value.int .i64))) (hlo : lo ≤ g) (at' : Int) (hfd : findV (pid f) id n 0 = at') (k3n : ¬ kd = 3) (ht0n : ¬ tt0 = 0) :
    Calls Tryd.prog 31 #[.pointer (some ⟨g, 0, none⟩), .agg #[.int .i64 kd, .int .i64 id, .int .i64 tt0, .int .i64 z]] w (fun e w' => e = .returned (.bool false) ∧ Below lo w w') := by
  have k3 : (kd == 3) = false := by simp [k3n]
  have ht0 : (tt0 == 0) = false := by simp [ht0n]
  go_enter Tryd.func31, Tryd.ntmps31
  have lg : g < w.heap.size := (Array.getElem?_eq_some_iff.1 hg).1
  have hnc : n ≤ c' ∧ c' ≤ maxLen := by
    obtain ⟨_, _, e, h1, h2⟩ := row_slice hO
    cases e
    exact ⟨h1, h2⟩
  have hncI : (n : Int) ≤ (c' : Int) := by omega
  go_upto_region 1 with fail
  refine name_wp ?_
  intro w1 hw1
  have hb1 : Below w.heap.size w w1 := by rw [hw1]; exact (Below.refl _ w).alloc (Nat.le_refl _) _
  have hs1 : w1.heap[w.heap.size]? = some (.cells #[.int .i64 kd, .int .i64 id, .int .i64 tt0, .int .i64 z] 34) := by rw [hw1]; exact heap_alloc_new w _
  have hg1 := (hb1.block g lg).trans hg
  have hO1 := ownsRow_below hO hb1
  have hB1 : Below lo w w1 := hb1.mono (by omega)
  have low : ∀ k : Nat, (Value.slice A' n c').ownBlock = some k → lo ≤ k ∧ k < w.heap.size := fun k e => World.ownsRow.lt hO k e
  clear hw1 hg hO hb1
  obtain ⟨s, hs⟩ : ∃ s, s = w.heap.size := ⟨_, rfl⟩
  rw [← hs] at hs1 lg low
  have lg1 := (Array.getElem?_eq_some_iff.1 hg1).1
  have ls1 := (Array.getElem?_eq_some_iff.1 hs1).1
  have lw1 : lo ≤ w1.heap.size := by omega
  have ngs : g ≠ s := by omega
  have nsg : s ≠ g := by omega
  have hles : lo ≤ s := by omega
  have HS0 := Lib.hid hs
  clear hs
  obtain ⟨s0, s1, s2, s3⟩ := cells4 hs1
  obtain ⟨e0, e1, e2, e3, e4⟩ := cells5 hg1
  have ef : ∀ j, w1.frozen? ⟨g, j, none⟩ = false := fun j => frozen_of_row w1 g j _ _ hg1
  have HG1 := Lib.hid hg1
  have HO1 := Lib.hid hO1
  have HB1 := Lib.hid hB1
  have HS1 := Lib.hid hs1
  clear hg1 hO1 hB1 hs1
  have hszS : w.heap.size = s := HS0.out.symm
  rw [hszS]
  clear hszS
  have HF : Hid (∀ w', Below w1.heap.size w1 w' → w'.cell? ⟨g, 0, none⟩ = some (.slice A' n c') ∧ w'.cell? ⟨g, 1, none⟩ = some (.int .i64 I) ∧ w'.cell? ⟨g, 2, none⟩ = some (.int .i64 H) ∧ w'.cell? ⟨g, 3, none⟩ = some (.int .i64 S) ∧ w'.cell? ⟨g, 4, none⟩ = some (.int .i64 P) ∧ w'.cell? ⟨s, 1, none⟩ = some (.int .i64 id)) := by
    intro w' hq
    exact ⟨(hq.cell (p := ⟨g, 0, none⟩) (World.block_lt_of_cell? _ _ e0)).trans e0, (hq.cell (p := ⟨g, 1, none⟩) (World.block_lt_of_cell? _ _ e1)).trans e1, (hq.cell (p := ⟨g, 2, none⟩) (World.block_lt_of_cell? _ _ e2)).trans e2, (hq.cell (p := ⟨g, 3, none⟩) (World.block_lt_of_cell? _ _ e3)).trans e3, (hq.cell (p := ⟨g, 4, none⟩) (World.block_lt_of_cell? _ _ e4)).trans e4, (hq.cell (p := ⟨s, 1, none⟩) (World.block_lt_of_cell? _ _ s1)).trans s1⟩
  have HSL : Hid (∀ w', Below w1.heap.size w1 w' → Sl w' lo w'.heap.size 4 A' n f) := by
    intro w' hq
    obtain ⟨A0, c0, e0, _, _, h0⟩ := own_of_row (ownsRow_below HO1.out hq)
    cases e0
    exact (h0.congr (fun j hj => cellsL_getD _ n j hj)).sl
  go_upto_region 1 with fail
  refine wp_region_held_drew (S := fun w' => Below (w1).heap.size (w1) w') (by kernel_rfl) ((Below.refl _ _).drew) (fun hHeld => ?_)
  refine tk (v := ?_) 0 7 HF rfl ?_ hHeld ?_
  rotate_left; · (intro _ _ _; go_simp; try with_reducible rfl)
  simp only [Act.put, p1, p2, p3]
  refine tk (v := ?_) 3 10 HF rfl ?_ hHeld ?_
  rotate_left; · (intro _ _ _; go_simp; try with_reducible rfl)
  simp only [Act.put, p1, p2, p3]
  refine tk (v := ?_) 1 8 HF rfl ?_ hHeld ?_
  rotate_left; · (intro _ _ _; go_simp; try with_reducible rfl)
  simp only [Act.put, p1, p2, p3]
  refine tk (v := ?_) 4 11 HF rfl ?_ hHeld ?_
  rotate_left; · (intro _ _ _; go_simp; try with_reducible rfl)
  simp only [Act.put, p1, p2, p3]
  refine tk (v := ?_) 2 9 HF rfl ?_ hHeld ?_
  rotate_left; · (intro _ _ _; go_simp; try with_reducible rfl)
  simp only [Act.put, p1, p2, p3]
  refine wpAnyH_ready (rs := [5]) (by kernel_rfl) (by simp) ?_
  refine AllReadyH.cons rfl (fun K hK => ?_) AllReadyH.nil
  go_simp
  (go_at_call 22; refine (panAt_any A' n c' lo _ f I H S P id _ (HSL.out _ hHeld) (by omega) hnc.1).mono ?_; rw [hfd]; rintro e w2 ⟨rfl, hb2⟩)
  refine hK.out _ _ (hHeld.trans (hb2.mono hHeld.size)) (fun hHeld => ?_)
  clear hK K hb2
  refine tk (v := ?_) 6 5 HF rfl ?_ hHeld ?_
  rotate_left; · (intro _ _ _; go_simp; try with_reducible rfl)
  simp only [Act.put, p1, p2, p3]
  refine wpAnyH_done (by kernel_rfl) ?_ _
  have hg2 := (hHeld.block g (Array.getElem?_eq_some_iff.1 HG1.out).1).trans HG1.out
  have hs2 := (hHeld.block s (Array.getElem?_eq_some_iff.1 HS1.out).1).trans HS1.out
  have hO2 := ownsRow_below HO1.out hHeld
  have hB2 := below_of HB1.out hHeld lw1
  have lw2 : lo ≤ w2.heap.size := Nat.le_trans lw1 hHeld.size
  have lgw2 : g < w2.heap.size := Nat.lt_of_lt_of_le lg1 hHeld.size
  have lsw2 : s < w2.heap.size := Nat.lt_of_lt_of_le ls1 hHeld.size
  clear hHeld HF HSL e0 e1 e2 e3 e4 ef s0 s1 s2 s3 HG1 HO1 HB1 HS1
  obtain ⟨e0, e1, e2, e3, e4⟩ := cells5 hg2
  have ef : ∀ j, w2.frozen? ⟨g, j, none⟩ = false := fun j => frozen_of_row w2 g j _ _ hg2
  obtain ⟨s0, s1, s2, s3⟩ := cells4 hs2
  clear e0 e1 e2 e3 e4 ef hg2 hO2 hs2
  have HB2 := Lib.hid hB2
  clear hB2
  have s0' := s0
  go_wp2
  go_ret
  exact ⟨rfl, HB2.out⟩
set_option maxRecDepth 100000 in
set_option maxHeartbeats 2000000 in
theorem sw_there (g lo n c' : Nat) (A' : Option Addr) (f : Nat → Int) (I H S P : Int) (id tt0 z : Int) (hn : n ≤ 1000) (w : World) (hg : w.heap[g]? = some (.cells #[.slice A' n c', .int .i64 I, .int .i64 H, .int .i64 S, .int .i64 P] 26 (0, 0))) (hO : w.ownsRow lo 48 4 (.slice A' n c') n ((cellsL f n).map (Value.int .i64))) (hlo : lo ≤ g) (at' : Int) (hfd : findV (pid f) id n 0 = at') (ht0 : tt0 = 0) (hat : 0 ≤ at') :
    Calls Tryd.prog 31 #[.pointer (some ⟨g, 0, none⟩), .agg #[.int .i64 1, .int .i64 id, .int .i64 tt0, .int .i64 z]] w (fun e w' => e = .returned (.bool false) ∧ Below lo w w') := by
  subst ht0
  go_enter Tryd.func31, Tryd.ntmps31
  have lg : g < w.heap.size := (Array.getElem?_eq_some_iff.1 hg).1
  have hnc : n ≤ c' ∧ c' ≤ maxLen := by
    obtain ⟨_, _, e, h1, h2⟩ := row_slice hO
    cases e
    exact ⟨h1, h2⟩
  have hncI : (n : Int) ≤ (c' : Int) := by omega
  go_upto_region 1 with fail
  refine name_wp ?_
  intro w1 hw1
  have hb1 : Below w.heap.size w w1 := by rw [hw1]; exact (Below.refl _ w).alloc (Nat.le_refl _) _
  have hs1 : w1.heap[w.heap.size]? = some (.cells #[.int .i64 1, .int .i64 id, .int .i64 0, .int .i64 z] 34) := by rw [hw1]; exact heap_alloc_new w _
  have hg1 := (hb1.block g lg).trans hg
  have hO1 := ownsRow_below hO hb1
  have hB1 : Below lo w w1 := hb1.mono (by omega)
  have low : ∀ k : Nat, (Value.slice A' n c').ownBlock = some k → lo ≤ k ∧ k < w.heap.size := fun k e => World.ownsRow.lt hO k e
  clear hw1 hg hO hb1
  obtain ⟨s, hs⟩ : ∃ s, s = w.heap.size := ⟨_, rfl⟩
  rw [← hs] at hs1 lg low
  have lg1 := (Array.getElem?_eq_some_iff.1 hg1).1
  have ls1 := (Array.getElem?_eq_some_iff.1 hs1).1
  have lw1 : lo ≤ w1.heap.size := by omega
  have ngs : g ≠ s := by omega
  have nsg : s ≠ g := by omega
  have hles : lo ≤ s := by omega
  have HS0 := Lib.hid hs
  clear hs
  obtain ⟨s0, s1, s2, s3⟩ := cells4 hs1
  obtain ⟨e0, e1, e2, e3, e4⟩ := cells5 hg1
  have ef : ∀ j, w1.frozen? ⟨g, j, none⟩ = false := fun j => frozen_of_row w1 g j _ _ hg1
  have HG1 := Lib.hid hg1
  have HO1 := Lib.hid hO1
  have HB1 := Lib.hid hB1
  have HS1 := Lib.hid hs1
  clear hg1 hO1 hB1 hs1
  have hszS : w.heap.size = s := HS0.out.symm
  rw [hszS]
  clear hszS
  have HF : Hid (∀ w', Below w1.heap.size w1 w' → w'.cell? ⟨g, 0, none⟩ = some (.slice A' n c') ∧ w'.cell? ⟨g, 1, none⟩ = some (.int .i64 I) ∧ w'.cell? ⟨g, 2, none⟩ = some (.int .i64 H) ∧ w'.cell? ⟨g, 3, none⟩ = some (.int .i64 S) ∧ w'.cell? ⟨g, 4, none⟩ = some (.int .i64 P) ∧ w'.cell? ⟨s, 1, none⟩ = some (.int .i64 id)) := by
    intro w' hq
    exact ⟨(hq.cell (p := ⟨g, 0, none⟩) (World.block_lt_of_cell? _ _ e0)).trans e0, (hq.cell (p := ⟨g, 1, none⟩) (World.block_lt_of_cell? _ _ e1)).trans e1, (hq.cell (p := ⟨g, 2, none⟩) (World.block_lt_of_cell? _ _ e2)).trans e2, (hq.cell (p := ⟨g, 3, none⟩) (World.block_lt_of_cell? _ _ e3)).trans e3, (hq.cell (p := ⟨g, 4, none⟩) (World.block_lt_of_cell? _ _ e4)).trans e4, (hq.cell (p := ⟨s, 1, none⟩) (World.block_lt_of_cell? _ _ s1)).trans s1⟩
  have HSL : Hid (∀ w', Below w1.heap.size w1 w' → Sl w' lo w'.heap.size 4 A' n f) := by
    intro w' hq
    obtain ⟨A0, c0, e0, _, _, h0⟩ := own_of_row (ownsRow_below HO1.out hq)
    cases e0
    exact (h0.congr (fun j hj => cellsL_getD _ n j hj)).sl
  go_upto_region 1 with fail
  refine wp_region_held_drew (S := fun w' => Below (w1).heap.size (w1) w') (by kernel_rfl) ((Below.refl _ _).drew) (fun hHeld => ?_)
  refine tk (v := ?_) 0 7 HF rfl ?_ hHeld ?_
  rotate_left; · (intro _ _ _; go_simp; try with_reducible rfl)
  simp only [Act.put, p1, p2, p3]
  refine tk (v := ?_) 3 10 HF rfl ?_ hHeld ?_
  rotate_left; · (intro _ _ _; go_simp; try with_reducible rfl)
  simp only [Act.put, p1, p2, p3]
  refine tk (v := ?_) 1 8 HF rfl ?_ hHeld ?_
  rotate_left; · (intro _ _ _; go_simp; try with_reducible rfl)
  simp only [Act.put, p1, p2, p3]
  refine tk (v := ?_) 4 11 HF rfl ?_ hHeld ?_
  rotate_left; · (intro _ _ _; go_simp; try with_reducible rfl)
  simp only [Act.put, p1, p2, p3]
  refine tk (v := ?_) 2 9 HF rfl ?_ hHeld ?_
  rotate_left; · (intro _ _ _; go_simp; try with_reducible rfl)
  simp only [Act.put, p1, p2, p3]
  refine wpAnyH_ready (rs := [5]) (by kernel_rfl) (by simp) ?_
  refine AllReadyH.cons rfl (fun K hK => ?_) AllReadyH.nil
  go_simp
  (go_at_call 22; refine (panAt_any A' n c' lo _ f I H S P id _ (HSL.out _ hHeld) (by omega) hnc.1).mono ?_; rw [hfd]; rintro e w2 ⟨rfl, hb2⟩)
  refine hK.out _ _ (hHeld.trans (hb2.mono hHeld.size)) (fun hHeld => ?_)
  clear hK K hb2
  refine tk (v := ?_) 6 5 HF rfl ?_ hHeld ?_
  rotate_left; · (intro _ _ _; go_simp; try with_reducible rfl)
  simp only [Act.put, p1, p2, p3]
  refine wpAnyH_done (by kernel_rfl) ?_ _
  have hg2 := (hHeld.block g (Array.getElem?_eq_some_iff.1 HG1.out).1).trans HG1.out
  have hs2 := (hHeld.block s (Array.getElem?_eq_some_iff.1 HS1.out).1).trans HS1.out
  have hO2 := ownsRow_below HO1.out hHeld
  have hB2 := below_of HB1.out hHeld lw1
  have lw2 : lo ≤ w2.heap.size := Nat.le_trans lw1 hHeld.size
  have lgw2 : g < w2.heap.size := Nat.lt_of_lt_of_le lg1 hHeld.size
  have lsw2 : s < w2.heap.size := Nat.lt_of_lt_of_le ls1 hHeld.size
  clear hHeld HF HSL e0 e1 e2 e3 e4 ef s0 s1 s2 s3 HG1 HO1 HB1 HS1
  obtain ⟨e0, e1, e2, e3, e4⟩ := cells5 hg2
  have ef : ∀ j, w2.frozen? ⟨g, j, none⟩ = false := fun j => frozen_of_row w2 g j _ _ hg2
  obtain ⟨s0, s1, s2, s3⟩ := cells4 hs2
  clear e0 e1 e2 e3 e4 ef hg2 hO2 hs2
  have HB2 := Lib.hid hB2
  clear hB2
  have s0' := s0
  go_wp2
  go_ret
  exact ⟨rfl, HB2.out⟩
set_option maxRecDepth 100000 in
set_option maxHeartbeats 2000000 in
theorem sw_none (g lo n c' : Nat) (A' : Option Addr) (f : Nat → Int) (I H S P : Int) (kd id tt0 z : Int) (hn : n ≤ 1000) (w : World) (hg : w.heap[g]? = some (.cells #[.slice A' n c', .int .i64 I, .int .i64 H, .int .i64 S, .int .i64 P] 26 (0, 0))) (hO : w.ownsRow lo 48 4 (.slice A' n c') n ((cellsL f n).map (Value.int .i64))) (hlo : lo ≤ g) (hfd : findV (pid f) id n 0 = -1) (k1 : (kd == 1) = false) (k6 : (kd == 6) = false) (hto : kd = 3 ∨ tt0 = 0) :
    Calls Tryd.prog 31 #[.pointer (some ⟨g, 0, none⟩), .agg #[.int .i64 kd, .int .i64 id, .int .i64 tt0, .int .i64 z]] w (fun e w' => e = .returned (.bool false) ∧ Below lo w w') := by
  go_enter Tryd.func31, Tryd.ntmps31
  have lg : g < w.heap.size := (Array.getElem?_eq_some_iff.1 hg).1
  have hnc : n ≤ c' ∧ c' ≤ maxLen := by
    obtain ⟨_, _, e, h1, h2⟩ := row_slice hO
    cases e
    exact ⟨h1, h2⟩
  have hncI : (n : Int) ≤ (c' : Int) := by omega
  go_upto_region 1 with fail
  refine name_wp ?_
  intro w1 hw1
  have hb1 : Below w.heap.size w w1 := by rw [hw1]; exact (Below.refl _ w).alloc (Nat.le_refl _) _
  have hs1 : w1.heap[w.heap.size]? = some (.cells #[.int .i64 kd, .int .i64 id, .int .i64 tt0, .int .i64 z] 34) := by rw [hw1]; exact heap_alloc_new w _
  have hg1 := (hb1.block g lg).trans hg
  have hO1 := ownsRow_below hO hb1
  have hB1 : Below lo w w1 := hb1.mono (by omega)
  have low : ∀ k : Nat, (Value.slice A' n c').ownBlock = some k → lo ≤ k ∧ k < w.heap.size := fun k e => World.ownsRow.lt hO k e
  clear hw1 hg hO hb1
  obtain ⟨s, hs⟩ : ∃ s, s = w.heap.size := ⟨_, rfl⟩
  rw [← hs] at hs1 lg low
  have lg1 := (Array.getElem?_eq_some_iff.1 hg1).1
  have ls1 := (Array.getElem?_eq_some_iff.1 hs1).1
  have lw1 : lo ≤ w1.heap.size := by omega
  have ngs : g ≠ s := by omega
  have nsg : s ≠ g := by omega
  have hles : lo ≤ s := by omega
  have HS0 := Lib.hid hs
  clear hs
  obtain ⟨s0, s1, s2, s3⟩ := cells4 hs1
  obtain ⟨e0, e1, e2, e3, e4⟩ := cells5 hg1
  have ef : ∀ j, w1.frozen? ⟨g, j, none⟩ = false := fun j => frozen_of_row w1 g j _ _ hg1
  have HG1 := Lib.hid hg1
  have HO1 := Lib.hid hO1
  have HB1 := Lib.hid hB1
  have HS1 := Lib.hid hs1
  clear hg1 hO1 hB1 hs1
  have hszS : w.heap.size = s := HS0.out.symm
  rw [hszS]
  clear hszS
  have HF : Hid (∀ w', Below w1.heap.size w1 w' → w'.cell? ⟨g, 0, none⟩ = some (.slice A' n c') ∧ w'.cell? ⟨g, 1, none⟩ = some (.int .i64 I) ∧ w'.cell? ⟨g, 2, none⟩ = some (.int .i64 H) ∧ w'.cell? ⟨g, 3, none⟩ = some (.int .i64 S) ∧ w'.cell? ⟨g, 4, none⟩ = some (.int .i64 P) ∧ w'.cell? ⟨s, 1, none⟩ = some (.int .i64 id)) := by
    intro w' hq
    exact ⟨(hq.cell (p := ⟨g, 0, none⟩) (World.block_lt_of_cell? _ _ e0)).trans e0, (hq.cell (p := ⟨g, 1, none⟩) (World.block_lt_of_cell? _ _ e1)).trans e1, (hq.cell (p := ⟨g, 2, none⟩) (World.block_lt_of_cell? _ _ e2)).trans e2, (hq.cell (p := ⟨g, 3, none⟩) (World.block_lt_of_cell? _ _ e3)).trans e3, (hq.cell (p := ⟨g, 4, none⟩) (World.block_lt_of_cell? _ _ e4)).trans e4, (hq.cell (p := ⟨s, 1, none⟩) (World.block_lt_of_cell? _ _ s1)).trans s1⟩
  have HSL : Hid (∀ w', Below w1.heap.size w1 w' → Sl w' lo w'.heap.size 4 A' n f) := by
    intro w' hq
    obtain ⟨A0, c0, e0, _, _, h0⟩ := own_of_row (ownsRow_below HO1.out hq)
    cases e0
    exact (h0.congr (fun j hj => cellsL_getD _ n j hj)).sl
  go_upto_region 1 with fail
  refine wp_region_held_drew (S := fun w' => Below (w1).heap.size (w1) w') (by kernel_rfl) ((Below.refl _ _).drew) (fun hHeld => ?_)
  refine tk (v := ?_) 0 7 HF rfl ?_ hHeld ?_
  rotate_left; · (intro _ _ _; go_simp; try with_reducible rfl)
  simp only [Act.put, p1, p2, p3]
  refine tk (v := ?_) 3 10 HF rfl ?_ hHeld ?_
  rotate_left; · (intro _ _ _; go_simp; try with_reducible rfl)
  simp only [Act.put, p1, p2, p3]
  refine tk (v := ?_) 1 8 HF rfl ?_ hHeld ?_
  rotate_left; · (intro _ _ _; go_simp; try with_reducible rfl)
  simp only [Act.put, p1, p2, p3]
  refine tk (v := ?_) 4 11 HF rfl ?_ hHeld ?_
  rotate_left; · (intro _ _ _; go_simp; try with_reducible rfl)
  simp only [Act.put, p1, p2, p3]
  refine tk (v := ?_) 2 9 HF rfl ?_ hHeld ?_
  rotate_left; · (intro _ _ _; go_simp; try with_reducible rfl)
  simp only [Act.put, p1, p2, p3]
  refine wpAnyH_ready (rs := [5]) (by kernel_rfl) (by simp) ?_
  refine AllReadyH.cons rfl (fun K hK => ?_) AllReadyH.nil
  go_simp
  (go_at_call 22; refine (panAt_any A' n c' lo _ f I H S P id _ (HSL.out _ hHeld) (by omega) hnc.1).mono ?_; rw [hfd]; rintro e w2 ⟨rfl, hb2⟩)
  refine hK.out _ _ (hHeld.trans (hb2.mono hHeld.size)) (fun hHeld => ?_)
  clear hK K hb2
  refine tk (v := ?_) 6 5 HF rfl ?_ hHeld ?_
  rotate_left; · (intro _ _ _; go_simp; try with_reducible rfl)
  simp only [Act.put, p1, p2, p3]
  refine wpAnyH_done (by kernel_rfl) ?_ _
  have hg2 := (hHeld.block g (Array.getElem?_eq_some_iff.1 HG1.out).1).trans HG1.out
  have hs2 := (hHeld.block s (Array.getElem?_eq_some_iff.1 HS1.out).1).trans HS1.out
  have hO2 := ownsRow_below HO1.out hHeld
  have hB2 := below_of HB1.out hHeld lw1
  have lw2 : lo ≤ w2.heap.size := Nat.le_trans lw1 hHeld.size
  have lgw2 : g < w2.heap.size := Nat.lt_of_lt_of_le lg1 hHeld.size
  have lsw2 : s < w2.heap.size := Nat.lt_of_lt_of_le ls1 hHeld.size
  clear hHeld HF HSL e0 e1 e2 e3 e4 ef s0 s1 s2 s3 HG1 HO1 HB1 HS1
  obtain ⟨e0, e1, e2, e3, e4⟩ := cells5 hg2
  have ef : ∀ j, w2.frozen? ⟨g, j, none⟩ = false := fun j => frozen_of_row w2 g j _ _ hg2
  obtain ⟨s0, s1, s2, s3⟩ := cells4 hs2
  have k1n : ¬ kd = 1 := by simpa using k1
  have k6n : ¬ kd = 6 := by simpa using k6
  have hneg : (-1 : Int) < 0 := by decide
  by_cases k3 : kd = 3
  · subst k3
    clear e0 e1 e2 e3 e4 ef hg2 hO2 hs2
    have HB2 := Lib.hid hB2
    clear hB2
    have s0' := s0
    go_wp2
    go_ret
    exact ⟨rfl, HB2.out⟩
  · have hto' := hto.resolve_left k3
    subst hto'
    have k3f : (kd == 3) = false := by simp [k3]
    clear e0 e1 e2 e3 e4 ef hg2 hO2 hs2
    have HB2 := Lib.hid hB2
    clear hB2
    have s0' := s0
    go_wp2
    go_ret
    exact ⟨rfl, HB2.out⟩
set_option maxRecDepth 100000 in
set_option maxHeartbeats 2000000 in
theorem sw_zero (g lo n c' : Nat) (A' : Option Addr) (f : Nat → Int) (I H S P : Int) (kd id tt0 z : Int) (hn : n ≤ 1000) (w : World) (hg : w.heap[g]? = some (.cells #[.slice A' n c', .int .i64 I, .int .i64 H, .int .i64 S, .int .i64 P] 26 (0, 0))) (hO : w.ownsRow lo 48 4 (.slice A' n c') n ((cellsL f n).map (Value.int .i64))) (hlo : lo ≤ g) (i : Nat) (hfd : findV (pid f) id n 0 = (i : Int)) (k1 : (kd == 1) = false) (k6 : (kd == 6) = false) (k7 : (kd == 7) = false) (hto : kd = 3 ∨ tt0 = 0) (hz : ¬ 1 ≤ z) :
    Calls Tryd.prog 31 #[.pointer (some ⟨g, 0, none⟩), .agg #[.int .i64 kd, .int .i64 id, .int .i64 tt0, .int .i64 z]] w (fun e w' => e = .returned (.bool false) ∧ Below lo w w') := by
  go_enter Tryd.func31, Tryd.ntmps31
  have lg : g < w.heap.size := (Array.getElem?_eq_some_iff.1 hg).1
  have hnc : n ≤ c' ∧ c' ≤ maxLen := by
    obtain ⟨_, _, e, h1, h2⟩ := row_slice hO
    cases e
    exact ⟨h1, h2⟩
  have hncI : (n : Int) ≤ (c' : Int) := by omega
  go_upto_region 1 with fail
  refine name_wp ?_
  intro w1 hw1
  have hb1 : Below w.heap.size w w1 := by rw [hw1]; exact (Below.refl _ w).alloc (Nat.le_refl _) _
  have hs1 : w1.heap[w.heap.size]? = some (.cells #[.int .i64 kd, .int .i64 id, .int .i64 tt0, .int .i64 z] 34) := by rw [hw1]; exact heap_alloc_new w _
  have hg1 := (hb1.block g lg).trans hg
  have hO1 := ownsRow_below hO hb1
  have hB1 : Below lo w w1 := hb1.mono (by omega)
  have low : ∀ k : Nat, (Value.slice A' n c').ownBlock = some k → lo ≤ k ∧ k < w.heap.size := fun k e => World.ownsRow.lt hO k e
  clear hw1 hg hO hb1
  obtain ⟨s, hs⟩ : ∃ s, s = w.heap.size := ⟨_, rfl⟩
  rw [← hs] at hs1 lg low
  have lg1 := (Array.getElem?_eq_some_iff.1 hg1).1
  have ls1 := (Array.getElem?_eq_some_iff.1 hs1).1
  have lw1 : lo ≤ w1.heap.size := by omega
  have ngs : g ≠ s := by omega
  have nsg : s ≠ g := by omega
  have hles : lo ≤ s := by omega
  have HS0 := Lib.hid hs
  clear hs
  obtain ⟨s0, s1, s2, s3⟩ := cells4 hs1
  obtain ⟨e0, e1, e2, e3, e4⟩ := cells5 hg1
  have ef : ∀ j, w1.frozen? ⟨g, j, none⟩ = false := fun j => frozen_of_row w1 g j _ _ hg1
  have HG1 := Lib.hid hg1
  have HO1 := Lib.hid hO1
  have HB1 := Lib.hid hB1
  have HS1 := Lib.hid hs1
  clear hg1 hO1 hB1 hs1
  have hszS : w.heap.size = s := HS0.out.symm
  rw [hszS]
  clear hszS
  have HF : Hid (∀ w', Below w1.heap.size w1 w' → w'.cell? ⟨g, 0, none⟩ = some (.slice A' n c') ∧ w'.cell? ⟨g, 1, none⟩ = some (.int .i64 I) ∧ w'.cell? ⟨g, 2, none⟩ = some (.int .i64 H) ∧ w'.cell? ⟨g, 3, none⟩ = some (.int .i64 S) ∧ w'.cell? ⟨g, 4, none⟩ = some (.int .i64 P) ∧ w'.cell? ⟨s, 1, none⟩ = some (.int .i64 id)) := by
    intro w' hq
    exact ⟨(hq.cell (p := ⟨g, 0, none⟩) (World.block_lt_of_cell? _ _ e0)).trans e0, (hq.cell (p := ⟨g, 1, none⟩) (World.block_lt_of_cell? _ _ e1)).trans e1, (hq.cell (p := ⟨g, 2, none⟩) (World.block_lt_of_cell? _ _ e2)).trans e2, (hq.cell (p := ⟨g, 3, none⟩) (World.block_lt_of_cell? _ _ e3)).trans e3, (hq.cell (p := ⟨g, 4, none⟩) (World.block_lt_of_cell? _ _ e4)).trans e4, (hq.cell (p := ⟨s, 1, none⟩) (World.block_lt_of_cell? _ _ s1)).trans s1⟩
  have HSL : Hid (∀ w', Below w1.heap.size w1 w' → Sl w' lo w'.heap.size 4 A' n f) := by
    intro w' hq
    obtain ⟨A0, c0, e0, _, _, h0⟩ := own_of_row (ownsRow_below HO1.out hq)
    cases e0
    exact (h0.congr (fun j hj => cellsL_getD _ n j hj)).sl
  go_upto_region 1 with fail
  refine wp_region_held_drew (S := fun w' => Below (w1).heap.size (w1) w') (by kernel_rfl) ((Below.refl _ _).drew) (fun hHeld => ?_)
  refine tk (v := ?_) 0 7 HF rfl ?_ hHeld ?_
  rotate_left; · (intro _ _ _; go_simp; try with_reducible rfl)
  simp only [Act.put, p1, p2, p3]
  refine tk (v := ?_) 3 10 HF rfl ?_ hHeld ?_
  rotate_left; · (intro _ _ _; go_simp; try with_reducible rfl)
  simp only [Act.put, p1, p2, p3]
  refine tk (v := ?_) 1 8 HF rfl ?_ hHeld ?_
  rotate_left; · (intro _ _ _; go_simp; try with_reducible rfl)
  simp only [Act.put, p1, p2, p3]
  refine tk (v := ?_) 4 11 HF rfl ?_ hHeld ?_
  rotate_left; · (intro _ _ _; go_simp; try with_reducible rfl)
  simp only [Act.put, p1, p2, p3]
  refine tk (v := ?_) 2 9 HF rfl ?_ hHeld ?_
  rotate_left; · (intro _ _ _; go_simp; try with_reducible rfl)
  simp only [Act.put, p1, p2, p3]
  refine wpAnyH_ready (rs := [5]) (by kernel_rfl) (by simp) ?_
  refine AllReadyH.cons rfl (fun K hK => ?_) AllReadyH.nil
  go_simp
  (go_at_call 22; refine (panAt_any A' n c' lo _ f I H S P id _ (HSL.out _ hHeld) (by omega) hnc.1).mono ?_; rw [hfd]; rintro e w2 ⟨rfl, hb2⟩)
  refine hK.out _ _ (hHeld.trans (hb2.mono hHeld.size)) (fun hHeld => ?_)
  clear hK K hb2
  refine tk (v := ?_) 6 5 HF rfl ?_ hHeld ?_
  rotate_left; · (intro _ _ _; go_simp; try with_reducible rfl)
  simp only [Act.put, p1, p2, p3]
  refine wpAnyH_done (by kernel_rfl) ?_ _
  have hg2 := (hHeld.block g (Array.getElem?_eq_some_iff.1 HG1.out).1).trans HG1.out
  have hs2 := (hHeld.block s (Array.getElem?_eq_some_iff.1 HS1.out).1).trans HS1.out
  have hO2 := ownsRow_below HO1.out hHeld
  have hB2 := below_of HB1.out hHeld lw1
  have lw2 : lo ≤ w2.heap.size := Nat.le_trans lw1 hHeld.size
  have lgw2 : g < w2.heap.size := Nat.lt_of_lt_of_le lg1 hHeld.size
  have lsw2 : s < w2.heap.size := Nat.lt_of_lt_of_le ls1 hHeld.size
  clear hHeld HF HSL e0 e1 e2 e3 e4 ef s0 s1 s2 s3 HG1 HO1 HB1 HS1
  obtain ⟨e0, e1, e2, e3, e4⟩ := cells5 hg2
  have ef : ∀ j, w2.frozen? ⟨g, j, none⟩ = false := fun j => frozen_of_row w2 g j _ _ hg2
  obtain ⟨s0, s1, s2, s3⟩ := cells4 hs2
  have k1n : ¬ kd = 1 := by simpa using k1
  have k6n : ¬ kd = 6 := by simpa using k6
  have k7n : ¬ kd = 7 := by simpa using k7
  have hi0 : ¬ ((i : Int) < 0) := by omega
  by_cases k3 : kd = 3
  · subst k3
    clear e0 e1 e2 e3 e4 ef hg2 hO2 hs2
    have HB2 := Lib.hid hB2
    clear hB2
    have s0' := s0
    go_wp2
    go_ret
    exact ⟨rfl, HB2.out⟩
  · have hto' := hto.resolve_left k3
    subst hto'
    have k3f : (kd == 3) = false := by simp [k3]
    clear e0 e1 e2 e3 e4 ef hg2 hO2 hs2
    have HB2 := Lib.hid hB2
    clear hB2
    have s0' := s0
    go_wp2
    go_ret
    exact ⟨rfl, HB2.out⟩
set_option maxRecDepth 100000 in
set_option maxHeartbeats 2000000 in
theorem sw_ship (g lo n c' : Nat) (A' : Option Addr) (f : Nat → Int) (I H S P : Int) (id tt0 z : Int) (hn : n ≤ 1000) (w : World) (hg : w.heap[g]? = some (.cells #[.slice A' n c', .int .i64 I, .int .i64 H, .int .i64 S, .int .i64 P] 26 (0, 0))) (hO : w.ownsRow lo 48 4 (.slice A' n c') n ((cellsL f n).map (Value.int .i64))) (hlo : lo ≤ g) (at' : Int) (hfd : findV (pid f) id n 0 = at') (ht0 : tt0 = 0) :
    Calls Tryd.prog 31 #[.pointer (some ⟨g, 0, none⟩), .agg #[.int .i64 6, .int .i64 id, .int .i64 tt0, .int .i64 z]] w (fun e w' => e = .returned (.bool (decide (id = 0) && decide (1 ≤ z))) ∧ ((decide (id = 0) && decide (1 ≤ z)) = true → BoxOwn w' lo g (cellsL f n) n I (wrap64 (H - z)) (wrap64 (S + z)) P) ∧ Below lo w w') := by
  subst ht0
  go_enter Tryd.func31, Tryd.ntmps31
  have lg : g < w.heap.size := (Array.getElem?_eq_some_iff.1 hg).1
  have hnc : n ≤ c' ∧ c' ≤ maxLen := by
    obtain ⟨_, _, e, h1, h2⟩ := row_slice hO
    cases e
    exact ⟨h1, h2⟩
  have hncI : (n : Int) ≤ (c' : Int) := by omega
  go_upto_region 1 with fail
  refine name_wp ?_
  intro w1 hw1
  have hb1 : Below w.heap.size w w1 := by rw [hw1]; exact (Below.refl _ w).alloc (Nat.le_refl _) _
  have hs1 : w1.heap[w.heap.size]? = some (.cells #[.int .i64 6, .int .i64 id, .int .i64 0, .int .i64 z] 34) := by rw [hw1]; exact heap_alloc_new w _
  have hg1 := (hb1.block g lg).trans hg
  have hO1 := ownsRow_below hO hb1
  have hB1 : Below lo w w1 := hb1.mono (by omega)
  have low : ∀ k : Nat, (Value.slice A' n c').ownBlock = some k → lo ≤ k ∧ k < w.heap.size := fun k e => World.ownsRow.lt hO k e
  clear hw1 hg hO hb1
  obtain ⟨s, hs⟩ : ∃ s, s = w.heap.size := ⟨_, rfl⟩
  rw [← hs] at hs1 lg low
  have lg1 := (Array.getElem?_eq_some_iff.1 hg1).1
  have ls1 := (Array.getElem?_eq_some_iff.1 hs1).1
  have lw1 : lo ≤ w1.heap.size := by omega
  have ngs : g ≠ s := by omega
  have nsg : s ≠ g := by omega
  have hles : lo ≤ s := by omega
  have HS0 := Lib.hid hs
  clear hs
  obtain ⟨s0, s1, s2, s3⟩ := cells4 hs1
  obtain ⟨e0, e1, e2, e3, e4⟩ := cells5 hg1
  have ef : ∀ j, w1.frozen? ⟨g, j, none⟩ = false := fun j => frozen_of_row w1 g j _ _ hg1
  have HG1 := Lib.hid hg1
  have HO1 := Lib.hid hO1
  have HB1 := Lib.hid hB1
  have HS1 := Lib.hid hs1
  clear hg1 hO1 hB1 hs1
  have hszS : w.heap.size = s := HS0.out.symm
  rw [hszS]
  clear hszS
  have HF : Hid (∀ w', Below w1.heap.size w1 w' → w'.cell? ⟨g, 0, none⟩ = some (.slice A' n c') ∧ w'.cell? ⟨g, 1, none⟩ = some (.int .i64 I) ∧ w'.cell? ⟨g, 2, none⟩ = some (.int .i64 H) ∧ w'.cell? ⟨g, 3, none⟩ = some (.int .i64 S) ∧ w'.cell? ⟨g, 4, none⟩ = some (.int .i64 P) ∧ w'.cell? ⟨s, 1, none⟩ = some (.int .i64 id)) := by
    intro w' hq
    exact ⟨(hq.cell (p := ⟨g, 0, none⟩) (World.block_lt_of_cell? _ _ e0)).trans e0, (hq.cell (p := ⟨g, 1, none⟩) (World.block_lt_of_cell? _ _ e1)).trans e1, (hq.cell (p := ⟨g, 2, none⟩) (World.block_lt_of_cell? _ _ e2)).trans e2, (hq.cell (p := ⟨g, 3, none⟩) (World.block_lt_of_cell? _ _ e3)).trans e3, (hq.cell (p := ⟨g, 4, none⟩) (World.block_lt_of_cell? _ _ e4)).trans e4, (hq.cell (p := ⟨s, 1, none⟩) (World.block_lt_of_cell? _ _ s1)).trans s1⟩
  have HSL : Hid (∀ w', Below w1.heap.size w1 w' → Sl w' lo w'.heap.size 4 A' n f) := by
    intro w' hq
    obtain ⟨A0, c0, e0, _, _, h0⟩ := own_of_row (ownsRow_below HO1.out hq)
    cases e0
    exact (h0.congr (fun j hj => cellsL_getD _ n j hj)).sl
  go_upto_region 1 with fail
  refine wp_region_held_drew (S := fun w' => Below (w1).heap.size (w1) w') (by kernel_rfl) ((Below.refl _ _).drew) (fun hHeld => ?_)
  refine tk (v := ?_) 0 7 HF rfl ?_ hHeld ?_
  rotate_left; · (intro _ _ _; go_simp; try with_reducible rfl)
  simp only [Act.put, p1, p2, p3]
  refine tk (v := ?_) 3 10 HF rfl ?_ hHeld ?_
  rotate_left; · (intro _ _ _; go_simp; try with_reducible rfl)
  simp only [Act.put, p1, p2, p3]
  refine tk (v := ?_) 1 8 HF rfl ?_ hHeld ?_
  rotate_left; · (intro _ _ _; go_simp; try with_reducible rfl)
  simp only [Act.put, p1, p2, p3]
  refine tk (v := ?_) 4 11 HF rfl ?_ hHeld ?_
  rotate_left; · (intro _ _ _; go_simp; try with_reducible rfl)
  simp only [Act.put, p1, p2, p3]
  refine tk (v := ?_) 2 9 HF rfl ?_ hHeld ?_
  rotate_left; · (intro _ _ _; go_simp; try with_reducible rfl)
  simp only [Act.put, p1, p2, p3]
  refine wpAnyH_ready (rs := [5]) (by kernel_rfl) (by simp) ?_
  refine AllReadyH.cons rfl (fun K hK => ?_) AllReadyH.nil
  go_simp
  (go_at_call 22; refine (panAt_any A' n c' lo _ f I H S P id _ (HSL.out _ hHeld) (by omega) hnc.1).mono ?_; rw [hfd]; rintro e w2 ⟨rfl, hb2⟩)
  refine hK.out _ _ (hHeld.trans (hb2.mono hHeld.size)) (fun hHeld => ?_)
  clear hK K hb2
  refine tk (v := ?_) 6 5 HF rfl ?_ hHeld ?_
  rotate_left; · (intro _ _ _; go_simp; try with_reducible rfl)
  simp only [Act.put, p1, p2, p3]
  refine wpAnyH_done (by kernel_rfl) ?_ _
  have hg2 := (hHeld.block g (Array.getElem?_eq_some_iff.1 HG1.out).1).trans HG1.out
  have hs2 := (hHeld.block s (Array.getElem?_eq_some_iff.1 HS1.out).1).trans HS1.out
  have hO2 := ownsRow_below HO1.out hHeld
  have hB2 := below_of HB1.out hHeld lw1
  have lw2 : lo ≤ w2.heap.size := Nat.le_trans lw1 hHeld.size
  have lgw2 : g < w2.heap.size := Nat.lt_of_lt_of_le lg1 hHeld.size
  have lsw2 : s < w2.heap.size := Nat.lt_of_lt_of_le ls1 hHeld.size
  clear hHeld HF HSL e0 e1 e2 e3 e4 ef s0 s1 s2 s3 HG1 HO1 HB1 HS1
  obtain ⟨e0, e1, e2, e3, e4⟩ := cells5 hg2
  have ef : ∀ j, w2.frozen? ⟨g, j, none⟩ = false := fun j => frozen_of_row w2 g j _ _ hg2
  obtain ⟨s0, s1, s2, s3⟩ := cells4 hs2
  have HO2 := Lib.hid hO2
  have hsF : Hid (∀ w', w2.grownBy w' (some g) → w'.cell? ⟨s, 1, none⟩ = some (.int .i64 id) ∧ w'.cell? ⟨s, 3, none⟩ = some (.int .i64 z)) := by
    intro w' hq
    have u := hq.block s lsw2 (by simp; omega)
    exact ⟨(World.cell?_of_block (a := ⟨s, 1, none⟩) u).trans s1, (World.cell?_of_block (a := ⟨s, 3, none⟩) u).trans s3⟩
  have HF : Hid (∀ w', w2.grownBy w' (some g) → w'.cell? ⟨s, 1, none⟩ = some (.int .i64 id) ∧ w'.cell? ⟨s, 3, none⟩ = some (.int .i64 z)) := hsF.out
  clear hO2
  go_wp2_with fail
  refine wp_region_held_drew (S := fun w' => w2.grownBy w' (some g)) (by kernel_rfl) ⟨rfl, rfl, rfl, Nat.le_refl _, fun _ _ _ => rfl⟩ (fun hHeld => ?_)
  refine tk (v := ?_) 0 69 HF rfl ?_ hHeld ?_
  rotate_left; · (intro _ _ _; go_simp; try with_reducible rfl)
  simp only [Act.put, p1, p2, p3]
  refine tk (v := ?_) 4 73 HF rfl ?_ hHeld ?_
  rotate_left; · (intro _ _ _; go_simp; try with_reducible rfl)
  simp only [Act.put, p1, p2, p3]
  refine tk (v := ?_) 1 70 HF rfl ?_ hHeld ?_
  rotate_left; · (intro _ _ _; go_simp; try with_reducible rfl)
  simp only [Act.put, p1, p2, p3]
  refine tk (v := ?_) 5 74 HF rfl ?_ hHeld ?_
  rotate_left; · (intro _ _ _; go_simp; try with_reducible rfl)
  simp only [Act.put, p1, p2, p3]
  refine tk (v := ?_) 2 71 HF rfl ?_ hHeld ?_
  rotate_left; · (intro _ _ _; go_simp; try with_reducible rfl)
  simp only [Act.put, p1, p2, p3]
  refine wpAnyH_ready (rs := [3]) (by kernel_rfl) (by simp) ?_
  refine AllReadyH.cons rfl (fun K hK => ?_) AllReadyH.nil
  go_simp
  refine hK.out _ _ hHeld (fun hHeld => ?_)
  clear hK K
  refine tk (v := ?_) 6 75 HF rfl ?_ hHeld ?_
  rotate_left; · (intro _ _ _; go_simp; try with_reducible rfl)
  simp only [Act.put, p1, p2, p3]
  refine tk (v := ?_) 7 76 HF rfl ?_ hHeld ?_
  rotate_left; · (intro _ _ _; go_simp; try with_reducible rfl)
  simp only [Act.put, p1, p2, p3]
  refine tk (v := ?_) 8 77 HF rfl ?_ hHeld ?_
  rotate_left; · (intro _ _ _; go_simp; try with_reducible rfl)
  simp only [Act.put, p1, p2, p3]
  refine wpAnyH_store (fuel := 0) (i := 9) rfl (by kernel_rfl) g (2) (.int .i64 (wrap64 (H - z))) 26 #[.slice A' n c', .int .i64 I, .int .i64 H, .int .i64 S, .int .i64 P] rfl (by first | rfl | exact congrArg (Value.int .i64) (IntWalk.i64_left _)) infoIntS hg2 (show 2 + 1 ≤ 5 by omega) (by simp [Value.cells, Value.oneCell']) (fun w' hg => grown_trans hHeld hg) ?ka
  case ka =>
  intro w3 hhw3 hgw3 hSw3
  refine wpAnyH_done (by kernel_rfl) ?_ _
  have hg3 : w3.heap[g]? = some (.cells #[.slice A' n c', .int .i64 I, .int .i64 (wrap64 (H - z)), .int .i64 S, .int .i64 P] 26) := hhw3
  have hO3 := own_other HO2.out hg2 (by decide) hSw3
  have hB3 := hB2.grown hSw3 lw2 (fun k hk => by cases hk; omega)
  have hgz3 := hSw3.size
  obtain ⟨s13, s33⟩ := hsF.out w3 hSw3
  clear hHeld HF hsF hSw3 hgw3 hhw3 e0 e1 e2 e3 e4 ef s0 s1 s2 s3 hs2 hg2 HO2 hB2
  obtain ⟨e0, e1, e2, e3, e4⟩ := cells5 hg3
  have ef : ∀ j, w3.frozen? ⟨g, j, none⟩ = false := fun j => frozen_of_row w3 g j _ _ hg3
  have HF : Hid (∀ w', w3.grownBy w' (some g) → w'.cell? ⟨s, 3, none⟩ = some (.int .i64 z)) := by
    intro w' hq
    exact (World.cell?_of_block (a := ⟨s, 3, none⟩) (hq.block _ (World.block_lt_of_cell? _ _ s33) (by simp; omega))).trans s33
  have hsF : Hid (∀ w', w3.grownBy w' (some g) → w'.cell? ⟨s, 1, none⟩ = some (.int .i64 id) ∧ w'.cell? ⟨s, 3, none⟩ = some (.int .i64 z)) := by
    intro w' hq
    have u := hq.block s (World.block_lt_of_cell? _ _ s33) (by simp; omega)
    exact ⟨(World.cell?_of_block (a := ⟨s, 1, none⟩) u).trans s13, (World.cell?_of_block (a := ⟨s, 3, none⟩) u).trans s33⟩
  go_wp2_with fail
  refine wp_region_held_drew (S := fun w' => w3.grownBy w' (some g)) (by kernel_rfl) ⟨rfl, rfl, rfl, Nat.le_refl _, fun _ _ _ => rfl⟩ (fun hHeld => ?_)
  refine tk (v := ?_) 0 78 HF rfl ?_ hHeld ?_
  rotate_left; · (intro _ _ _; go_simp; try with_reducible rfl)
  simp only [Act.put, p1, p2, p3]
  refine tk (v := ?_) 4 82 HF rfl ?_ hHeld ?_
  rotate_left; · (intro _ _ _; go_simp; try with_reducible rfl)
  simp only [Act.put, p1, p2, p3]
  refine tk (v := ?_) 1 79 HF rfl ?_ hHeld ?_
  rotate_left; · (intro _ _ _; go_simp; try with_reducible rfl)
  simp only [Act.put, p1, p2, p3]
  refine tk (v := ?_) 5 83 HF rfl ?_ hHeld ?_
  rotate_left; · (intro _ _ _; go_simp; try with_reducible rfl)
  simp only [Act.put, p1, p2, p3]
  refine tk (v := ?_) 2 80 HF rfl ?_ hHeld ?_
  rotate_left; · (intro _ _ _; go_simp; try with_reducible rfl)
  simp only [Act.put, p1, p2, p3]
  refine wpAnyH_ready (rs := [3]) (by kernel_rfl) (by simp) ?_
  refine AllReadyH.cons rfl (fun K hK => ?_) AllReadyH.nil
  go_simp
  refine hK.out _ _ hHeld (fun hHeld => ?_)
  clear hK K
  refine tk (v := ?_) 6 84 HF rfl ?_ hHeld ?_
  rotate_left; · (intro _ _ _; go_simp; try with_reducible rfl)
  simp only [Act.put, p1, p2, p3]
  refine tk (v := ?_) 7 85 HF rfl ?_ hHeld ?_
  rotate_left; · (intro _ _ _; go_simp; try with_reducible rfl)
  simp only [Act.put, p1, p2, p3]
  refine tk (v := ?_) 8 86 HF rfl ?_ hHeld ?_
  rotate_left; · (intro _ _ _; go_simp; try with_reducible rfl)
  simp only [Act.put, p1, p2, p3]
  refine wpAnyH_store (fuel := 0) (i := 9) rfl (by kernel_rfl) g (3) (.int .i64 (wrap64 (S + z))) 26 #[.slice A' n c', .int .i64 I, .int .i64 (wrap64 (H - z)), .int .i64 S, .int .i64 P] rfl (by first | rfl | exact congrArg (Value.int .i64) (IntWalk.i64_left _)) infoIntS hg3 (show 3 + 1 ≤ 5 by omega) (by simp [Value.cells, Value.oneCell']) (fun w' hg => grown_trans hHeld hg) ?kb
  case kb =>
  intro w4 hhw4 hgw4 hSw4
  refine wpAnyH_done (by kernel_rfl) ?_ _
  have hg4 : w4.heap[g]? = some (.cells #[.slice A' n c', .int .i64 I, .int .i64 (wrap64 (H - z)), .int .i64 (wrap64 (S + z)), .int .i64 P] 26) := hhw4
  have hO4 := own_other hO3 hg3 (by decide) hSw4
  have hB4 := hB3.grown hSw4 (Nat.le_trans lw2 hgz3) (fun k hk => by cases hk; omega)
  obtain ⟨s14, s34⟩ := hsF.out w4 hSw4
  clear hHeld HF hsF hSw4 hgw4 hhw4 e0 e1 e2 e3 e4 ef s13 s33 hg3 hO3 hB3
  have HG := Lib.hid hg4
  have HO := Lib.hid hO4
  have HB := Lib.hid hB4
  clear hg4 hO4 hB4
  by_cases c1 : id = 0
  · have c1t : (id == 0) = true := by simp [c1]
    by_cases c2 : 1 ≤ z
    · go_wp2
      go_ret
      exact ⟨ret_bool (by simp [c1, c2]), fun _ => ⟨A', c', HG.out, hnc.1, hnc.2, HO.out⟩, HB.out⟩
    · go_wp2
      go_ret
      exact ⟨ret_bool (by simp [c1, c2]), fun _ => ⟨A', c', HG.out, hnc.1, hnc.2, HO.out⟩, HB.out⟩
  · have c1f : (id == 0) = false := by simp [c1]
    go_wp2
    go_ret
    exact ⟨ret_bool (by simp [c1]), fun _ => ⟨A', c', HG.out, hnc.1, hnc.2, HO.out⟩, HB.out⟩
set_option maxRecDepth 100000 in
set_option maxHeartbeats 2000000 in
theorem sw_pan (g lo n c' : Nat) (A' : Option Addr) (f : Nat → Int) (I H S P : Int) (kd id tt0 z : Int) (hn : n ≤ 1000) (w : World) (hg : w.heap[g]? = some (.cells #[.slice A' n c', .int .i64 I, .int .i64 H, .int .i64 S, .int .i64 P] 26 (0, 0))) (hO : w.ownsRow lo 48 4 (.slice A' n c') n ((cellsL f n).map (Value.int .i64))) (hlo : lo ≤ g) (i : Nat) (hi' : i < n) (hfd : findV (pid f) id n 0 = (i : Int)) (k1 : (kd == 1) = false) (k6 : (kd == 6) = false) (k7 : (kd == 7) = false) (hto : kd = 3 ∨ tt0 = 0) (hz : 1 ≤ z) (b : Bool) (L : List Int) (I' H' : Int) (HPAN : Hid (∀ (w2 : World) (ga : Nat), w2.heap[g]? = some (.cells #[.slice (some ⟨ga, 0, none⟩) n c', .int .i64 I, .int .i64 H, .int .i64 S, .int .i64 P] 26 (0, 0)) → w2.ownsRow lo 48 4 (.slice (some ⟨ga, 0, none⟩) n c') n ((cellsL f n).map (Value.int .i64)) → Calls Tryd.prog 59 #[.pointer (some ⟨g, 0, none⟩), .int .i64 i, .agg #[.int .i64 kd, .int .i64 id, .int .i64 tt0, .int .i64 z]] w2 (fun e w' => e = .returned (.bool b) ∧ (b = true → BoxRow w' lo g ga n c' L I' H' S P) ∧ Below lo w2 w'))) :
    Calls Tryd.prog 31 #[.pointer (some ⟨g, 0, none⟩), .agg #[.int .i64 kd, .int .i64 id, .int .i64 tt0, .int .i64 z]] w (fun e w' => e = .returned (.bool b) ∧ (b = true → BoxOwn w' lo g L n I' H' S P) ∧ Below lo w w') := by
  have k1n : ¬ kd = 1 := by simpa using k1
  have k6n : ¬ kd = 6 := by simpa using k6
  have k7n : ¬ kd = 7 := by simpa using k7
  go_enter Tryd.func31, Tryd.ntmps31
  have lg : g < w.heap.size := (Array.getElem?_eq_some_iff.1 hg).1
  have hnc : n ≤ c' ∧ c' ≤ maxLen := by
    obtain ⟨_, _, e, h1, h2⟩ := row_slice hO
    cases e
    exact ⟨h1, h2⟩
  have hncI : (n : Int) ≤ (c' : Int) := by omega
  go_upto_region 1 with fail
  refine name_wp ?_
  intro w1 hw1
  have hb1 : Below w.heap.size w w1 := by rw [hw1]; exact (Below.refl _ w).alloc (Nat.le_refl _) _
  have hs1 : w1.heap[w.heap.size]? = some (.cells #[.int .i64 kd, .int .i64 id, .int .i64 tt0, .int .i64 z] 34) := by rw [hw1]; exact heap_alloc_new w _
  have hg1 := (hb1.block g lg).trans hg
  have hO1 := ownsRow_below hO hb1
  have hB1 : Below lo w w1 := hb1.mono (by omega)
  have low : ∀ k : Nat, (Value.slice A' n c').ownBlock = some k → lo ≤ k ∧ k < w.heap.size := fun k e => World.ownsRow.lt hO k e
  clear hw1 hg hO hb1
  obtain ⟨s, hs⟩ : ∃ s, s = w.heap.size := ⟨_, rfl⟩
  rw [← hs] at hs1 lg low
  have lg1 := (Array.getElem?_eq_some_iff.1 hg1).1
  have ls1 := (Array.getElem?_eq_some_iff.1 hs1).1
  have lw1 : lo ≤ w1.heap.size := by omega
  have ngs : g ≠ s := by omega
  have nsg : s ≠ g := by omega
  have hles : lo ≤ s := by omega
  have HS0 := Lib.hid hs
  clear hs
  obtain ⟨s0, s1, s2, s3⟩ := cells4 hs1
  obtain ⟨e0, e1, e2, e3, e4⟩ := cells5 hg1
  have ef : ∀ j, w1.frozen? ⟨g, j, none⟩ = false := fun j => frozen_of_row w1 g j _ _ hg1
  have HG1 := Lib.hid hg1
  have HO1 := Lib.hid hO1
  have HB1 := Lib.hid hB1
  have HS1 := Lib.hid hs1
  clear hg1 hO1 hB1 hs1
  have hszS : w.heap.size = s := HS0.out.symm
  rw [hszS]
  clear hszS
  have HF : Hid (∀ w', Below w1.heap.size w1 w' → w'.cell? ⟨g, 0, none⟩ = some (.slice A' n c') ∧ w'.cell? ⟨g, 1, none⟩ = some (.int .i64 I) ∧ w'.cell? ⟨g, 2, none⟩ = some (.int .i64 H) ∧ w'.cell? ⟨g, 3, none⟩ = some (.int .i64 S) ∧ w'.cell? ⟨g, 4, none⟩ = some (.int .i64 P) ∧ w'.cell? ⟨s, 1, none⟩ = some (.int .i64 id)) := by
    intro w' hq
    exact ⟨(hq.cell (p := ⟨g, 0, none⟩) (World.block_lt_of_cell? _ _ e0)).trans e0, (hq.cell (p := ⟨g, 1, none⟩) (World.block_lt_of_cell? _ _ e1)).trans e1, (hq.cell (p := ⟨g, 2, none⟩) (World.block_lt_of_cell? _ _ e2)).trans e2, (hq.cell (p := ⟨g, 3, none⟩) (World.block_lt_of_cell? _ _ e3)).trans e3, (hq.cell (p := ⟨g, 4, none⟩) (World.block_lt_of_cell? _ _ e4)).trans e4, (hq.cell (p := ⟨s, 1, none⟩) (World.block_lt_of_cell? _ _ s1)).trans s1⟩
  have HSL : Hid (∀ w', Below w1.heap.size w1 w' → Sl w' lo w'.heap.size 4 A' n f) := by
    intro w' hq
    obtain ⟨A0, c0, e0, _, _, h0⟩ := own_of_row (ownsRow_below HO1.out hq)
    cases e0
    exact (h0.congr (fun j hj => cellsL_getD _ n j hj)).sl
  go_upto_region 1 with fail
  refine wp_region_held_drew (S := fun w' => Below (w1).heap.size (w1) w') (by kernel_rfl) ((Below.refl _ _).drew) (fun hHeld => ?_)
  refine tk (v := ?_) 0 7 HF rfl ?_ hHeld ?_
  rotate_left; · (intro _ _ _; go_simp; try with_reducible rfl)
  simp only [Act.put, p1, p2, p3]
  refine tk (v := ?_) 3 10 HF rfl ?_ hHeld ?_
  rotate_left; · (intro _ _ _; go_simp; try with_reducible rfl)
  simp only [Act.put, p1, p2, p3]
  refine tk (v := ?_) 1 8 HF rfl ?_ hHeld ?_
  rotate_left; · (intro _ _ _; go_simp; try with_reducible rfl)
  simp only [Act.put, p1, p2, p3]
  refine tk (v := ?_) 4 11 HF rfl ?_ hHeld ?_
  rotate_left; · (intro _ _ _; go_simp; try with_reducible rfl)
  simp only [Act.put, p1, p2, p3]
  refine tk (v := ?_) 2 9 HF rfl ?_ hHeld ?_
  rotate_left; · (intro _ _ _; go_simp; try with_reducible rfl)
  simp only [Act.put, p1, p2, p3]
  refine wpAnyH_ready (rs := [5]) (by kernel_rfl) (by simp) ?_
  refine AllReadyH.cons rfl (fun K hK => ?_) AllReadyH.nil
  go_simp
  (go_at_call 22; refine (panAt_any A' n c' lo _ f I H S P id _ (HSL.out _ hHeld) (by omega) hnc.1).mono ?_; rw [hfd]; rintro e w2 ⟨rfl, hb2⟩)
  refine hK.out _ _ (hHeld.trans (hb2.mono hHeld.size)) (fun hHeld => ?_)
  clear hK K hb2
  refine tk (v := ?_) 6 5 HF rfl ?_ hHeld ?_
  rotate_left; · (intro _ _ _; go_simp; try with_reducible rfl)
  simp only [Act.put, p1, p2, p3]
  refine wpAnyH_done (by kernel_rfl) ?_ _
  have hg2 := (hHeld.block g (Array.getElem?_eq_some_iff.1 HG1.out).1).trans HG1.out
  have hs2 := (hHeld.block s (Array.getElem?_eq_some_iff.1 HS1.out).1).trans HS1.out
  have hO2 := ownsRow_below HO1.out hHeld
  have hB2 := below_of HB1.out hHeld lw1
  have lw2 : lo ≤ w2.heap.size := Nat.le_trans lw1 hHeld.size
  have lgw2 : g < w2.heap.size := Nat.lt_of_lt_of_le lg1 hHeld.size
  have lsw2 : s < w2.heap.size := Nat.lt_of_lt_of_le ls1 hHeld.size
  clear hHeld HF HSL e0 e1 e2 e3 e4 ef s0 s1 s2 s3 HG1 HO1 HB1 HS1
  obtain ⟨e0, e1, e2, e3, e4⟩ := cells5 hg2
  have ef : ∀ j, w2.frozen? ⟨g, j, none⟩ = false := fun j => frozen_of_row w2 g j _ _ hg2
  obtain ⟨s0, s1, s2, s3⟩ := cells4 hs2
  obtain ⟨ga, rfl⟩ : ∃ ga, A' = some ⟨ga, 0, none⟩ := by
    rcases form_ofP hO2 with ⟨h0, _⟩ | ⟨g', gc, hv⟩
    · omega
    · cases hv; exact ⟨g', rfl⟩
  have hi0 : ¬ ((i : Int) < 0) := by omega
  have HG2 := Lib.hid hg2
  have HO2 := Lib.hid hO2
  have HB2 := Lib.hid hB2
  clear hg2 hO2 hB2 hs2 e0 e1 e2 e3 e4 ef
  by_cases k3 : kd = 3
  · subst k3
    go_wp2_with fail
    refine (HPAN.out w2 ga HG2.out HO2.out).mono ?_
    rintro e w3 ⟨rfl, hyes, hb3⟩
    have hB3 : Below lo w w3 := HB2.out.trans hb3
    have HY := Lib.hid hyes
    have HB3 := Lib.hid hB3
    clear hyes hb3 hB3 HG2 HO2 HB2 HPAN
    go_wp2
    go_ret
    exact ⟨ret_bool (by simp), fun hb => ⟨_, c', (HY.out hb).1, hnc.1, hnc.2, (HY.out hb).2⟩, HB3.out⟩
  · have hto' := hto.resolve_left k3
    subst hto'
    have k3f : (kd == 3) = false := by simp [k3]
    go_wp2_with fail
    refine (HPAN.out w2 ga HG2.out HO2.out).mono ?_
    rintro e w3 ⟨rfl, hyes, hb3⟩
    have hB3 : Below lo w w3 := HB2.out.trans hb3
    have HY := Lib.hid hyes
    have HB3 := Lib.hid hB3
    clear hyes hb3 hB3 HG2 HO2 HB2 HPAN
    go_wp2
    go_ret
    exact ⟨ret_bool (by simp), fun hb => ⟨_, c', (HY.out hb).1, hnc.1, hnc.2, (HY.out hb).2⟩, HB3.out⟩
set_option maxRecDepth 100000 in
set_option maxHeartbeats 2000000 in
theorem sw_shut (g lo n c' : Nat) (A' : Option Addr) (f : Nat → Int) (I H S P : Int) (id tt0 z : Int) (hn : n ≤ 1000) (w : World) (hg : w.heap[g]? = some (.cells #[.slice A' n c', .int .i64 I, .int .i64 H, .int .i64 S, .int .i64 P] 26 (0, 0))) (hO : w.ownsRow lo 48 4 (.slice A' n c') n ((cellsL f n).map (Value.int .i64))) (hlo : lo ≤ g) (i : Nat) (hi' : i < n) (hfd : findV (pid f) id n 0 = (i : Int)) (ht0 : tt0 = 0) :
    Calls Tryd.prog 31 #[.pointer (some ⟨g, 0, none⟩), .agg #[.int .i64 7, .int .i64 id, .int .i64 tt0, .int .i64 z]] w (fun e w' => e = .returned (.bool (decide (z = 0))) ∧ ((decide (z = 0)) = true → BoxOwn w' lo g (shutL f n i) (n - 1) I H S (wrap64 (P + f (i * 4 + 3)))) ∧ Below lo w w') := by
  subst ht0
  go_enter Tryd.func31, Tryd.ntmps31
  have lg : g < w.heap.size := (Array.getElem?_eq_some_iff.1 hg).1
  have hnc : n ≤ c' ∧ c' ≤ maxLen := by
    obtain ⟨_, _, e, h1, h2⟩ := row_slice hO
    cases e
    exact ⟨h1, h2⟩
  have hncI : (n : Int) ≤ (c' : Int) := by omega
  go_upto_region 1 with fail
  refine name_wp ?_
  intro w1 hw1
  have hb1 : Below w.heap.size w w1 := by rw [hw1]; exact (Below.refl _ w).alloc (Nat.le_refl _) _
  have hs1 : w1.heap[w.heap.size]? = some (.cells #[.int .i64 7, .int .i64 id, .int .i64 0, .int .i64 z] 34) := by rw [hw1]; exact heap_alloc_new w _
  have hg1 := (hb1.block g lg).trans hg
  have hO1 := ownsRow_below hO hb1
  have hB1 : Below lo w w1 := hb1.mono (by omega)
  have low : ∀ k : Nat, (Value.slice A' n c').ownBlock = some k → lo ≤ k ∧ k < w.heap.size := fun k e => World.ownsRow.lt hO k e
  clear hw1 hg hO hb1
  obtain ⟨s, hs⟩ : ∃ s, s = w.heap.size := ⟨_, rfl⟩
  rw [← hs] at hs1 lg low
  have lg1 := (Array.getElem?_eq_some_iff.1 hg1).1
  have ls1 := (Array.getElem?_eq_some_iff.1 hs1).1
  have lw1 : lo ≤ w1.heap.size := by omega
  have ngs : g ≠ s := by omega
  have nsg : s ≠ g := by omega
  have hles : lo ≤ s := by omega
  have HS0 := Lib.hid hs
  clear hs
  obtain ⟨s0, s1, s2, s3⟩ := cells4 hs1
  obtain ⟨e0, e1, e2, e3, e4⟩ := cells5 hg1
  have ef : ∀ j, w1.frozen? ⟨g, j, none⟩ = false := fun j => frozen_of_row w1 g j _ _ hg1
  have HG1 := Lib.hid hg1
  have HO1 := Lib.hid hO1
  have HB1 := Lib.hid hB1
  have HS1 := Lib.hid hs1
  clear hg1 hO1 hB1 hs1
  have hszS : w.heap.size = s := HS0.out.symm
  rw [hszS]
  clear hszS
  have HF : Hid (∀ w', Below w1.heap.size w1 w' → w'.cell? ⟨g, 0, none⟩ = some (.slice A' n c') ∧ w'.cell? ⟨g, 1, none⟩ = some (.int .i64 I) ∧ w'.cell? ⟨g, 2, none⟩ = some (.int .i64 H) ∧ w'.cell? ⟨g, 3, none⟩ = some (.int .i64 S) ∧ w'.cell? ⟨g, 4, none⟩ = some (.int .i64 P) ∧ w'.cell? ⟨s, 1, none⟩ = some (.int .i64 id)) := by
    intro w' hq
    exact ⟨(hq.cell (p := ⟨g, 0, none⟩) (World.block_lt_of_cell? _ _ e0)).trans e0, (hq.cell (p := ⟨g, 1, none⟩) (World.block_lt_of_cell? _ _ e1)).trans e1, (hq.cell (p := ⟨g, 2, none⟩) (World.block_lt_of_cell? _ _ e2)).trans e2, (hq.cell (p := ⟨g, 3, none⟩) (World.block_lt_of_cell? _ _ e3)).trans e3, (hq.cell (p := ⟨g, 4, none⟩) (World.block_lt_of_cell? _ _ e4)).trans e4, (hq.cell (p := ⟨s, 1, none⟩) (World.block_lt_of_cell? _ _ s1)).trans s1⟩
  have HSL : Hid (∀ w', Below w1.heap.size w1 w' → Sl w' lo w'.heap.size 4 A' n f) := by
    intro w' hq
    obtain ⟨A0, c0, e0, _, _, h0⟩ := own_of_row (ownsRow_below HO1.out hq)
    cases e0
    exact (h0.congr (fun j hj => cellsL_getD _ n j hj)).sl
  go_upto_region 1 with fail
  refine wp_region_held_drew (S := fun w' => Below (w1).heap.size (w1) w') (by kernel_rfl) ((Below.refl _ _).drew) (fun hHeld => ?_)
  refine tk (v := ?_) 0 7 HF rfl ?_ hHeld ?_
  rotate_left; · (intro _ _ _; go_simp; try with_reducible rfl)
  simp only [Act.put, p1, p2, p3]
  refine tk (v := ?_) 3 10 HF rfl ?_ hHeld ?_
  rotate_left; · (intro _ _ _; go_simp; try with_reducible rfl)
  simp only [Act.put, p1, p2, p3]
  refine tk (v := ?_) 1 8 HF rfl ?_ hHeld ?_
  rotate_left; · (intro _ _ _; go_simp; try with_reducible rfl)
  simp only [Act.put, p1, p2, p3]
  refine tk (v := ?_) 4 11 HF rfl ?_ hHeld ?_
  rotate_left; · (intro _ _ _; go_simp; try with_reducible rfl)
  simp only [Act.put, p1, p2, p3]
  refine tk (v := ?_) 2 9 HF rfl ?_ hHeld ?_
  rotate_left; · (intro _ _ _; go_simp; try with_reducible rfl)
  simp only [Act.put, p1, p2, p3]
  refine wpAnyH_ready (rs := [5]) (by kernel_rfl) (by simp) ?_
  refine AllReadyH.cons rfl (fun K hK => ?_) AllReadyH.nil
  go_simp
  (go_at_call 22; refine (panAt_any A' n c' lo _ f I H S P id _ (HSL.out _ hHeld) (by omega) hnc.1).mono ?_; rw [hfd]; rintro e w2 ⟨rfl, hb2⟩)
  refine hK.out _ _ (hHeld.trans (hb2.mono hHeld.size)) (fun hHeld => ?_)
  clear hK K hb2
  refine tk (v := ?_) 6 5 HF rfl ?_ hHeld ?_
  rotate_left; · (intro _ _ _; go_simp; try with_reducible rfl)
  simp only [Act.put, p1, p2, p3]
  refine wpAnyH_done (by kernel_rfl) ?_ _
  have hg2 := (hHeld.block g (Array.getElem?_eq_some_iff.1 HG1.out).1).trans HG1.out
  have hs2 := (hHeld.block s (Array.getElem?_eq_some_iff.1 HS1.out).1).trans HS1.out
  have hO2 := ownsRow_below HO1.out hHeld
  have hB2 := below_of HB1.out hHeld lw1
  have lw2 : lo ≤ w2.heap.size := Nat.le_trans lw1 hHeld.size
  have lgw2 : g < w2.heap.size := Nat.lt_of_lt_of_le lg1 hHeld.size
  have lsw2 : s < w2.heap.size := Nat.lt_of_lt_of_le ls1 hHeld.size
  clear hHeld HF HSL e0 e1 e2 e3 e4 ef s0 s1 s2 s3 HG1 HO1 HB1 HS1
  obtain ⟨e0, e1, e2, e3, e4⟩ := cells5 hg2
  have ef : ∀ j, w2.frozen? ⟨g, j, none⟩ = false := fun j => frozen_of_row w2 g j _ _ hg2
  obtain ⟨s0, s1, s2, s3⟩ := cells4 hs2
  obtain ⟨ga, rfl⟩ : ∃ ga, A' = some ⟨ga, 0, none⟩ := by
    rcases form_ofP hO2 with ⟨h0, _⟩ | ⟨g', gc, hv⟩
    · omega
    · cases hv; exact ⟨g', rfl⟩
  have nga : ga ≠ g := by
    intro e
    subst e
    exact row_ne hO2 hg2 (by decide)
  have hi0 : ¬ ((i : Int) < 0) := by omega
  have hi0' : (0 : Int) ≤ (i : Int) := by omega
  have hin : (i : Int) < (n : Int) := by omega
  have a3 : w2.cell? ⟨ga, i * 4 + 2 + 1, none⟩ = some (.int .i64 (f (i * 4 + 3))) := by rw [show i * 4 + 2 + 1 = i * 4 + 3 by omega, World.ownsRow.cellAt hO2 (i * 4 + 3) (by omega), List.getElem?_map, cellsL_at f n _ (by omega)]; rfl
  have lga2 : ga < w2.heap.size := (World.ownsRow.lt hO2 ga rfl).2
  have HF : Hid (∀ w', w2.grownBy w' (some g) ∧ (∃ V, w'.heap[g]? = some (.cells #[.slice (some ⟨ga, 0, none⟩) n c', .int .i64 I, .int .i64 H, .int .i64 S, V] 26)) → w'.cell? ⟨g, 0, none⟩ = some (.slice (some ⟨ga, 0, none⟩) n c') ∧ w'.cell? ⟨ga, i * 4 + 2 + 1, none⟩ = some (.int .i64 (f (i * 4 + 3)))) := by
    rintro w' ⟨hq, V, hV⟩
    exact ⟨by rw [cell_of_row w' g 0 _ _ (0, 0) hV]; rfl, (World.cell?_of_block (a := ⟨ga, i * 4 + 2 + 1, none⟩) (hq.block ga lga2 (by simp; omega))).trans a3⟩
  go_wp2_with fail
  refine wp_region_held_drew (S := (fun w' => w2.grownBy w' (some g) ∧ ∃ V, w'.heap[g]? = some (.cells #[.slice (some ⟨ga, 0, none⟩) n c', .int .i64 I, .int .i64 H, .int .i64 S, V] 26))) (by kernel_rfl) ⟨⟨rfl, rfl, rfl, Nat.le_refl _, fun _ _ _ => rfl⟩, _, hg2⟩ (fun hHeld => ?_)
  refine tk (v := ?_) 0 102 HF rfl ?_ hHeld ?_
  rotate_left; · (intro _ _ _; go_simp; try with_reducible rfl)
  simp only [Act.put, p1, p2, p3]
  refine tk (v := ?_) 4 106 HF rfl ?_ hHeld ?_
  rotate_left; · (intro _ _ _; go_simp; try with_reducible rfl)
  simp only [Act.put, p1, p2, p3]
  refine tk (v := ?_) 8 110 HF rfl ?_ hHeld ?_
  rotate_left; · (intro _ _ _; go_simp; try with_reducible rfl)
  simp only [Act.put, p1, p2, p3]
  refine tk (v := ?_) 1 103 HF rfl ?_ hHeld ?_
  rotate_left; · (intro _ _ _; go_simp; try with_reducible rfl)
  simp only [Act.put, p1, p2, p3]
  refine tk (v := ?_) 5 107 HF rfl ?_ hHeld ?_
  rotate_left; · (intro _ _ _; go_simp; try with_reducible rfl)
  simp only [Act.put, p1, p2, p3]
  refine tk (v := ?_) 2 104 HF rfl ?_ hHeld ?_
  rotate_left; · (intro _ _ _; go_simp; try with_reducible rfl)
  simp only [Act.put, p1, p2, p3]
  refine tk (v := ?_) 6 108 HF rfl ?_ hHeld ?_
  rotate_left; · (intro _ _ _; go_simp; try with_reducible rfl)
  simp only [Act.put, p1, p2, p3]
  refine tk (v := ?_) 7 109 HF rfl ?_ hHeld ?_
  rotate_left; · (intro _ _ _; go_simp; try with_reducible rfl)
  simp only [Act.put, p1, p2, p3]
  refine tk (v := ?_) 9 111 HF rfl ?_ hHeld ?_
  rotate_left; · (intro _ _ _; go_simp; try with_reducible rfl)
  simp only [Act.put, p1, p2, p3]
  refine tk (v := ?_) 10 112 HF rfl ?_ hHeld ?_
  rotate_left; · (intro _ _ _; go_simp; try with_reducible rfl)
  simp only [Act.put, p1, p2, p3]
  refine tk (v := ?_) 11 113 HF rfl ?_ hHeld ?_
  rotate_left; · (intro _ _ _; go_simp; try with_reducible rfl)
  simp only [Act.put, p1, p2, p3]
  refine tk (v := ?_) 12 114 HF rfl ?_ hHeld ?_
  rotate_left; · (intro _ _ _; go_simp; try with_reducible rfl)
  simp only [Act.put, p1, p2, p3]
  refine wpAnyH_ready (rs := [3]) (by kernel_rfl) (by simp) ?_
  refine AllReadyH.cons rfl (fun K hK => ?_) AllReadyH.nil
  go_simp
  refine hK.out _ _ hHeld (fun hHeld => ?_)
  clear hK K
  refine tk (v := ?_) 13 115 HF rfl ?_ hHeld ?_
  rotate_left; · (intro _ _ _; go_simp; try with_reducible rfl)
  simp only [Act.put, p1, p2, p3]
  refine tk (v := ?_) 14 116 HF rfl ?_ hHeld ?_
  rotate_left; · (intro _ _ _; go_simp; try with_reducible rfl)
  simp only [Act.put, p1, p2, p3]
  refine tk (v := ?_) 15 117 HF rfl ?_ hHeld ?_
  rotate_left; · (intro _ _ _; go_simp; try with_reducible rfl)
  simp only [Act.put, p1, p2, p3]
  refine wpAnyH_store2 (fuel := 0) (i := 16) rfl (by kernel_rfl) g 4 (.int .i64 (wrap64 (P + f (i * 4 + 3)))) 26 #[.slice (some ⟨ga, 0, none⟩) n c', .int .i64 I, .int .i64 H, .int .i64 S, .int .i64 P] rfl (by first | rfl | exact congrArg (Value.int .i64) (IntWalk.i64_left _)) infoIntS hg2 (show 4 + 1 ≤ 5 by omega) (by simp [Value.cells, Value.oneCell']) (fun w' h1 hg => ⟨grown_trans hHeld.1 hg, _, h1⟩) ?ks
  case ks =>
  intro w3 hh3 hg3' hS3
  refine wpAnyH_done (by kernel_rfl) ?_ _
  have hg3 : w3.heap[g]? = some (.cells #[.slice (some ⟨ga, 0, none⟩) n c', .int .i64 I, .int .i64 H, .int .i64 S, .int .i64 (wrap64 (P + f (i * 4 + 3)))] 26) := hh3
  have hO3 := own_other hO2 hg2 (by decide) hS3.1
  have hB3 := hB2.grown hS3.1 lw2 (fun k hk => by cases hk; omega)
  have lw3 : lo ≤ w3.heap.size := Nat.le_trans lw2 hS3.1.size
  have s33 := (World.cell?_of_block (a := ⟨s, 3, none⟩) (hS3.1.block _ lsw2 (by simp; omega))).trans s3
  clear hHeld HF hS3 hg3' hh3 e0 e1 e2 e3 e4 ef s0 s1 s2 s3 hs2 hg2 hO2 hB2 a3
  obtain ⟨e0, e1, e2, e3, e4⟩ := cells5 hg3
  have ef : ∀ j, w3.frozen? ⟨g, j, none⟩ = false := fun j => frozen_of_row w3 g j _ _ hg3
  obtain ⟨q, hq⟩ : ∃ q, q = i + 1 := ⟨_, rfl⟩
  have hqw : IntKind.i64.wrap ((i : Int) + 1) = (q : Int) := by rw [IntWalk.i64_in _ (by omega)]; omega
  have HQ := Lib.hid hq
  have HG3 := Lib.hid hg3
  have HO3 := Lib.hid hO3
  have HB3 := Lib.hid hB3
  clear hg3 hO3 hB3 hq
  go_wp2_with fail
  refine (DeletePan_any lo n i q (.slice (some ⟨ga, 0, none⟩) n c') (cellsL f n) w3 HO3.out hi' (by omega) HQ.out).mono ?_
  rintro e w4 ⟨v', rfl, ho4, hgr⟩
  obtain ⟨A2, c2, rfl, h1, h2⟩ := row_slice ho4
  have hgr' : w3.grownBy w4 (some ga) := hgr
  have hg4 := (hgr'.block g (Array.getElem?_eq_some_iff.1 HG3.out).1 (by simp; omega)).trans HG3.out
  have s34 := (World.cell?_of_block (a := ⟨s, 3, none⟩) (hgr'.block _ (World.block_lt_of_cell? _ _ s33) (by have := (low ga rfl).2; simp; omega))).trans s33
  have hB4 := HB3.out.grown hgr' lw3 (fun k hk => by cases hk; exact (low ga rfl).1)
  clear e0 e1 e2 e3 e4 ef s33 hgr hgr' HG3 HO3 HB3
  obtain ⟨e0, e1, e2, e3, e4⟩ := cells5 hg4
  have ef : ∀ j, w4.frozen? ⟨g, j, none⟩ = false := fun j => frozen_of_row w4 g j _ _ hg4
  have HG4 := Lib.hid hg4
  have HO4 := Lib.hid ho4
  have HB4 := Lib.hid hB4
  have nog : ∀ j : Nat, (Value.slice A2 (n - 1) c2).ownBlock ≠ some (⟨g, j, none⟩ : Addr).block := fun j e => row_none_ne ho4 hg4 (by decide) e
  have NOG := Lib.hid nog
  clear hg4 ho4 hB4 nog
  go_upto_region 21 with fail
  refine name_wp ?_
  intro w5 hw5'
  have hw5 : w5 = w4.setCell ⟨g, 0, none⟩ (.slice A2 (n - 1) c2) := hw5'
  clear hw5' e0 e1 e2 e3 e4 ef
  have hg5 : w5.heap[g]? = some (.cells #[.slice A2 (n - 1) c2, .int .i64 I, .int .i64 H, .int .i64 S, .int .i64 (wrap64 (P + f (i * 4 + 3)))] 26) := by
    rw [hw5]
    exact heap_setCell_same _ g 0 #[.slice (some ⟨ga, 0, none⟩) n c', .int .i64 I, .int .i64 H, .int .i64 S, .int .i64 (wrap64 (P + f (i * 4 + 3)))] 26 _ HG4.out
  have hO5 := ownsRow_setCell_other (a := ⟨g, 0, none⟩) HO4.out (NOG.out 0) (.slice A2 (n - 1) c2)
  rw [← hw5] at hO5
  have hB5 : Below lo w w5 := by
    rw [hw5]
    exact HB4.out.setCell (p := ⟨g, 0, none⟩) (show lo ≤ g by omega) _
  have s35 : w5.cell? ⟨s, 3, none⟩ = some (.int .i64 z) := by rw [hw5]; go_simp
  clear hw5 HG4 HO4 HB4 NOG s34
  have HG5 := Lib.hid hg5
  have HO5 := Lib.hid hO5
  have HB5 := Lib.hid hB5
  clear hg5 hO5 hB5
  by_cases c1 : z = 0
  · have c1t : (z == 0) = true := by simp [c1]
    go_wp2
    go_ret
    exact ⟨ret_bool (by simp [c1]), fun _ => ⟨A2, c2, HG5.out, h1, h2, by rw [HQ.out] at HO5; exact HO5.out⟩, HB5.out⟩
  · have c1f : (z == 0) = false := by simp [c1]
    go_wp2
    go_ret
    exact ⟨ret_bool (by simp [c1]), fun _ => ⟨A2, c2, HG5.out, h1, h2, by rw [HQ.out] at HO5; exact HO5.out⟩, HB5.out⟩
end Go.Proofs.YtjkockhldaacbaaDoor
