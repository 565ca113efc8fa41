/-
  The program's step of one pan, where it leads brine to another one, and where the kind is none of its own.
-/
import Derived.Test.YtjkockhldaacbaaDoorPk1
import Derived.Test.YtjkockhldaacbaaDoorStepP
namespace Go.Proofs.YtjkockhldaacbaaDoor
open Go.RowKit Go.Sort
set_option linter.unusedVariables false
set_option linter.unusedSimpArgs false
attribute [local go_sem ↓] Go.wp_at_zero Go.wp_at_succ
theorem setB_far {f : Nat → Int} {i j : Nat} (a b : Int) (_ : True) (h2 : j ≠ i * 4 + 2) (h3 : j ≠ i * 4 + 3) : setB f i a b j = f j := by
  simp [setB, upd, h2, h3]
set_option maxRecDepth 100000 in
set_option maxHeartbeats 2000000 in
theorem stepPan_lead_none (g ga lo n c' : Nat) (f : Nat → Int) (I H S P : Int) (id tt0 z : Int) (i : Nat) (hi' : i < n) (hn : n ≤ 1000) (w : World) (hg : w.heap[g]? = some (.cells #[.slice (some ⟨ga, 0, none⟩) n c', .int .i64 I, .int .i64 H, .int .i64 S, .int .i64 P] 26 (0, 0))) (hO : w.ownsRow lo 48 4 (.slice (some ⟨ga, 0, none⟩) n c') n ((cellsL f n).map (Value.int .i64))) (hlo : lo ≤ g) (hfk : findV (pid f) tt0 n 0 = -1) :
    Calls Tryd.prog 59 #[.pointer (some ⟨g, 0, none⟩), .int .i64 i, .agg #[.int .i64 3, .int .i64 id, .int .i64 tt0, .int .i64 z]] w (fun e w' => e = .returned (.bool false) ∧ Below lo w w') := by
  go_enter Tryd.func59, Tryd.ntmps59
  have nga : ga ≠ g := by
    intro e
    subst e
    exact row_ne hO hg (by decide)
  have lg : g < w.heap.size := (Array.getElem?_eq_some_iff.1 hg).1
  have lga := World.ownsRow.lt hO ga rfl
  have hnc : n ≤ c' ∧ c' ≤ maxLen := by
    obtain ⟨_, _, e, h1, h2⟩ := row_slice hO
    cases e
    exact ⟨h1, h2⟩
  have hncI : (n : Int) ≤ (c' : Int) := by omega
  have hi0 : (0 : Int) ≤ (i : Int) := by omega
  have hin : (i : Int) < (n : Int) := by omega
  go_upto_region 1 with fail
  refine name_wp ?_
  intro w1 hw1
  have hb1 : Below w.heap.size w w1 := by rw [hw1]; exact (Below.refl _ w).alloc (Nat.le_refl _) _
  have hs1 : w1.heap[w.heap.size]? = some (.cells #[.int .i64 3, .int .i64 id, .int .i64 tt0, .int .i64 z] 34) := by rw [hw1]; exact heap_alloc_new w _
  have hg1 := (hb1.block g lg).trans hg
  have hO1 := ownsRow_below hO hb1
  have hB1 : Below lo w w1 := hb1.mono (by omega)
  clear hw1 hg hO hb1
  have lg1 := (Array.getElem?_eq_some_iff.1 hg1).1
  have ls1 := (Array.getElem?_eq_some_iff.1 hs1).1
  have lw1 : lo ≤ w1.heap.size := by omega
  obtain ⟨s, hs⟩ : ∃ s, s = w.heap.size := ⟨_, rfl⟩
  rw [← hs] at hs1 lg lga ls1
  have ngs : g ≠ s := by omega
  have nsg : s ≠ g := by omega
  have nas : ga ≠ s := by omega
  have nsa : s ≠ ga := by omega
  have nga' : g ≠ ga := Ne.symm nga
  have hles : lo ≤ s := by omega
  have HS0 := Lib.hid hs
  clear hs
  obtain ⟨s0, s1, s2, s3⟩ := cells4 hs1
  obtain ⟨e0, e1, e2, e3, e4⟩ := cells5 hg1
  have ef : ∀ j, w1.frozen? ⟨g, j, none⟩ = false := fun j => frozen_of_row w1 g j _ _ hg1
  have a2 : w1.cell? ⟨ga, i * 4 + 2, none⟩ = some (.int .i64 (f (i * 4 + 2))) := by rw [World.ownsRow.cellAt hO1 (i * 4 + 2) (by omega), List.getElem?_map, cellsL_at f n _ (by omega)]; rfl
  have a3 : w1.cell? ⟨ga, i * 4 + 3, none⟩ = some (.int .i64 (f (i * 4 + 3))) := by rw [World.ownsRow.cellAt hO1 (i * 4 + 3) (by omega), List.getElem?_map, cellsL_at f n _ (by omega)]; rfl
  have af : ∀ j, w1.frozen? ⟨ga, j, none⟩ = false := fun j => World.ownsRow.frozenAt hO1 j
  have HG1 := Lib.hid hg1
  have HO1 := Lib.hid hO1
  have HB1 := Lib.hid hB1
  clear hg1 hO1 hB1 hs1
  have hszS : w.heap.size = s := HS0.out.symm
  rw [hszS]
  clear hszS
  have HF : Hid (∀ w', Below w1.heap.size w1 w' → w'.cell? ⟨g, 0, none⟩ = some (.slice (some ⟨ga, 0, none⟩) n c') ∧ w'.cell? ⟨g, 1, none⟩ = some (.int .i64 I) ∧ w'.cell? ⟨g, 2, none⟩ = some (.int .i64 H) ∧ w'.cell? ⟨g, 3, none⟩ = some (.int .i64 S) ∧ w'.cell? ⟨g, 4, none⟩ = some (.int .i64 P) ∧ w'.cell? ⟨s, 2, none⟩ = some (.int .i64 tt0) ∧ w'.cell? ⟨s, 3, none⟩ = some (.int .i64 z) ∧ w'.cell? ⟨ga, i * 4 + 2, none⟩ = some (.int .i64 (f (i * 4 + 2))) ∧ w'.cell? ⟨ga, i * 4 + 3, none⟩ = some (.int .i64 (f (i * 4 + 3)))) := by
    intro w' hq
    exact ⟨(hq.cell (p := ⟨g, 0, none⟩) (World.block_lt_of_cell? _ _ e0)).trans e0, (hq.cell (p := ⟨g, 1, none⟩) (World.block_lt_of_cell? _ _ e1)).trans e1, (hq.cell (p := ⟨g, 2, none⟩) (World.block_lt_of_cell? _ _ e2)).trans e2, (hq.cell (p := ⟨g, 3, none⟩) (World.block_lt_of_cell? _ _ e3)).trans e3, (hq.cell (p := ⟨g, 4, none⟩) (World.block_lt_of_cell? _ _ e4)).trans e4, (hq.cell (p := ⟨s, 2, none⟩) (World.block_lt_of_cell? _ _ s2)).trans s2, (hq.cell (p := ⟨s, 3, none⟩) (World.block_lt_of_cell? _ _ s3)).trans s3, (hq.cell (p := ⟨ga, i * 4 + 2, none⟩) (World.block_lt_of_cell? _ _ a2)).trans a2, (hq.cell (p := ⟨ga, i * 4 + 3, none⟩) (World.block_lt_of_cell? _ _ a3)).trans a3⟩
  have HSL : Hid (∀ w', Below w1.heap.size w1 w' → Sl w' lo w'.heap.size 4 (some ⟨ga, 0, none⟩) n f) := by
    intro w' hq
    obtain ⟨A0, c0, e0, _, _, h0⟩ := own_of_row (ownsRow_below HO1.out hq)
    cases e0
    exact (h0.congr (fun j hj => cellsL_getD _ n j hj)).sl
  go_wp2_with fail
  refine wp_region_held_drew (S := fun w' => Below (w1).heap.size (w1) w') (by kernel_rfl) ((Below.refl _ _).drew) (fun hHeld => ?_)
  refine tk (v := ?_) 0 50 HF rfl ?_ hHeld ?_
  rotate_left; · (intro _ _ _; go_simp; try with_reducible rfl)
  simp only [Act.put, p1, p2, p3]
  refine tk (v := ?_) 3 53 HF rfl ?_ hHeld ?_
  rotate_left; · (intro _ _ _; go_simp; try with_reducible rfl)
  simp only [Act.put, p1, p2, p3]
  refine tk (v := ?_) 1 51 HF rfl ?_ hHeld ?_
  rotate_left; · (intro _ _ _; go_simp; try with_reducible rfl)
  simp only [Act.put, p1, p2, p3]
  refine tk (v := ?_) 4 54 HF rfl ?_ hHeld ?_
  rotate_left; · (intro _ _ _; go_simp; try with_reducible rfl)
  simp only [Act.put, p1, p2, p3]
  refine tk (v := ?_) 2 52 HF rfl ?_ hHeld ?_
  rotate_left; · (intro _ _ _; go_simp; try with_reducible rfl)
  simp only [Act.put, p1, p2, p3]
  refine wpAnyH_ready (rs := [5]) (by kernel_rfl) (by simp) ?_
  refine AllReadyH.cons rfl (fun K hK => ?_) AllReadyH.nil
  go_simp
  (go_at_call 22; refine (panAt_any _ n c' lo _ f I H S P tt0 _ (HSL.out _ hHeld) (by omega) hnc.1).mono ?_; rw [hfk]; rintro e w2 ⟨rfl, hb2⟩)
  refine hK.out _ _ (hHeld.trans (hb2.mono hHeld.size)) (fun hHeld => ?_)
  clear hK K hb2
  refine tk (v := ?_) 6 9 HF rfl ?_ hHeld ?_
  rotate_left; · (intro _ _ _; go_simp; try with_reducible rfl)
  simp only [Act.put, p1, p2, p3]
  refine wpAnyH_done (by kernel_rfl) ?_ _
  have hg2 := (hHeld.block g (Array.getElem?_eq_some_iff.1 HG1.out).1).trans HG1.out
  have hO2 := ownsRow_below HO1.out hHeld
  have hB2 := below_of HB1.out hHeld lw1
  have lw2 : lo ≤ w2.heap.size := Nat.le_trans lw1 hHeld.size
  have s22 := (hHeld.cell (p := ⟨s, 2, none⟩) (World.block_lt_of_cell? _ _ s2)).trans s2
  have s32 := (hHeld.cell (p := ⟨s, 3, none⟩) (World.block_lt_of_cell? _ _ s3)).trans s3
  clear hHeld HF HSL e0 e1 e2 e3 e4 ef a2 a3 af s0 s1 s2 s3 HG1 HO1 HB1
  obtain ⟨e0, e1, e2, e3, e4⟩ := cells5 hg2
  have ef : ∀ j, w2.frozen? ⟨g, j, none⟩ = false := fun j => frozen_of_row w2 g j _ _ hg2
  have a2 : w2.cell? ⟨ga, i * 4 + 2, none⟩ = some (.int .i64 (f (i * 4 + 2))) := by rw [World.ownsRow.cellAt hO2 (i * 4 + 2) (by omega), List.getElem?_map, cellsL_at f n _ (by omega)]; rfl
  have a3 : w2.cell? ⟨ga, i * 4 + 3, none⟩ = some (.int .i64 (f (i * 4 + 3))) := by rw [World.ownsRow.cellAt hO2 (i * 4 + 3) (by omega), List.getElem?_map, cellsL_at f n _ (by omega)]; rfl
  have af : ∀ j, w2.frozen? ⟨ga, j, none⟩ = false := fun j => World.ownsRow.frozenAt hO2 j
  have HG2 := Lib.hid hg2
  have HO2 := Lib.hid hO2
  have HB2 := Lib.hid hB2
  clear hg2 hO2 hB2
  have HF : Hid (∀ w', Below w2.heap.size w2 w' → w'.cell? ⟨s, 3, none⟩ = some (.int .i64 z) ∧ w'.cell? ⟨ga, i * 4 + 2, none⟩ = some (.int .i64 (f (i * 4 + 2))) ∧ w'.cell? ⟨ga, i * 4 + 3, none⟩ = some (.int .i64 (f (i * 4 + 3)))) := by
    intro w' hq
    exact ⟨(hq.cell (p := ⟨s, 3, none⟩) (World.block_lt_of_cell? _ _ s32)).trans s32, (hq.cell (p := ⟨ga, i * 4 + 2, none⟩) (World.block_lt_of_cell? _ _ a2)).trans a2, (hq.cell (p := ⟨ga, i * 4 + 3, none⟩) (World.block_lt_of_cell? _ _ a3)).trans a3⟩
  have hneg : (-1 : Int) < 0 := by decide
  go_wp2_with fail
  refine wp_region_held_drew (S := fun w' => Below (w2).heap.size (w2) w') (by kernel_rfl) ((Below.refl _ _).drew) (fun hHeld => ?_)
  refine tk (v := ?_) 0 56 HF rfl ?_ hHeld ?_
  rotate_left; · (intro _ _ _; go_simp; try with_reducible rfl)
  simp only [Act.put, p1, p2, p3]
  refine tk (v := ?_) 1 57 HF rfl ?_ hHeld ?_
  rotate_left; · (intro _ _ _; go_simp; try with_reducible rfl)
  simp only [Act.put, p1, p2, p3]
  refine tk (v := ?_) 2 58 HF rfl ?_ hHeld ?_
  rotate_left; · (intro _ _ _; go_simp; try with_reducible rfl)
  simp only [Act.put, p1, p2, p3]
  refine wpAnyH_skips (by kernel_rfl) (fun _ _ _ _ _ h => h) hHeld [(3, 59), (4, 60), (5, 61)] 11 3 _ _ rfl (by kernel_rfl) ?_
  simp only [skipL, skipA, Act.put, List.setIfInBounds_toArray, List.set_cons_zero, List.set_cons_succ]
  refine tk (v := ?_) 6 62 HF rfl ?_ hHeld ?_
  rotate_left; · (intro _ _ _; go_simp; try with_reducible rfl)
  simp only [Act.put, p1, p2, p3]
  refine tk (v := ?_) 7 63 HF rfl ?_ hHeld ?_
  rotate_left; · (intro _ _ _; go_simp; try with_reducible rfl)
  simp only [Act.put, p1, p2, p3]
  refine wpAnyH_skips (by kernel_rfl) (fun _ _ _ _ _ h => h) hHeld [(8, 64), (9, 65), (10, 66), (11, 67), (12, 68), (13, 69), (14, 70), (15, 71)] 1 8 _ _ rfl (by kernel_rfl) ?_
  simp only [skipL, skipA, Act.put, List.setIfInBounds_toArray, List.set_cons_zero, List.set_cons_succ]
  refine tk (v := ?_) 16 72 HF rfl ?_ hHeld ?_
  rotate_left; · (intro _ _ _; go_simp; try with_reducible rfl)
  simp only [Act.put, p1, p2, p3]
  refine wpAnyH_done (by kernel_rfl) ?_ _
  have hB3 := below_of HB2.out hHeld lw2
  clear hHeld HF e0 e1 e2 e3 e4 ef a2 a3 af s22 s32 HG2 HO2 HB2
  go_wp2
  go_ret
  exact ⟨rfl, hB3⟩
set_option maxRecDepth 100000 in
set_option maxHeartbeats 2000000 in
theorem stepPan_lead_same (g ga lo n c' : Nat) (f : Nat → Int) (I H S P : Int) (id tt0 z : Int) (i : Nat) (hi' : i < n) (hn : n ≤ 1000) (w : World) (hg : w.heap[g]? = some (.cells #[.slice (some ⟨ga, 0, none⟩) n c', .int .i64 I, .int .i64 H, .int .i64 S, .int .i64 P] 26 (0, 0))) (hO : w.ownsRow lo 48 4 (.slice (some ⟨ga, 0, none⟩) n c') n ((cellsL f n).map (Value.int .i64))) (hlo : lo ≤ g) (hfk : findV (pid f) tt0 n 0 = (i : Int)) :
    Calls Tryd.prog 59 #[.pointer (some ⟨g, 0, none⟩), .int .i64 i, .agg #[.int .i64 3, .int .i64 id, .int .i64 tt0, .int .i64 z]] w (fun e w' => e = .returned (.bool false) ∧ Below lo w w') := by
  go_enter Tryd.func59, Tryd.ntmps59
  have nga : ga ≠ g := by
    intro e
    subst e
    exact row_ne hO hg (by decide)
  have lg : g < w.heap.size := (Array.getElem?_eq_some_iff.1 hg).1
  have lga := World.ownsRow.lt hO ga rfl
  have hnc : n ≤ c' ∧ c' ≤ maxLen := by
    obtain ⟨_, _, e, h1, h2⟩ := row_slice hO
    cases e
    exact ⟨h1, h2⟩
  have hncI : (n : Int) ≤ (c' : Int) := by omega
  have hi0 : (0 : Int) ≤ (i : Int) := by omega
  have hin : (i : Int) < (n : Int) := by omega
  go_upto_region 1 with fail
  refine name_wp ?_
  intro w1 hw1
  have hb1 : Below w.heap.size w w1 := by rw [hw1]; exact (Below.refl _ w).alloc (Nat.le_refl _) _
  have hs1 : w1.heap[w.heap.size]? = some (.cells #[.int .i64 3, .int .i64 id, .int .i64 tt0, .int .i64 z] 34) := by rw [hw1]; exact heap_alloc_new w _
  have hg1 := (hb1.block g lg).trans hg
  have hO1 := ownsRow_below hO hb1
  have hB1 : Below lo w w1 := hb1.mono (by omega)
  clear hw1 hg hO hb1
  have lg1 := (Array.getElem?_eq_some_iff.1 hg1).1
  have ls1 := (Array.getElem?_eq_some_iff.1 hs1).1
  have lw1 : lo ≤ w1.heap.size := by omega
  obtain ⟨s, hs⟩ : ∃ s, s = w.heap.size := ⟨_, rfl⟩
  rw [← hs] at hs1 lg lga ls1
  have ngs : g ≠ s := by omega
  have nsg : s ≠ g := by omega
  have nas : ga ≠ s := by omega
  have nsa : s ≠ ga := by omega
  have nga' : g ≠ ga := Ne.symm nga
  have hles : lo ≤ s := by omega
  have HS0 := Lib.hid hs
  clear hs
  obtain ⟨s0, s1, s2, s3⟩ := cells4 hs1
  obtain ⟨e0, e1, e2, e3, e4⟩ := cells5 hg1
  have ef : ∀ j, w1.frozen? ⟨g, j, none⟩ = false := fun j => frozen_of_row w1 g j _ _ hg1
  have a2 : w1.cell? ⟨ga, i * 4 + 2, none⟩ = some (.int .i64 (f (i * 4 + 2))) := by rw [World.ownsRow.cellAt hO1 (i * 4 + 2) (by omega), List.getElem?_map, cellsL_at f n _ (by omega)]; rfl
  have a3 : w1.cell? ⟨ga, i * 4 + 3, none⟩ = some (.int .i64 (f (i * 4 + 3))) := by rw [World.ownsRow.cellAt hO1 (i * 4 + 3) (by omega), List.getElem?_map, cellsL_at f n _ (by omega)]; rfl
  have af : ∀ j, w1.frozen? ⟨ga, j, none⟩ = false := fun j => World.ownsRow.frozenAt hO1 j
  have HG1 := Lib.hid hg1
  have HO1 := Lib.hid hO1
  have HB1 := Lib.hid hB1
  clear hg1 hO1 hB1 hs1
  have hszS : w.heap.size = s := HS0.out.symm
  rw [hszS]
  clear hszS
  have HF : Hid (∀ w', Below w1.heap.size w1 w' → w'.cell? ⟨g, 0, none⟩ = some (.slice (some ⟨ga, 0, none⟩) n c') ∧ w'.cell? ⟨g, 1, none⟩ = some (.int .i64 I) ∧ w'.cell? ⟨g, 2, none⟩ = some (.int .i64 H) ∧ w'.cell? ⟨g, 3, none⟩ = some (.int .i64 S) ∧ w'.cell? ⟨g, 4, none⟩ = some (.int .i64 P) ∧ w'.cell? ⟨s, 2, none⟩ = some (.int .i64 tt0) ∧ w'.cell? ⟨s, 3, none⟩ = some (.int .i64 z) ∧ w'.cell? ⟨ga, i * 4 + 2, none⟩ = some (.int .i64 (f (i * 4 + 2))) ∧ w'.cell? ⟨ga, i * 4 + 3, none⟩ = some (.int .i64 (f (i * 4 + 3)))) := by
    intro w' hq
    exact ⟨(hq.cell (p := ⟨g, 0, none⟩) (World.block_lt_of_cell? _ _ e0)).trans e0, (hq.cell (p := ⟨g, 1, none⟩) (World.block_lt_of_cell? _ _ e1)).trans e1, (hq.cell (p := ⟨g, 2, none⟩) (World.block_lt_of_cell? _ _ e2)).trans e2, (hq.cell (p := ⟨g, 3, none⟩) (World.block_lt_of_cell? _ _ e3)).trans e3, (hq.cell (p := ⟨g, 4, none⟩) (World.block_lt_of_cell? _ _ e4)).trans e4, (hq.cell (p := ⟨s, 2, none⟩) (World.block_lt_of_cell? _ _ s2)).trans s2, (hq.cell (p := ⟨s, 3, none⟩) (World.block_lt_of_cell? _ _ s3)).trans s3, (hq.cell (p := ⟨ga, i * 4 + 2, none⟩) (World.block_lt_of_cell? _ _ a2)).trans a2, (hq.cell (p := ⟨ga, i * 4 + 3, none⟩) (World.block_lt_of_cell? _ _ a3)).trans a3⟩
  have HSL : Hid (∀ w', Below w1.heap.size w1 w' → Sl w' lo w'.heap.size 4 (some ⟨ga, 0, none⟩) n f) := by
    intro w' hq
    obtain ⟨A0, c0, e0, _, _, h0⟩ := own_of_row (ownsRow_below HO1.out hq)
    cases e0
    exact (h0.congr (fun j hj => cellsL_getD _ n j hj)).sl
  go_wp2_with fail
  refine wp_region_held_drew (S := fun w' => Below (w1).heap.size (w1) w') (by kernel_rfl) ((Below.refl _ _).drew) (fun hHeld => ?_)
  refine tk (v := ?_) 0 50 HF rfl ?_ hHeld ?_
  rotate_left; · (intro _ _ _; go_simp; try with_reducible rfl)
  simp only [Act.put, p1, p2, p3]
  refine tk (v := ?_) 3 53 HF rfl ?_ hHeld ?_
  rotate_left; · (intro _ _ _; go_simp; try with_reducible rfl)
  simp only [Act.put, p1, p2, p3]
  refine tk (v := ?_) 1 51 HF rfl ?_ hHeld ?_
  rotate_left; · (intro _ _ _; go_simp; try with_reducible rfl)
  simp only [Act.put, p1, p2, p3]
  refine tk (v := ?_) 4 54 HF rfl ?_ hHeld ?_
  rotate_left; · (intro _ _ _; go_simp; try with_reducible rfl)
  simp only [Act.put, p1, p2, p3]
  refine tk (v := ?_) 2 52 HF rfl ?_ hHeld ?_
  rotate_left; · (intro _ _ _; go_simp; try with_reducible rfl)
  simp only [Act.put, p1, p2, p3]
  refine wpAnyH_ready (rs := [5]) (by kernel_rfl) (by simp) ?_
  refine AllReadyH.cons rfl (fun K hK => ?_) AllReadyH.nil
  go_simp
  (go_at_call 22; refine (panAt_any _ n c' lo _ f I H S P tt0 _ (HSL.out _ hHeld) (by omega) hnc.1).mono ?_; rw [hfk]; rintro e w2 ⟨rfl, hb2⟩)
  refine hK.out _ _ (hHeld.trans (hb2.mono hHeld.size)) (fun hHeld => ?_)
  clear hK K hb2
  refine tk (v := ?_) 6 9 HF rfl ?_ hHeld ?_
  rotate_left; · (intro _ _ _; go_simp; try with_reducible rfl)
  simp only [Act.put, p1, p2, p3]
  refine wpAnyH_done (by kernel_rfl) ?_ _
  have hg2 := (hHeld.block g (Array.getElem?_eq_some_iff.1 HG1.out).1).trans HG1.out
  have hO2 := ownsRow_below HO1.out hHeld
  have hB2 := below_of HB1.out hHeld lw1
  have lw2 : lo ≤ w2.heap.size := Nat.le_trans lw1 hHeld.size
  have s22 := (hHeld.cell (p := ⟨s, 2, none⟩) (World.block_lt_of_cell? _ _ s2)).trans s2
  have s32 := (hHeld.cell (p := ⟨s, 3, none⟩) (World.block_lt_of_cell? _ _ s3)).trans s3
  clear hHeld HF HSL e0 e1 e2 e3 e4 ef a2 a3 af s0 s1 s2 s3 HG1 HO1 HB1
  obtain ⟨e0, e1, e2, e3, e4⟩ := cells5 hg2
  have ef : ∀ j, w2.frozen? ⟨g, j, none⟩ = false := fun j => frozen_of_row w2 g j _ _ hg2
  have a2 : w2.cell? ⟨ga, i * 4 + 2, none⟩ = some (.int .i64 (f (i * 4 + 2))) := by rw [World.ownsRow.cellAt hO2 (i * 4 + 2) (by omega), List.getElem?_map, cellsL_at f n _ (by omega)]; rfl
  have a3 : w2.cell? ⟨ga, i * 4 + 3, none⟩ = some (.int .i64 (f (i * 4 + 3))) := by rw [World.ownsRow.cellAt hO2 (i * 4 + 3) (by omega), List.getElem?_map, cellsL_at f n _ (by omega)]; rfl
  have af : ∀ j, w2.frozen? ⟨ga, j, none⟩ = false := fun j => World.ownsRow.frozenAt hO2 j
  have HG2 := Lib.hid hg2
  have HO2 := Lib.hid hO2
  have HB2 := Lib.hid hB2
  clear hg2 hO2 hB2
  have HF : Hid (∀ w', Below w2.heap.size w2 w' → w'.cell? ⟨s, 3, none⟩ = some (.int .i64 z) ∧ w'.cell? ⟨ga, i * 4 + 2, none⟩ = some (.int .i64 (f (i * 4 + 2))) ∧ w'.cell? ⟨ga, i * 4 + 3, none⟩ = some (.int .i64 (f (i * 4 + 3)))) := by
    intro w' hq
    exact ⟨(hq.cell (p := ⟨s, 3, none⟩) (World.block_lt_of_cell? _ _ s32)).trans s32, (hq.cell (p := ⟨ga, i * 4 + 2, none⟩) (World.block_lt_of_cell? _ _ a2)).trans a2, (hq.cell (p := ⟨ga, i * 4 + 3, none⟩) (World.block_lt_of_cell? _ _ a3)).trans a3⟩
  have hnn : ¬ ((i : Int) < 0) := by omega
  go_wp2_with fail
  refine wp_region_held_drew (S := fun w' => Below (w2).heap.size (w2) w') (by kernel_rfl) ((Below.refl _ _).drew) (fun hHeld => ?_)
  refine tk (v := ?_) 0 56 HF rfl ?_ hHeld ?_
  rotate_left; · (intro _ _ _; go_simp; try with_reducible rfl)
  simp only [Act.put, p1, p2, p3]
  refine tk (v := ?_) 1 57 HF rfl ?_ hHeld ?_
  rotate_left; · (intro _ _ _; go_simp; try with_reducible rfl)
  simp only [Act.put, p1, p2, p3]
  refine tk (v := ?_) 2 58 HF rfl ?_ hHeld ?_
  rotate_left; · (intro _ _ _; go_simp; try with_reducible rfl)
  simp only [Act.put, p1, p2, p3]
  refine tk (v := ?_) 3 59 HF rfl ?_ hHeld ?_
  rotate_left; · (intro _ _ _; go_simp; try with_reducible rfl)
  simp only [Act.put, p1, p2, p3]
  refine tk (v := ?_) 4 60 HF rfl ?_ hHeld ?_
  rotate_left; · (intro _ _ _; go_simp; try with_reducible rfl)
  simp only [Act.put, p1, p2, p3]
  refine tk (v := ?_) 5 61 HF rfl ?_ hHeld ?_
  rotate_left; · (intro _ _ _; go_simp; try with_reducible rfl)
  simp only [Act.put, p1, p2, p3]
  refine tk (v := ?_) 6 62 HF rfl ?_ hHeld ?_
  rotate_left; · (intro _ _ _; go_simp; try with_reducible rfl)
  simp only [Act.put, p1, p2, p3]
  refine tk (v := ?_) 7 63 HF rfl ?_ hHeld ?_
  rotate_left; · (intro _ _ _; go_simp; try with_reducible rfl)
  simp only [Act.put, p1, p2, p3]
  refine wpAnyH_skips (by kernel_rfl) (fun _ _ _ _ _ h => h) hHeld [(8, 64), (9, 65), (10, 66), (11, 67), (12, 68), (13, 69), (14, 70), (15, 71)] 1 8 _ _ rfl (by kernel_rfl) ?_
  simp only [skipL, skipA, Act.put, List.setIfInBounds_toArray, List.set_cons_zero, List.set_cons_succ]
  refine tk (v := ?_) 16 72 HF rfl ?_ hHeld ?_
  rotate_left; · (intro _ _ _; go_simp; try with_reducible rfl)
  simp only [Act.put, p1, p2, p3]
  refine wpAnyH_done (by kernel_rfl) ?_ _
  have hB3 := below_of HB2.out hHeld lw2
  clear hHeld HF e0 e1 e2 e3 e4 ef a2 a3 af s22 s32 HG2 HO2 HB2
  go_wp2
  go_ret
  exact ⟨rfl, hB3⟩
set_option maxRecDepth 100000 in
set_option maxHeartbeats 2000000 in
theorem stepPan_lead (g ga lo n c' : Nat) (f : Nat → Int) (I H S P : Int) (id tt0 z : Int) (i : Nat) (hi' : i < n) (hn : n ≤ 1000) (w : World) (hg : w.heap[g]? = some (.cells #[.slice (some ⟨ga, 0, none⟩) n c', .int .i64 I, .int .i64 H, .int .i64 S, .int .i64 P] 26 (0, 0))) (hO : w.ownsRow lo 48 4 (.slice (some ⟨ga, 0, none⟩) n c') n ((cellsL f n).map (Value.int .i64))) (hlo : lo ≤ g) (kk : Nat) (hk' : kk < n) (hne : kk ≠ i) (hz0 : 0 < z) (hfk : findV (pid f) tt0 n 0 = (kk : Int)) :
    Calls Tryd.prog 59 #[.pointer (some ⟨g, 0, none⟩), .int .i64 i, .agg #[.int .i64 3, .int .i64 id, .int .i64 tt0, .int .i64 z]] w (fun e w' => e = .returned (.bool (leadOk f i z)) ∧ ((leadOk f i z) = true → BoxRow w' lo g ga n c' (cellsL (leadF f i kk z) n) I H S P) ∧ Below lo w w') := by
  go_enter Tryd.func59, Tryd.ntmps59
  have nga : ga ≠ g := by
    intro e
    subst e
    exact row_ne hO hg (by decide)
  have lg : g < w.heap.size := (Array.getElem?_eq_some_iff.1 hg).1
  have lga := World.ownsRow.lt hO ga rfl
  have hnc : n ≤ c' ∧ c' ≤ maxLen := by
    obtain ⟨_, _, e, h1, h2⟩ := row_slice hO
    cases e
    exact ⟨h1, h2⟩
  have hncI : (n : Int) ≤ (c' : Int) := by omega
  have hi0 : (0 : Int) ≤ (i : Int) := by omega
  have hin : (i : Int) < (n : Int) := by omega
  go_upto_region 1 with fail
  refine name_wp ?_
  intro w1 hw1
  have hb1 : Below w.heap.size w w1 := by rw [hw1]; exact (Below.refl _ w).alloc (Nat.le_refl _) _
  have hs1 : w1.heap[w.heap.size]? = some (.cells #[.int .i64 3, .int .i64 id, .int .i64 tt0, .int .i64 z] 34) := by rw [hw1]; exact heap_alloc_new w _
  have hg1 := (hb1.block g lg).trans hg
  have hO1 := ownsRow_below hO hb1
  have hB1 : Below lo w w1 := hb1.mono (by omega)
  clear hw1 hg hO hb1
  have lg1 := (Array.getElem?_eq_some_iff.1 hg1).1
  have ls1 := (Array.getElem?_eq_some_iff.1 hs1).1
  have lw1 : lo ≤ w1.heap.size := by omega
  obtain ⟨s, hs⟩ : ∃ s, s = w.heap.size := ⟨_, rfl⟩
  rw [← hs] at hs1 lg lga ls1
  have ngs : g ≠ s := by omega
  have nsg : s ≠ g := by omega
  have nas : ga ≠ s := by omega
  have nsa : s ≠ ga := by omega
  have nga' : g ≠ ga := Ne.symm nga
  have hles : lo ≤ s := by omega
  have HS0 := Lib.hid hs
  clear hs
  obtain ⟨s0, s1, s2, s3⟩ := cells4 hs1
  obtain ⟨e0, e1, e2, e3, e4⟩ := cells5 hg1
  have ef : ∀ j, w1.frozen? ⟨g, j, none⟩ = false := fun j => frozen_of_row w1 g j _ _ hg1
  have a2 : w1.cell? ⟨ga, i * 4 + 2, none⟩ = some (.int .i64 (f (i * 4 + 2))) := by rw [World.ownsRow.cellAt hO1 (i * 4 + 2) (by omega), List.getElem?_map, cellsL_at f n _ (by omega)]; rfl
  have a3 : w1.cell? ⟨ga, i * 4 + 3, none⟩ = some (.int .i64 (f (i * 4 + 3))) := by rw [World.ownsRow.cellAt hO1 (i * 4 + 3) (by omega), List.getElem?_map, cellsL_at f n _ (by omega)]; rfl
  have af : ∀ j, w1.frozen? ⟨ga, j, none⟩ = false := fun j => World.ownsRow.frozenAt hO1 j
  have HG1 := Lib.hid hg1
  have HO1 := Lib.hid hO1
  have HB1 := Lib.hid hB1
  clear hg1 hO1 hB1 hs1
  have hszS : w.heap.size = s := HS0.out.symm
  rw [hszS]
  clear hszS
  have HF : Hid (∀ w', Below w1.heap.size w1 w' → w'.cell? ⟨g, 0, none⟩ = some (.slice (some ⟨ga, 0, none⟩) n c') ∧ w'.cell? ⟨g, 1, none⟩ = some (.int .i64 I) ∧ w'.cell? ⟨g, 2, none⟩ = some (.int .i64 H) ∧ w'.cell? ⟨g, 3, none⟩ = some (.int .i64 S) ∧ w'.cell? ⟨g, 4, none⟩ = some (.int .i64 P) ∧ w'.cell? ⟨s, 2, none⟩ = some (.int .i64 tt0) ∧ w'.cell? ⟨s, 3, none⟩ = some (.int .i64 z) ∧ w'.cell? ⟨ga, i * 4 + 2, none⟩ = some (.int .i64 (f (i * 4 + 2))) ∧ w'.cell? ⟨ga, i * 4 + 3, none⟩ = some (.int .i64 (f (i * 4 + 3)))) := by
    intro w' hq
    exact ⟨(hq.cell (p := ⟨g, 0, none⟩) (World.block_lt_of_cell? _ _ e0)).trans e0, (hq.cell (p := ⟨g, 1, none⟩) (World.block_lt_of_cell? _ _ e1)).trans e1, (hq.cell (p := ⟨g, 2, none⟩) (World.block_lt_of_cell? _ _ e2)).trans e2, (hq.cell (p := ⟨g, 3, none⟩) (World.block_lt_of_cell? _ _ e3)).trans e3, (hq.cell (p := ⟨g, 4, none⟩) (World.block_lt_of_cell? _ _ e4)).trans e4, (hq.cell (p := ⟨s, 2, none⟩) (World.block_lt_of_cell? _ _ s2)).trans s2, (hq.cell (p := ⟨s, 3, none⟩) (World.block_lt_of_cell? _ _ s3)).trans s3, (hq.cell (p := ⟨ga, i * 4 + 2, none⟩) (World.block_lt_of_cell? _ _ a2)).trans a2, (hq.cell (p := ⟨ga, i * 4 + 3, none⟩) (World.block_lt_of_cell? _ _ a3)).trans a3⟩
  have HSL : Hid (∀ w', Below w1.heap.size w1 w' → Sl w' lo w'.heap.size 4 (some ⟨ga, 0, none⟩) n f) := by
    intro w' hq
    obtain ⟨A0, c0, e0, _, _, h0⟩ := own_of_row (ownsRow_below HO1.out hq)
    cases e0
    exact (h0.congr (fun j hj => cellsL_getD _ n j hj)).sl
  go_wp2_with fail
  refine wp_region_held_drew (S := fun w' => Below (w1).heap.size (w1) w') (by kernel_rfl) ((Below.refl _ _).drew) (fun hHeld => ?_)
  refine tk (v := ?_) 0 50 HF rfl ?_ hHeld ?_
  rotate_left; · (intro _ _ _; go_simp; try with_reducible rfl)
  simp only [Act.put, p1, p2, p3]
  refine tk (v := ?_) 3 53 HF rfl ?_ hHeld ?_
  rotate_left; · (intro _ _ _; go_simp; try with_reducible rfl)
  simp only [Act.put, p1, p2, p3]
  refine tk (v := ?_) 1 51 HF rfl ?_ hHeld ?_
  rotate_left; · (intro _ _ _; go_simp; try with_reducible rfl)
  simp only [Act.put, p1, p2, p3]
  refine tk (v := ?_) 4 54 HF rfl ?_ hHeld ?_
  rotate_left; · (intro _ _ _; go_simp; try with_reducible rfl)
  simp only [Act.put, p1, p2, p3]
  refine tk (v := ?_) 2 52 HF rfl ?_ hHeld ?_
  rotate_left; · (intro _ _ _; go_simp; try with_reducible rfl)
  simp only [Act.put, p1, p2, p3]
  refine wpAnyH_ready (rs := [5]) (by kernel_rfl) (by simp) ?_
  refine AllReadyH.cons rfl (fun K hK => ?_) AllReadyH.nil
  go_simp
  (go_at_call 22; refine (panAt_any _ n c' lo _ f I H S P tt0 _ (HSL.out _ hHeld) (by omega) hnc.1).mono ?_; rw [hfk]; rintro e w2 ⟨rfl, hb2⟩)
  refine hK.out _ _ (hHeld.trans (hb2.mono hHeld.size)) (fun hHeld => ?_)
  clear hK K hb2
  refine tk (v := ?_) 6 9 HF rfl ?_ hHeld ?_
  rotate_left; · (intro _ _ _; go_simp; try with_reducible rfl)
  simp only [Act.put, p1, p2, p3]
  refine wpAnyH_done (by kernel_rfl) ?_ _
  have hg2 := (hHeld.block g (Array.getElem?_eq_some_iff.1 HG1.out).1).trans HG1.out
  have hO2 := ownsRow_below HO1.out hHeld
  have hB2 := below_of HB1.out hHeld lw1
  have lw2 : lo ≤ w2.heap.size := Nat.le_trans lw1 hHeld.size
  have s22 := (hHeld.cell (p := ⟨s, 2, none⟩) (World.block_lt_of_cell? _ _ s2)).trans s2
  have s32 := (hHeld.cell (p := ⟨s, 3, none⟩) (World.block_lt_of_cell? _ _ s3)).trans s3
  clear hHeld HF HSL e0 e1 e2 e3 e4 ef a2 a3 af s0 s1 s2 s3 HG1 HO1 HB1
  obtain ⟨e0, e1, e2, e3, e4⟩ := cells5 hg2
  have ef : ∀ j, w2.frozen? ⟨g, j, none⟩ = false := fun j => frozen_of_row w2 g j _ _ hg2
  have a2 : w2.cell? ⟨ga, i * 4 + 2, none⟩ = some (.int .i64 (f (i * 4 + 2))) := by rw [World.ownsRow.cellAt hO2 (i * 4 + 2) (by omega), List.getElem?_map, cellsL_at f n _ (by omega)]; rfl
  have a3 : w2.cell? ⟨ga, i * 4 + 3, none⟩ = some (.int .i64 (f (i * 4 + 3))) := by rw [World.ownsRow.cellAt hO2 (i * 4 + 3) (by omega), List.getElem?_map, cellsL_at f n _ (by omega)]; rfl
  have af : ∀ j, w2.frozen? ⟨ga, j, none⟩ = false := fun j => World.ownsRow.frozenAt hO2 j
  have HG2 := Lib.hid hg2
  have HO2 := Lib.hid hO2
  have HB2 := Lib.hid hB2
  clear hg2 hO2 hB2
  have HF : Hid (∀ w', Below w2.heap.size w2 w' → w'.cell? ⟨s, 3, none⟩ = some (.int .i64 z) ∧ w'.cell? ⟨ga, i * 4 + 2, none⟩ = some (.int .i64 (f (i * 4 + 2))) ∧ w'.cell? ⟨ga, i * 4 + 3, none⟩ = some (.int .i64 (f (i * 4 + 3)))) := by
    intro w' hq
    exact ⟨(hq.cell (p := ⟨s, 3, none⟩) (World.block_lt_of_cell? _ _ s32)).trans s32, (hq.cell (p := ⟨ga, i * 4 + 2, none⟩) (World.block_lt_of_cell? _ _ a2)).trans a2, (hq.cell (p := ⟨ga, i * 4 + 3, none⟩) (World.block_lt_of_cell? _ _ a3)).trans a3⟩
  have hnn : ¬ ((kk : Int) < 0) := by omega
  have hnei : ¬ ((kk : Int) = (i : Int)) := by omega
  have hneb : ((kk : Int) == (i : Int)) = false := by simp [hnei]
  have hk0i : (0 : Int) ≤ (kk : Int) := by omega
  have hkni : (kk : Int) < (n : Int) := by omega
  go_wp2_with fail
  refine wp_region_held_drew (S := fun w' => Below (w2).heap.size (w2) w') (by kernel_rfl) ((Below.refl _ _).drew) (fun hHeld => ?_)
  refine tk (v := ?_) 0 56 HF rfl ?_ hHeld ?_
  rotate_left; · (intro _ _ _; go_simp; try with_reducible rfl)
  simp only [Act.put, p1, p2, p3]
  refine tk (v := ?_) 1 57 HF rfl ?_ hHeld ?_
  rotate_left; · (intro _ _ _; go_simp; try with_reducible rfl)
  simp only [Act.put, p1, p2, p3]
  refine tk (v := ?_) 2 58 HF rfl ?_ hHeld ?_
  rotate_left; · (intro _ _ _; go_simp; try with_reducible rfl)
  simp only [Act.put, p1, p2, p3]
  refine tk (v := ?_) 3 59 HF rfl ?_ hHeld ?_
  rotate_left; · (intro _ _ _; go_simp; try with_reducible rfl)
  simp only [Act.put, p1, p2, p3]
  refine tk (v := ?_) 4 60 HF rfl ?_ hHeld ?_
  rotate_left; · (intro _ _ _; go_simp; try with_reducible rfl)
  simp only [Act.put, p1, p2, p3]
  refine tk (v := ?_) 5 61 HF rfl ?_ hHeld ?_
  rotate_left; · (intro _ _ _; go_simp; try with_reducible rfl)
  simp only [Act.put, p1, p2, p3]
  refine tk (v := ?_) 6 62 HF rfl ?_ hHeld ?_
  rotate_left; · (intro _ _ _; go_simp; try with_reducible rfl)
  simp only [Act.put, p1, p2, p3]
  refine tk (v := ?_) 7 63 HF rfl ?_ hHeld ?_
  rotate_left; · (intro _ _ _; go_simp; try with_reducible rfl)
  simp only [Act.put, p1, p2, p3]
  refine tk (v := ?_) 8 64 HF rfl ?_ hHeld ?_
  rotate_left; · (intro _ _ _; go_simp; try with_reducible rfl)
  simp only [Act.put, p1, p2, p3]
  refine tk (v := ?_) 9 65 HF rfl ?_ hHeld ?_
  rotate_left; · (intro _ _ _; go_simp; try with_reducible rfl)
  simp only [Act.put, p1, p2, p3]
  refine tk (v := ?_) 10 66 HF rfl ?_ hHeld ?_
  rotate_left; · (intro _ _ _; go_simp; try with_reducible rfl)
  simp only [Act.put, p1, p2, p3]
  refine tk (v := ?_) 11 67 HF rfl ?_ hHeld ?_
  rotate_left; · (intro _ _ _; go_simp; try with_reducible rfl)
  simp only [Act.put, p1, p2, p3]
  refine tk (v := ?_) 12 68 HF rfl ?_ hHeld ?_
  rotate_left; · (intro _ _ _; go_simp; try with_reducible rfl)
  simp only [Act.put, p1, p2, p3]
  refine tk (v := ?_) 13 69 HF rfl ?_ hHeld ?_
  rotate_left; · (intro _ _ _; go_simp; try with_reducible rfl)
  simp only [Act.put, p1, p2, p3]
  refine wpAnyH_ready (rs := [14]) (by kernel_rfl) (by simp) ?_
  refine AllReadyH.cons rfl (fun K hK => ?_) AllReadyH.nil
  go_simp
  (go_at_call 33; refine (mass_any _ _ _).mono ?_; rintro e w3 ⟨rfl, hb2⟩)
  refine hK.out _ _ (hHeld.trans (hb2.mono hHeld.size)) (fun hHeld => ?_)
  clear hK K hb2
  refine tk (v := ?_) 15 71 HF rfl ?_ hHeld ?_
  rotate_left; · (intro _ _ _; go_simp; try with_reducible rfl)
  simp only [Act.put, p1, p2, p3]
  refine tk (v := ?_) 16 72 HF rfl ?_ hHeld ?_
  rotate_left; · (intro _ _ _; go_simp; try with_reducible rfl)
  simp only [Act.put, p1, p2, p3]
  refine wpAnyH_done (by kernel_rfl) ?_ _
  have hg3 := (hHeld.block g (Array.getElem?_eq_some_iff.1 HG2.out).1).trans HG2.out
  have hO3 := ownsRow_below HO2.out hHeld
  have hB3 := below_of HB2.out hHeld lw2
  have lw3 : lo ≤ w3.heap.size := Nat.le_trans lw2 hHeld.size
  have s33 := (hHeld.cell (p := ⟨s, 3, none⟩) (World.block_lt_of_cell? _ _ s32)).trans s32
  clear hHeld HF e0 e1 e2 e3 e4 ef a2 a3 af s22 s32 HG2 HO2 HB2
  by_cases hzm : massV (f (i * 4 + 2)) (f (i * 4 + 3)) < z
  · have hpo : leadOk f i z = false := by simp [leadOk]; omega
    have HPO := Lib.hid hpo
    clear hpo
    go_wp2
    go_ret
    rw [HPO.out]
    exact ⟨rfl, (fun h => by cases h), hB3⟩
  have hpo : leadOk f i z = true := by simp [leadOk]; omega
  have hpf : leadF f i kk z = setB (setB f i (wrap64 (f (i * 4 + 2) - wrap64 (z - (partV (f (i * 4 + 2)) (f (i * 4 + 3)) z)))) (wrap64 (f (i * 4 + 3) - (partV (f (i * 4 + 2)) (f (i * 4 + 3)) z)))) kk (wrap64 (f (kk * 4 + 2) + wrap64 (z - (partV (f (i * 4 + 2)) (f (i * 4 + 3)) z)))) (wrap64 (f (kk * 4 + 3) + (partV (f (i * 4 + 2)) (f (i * 4 + 3)) z))) := by
    unfold leadF
    rw [if_pos hpo]
  have hm0 : massV (f (i * 4 + 2)) (f (i * 4 + 3)) ≠ 0 := by omega
  have HPO := Lib.hid hpo
  have HPF := Lib.hid hpf
  clear hpo hpf
  obtain ⟨e0, e1, e2, e3, e4⟩ := cells5 hg3
  have ef : ∀ j, w3.frozen? ⟨g, j, none⟩ = false := fun j => frozen_of_row w3 g j _ _ hg3
  have a2 : w3.cell? ⟨ga, i * 4 + 2, none⟩ = some (.int .i64 (f (i * 4 + 2))) := by rw [World.ownsRow.cellAt hO3 (i * 4 + 2) (by omega), List.getElem?_map, cellsL_at f n _ (by omega)]; rfl
  have a3 : w3.cell? ⟨ga, i * 4 + 3, none⟩ = some (.int .i64 (f (i * 4 + 3))) := by rw [World.ownsRow.cellAt hO3 (i * 4 + 3) (by omega), List.getElem?_map, cellsL_at f n _ (by omega)]; rfl
  have af : ∀ j, w3.frozen? ⟨ga, j, none⟩ = false := fun j => World.ownsRow.frozenAt hO3 j
  have HG3 := Lib.hid hg3
  have HO3 := Lib.hid hO3
  have HB3 := Lib.hid hB3
  clear hg3 hO3 hB3
  have HF : Hid (∀ w', Below w3.heap.size w3 w' → w'.cell? ⟨s, 3, none⟩ = some (.int .i64 z) ∧ w'.cell? ⟨ga, i * 4 + 2, none⟩ = some (.int .i64 (f (i * 4 + 2))) ∧ w'.cell? ⟨ga, i * 4 + 3, none⟩ = some (.int .i64 (f (i * 4 + 3)))) := by
    intro w' hq
    exact ⟨(hq.cell (p := ⟨s, 3, none⟩) (World.block_lt_of_cell? _ _ s33)).trans s33, (hq.cell (p := ⟨ga, i * 4 + 2, none⟩) (World.block_lt_of_cell? _ _ a2)).trans a2, (hq.cell (p := ⟨ga, i * 4 + 3, none⟩) (World.block_lt_of_cell? _ _ a3)).trans a3⟩
  go_wp2_with fail
  refine wp_region_held_drew (S := fun w' => Below w3.heap.size w3 w') (by kernel_rfl) ((Below.refl _ w3).drew) (fun hHeld => ?_)
  refine tk (v := ?_) 0 73 HF rfl ?_ hHeld ?_
  rotate_left; · (intro _ _ _; go_simp; try with_reducible rfl)
  simp only [Act.put, p1, p2, p3]
  refine tk (v := ?_) 4 77 HF rfl ?_ hHeld ?_
  rotate_left; · (intro _ _ _; go_simp; try with_reducible rfl)
  simp only [Act.put, p1, p2, p3]
  refine tk (v := ?_) 1 74 HF rfl ?_ hHeld ?_
  rotate_left; · (intro _ _ _; go_simp; try with_reducible rfl)
  simp only [Act.put, p1, p2, p3]
  refine tk (v := ?_) 5 78 HF rfl ?_ hHeld ?_
  rotate_left; · (intro _ _ _; go_simp; try with_reducible rfl)
  simp only [Act.put, p1, p2, p3]
  refine tk (v := ?_) 2 75 HF rfl ?_ hHeld ?_
  rotate_left; · (intro _ _ _; go_simp; try with_reducible rfl)
  simp only [Act.put, p1, p2, p3]
  refine tk (v := ?_) 3 76 HF rfl ?_ hHeld ?_
  rotate_left; · (intro _ _ _; go_simp; try with_reducible rfl)
  simp only [Act.put, p1, p2, p3]
  refine wpAnyH_two (fuel := 1) (i := 6) (j := 7) (di := 79) (dj := 10) (skip := [79, 10]) (Pi := fun v _ => v = .agg #[.int .i64 (wrap64 (z - (partV (f (i * 4 + 2)) (f (i * 4 + 3)) z))), .int .i64 (partV (f (i * 4 + 2)) (f (i * 4 + 3)) z)]) rfl rfl rfl rfl (by decide) (by decide) (by decide) (by decide) (by kernel_rfl) (by kernel_rfl) (by kernel_rfl) ?ji (Job.alloc (nb := w3.heap.size) (obj := (.cells #[.int .i64 0, .int .i64 0] 46)) rfl (fun _ h => h.size) (fun a' w1 => by go_simp; try rfl)) (fun v w1 w2 h _ => h) stays_alloc below_stays hHeld ?nx
  case ji =>
    intro a' w1' K hev hb hK
    have h1 : a'.eval (.tmp 76) = .agg #[.int .i64 (f (i * 4 + 2)), .int .i64 (f (i * 4 + 3))] := (hev 76 (by decide)).trans rfl
    have h2 : a'.tmps[76]?.getD undef = .agg #[.int .i64 (f (i * 4 + 2)), .int .i64 (f (i * 4 + 3))] := by simpa [Act.eval] using h1
    have h3 : a'.eval (.tmp 78) = .int .i64 z := (hev 78 (by decide)).trans rfl
    have h4 : a'.tmps[78]?.getD undef = .int .i64 z := by simpa [Act.eval] using h3
    have HK := Lib.hid hK
    clear hev h1 h3 hK HF
    go_simp
    go_at_call 76
    refine (part_any _ _ z w1' (by omega) hm0).mono ?_
    rintro e w2' ⟨rfl, hb2⟩
    exact HK.out _ w2' rfl hb2
  case nx =>
  rintro vi vj w4 rfl ⟨g12, rfl, l12, h12⟩ hB4 _
  simp only [Act.put, p1, p2, p3]
  refine wpAnyH_store (fuel := 0) (i := 8) rfl (by kernel_rfl) g12 0 (.agg #[.int .i64 (wrap64 (z - (partV (f (i * 4 + 2)) (f (i * 4 + 3)) z))), .int .i64 (partV (f (i * 4 + 2)) (f (i * 4 + 3)) z)]) 46 #[.int .i64 0, .int .i64 0] rfl rfl infoBrine h12 (Nat.le_refl 2) (by simp [Value.cells, Value.oneCell']) (fun w' hg => hB4.grown hg hB4.size (fun k hk => by cases hk; exact l12)) ?kst
  case kst =>
  intro w5 h125 hg5 hB5
  refine wpAnyH_done (by kernel_rfl) ?_ _
  have h125' : w5.heap[g12]? = some (.cells #[.int .i64 (wrap64 (z - (partV (f (i * 4 + 2)) (f (i * 4 + 3)) z))), .int .i64 (partV (f (i * 4 + 2)) (f (i * 4 + 3)) z)] 46) := h125
  have hg5' := (hB5.block g (Array.getElem?_eq_some_iff.1 HG3.out).1).trans HG3.out
  have hO5 := ownsRow_below HO3.out hB5
  have hBB5 := below_of HB3.out hB5 lw3
  have lw5 : lo ≤ w5.heap.size := Nat.le_trans lw3 hB5.size
  have p05 : w5.cell? ⟨g12, 0, none⟩ = some (.int .i64 (wrap64 (z - (partV (f (i * 4 + 2)) (f (i * 4 + 3)) z)))) := by rw [cell_of_row w5 g12 0 _ _ (0, 0) h125']; rfl
  have p15 : w5.cell? ⟨g12, 1, none⟩ = some (.int .i64 (partV (f (i * 4 + 2)) (f (i * 4 + 3)) z)) := by rw [cell_of_row w5 g12 1 _ _ (0, 0) h125']; rfl
  have lg3 : ga < w3.heap.size := (World.ownsRow.lt HO3.out ga rfl).2
  have nga12 : g12 ≠ ga := by omega
  clear e0 e1 e2 e3 e4 ef a2 a3 af HF hB4 h12 h125 h125' hg5 hB5 hHeld HG3 HO3 HB3 s33 l12
  have e0 : w5.cell? ⟨g, 0, none⟩ = some (.slice (some ⟨ga, 0, none⟩) n c') := by rw [cell_of_row w5 g 0 _ _ (0, 0) hg5']; rfl
  have e1 : w5.cell? ⟨g, 1, none⟩ = some (.int .i64 I) := by rw [cell_of_row w5 g 1 _ _ (0, 0) hg5']; rfl
  have e2 : w5.cell? ⟨g, 2, none⟩ = some (.int .i64 H) := by rw [cell_of_row w5 g 2 _ _ (0, 0) hg5']; rfl
  have e3 : w5.cell? ⟨g, 3, none⟩ = some (.int .i64 S) := by rw [cell_of_row w5 g 3 _ _ (0, 0) hg5']; rfl
  have e4 : w5.cell? ⟨g, 4, none⟩ = some (.int .i64 P) := by rw [cell_of_row w5 g 4 _ _ (0, 0) hg5']; rfl
  have ef : ∀ j, w5.frozen? ⟨g, j, none⟩ = false := fun j => frozen_of_row w5 g j _ _ hg5'
  have a2 : w5.cell? ⟨ga, i * 4 + 2, none⟩ = some (.int .i64 (f (i * 4 + 2))) := by rw [World.ownsRow.cellAt hO5 (i * 4 + 2) (by omega), List.getElem?_map, cellsL_at f n _ (by omega)]; rfl
  have a3 : w5.cell? ⟨ga, i * 4 + 3, none⟩ = some (.int .i64 (f (i * 4 + 3))) := by rw [World.ownsRow.cellAt hO5 (i * 4 + 3) (by omega), List.getElem?_map, cellsL_at f n _ (by omega)]; rfl
  have af : ∀ j, w5.frozen? ⟨ga, j, none⟩ = false := fun j => World.ownsRow.frozenAt hO5 j
  obtain ⟨cur, hcur, hcs, hput⟩ := row_open hO5
  have hfit : i * 4 + 2 + 2 ≤ cur.size := by omega
  have HG5 := Lib.hid hg5'
  have HB5 := Lib.hid hBB5
  clear hg5' hO5 hBB5
  have HF : Hid (∀ w', w5.grownBy w' (some ga) → w'.cell? ⟨g12, 0, none⟩ = some (.int .i64 (wrap64 (z - (partV (f (i * 4 + 2)) (f (i * 4 + 3)) z)))) ∧ w'.cell? ⟨g12, 1, none⟩ = some (.int .i64 (partV (f (i * 4 + 2)) (f (i * 4 + 3)) z))) := by
    intro w' hq
    exact ⟨(World.cell?_of_block (a := ⟨g12, 0, none⟩) (hq.block _ (World.block_lt_of_cell? _ _ p05) (by simp; omega))).trans p05, (World.cell?_of_block (a := ⟨g12, 1, none⟩) (hq.block _ (World.block_lt_of_cell? _ _ p15) (by simp; omega))).trans p15⟩
  go_wp2_with fail
  refine wp_region_held_drew (S := fun w' => w5.grownBy w' (some ga)) (by kernel_rfl) ⟨rfl, rfl, rfl, Nat.le_refl _, fun _ _ _ => rfl⟩ (fun hHeld => ?_)
  refine tk (v := ?_) 0 80 HF rfl ?_ hHeld ?_
  rotate_left; · (intro _ _ _; go_simp; try with_reducible rfl)
  simp only [Act.put, p1, p2, p3]
  refine tk (v := ?_) 1 81 HF rfl ?_ hHeld ?_
  rotate_left; · (intro _ _ _; go_simp; try with_reducible rfl)
  simp only [Act.put, p1, p2, p3]
  refine tk (v := ?_) 5 85 HF rfl ?_ hHeld ?_
  rotate_left; · (intro _ _ _; go_simp; try with_reducible rfl)
  simp only [Act.put, p1, p2, p3]
  refine tk (v := ?_) 2 82 HF rfl ?_ hHeld ?_
  rotate_left; · (intro _ _ _; go_simp; try with_reducible rfl)
  simp only [Act.put, p1, p2, p3]
  refine tk (v := ?_) 3 83 HF rfl ?_ hHeld ?_
  rotate_left; · (intro _ _ _; go_simp; try with_reducible rfl)
  simp only [Act.put, p1, p2, p3]
  refine wpAnyH_ready (rs := [4]) (by kernel_rfl) (by simp) ?_
  refine AllReadyH.cons rfl (fun K hK => ?_) AllReadyH.nil
  go_simp
  refine hK.out _ _ hHeld (fun hHeld => ?_)
  clear hK K
  refine wpAnyH_job (fuel := 3) (i := 6) (d := 86) (skip := []) (Post := fun v _ => v = (.agg #[.int .i64 (wrap64 (f (i * 4 + 2) - wrap64 (z - (partV (f (i * 4 + 2)) (f (i * 4 + 3)) z)))), .int .i64 (wrap64 (f (i * 4 + 3) - (partV (f (i * 4 + 2)) (f (i * 4 + 3)) z)))])) rfl rfl (by kernel_rfl) ?jm but_stays hHeld ?nm
  case jm =>
    intro a' w1' K hev hb hK
    have h1 : a'.eval (.tmp 84) = .agg #[.int .i64 (f (i * 4 + 2)), .int .i64 (f (i * 4 + 3))] := (hev 84 (by decide)).trans rfl
    have h2 : a'.tmps[84]?.getD undef = .agg #[.int .i64 (f (i * 4 + 2)), .int .i64 (f (i * 4 + 3))] := by simpa [Act.eval] using h1
    have h3 : a'.eval (.tmp 85) = .agg #[.int .i64 (wrap64 (z - (partV (f (i * 4 + 2)) (f (i * 4 + 3)) z))), .int .i64 (partV (f (i * 4 + 2)) (f (i * 4 + 3)) z)] := (hev 85 (by decide)).trans rfl
    have h4 : a'.tmps[85]?.getD undef = .agg #[.int .i64 (wrap64 (z - (partV (f (i * 4 + 2)) (f (i * 4 + 3)) z))), .int .i64 (partV (f (i * 4 + 2)) (f (i * 4 + 3)) z)] := by simpa [Act.eval] using h3
    have HK := Lib.hid hK
    clear hev h1 h3 hK HF
    go_simp
    go_at_call 77
    refine (minus_any _ _ _ _ w1').mono ?_
    rintro e w2' ⟨rfl, hb2⟩
    exact HK.out _ w2' rfl hb2
  case nm =>
  rintro v wl rfl hSl hbl
  simp only [Act.put, p1, p2, p3]
  have hHeld := hSl
  refine tk (v := ?_) 7 87 HF rfl ?_ hHeld ?_
  rotate_left; · (intro _ _ _; go_simp; try with_reducible rfl)
  simp only [Act.put, p1, p2, p3]
  refine tk (v := ?_) 8 88 HF rfl ?_ hHeld ?_
  rotate_left; · (intro _ _ _; go_simp; try with_reducible rfl)
  simp only [Act.put, p1, p2, p3]
  have hcurl : wl.heap[ga]? = some (.cells cur 48) := (hbl.block ga (Array.getElem?_eq_some_iff.1 hcur).1).trans hcur
  refine wpAnyH_store (fuel := 0) (i := 9) rfl (by kernel_rfl) ga (i * 4 + 2) (.agg #[.int .i64 (wrap64 (f (i * 4 + 2) - wrap64 (z - (partV (f (i * 4 + 2)) (f (i * 4 + 3)) z)))), .int .i64 (wrap64 (f (i * 4 + 3) - (partV (f (i * 4 + 2)) (f (i * 4 + 3)) z)))]) 48 cur rfl rfl infoBrine hcurl hfit (by simp [Value.cells, Value.oneCell']) (fun w' hg => grown_trans hSl hg) ?kv
  case kv =>
  intro w6 hhw6 hgw6 hSw6
  refine wpAnyH_done (by kernel_rfl) ?_ _
  rw [show putRow cur (i * 4 + 2) ((.agg #[.int .i64 (wrap64 (f (i * 4 + 2) - wrap64 (z - (partV (f (i * 4 + 2)) (f (i * 4 + 3)) z)))), .int .i64 (wrap64 (f (i * 4 + 3) - (partV (f (i * 4 + 2)) (f (i * 4 + 3)) z)))]) : Value).cells = _ from putRow_two cur _ _ _ hfit] at hhw6
  have hOw6 := hput w6 (i * 4 + 2) _ _ hhw6
  rw [cellsL_set, cellsL_set] at hOw6
  have hg6 := (hSw6.block g (Array.getElem?_eq_some_iff.1 HG5.out).1 (by simp; omega)).trans HG5.out
  have hB6 := HB5.out.grown hSw6 lw5 (fun k hk => by cases hk; omega)
  have lw6 : lo ≤ w6.heap.size := Nat.le_trans lw5 hSw6.size
  have p06 := (World.cell?_of_block (a := ⟨g12, 0, none⟩) (hSw6.block _ (World.block_lt_of_cell? _ _ p05) (by simp; omega))).trans p05
  have p16 := (World.cell?_of_block (a := ⟨g12, 1, none⟩) (hSw6.block _ (World.block_lt_of_cell? _ _ p15) (by simp; omega))).trans p15
  clear hHeld HF hSw6 hgw6 hhw6 hSl hbl hcurl hcur hput hcs hfit e0 e1 e2 e3 e4 ef a2 a3 af HG5 HB5 p05 p15
  have e0 : w6.cell? ⟨g, 0, none⟩ = some (.slice (some ⟨ga, 0, none⟩) n c') := by rw [cell_of_row w6 g 0 _ _ (0, 0) hg6]; rfl
  have ef : ∀ j, w6.frozen? ⟨g, j, none⟩ = false := fun j => frozen_of_row w6 g j _ _ hg6
  have sk2 : setB f i (wrap64 (f (i * 4 + 2) - wrap64 (z - (partV (f (i * 4 + 2)) (f (i * 4 + 3)) z)))) (wrap64 (f (i * 4 + 3) - (partV (f (i * 4 + 2)) (f (i * 4 + 3)) z))) (kk * 4 + 2) = f (kk * 4 + 2) := setB_far _ _ trivial (by omega) (by omega)
  have sk3 : setB f i (wrap64 (f (i * 4 + 2) - wrap64 (z - (partV (f (i * 4 + 2)) (f (i * 4 + 3)) z)))) (wrap64 (f (i * 4 + 3) - (partV (f (i * 4 + 2)) (f (i * 4 + 3)) z))) (kk * 4 + 3) = f (kk * 4 + 3) := setB_far _ _ trivial (by omega) (by omega)
  have a2 : w6.cell? ⟨ga, kk * 4 + 2, none⟩ = some (.int .i64 (f (kk * 4 + 2))) := by rw [World.ownsRow.cellAt hOw6 (kk * 4 + 2) (by omega), List.getElem?_map, cellsL_at _ n _ (by omega)]; exact congrArg (fun x => some (Value.int .i64 x)) sk2
  have a3 : w6.cell? ⟨ga, kk * 4 + 3, none⟩ = some (.int .i64 (f (kk * 4 + 3))) := by rw [World.ownsRow.cellAt hOw6 (kk * 4 + 3) (by omega), List.getElem?_map, cellsL_at _ n _ (by omega)]; exact congrArg (fun x => some (Value.int .i64 x)) sk3
  have af : ∀ j, w6.frozen? ⟨ga, j, none⟩ = false := fun j => World.ownsRow.frozenAt hOw6 j
  clear sk2 sk3
  obtain ⟨cur2, hcur, hcs, hput⟩ := row_open hOw6
  have hfit : kk * 4 + 2 + 2 ≤ cur2.size := by omega
  have HG6 := Lib.hid hg6
  have HB6 := Lib.hid hB6
  clear hg6 hOw6 hB6
  have HF : Hid (∀ w', w6.grownBy w' (some ga) → w'.cell? ⟨g, 0, none⟩ = some (.slice (some ⟨ga, 0, none⟩) n c') ∧ w'.cell? ⟨g12, 0, none⟩ = some (.int .i64 (wrap64 (z - (partV (f (i * 4 + 2)) (f (i * 4 + 3)) z)))) ∧ w'.cell? ⟨g12, 1, none⟩ = some (.int .i64 (partV (f (i * 4 + 2)) (f (i * 4 + 3)) z))) := by
    intro w' hq
    exact ⟨(World.cell?_of_block (a := ⟨g, 0, none⟩) (hq.block _ (World.block_lt_of_cell? _ _ e0) (by simp; omega))).trans e0, (World.cell?_of_block (a := ⟨g12, 0, none⟩) (hq.block _ (World.block_lt_of_cell? _ _ p06) (by simp; omega))).trans p06, (World.cell?_of_block (a := ⟨g12, 1, none⟩) (hq.block _ (World.block_lt_of_cell? _ _ p16) (by simp; omega))).trans p16⟩
  go_wp2_with fail
  refine wp_region_held_drew (S := fun w' => w6.grownBy w' (some ga)) (by kernel_rfl) ⟨rfl, rfl, rfl, Nat.le_refl _, fun _ _ _ => rfl⟩ (fun hHeld => ?_)
  refine tk (v := ?_) 0 89 HF rfl ?_ hHeld ?_
  rotate_left; · (intro _ _ _; go_simp; try with_reducible rfl)
  simp only [Act.put, p1, p2, p3]
  refine tk (v := ?_) 4 93 HF rfl ?_ hHeld ?_
  rotate_left; · (intro _ _ _; go_simp; try with_reducible rfl)
  simp only [Act.put, p1, p2, p3]
  refine tk (v := ?_) 5 94 HF rfl ?_ hHeld ?_
  rotate_left; · (intro _ _ _; go_simp; try with_reducible rfl)
  simp only [Act.put, p1, p2, p3]
  refine tk (v := ?_) 9 98 HF rfl ?_ hHeld ?_
  rotate_left; · (intro _ _ _; go_simp; try with_reducible rfl)
  simp only [Act.put, p1, p2, p3]
  refine tk (v := ?_) 13 102 HF rfl ?_ hHeld ?_
  rotate_left; · (intro _ _ _; go_simp; try with_reducible rfl)
  simp only [Act.put, p1, p2, p3]
  refine tk (v := ?_) 1 90 HF rfl ?_ hHeld ?_
  rotate_left; · (intro _ _ _; go_simp; try with_reducible rfl)
  simp only [Act.put, p1, p2, p3]
  refine tk (v := ?_) 6 95 HF rfl ?_ hHeld ?_
  rotate_left; · (intro _ _ _; go_simp; try with_reducible rfl)
  simp only [Act.put, p1, p2, p3]
  refine tk (v := ?_) 2 91 HF rfl ?_ hHeld ?_
  rotate_left; · (intro _ _ _; go_simp; try with_reducible rfl)
  simp only [Act.put, p1, p2, p3]
  refine tk (v := ?_) 7 96 HF rfl ?_ hHeld ?_
  rotate_left; · (intro _ _ _; go_simp; try with_reducible rfl)
  simp only [Act.put, p1, p2, p3]
  refine tk (v := ?_) 3 92 HF rfl ?_ hHeld ?_
  rotate_left; · (intro _ _ _; go_simp; try with_reducible rfl)
  simp only [Act.put, p1, p2, p3]
  refine tk (v := ?_) 8 97 HF rfl ?_ hHeld ?_
  rotate_left; · (intro _ _ _; go_simp; try with_reducible rfl)
  simp only [Act.put, p1, p2, p3]
  refine tk (v := ?_) 10 99 HF rfl ?_ hHeld ?_
  rotate_left; · (intro _ _ _; go_simp; try with_reducible rfl)
  simp only [Act.put, p1, p2, p3]
  refine tk (v := ?_) 11 100 HF rfl ?_ hHeld ?_
  rotate_left; · (intro _ _ _; go_simp; try with_reducible rfl)
  simp only [Act.put, p1, p2, p3]
  refine wpAnyH_ready (rs := [12]) (by kernel_rfl) (by simp) ?_
  refine AllReadyH.cons rfl (fun K hK => ?_) AllReadyH.nil
  go_simp
  refine hK.out _ _ hHeld (fun hHeld => ?_)
  clear hK K
  refine wpAnyH_job (fuel := 3) (i := 14) (d := 103) (skip := []) (Post := fun v _ => v = (.agg #[.int .i64 (wrap64 (f (kk * 4 + 2) + wrap64 (z - (partV (f (i * 4 + 2)) (f (i * 4 + 3)) z)))), .int .i64 (wrap64 (f (kk * 4 + 3) + (partV (f (i * 4 + 2)) (f (i * 4 + 3)) z)))])) rfl rfl (by kernel_rfl) ?jq but_stays hHeld ?nq
  case jq =>
    intro a' w1' K hev hb hK
    have h1 : a'.eval (.tmp 101) = .agg #[.int .i64 (f (kk * 4 + 2)), .int .i64 (f (kk * 4 + 3))] := (hev 101 (by decide)).trans rfl
    have h2 : a'.tmps[101]?.getD undef = .agg #[.int .i64 (f (kk * 4 + 2)), .int .i64 (f (kk * 4 + 3))] := by simpa [Act.eval] using h1
    have h3 : a'.eval (.tmp 102) = .agg #[.int .i64 (wrap64 (z - (partV (f (i * 4 + 2)) (f (i * 4 + 3)) z))), .int .i64 (partV (f (i * 4 + 2)) (f (i * 4 + 3)) z)] := (hev 102 (by decide)).trans rfl
    have h4 : a'.tmps[102]?.getD undef = .agg #[.int .i64 (wrap64 (z - (partV (f (i * 4 + 2)) (f (i * 4 + 3)) z))), .int .i64 (partV (f (i * 4 + 2)) (f (i * 4 + 3)) z)] := by simpa [Act.eval] using h3
    have HK := Lib.hid hK
    clear hev h1 h3 hK HF
    go_simp
    go_at_call 75
    refine (plus_any _ _ _ _ w1').mono ?_
    rintro e w2' ⟨rfl, hb2⟩
    exact HK.out _ w2' rfl hb2
  case nq =>
  rintro v wl rfl hSl hbl
  simp only [Act.put, p1, p2, p3]
  have hHeld := hSl
  refine tk (v := ?_) 15 104 HF rfl ?_ hHeld ?_
  rotate_left; · (intro _ _ _; go_simp; try with_reducible rfl)
  simp only [Act.put, p1, p2, p3]
  refine tk (v := ?_) 16 105 HF rfl ?_ hHeld ?_
  rotate_left; · (intro _ _ _; go_simp; try with_reducible rfl)
  simp only [Act.put, p1, p2, p3]
  have hcurl : wl.heap[ga]? = some (.cells cur2 48) := (hbl.block ga (Array.getElem?_eq_some_iff.1 hcur).1).trans hcur
  refine wpAnyH_store (fuel := 0) (i := 17) rfl (by kernel_rfl) ga (kk * 4 + 2) (.agg #[.int .i64 (wrap64 (f (kk * 4 + 2) + wrap64 (z - (partV (f (i * 4 + 2)) (f (i * 4 + 3)) z)))), .int .i64 (wrap64 (f (kk * 4 + 3) + (partV (f (i * 4 + 2)) (f (i * 4 + 3)) z)))]) 48 cur2 rfl rfl infoBrine hcurl hfit (by simp [Value.cells, Value.oneCell']) (fun w' hg => grown_trans hSl hg) ?kx
  case kx =>
  intro w7 hhw7 hgw7 hSw7
  refine wpAnyH_done (by kernel_rfl) ?_ _
  rw [show putRow cur2 (kk * 4 + 2) ((.agg #[.int .i64 (wrap64 (f (kk * 4 + 2) + wrap64 (z - (partV (f (i * 4 + 2)) (f (i * 4 + 3)) z)))), .int .i64 (wrap64 (f (kk * 4 + 3) + (partV (f (i * 4 + 2)) (f (i * 4 + 3)) z)))]) : Value).cells = _ from putRow_two cur2 _ _ _ hfit] at hhw7
  have hOw7 := hput w7 (kk * 4 + 2) _ _ hhw7
  rw [cellsL_set, cellsL_set] at hOw7
  have hg7 := (hSw7.block g (Array.getElem?_eq_some_iff.1 HG6.out).1 (by simp; omega)).trans HG6.out
  have hB7 := HB6.out.grown hSw7 lw6 (fun k hk => by cases hk; omega)
  clear hHeld HF hSw7 hgw7 hhw7 hSl hbl hcurl hcur hput hcs hfit e0 ef a2 a3 af HG6 HB6 p06 p16
  go_wp2
  go_ret
  rw [HPO.out]
  exact ⟨rfl, fun _ => ⟨hg7, by rw [HPF.out]; exact hOw7⟩, hB7⟩
set_option maxRecDepth 100000 in
set_option maxHeartbeats 2000000 in
theorem stepPan_other (g ga lo n c' : Nat) (f : Nat → Int) (I H S P : Int) (kd id tt0 z : Int) (i : Nat) (hi' : i < n) (hn : n ≤ 1000) (w : World) (hg : w.heap[g]? = some (.cells #[.slice (some ⟨ga, 0, none⟩) n c', .int .i64 I, .int .i64 H, .int .i64 S, .int .i64 P] 26 (0, 0))) (hO : w.ownsRow lo 48 4 (.slice (some ⟨ga, 0, none⟩) n c') n ((cellsL f n).map (Value.int .i64))) (hlo : lo ≤ g) (k2 : (kd == 2) = false) (k3 : (kd == 3) = false) (k4 : (kd == 4) = false) (k5 : (kd == 5) = false) :
    Calls Tryd.prog 59 #[.pointer (some ⟨g, 0, none⟩), .int .i64 i, .agg #[.int .i64 kd, .int .i64 id, .int .i64 tt0, .int .i64 z]] w (fun e w' => e = .returned (.bool false) ∧ Below lo w w') := by
  go_enter Tryd.func59, Tryd.ntmps59
  have nga : ga ≠ g := by
    intro e
    subst e
    exact row_ne hO hg (by decide)
  have lg : g < w.heap.size := (Array.getElem?_eq_some_iff.1 hg).1
  have lga := World.ownsRow.lt hO ga rfl
  have hnc : n ≤ c' ∧ c' ≤ maxLen := by
    obtain ⟨_, _, e, h1, h2⟩ := row_slice hO
    cases e
    exact ⟨h1, h2⟩
  have hncI : (n : Int) ≤ (c' : Int) := by omega
  have hi0 : (0 : Int) ≤ (i : Int) := by omega
  have hin : (i : Int) < (n : Int) := by omega
  go_upto_region 1 with fail
  refine name_wp ?_
  intro w1 hw1
  have hb1 : Below w.heap.size w w1 := by rw [hw1]; exact (Below.refl _ w).alloc (Nat.le_refl _) _
  have hs1 : w1.heap[w.heap.size]? = some (.cells #[.int .i64 kd, .int .i64 id, .int .i64 tt0, .int .i64 z] 34) := by rw [hw1]; exact heap_alloc_new w _
  have hg1 := (hb1.block g lg).trans hg
  have hO1 := ownsRow_below hO hb1
  have hB1 : Below lo w w1 := hb1.mono (by omega)
  clear hw1 hg hO hb1
  have lg1 := (Array.getElem?_eq_some_iff.1 hg1).1
  have ls1 := (Array.getElem?_eq_some_iff.1 hs1).1
  have lw1 : lo ≤ w1.heap.size := by omega
  obtain ⟨s, hs⟩ : ∃ s, s = w.heap.size := ⟨_, rfl⟩
  rw [← hs] at hs1 lg lga ls1
  have ngs : g ≠ s := by omega
  have nsg : s ≠ g := by omega
  have nas : ga ≠ s := by omega
  have nsa : s ≠ ga := by omega
  have nga' : g ≠ ga := Ne.symm nga
  have hles : lo ≤ s := by omega
  have HS0 := Lib.hid hs
  clear hs
  obtain ⟨s0, s1, s2, s3⟩ := cells4 hs1
  obtain ⟨e0, e1, e2, e3, e4⟩ := cells5 hg1
  have ef : ∀ j, w1.frozen? ⟨g, j, none⟩ = false := fun j => frozen_of_row w1 g j _ _ hg1
  have a2 : w1.cell? ⟨ga, i * 4 + 2, none⟩ = some (.int .i64 (f (i * 4 + 2))) := by rw [World.ownsRow.cellAt hO1 (i * 4 + 2) (by omega), List.getElem?_map, cellsL_at f n _ (by omega)]; rfl
  have a3 : w1.cell? ⟨ga, i * 4 + 3, none⟩ = some (.int .i64 (f (i * 4 + 3))) := by rw [World.ownsRow.cellAt hO1 (i * 4 + 3) (by omega), List.getElem?_map, cellsL_at f n _ (by omega)]; rfl
  have af : ∀ j, w1.frozen? ⟨ga, j, none⟩ = false := fun j => World.ownsRow.frozenAt hO1 j
  have HG1 := Lib.hid hg1
  have HO1 := Lib.hid hO1
  have HB1 := Lib.hid hB1
  clear hg1 hO1 hB1 hs1
  have hszS : w.heap.size = s := HS0.out.symm
  rw [hszS]
  clear hszS
  have hB1' := HB1.out
  clear HG1 HO1 HB1
  go_wp2
  go_ret
  exact ⟨rfl, hB1'⟩
end Go.Proofs.YtjkockhldaacbaaDoor
