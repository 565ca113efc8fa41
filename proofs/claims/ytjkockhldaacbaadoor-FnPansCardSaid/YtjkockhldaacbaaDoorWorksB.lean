/-
  The test of works: the program's and the reference's return the same.
-/
import Derived.Test.YtjkockhldaacbaaDoorPk1
import Derived.Test.YtjkockhldaacbaaDoorWorksA
namespace Go.Proofs.YtjkockhldaacbaaDoor
open Go.RowKit
set_option linter.unusedVariables false
set_option linter.unusedSimpArgs false
attribute [local go_sem ↓] Go.wp_at_zero Go.wp_at_succ

set_option maxRecDepth 100000 in
set_option maxHeartbeats 2000000 in
theorem l25Good_any (A : Option Addr) (n c lo hi : Nat) (f : Nat → Int) (I H S P : Int) (w : World) (hs : Sl w lo hi 4 A n f) (hn : n ≤ 1048576) (hnc : n ≤ c) :
    Calls Tryd.prog 26 #[.agg #[.slice A n c, .int .i64 I, .int .i64 H, .int .i64 S, .int .i64 P]] w fun e w' => e = .returned (.bool (goodWorks f n I H S P)) ∧ Below w.heap.size w w' := by
  have HS : Hid (Sl (w.alloc (.cells #[.slice A n c, .int .i64 I, .int .i64 H, .int .i64 S, .int .i64 P] 26)) lo hi 4 A n f) := hs.below ((Below.refl _ w).alloc (Nat.le_refl _) _)
  clear hs
  have HF : Hid (∀ w', Below (w.alloc (.cells #[.slice A n c, .int .i64 I, .int .i64 H, .int .i64 S, .int .i64 P] 26)).heap.size (w.alloc (.cells #[.slice A n c, .int .i64 I, .int .i64 H, .int .i64 S, .int .i64 P] 26)) w' → w'.cell? ⟨w.heap.size, 0, none⟩ = some (.slice A n c) ∧ w'.cell? ⟨w.heap.size, 1, none⟩ = some (.int .i64 I) ∧ w'.cell? ⟨w.heap.size, 2, none⟩ = some (.int .i64 H) ∧ w'.cell? ⟨w.heap.size, 3, none⟩ = some (.int .i64 S) ∧ w'.cell? ⟨w.heap.size, 4, none⟩ = some (.int .i64 P)) := fun w' hq => ⟨(hq.cell (p := ⟨w.heap.size, 0, none⟩) (by simp)).trans (by simp), (hq.cell (p := ⟨w.heap.size, 1, none⟩) (by simp)).trans (by simp), (hq.cell (p := ⟨w.heap.size, 2, none⟩) (by simp)).trans (by simp), (hq.cell (p := ⟨w.heap.size, 3, none⟩) (by simp)).trans (by simp), (hq.cell (p := ⟨w.heap.size, 4, none⟩) (by simp)).trans (by simp)⟩
  go_enter Tryd.func26, Tryd.ntmps26
  go_wp2
  refine wp_region_held_drew (S := fun w' => Below ((w.alloc (.cells #[.slice A n c, .int .i64 I, .int .i64 H, .int .i64 S, .int .i64 P] 26))).heap.size ((w.alloc (.cells #[.slice A n c, .int .i64 I, .int .i64 H, .int .i64 S, .int .i64 P] 26))) w') (by kernel_rfl) ((Below.refl _ _).drew) (fun hHeld => ?_)
  refine tk (v := ?_) 0 3 HF rfl ?_ hHeld ?_
  rotate_left; · (intro _ _ _; go_simp; try with_reducible rfl)
  simp only [Act.put, p1, p2, p3]
  refine wpAnyH_ready (rs := [1]) (by kernel_rfl) (by simp) ?_
  refine AllReadyH.cons rfl (fun K hK => ?_) AllReadyH.nil
  go_simp
  (go_at_call 53; refine (l25Pans_any A n c lo hi f I H S P _ (HS.out.below hHeld) hn hnc).mono ?_; rintro e w2 ⟨rfl, hb2⟩)
  refine hK.out _ _ (hHeld.trans (hb2.mono hHeld.size)) (fun hHeld => ?_)
  clear hK K hb2
  refine tk (v := ?_) 2 5 HF rfl ?_ hHeld ?_
  rotate_left; · (intro _ _ _; go_simp; try with_reducible rfl)
  simp only [Act.put, p1, p2, p3]
  cases hp : pansOk f n with
  | false =>
    refine wpAnyH_skips (by kernel_rfl) (fun _ _ _ _ _ h => h) hHeld [(3, 6), (4, 7), (5, 8)] 33 3 _ _ rfl (by kernel_rfl) ?_
    simp only [skipL, skipA, Act.put, List.setIfInBounds_toArray, List.set_cons_zero, List.set_cons_succ]
    refine tk (v := ?_) 6 9 HF rfl ?_ hHeld ?_
    rotate_left; · (intro _ _ _; go_simp; try with_reducible rfl)
    simp only [Act.put, p1, p2, p3]
    refine tk (v := ?_) 7 10 HF rfl ?_ hHeld ?_
    rotate_left; · (intro _ _ _; go_simp; try with_reducible rfl)
    simp only [Act.put, p1, p2, p3]
    refine wpAnyH_skips (by kernel_rfl) (fun _ _ _ _ _ h => h) hHeld [(8, 11), (9, 12), (10, 13)] 28 3 _ _ rfl (by kernel_rfl) ?_
    simp only [skipL, skipA, Act.put, List.setIfInBounds_toArray, List.set_cons_zero, List.set_cons_succ]
    refine tk (v := ?_) 11 14 HF rfl ?_ hHeld ?_
    rotate_left; · (intro _ _ _; go_simp; try with_reducible rfl)
    simp only [Act.put, p1, p2, p3]
    refine tk (v := ?_) 12 15 HF rfl ?_ hHeld ?_
    rotate_left; · (intro _ _ _; go_simp; try with_reducible rfl)
    simp only [Act.put, p1, p2, p3]
    refine wpAnyH_skips (by kernel_rfl) (fun _ _ _ _ _ h => h) hHeld [(13, 16), (14, 17), (15, 18)] 23 3 _ _ rfl (by kernel_rfl) ?_
    simp only [skipL, skipA, Act.put, List.setIfInBounds_toArray, List.set_cons_zero, List.set_cons_succ]
    refine tk (v := ?_) 16 19 HF rfl ?_ hHeld ?_
    rotate_left; · (intro _ _ _; go_simp; try with_reducible rfl)
    simp only [Act.put, p1, p2, p3]
    refine tk (v := ?_) 17 20 HF rfl ?_ hHeld ?_
    rotate_left; · (intro _ _ _; go_simp; try with_reducible rfl)
    simp only [Act.put, p1, p2, p3]
    refine wpAnyH_skips (by kernel_rfl) (fun _ _ _ _ _ h => h) hHeld [(18, 21), (19, 22), (20, 23)] 18 3 _ _ rfl (by kernel_rfl) ?_
    simp only [skipL, skipA, Act.put, List.setIfInBounds_toArray, List.set_cons_zero, List.set_cons_succ]
    refine tk (v := ?_) 21 24 HF rfl ?_ hHeld ?_
    rotate_left; · (intro _ _ _; go_simp; try with_reducible rfl)
    simp only [Act.put, p1, p2, p3]
    refine tk (v := ?_) 22 25 HF rfl ?_ hHeld ?_
    rotate_left; · (intro _ _ _; go_simp; try with_reducible rfl)
    simp only [Act.put, p1, p2, p3]
    refine wpAnyH_skips (by kernel_rfl) (fun _ _ _ _ _ h => h) hHeld [(23, 26), (24, 27), (25, 28), (26, 29), (27, 30), (28, 31), (29, 32), (30, 33), (31, 34), (32, 35), (33, 36), (34, 37), (35, 38), (36, 39)] 2 14 _ _ rfl (by kernel_rfl) ?_
    simp only [skipL, skipA, Act.put, List.setIfInBounds_toArray, List.set_cons_zero, List.set_cons_succ]
    refine tk (v := ?_) 37 40 HF rfl ?_ hHeld ?_
    rotate_left; · (intro _ _ _; go_simp; try with_reducible rfl)
    simp only [Act.put, p1, p2, p3]
    refine tk (v := ?_) 38 2 HF rfl ?_ hHeld ?_
    rotate_left; · (intro _ _ _; go_simp; try with_reducible rfl)
    simp only [Act.put, p1, p2, p3]
    refine wpAnyH_done (by kernel_rfl) ?_ _
    go_wp2
    go_ret
    exact ⟨ret_bool (by simp [goodWorks, kilosOk, totalV, hp]; try (rw [Bool.eq_iff_iff]; simp only [beq_iff_eq, IntWalk.i64_left]; exact ⟨fun h => decide_eq_true h, fun h => of_decide_eq_true h⟩)), ((Below.refl _ w).alloc (Nat.le_refl _) _).trans (hHeld.mono (by simp))⟩
  | true =>
    refine tk (v := ?_) 3 6 HF rfl ?_ hHeld ?_
    rotate_left; · (intro _ _ _; go_simp; try with_reducible rfl)
    simp only [Act.put, p1, p2, p3]
    refine tk (v := ?_) 4 7 HF rfl ?_ hHeld ?_
    rotate_left; · (intro _ _ _; go_simp; try with_reducible rfl)
    simp only [Act.put, p1, p2, p3]
    refine wpAnyH_ready (rs := [5]) (by kernel_rfl) (by simp) ?_
    refine AllReadyH.cons rfl (fun K hK => ?_) AllReadyH.nil
    go_simp
    (go_at_call 54; refine (quiet_below (l21Kilos_any _ _)).mono ?_; rintro e w2 ⟨rfl, hb2⟩)
    refine hK.out _ _ (hHeld.trans (hb2.mono hHeld.size)) (fun hHeld => ?_)
    clear hK K hb2
    refine tk (v := ?_) 6 9 HF rfl ?_ hHeld ?_
    rotate_left; · (intro _ _ _; go_simp; try with_reducible rfl)
    simp only [Act.put, p1, p2, p3]
    refine tk (v := ?_) 7 10 HF rfl ?_ hHeld ?_
    rotate_left; · (intro _ _ _; go_simp; try with_reducible rfl)
    simp only [Act.put, p1, p2, p3]
    cases h1 : inR I 0 1000000 with
    | false =>
      refine wpAnyH_skips (by kernel_rfl) (fun _ _ _ _ _ h => h) hHeld [(8, 11), (9, 12), (10, 13)] 28 3 _ _ rfl (by kernel_rfl) ?_
      simp only [skipL, skipA, Act.put, List.setIfInBounds_toArray, List.set_cons_zero, List.set_cons_succ]
      refine tk (v := ?_) 11 14 HF rfl ?_ hHeld ?_
      rotate_left; · (intro _ _ _; go_simp; try with_reducible rfl)
      simp only [Act.put, p1, p2, p3]
      refine tk (v := ?_) 12 15 HF rfl ?_ hHeld ?_
      rotate_left; · (intro _ _ _; go_simp; try with_reducible rfl)
      simp only [Act.put, p1, p2, p3]
      refine wpAnyH_skips (by kernel_rfl) (fun _ _ _ _ _ h => h) hHeld [(13, 16), (14, 17), (15, 18)] 23 3 _ _ rfl (by kernel_rfl) ?_
      simp only [skipL, skipA, Act.put, List.setIfInBounds_toArray, List.set_cons_zero, List.set_cons_succ]
      refine tk (v := ?_) 16 19 HF rfl ?_ hHeld ?_
      rotate_left; · (intro _ _ _; go_simp; try with_reducible rfl)
      simp only [Act.put, p1, p2, p3]
      refine tk (v := ?_) 17 20 HF rfl ?_ hHeld ?_
      rotate_left; · (intro _ _ _; go_simp; try with_reducible rfl)
      simp only [Act.put, p1, p2, p3]
      refine wpAnyH_skips (by kernel_rfl) (fun _ _ _ _ _ h => h) hHeld [(18, 21), (19, 22), (20, 23)] 18 3 _ _ rfl (by kernel_rfl) ?_
      simp only [skipL, skipA, Act.put, List.setIfInBounds_toArray, List.set_cons_zero, List.set_cons_succ]
      refine tk (v := ?_) 21 24 HF rfl ?_ hHeld ?_
      rotate_left; · (intro _ _ _; go_simp; try with_reducible rfl)
      simp only [Act.put, p1, p2, p3]
      refine tk (v := ?_) 22 25 HF rfl ?_ hHeld ?_
      rotate_left; · (intro _ _ _; go_simp; try with_reducible rfl)
      simp only [Act.put, p1, p2, p3]
      refine wpAnyH_skips (by kernel_rfl) (fun _ _ _ _ _ h => h) hHeld [(23, 26), (24, 27), (25, 28), (26, 29), (27, 30), (28, 31), (29, 32), (30, 33), (31, 34), (32, 35), (33, 36), (34, 37), (35, 38), (36, 39)] 2 14 _ _ rfl (by kernel_rfl) ?_
      simp only [skipL, skipA, Act.put, List.setIfInBounds_toArray, List.set_cons_zero, List.set_cons_succ]
      refine tk (v := ?_) 37 40 HF rfl ?_ hHeld ?_
      rotate_left; · (intro _ _ _; go_simp; try with_reducible rfl)
      simp only [Act.put, p1, p2, p3]
      refine tk (v := ?_) 38 2 HF rfl ?_ hHeld ?_
      rotate_left; · (intro _ _ _; go_simp; try with_reducible rfl)
      simp only [Act.put, p1, p2, p3]
      refine wpAnyH_done (by kernel_rfl) ?_ _
      go_wp2
      go_ret
      exact ⟨ret_bool (by simp [goodWorks, kilosOk, totalV, hp, h1]; try (rw [Bool.eq_iff_iff]; simp only [beq_iff_eq, IntWalk.i64_left]; exact ⟨fun h => decide_eq_true h, fun h => of_decide_eq_true h⟩)), ((Below.refl _ w).alloc (Nat.le_refl _) _).trans (hHeld.mono (by simp))⟩
    | true =>
      refine tk (v := ?_) 8 11 HF rfl ?_ hHeld ?_
      rotate_left; · (intro _ _ _; go_simp; try with_reducible rfl)
      simp only [Act.put, p1, p2, p3]
      refine tk (v := ?_) 9 12 HF rfl ?_ hHeld ?_
      rotate_left; · (intro _ _ _; go_simp; try with_reducible rfl)
      simp only [Act.put, p1, p2, p3]
      refine wpAnyH_ready (rs := [10]) (by kernel_rfl) (by simp) ?_
      refine AllReadyH.cons rfl (fun K hK => ?_) AllReadyH.nil
      go_simp
      (go_at_call 54; refine (quiet_below (l21Kilos_any _ _)).mono ?_; rintro e w2 ⟨rfl, hb2⟩)
      refine hK.out _ _ (hHeld.trans (hb2.mono hHeld.size)) (fun hHeld => ?_)
      clear hK K hb2
      refine tk (v := ?_) 11 14 HF rfl ?_ hHeld ?_
      rotate_left; · (intro _ _ _; go_simp; try with_reducible rfl)
      simp only [Act.put, p1, p2, p3]
      refine tk (v := ?_) 12 15 HF rfl ?_ hHeld ?_
      rotate_left; · (intro _ _ _; go_simp; try with_reducible rfl)
      simp only [Act.put, p1, p2, p3]
      cases h2 : inR H 0 1000000 with
      | false =>
        refine wpAnyH_skips (by kernel_rfl) (fun _ _ _ _ _ h => h) hHeld [(13, 16), (14, 17), (15, 18)] 23 3 _ _ rfl (by kernel_rfl) ?_
        simp only [skipL, skipA, Act.put, List.setIfInBounds_toArray, List.set_cons_zero, List.set_cons_succ]
        refine tk (v := ?_) 16 19 HF rfl ?_ hHeld ?_
        rotate_left; · (intro _ _ _; go_simp; try with_reducible rfl)
        simp only [Act.put, p1, p2, p3]
        refine tk (v := ?_) 17 20 HF rfl ?_ hHeld ?_
        rotate_left; · (intro _ _ _; go_simp; try with_reducible rfl)
        simp only [Act.put, p1, p2, p3]
        refine wpAnyH_skips (by kernel_rfl) (fun _ _ _ _ _ h => h) hHeld [(18, 21), (19, 22), (20, 23)] 18 3 _ _ rfl (by kernel_rfl) ?_
        simp only [skipL, skipA, Act.put, List.setIfInBounds_toArray, List.set_cons_zero, List.set_cons_succ]
        refine tk (v := ?_) 21 24 HF rfl ?_ hHeld ?_
        rotate_left; · (intro _ _ _; go_simp; try with_reducible rfl)
        simp only [Act.put, p1, p2, p3]
        refine tk (v := ?_) 22 25 HF rfl ?_ hHeld ?_
        rotate_left; · (intro _ _ _; go_simp; try with_reducible rfl)
        simp only [Act.put, p1, p2, p3]
        refine wpAnyH_skips (by kernel_rfl) (fun _ _ _ _ _ h => h) hHeld [(23, 26), (24, 27), (25, 28), (26, 29), (27, 30), (28, 31), (29, 32), (30, 33), (31, 34), (32, 35), (33, 36), (34, 37), (35, 38), (36, 39)] 2 14 _ _ rfl (by kernel_rfl) ?_
        simp only [skipL, skipA, Act.put, List.setIfInBounds_toArray, List.set_cons_zero, List.set_cons_succ]
        refine tk (v := ?_) 37 40 HF rfl ?_ hHeld ?_
        rotate_left; · (intro _ _ _; go_simp; try with_reducible rfl)
        simp only [Act.put, p1, p2, p3]
        refine tk (v := ?_) 38 2 HF rfl ?_ hHeld ?_
        rotate_left; · (intro _ _ _; go_simp; try with_reducible rfl)
        simp only [Act.put, p1, p2, p3]
        refine wpAnyH_done (by kernel_rfl) ?_ _
        go_wp2
        go_ret
        exact ⟨ret_bool (by simp [goodWorks, kilosOk, totalV, hp, h1, h2]; try (rw [Bool.eq_iff_iff]; simp only [beq_iff_eq, IntWalk.i64_left]; exact ⟨fun h => decide_eq_true h, fun h => of_decide_eq_true h⟩)), ((Below.refl _ w).alloc (Nat.le_refl _) _).trans (hHeld.mono (by simp))⟩
      | true =>
        refine tk (v := ?_) 13 16 HF rfl ?_ hHeld ?_
        rotate_left; · (intro _ _ _; go_simp; try with_reducible rfl)
        simp only [Act.put, p1, p2, p3]
        refine tk (v := ?_) 14 17 HF rfl ?_ hHeld ?_
        rotate_left; · (intro _ _ _; go_simp; try with_reducible rfl)
        simp only [Act.put, p1, p2, p3]
        refine wpAnyH_ready (rs := [15]) (by kernel_rfl) (by simp) ?_
        refine AllReadyH.cons rfl (fun K hK => ?_) AllReadyH.nil
        go_simp
        (go_at_call 54; refine (quiet_below (l21Kilos_any _ _)).mono ?_; rintro e w2 ⟨rfl, hb2⟩)
        refine hK.out _ _ (hHeld.trans (hb2.mono hHeld.size)) (fun hHeld => ?_)
        clear hK K hb2
        refine tk (v := ?_) 16 19 HF rfl ?_ hHeld ?_
        rotate_left; · (intro _ _ _; go_simp; try with_reducible rfl)
        simp only [Act.put, p1, p2, p3]
        refine tk (v := ?_) 17 20 HF rfl ?_ hHeld ?_
        rotate_left; · (intro _ _ _; go_simp; try with_reducible rfl)
        simp only [Act.put, p1, p2, p3]
        cases h3 : inR S 0 1000000 with
        | false =>
          refine wpAnyH_skips (by kernel_rfl) (fun _ _ _ _ _ h => h) hHeld [(18, 21), (19, 22), (20, 23)] 18 3 _ _ rfl (by kernel_rfl) ?_
          simp only [skipL, skipA, Act.put, List.setIfInBounds_toArray, List.set_cons_zero, List.set_cons_succ]
          refine tk (v := ?_) 21 24 HF rfl ?_ hHeld ?_
          rotate_left; · (intro _ _ _; go_simp; try with_reducible rfl)
          simp only [Act.put, p1, p2, p3]
          refine tk (v := ?_) 22 25 HF rfl ?_ hHeld ?_
          rotate_left; · (intro _ _ _; go_simp; try with_reducible rfl)
          simp only [Act.put, p1, p2, p3]
          refine wpAnyH_skips (by kernel_rfl) (fun _ _ _ _ _ h => h) hHeld [(23, 26), (24, 27), (25, 28), (26, 29), (27, 30), (28, 31), (29, 32), (30, 33), (31, 34), (32, 35), (33, 36), (34, 37), (35, 38), (36, 39)] 2 14 _ _ rfl (by kernel_rfl) ?_
          simp only [skipL, skipA, Act.put, List.setIfInBounds_toArray, List.set_cons_zero, List.set_cons_succ]
          refine tk (v := ?_) 37 40 HF rfl ?_ hHeld ?_
          rotate_left; · (intro _ _ _; go_simp; try with_reducible rfl)
          simp only [Act.put, p1, p2, p3]
          refine tk (v := ?_) 38 2 HF rfl ?_ hHeld ?_
          rotate_left; · (intro _ _ _; go_simp; try with_reducible rfl)
          simp only [Act.put, p1, p2, p3]
          refine wpAnyH_done (by kernel_rfl) ?_ _
          go_wp2
          go_ret
          exact ⟨ret_bool (by simp [goodWorks, kilosOk, totalV, hp, h1, h2, h3]; try (rw [Bool.eq_iff_iff]; simp only [beq_iff_eq, IntWalk.i64_left]; exact ⟨fun h => decide_eq_true h, fun h => of_decide_eq_true h⟩)), ((Below.refl _ w).alloc (Nat.le_refl _) _).trans (hHeld.mono (by simp))⟩
        | true =>
          refine tk (v := ?_) 18 21 HF rfl ?_ hHeld ?_
          rotate_left; · (intro _ _ _; go_simp; try with_reducible rfl)
          simp only [Act.put, p1, p2, p3]
          refine tk (v := ?_) 19 22 HF rfl ?_ hHeld ?_
          rotate_left; · (intro _ _ _; go_simp; try with_reducible rfl)
          simp only [Act.put, p1, p2, p3]
          refine wpAnyH_ready (rs := [20]) (by kernel_rfl) (by simp) ?_
          refine AllReadyH.cons rfl (fun K hK => ?_) AllReadyH.nil
          go_simp
          (go_at_call 54; refine (quiet_below (l21Kilos_any _ _)).mono ?_; rintro e w2 ⟨rfl, hb2⟩)
          refine hK.out _ _ (hHeld.trans (hb2.mono hHeld.size)) (fun hHeld => ?_)
          clear hK K hb2
          refine tk (v := ?_) 21 24 HF rfl ?_ hHeld ?_
          rotate_left; · (intro _ _ _; go_simp; try with_reducible rfl)
          simp only [Act.put, p1, p2, p3]
          refine tk (v := ?_) 22 25 HF rfl ?_ hHeld ?_
          rotate_left; · (intro _ _ _; go_simp; try with_reducible rfl)
          simp only [Act.put, p1, p2, p3]
          cases h4 : inR P 0 1000000 with
          | false =>
            refine wpAnyH_skips (by kernel_rfl) (fun _ _ _ _ _ h => h) hHeld [(23, 26), (24, 27), (25, 28), (26, 29), (27, 30), (28, 31), (29, 32), (30, 33), (31, 34), (32, 35), (33, 36), (34, 37), (35, 38), (36, 39)] 2 14 _ _ rfl (by kernel_rfl) ?_
            simp only [skipL, skipA, Act.put, List.setIfInBounds_toArray, List.set_cons_zero, List.set_cons_succ]
            refine tk (v := ?_) 37 40 HF rfl ?_ hHeld ?_
            rotate_left; · (intro _ _ _; go_simp; try with_reducible rfl)
            simp only [Act.put, p1, p2, p3]
            refine tk (v := ?_) 38 2 HF rfl ?_ hHeld ?_
            rotate_left; · (intro _ _ _; go_simp; try with_reducible rfl)
            simp only [Act.put, p1, p2, p3]
            refine wpAnyH_done (by kernel_rfl) ?_ _
            go_wp2
            go_ret
            exact ⟨ret_bool (by simp [goodWorks, kilosOk, totalV, hp, h1, h2, h3, h4]; try (rw [Bool.eq_iff_iff]; simp only [beq_iff_eq, IntWalk.i64_left]; exact ⟨fun h => decide_eq_true h, fun h => of_decide_eq_true h⟩)), ((Below.refl _ w).alloc (Nat.le_refl _) _).trans (hHeld.mono (by simp))⟩
          | true =>
            refine tk (v := ?_) 23 26 HF rfl ?_ hHeld ?_
            rotate_left; · (intro _ _ _; go_simp; try with_reducible rfl)
            simp only [Act.put, p1, p2, p3]
            refine tk (v := ?_) 24 27 HF rfl ?_ hHeld ?_
            rotate_left; · (intro _ _ _; go_simp; try with_reducible rfl)
            simp only [Act.put, p1, p2, p3]
            refine tk (v := ?_) 25 28 HF rfl ?_ hHeld ?_
            rotate_left; · (intro _ _ _; go_simp; try with_reducible rfl)
            simp only [Act.put, p1, p2, p3]
            refine tk (v := ?_) 27 30 HF rfl ?_ hHeld ?_
            rotate_left; · (intro _ _ _; go_simp; try with_reducible rfl)
            simp only [Act.put, p1, p2, p3]
            refine tk (v := ?_) 28 31 HF rfl ?_ hHeld ?_
            rotate_left; · (intro _ _ _; go_simp; try with_reducible rfl)
            simp only [Act.put, p1, p2, p3]
            refine tk (v := ?_) 30 33 HF rfl ?_ hHeld ?_
            rotate_left; · (intro _ _ _; go_simp; try with_reducible rfl)
            simp only [Act.put, p1, p2, p3]
            refine tk (v := ?_) 31 34 HF rfl ?_ hHeld ?_
            rotate_left; · (intro _ _ _; go_simp; try with_reducible rfl)
            simp only [Act.put, p1, p2, p3]
            refine tk (v := ?_) 33 36 HF rfl ?_ hHeld ?_
            rotate_left; · (intro _ _ _; go_simp; try with_reducible rfl)
            simp only [Act.put, p1, p2, p3]
            refine tk (v := ?_) 34 37 HF rfl ?_ hHeld ?_
            rotate_left; · (intro _ _ _; go_simp; try with_reducible rfl)
            simp only [Act.put, p1, p2, p3]
            refine wpAnyH_ready (rs := [26]) (by kernel_rfl) (by simp) ?_
            refine AllReadyH.cons rfl (fun K hK => ?_) AllReadyH.nil
            go_simp
            (go_at_call 55; refine (l25Salt_any A n c lo hi f I H S P _ (HS.out.below hHeld) hn hnc).mono ?_; rintro e w2 ⟨rfl, hb2⟩)
            refine hK.out _ _ (hHeld.trans (hb2.mono hHeld.size)) (fun hHeld => ?_)
            clear hK K hb2
            refine tk (v := ?_) 29 32 HF rfl ?_ hHeld ?_
            rotate_left; · (intro _ _ _; go_simp; try with_reducible rfl)
            simp only [Act.put, p1, p2, p3]
            refine tk (v := ?_) 32 35 HF rfl ?_ hHeld ?_
            rotate_left; · (intro _ _ _; go_simp; try with_reducible rfl)
            simp only [Act.put, p1, p2, p3]
            refine tk (v := ?_) 35 38 HF rfl ?_ hHeld ?_
            rotate_left; · (intro _ _ _; go_simp; try with_reducible rfl)
            simp only [Act.put, p1, p2, p3]
            refine tk (v := ?_) 36 39 HF rfl ?_ hHeld ?_
            rotate_left; · (intro _ _ _; go_simp; try with_reducible rfl)
            simp only [Act.put, p1, p2, p3]
            refine tk (v := ?_) 37 40 HF rfl ?_ hHeld ?_
            rotate_left; · (intro _ _ _; go_simp; try with_reducible rfl)
            simp only [Act.put, p1, p2, p3]
            refine tk (v := ?_) 38 2 HF rfl ?_ hHeld ?_
            rotate_left; · (intro _ _ _; go_simp; try with_reducible rfl)
            simp only [Act.put, p1, p2, p3]
            refine wpAnyH_done (by kernel_rfl) ?_ _
            go_wp2
            go_ret
            exact ⟨ret_bool (by simp [goodWorks, kilosOk, totalV, hp, h1, h2, h3, h4]; try (rw [Bool.eq_iff_iff]; simp only [beq_iff_eq, IntWalk.i64_left]; exact ⟨fun h => decide_eq_true h, fun h => of_decide_eq_true h⟩)), ((Below.refl _ w).alloc (Nat.le_refl _) _).trans (hHeld.mono (by simp))⟩
set_option maxRecDepth 100000 in
set_option maxHeartbeats 4000000 in
theorem isWorks_good (A : Option Addr) (n c lo hi : Nat) (f : Nat → Int) (I H S P : Int) (w : World) (hs : Sl w lo hi 4 A n f) (hn : n ≤ 1048576) (hnc : n ≤ c) (hlen : n ≤ 6) (k1 : inR I 0 1000000 = true) (k2 : inR H 0 1000000 = true) (k3 : inR S 0 1000000 = true) (k4 : inR P 0 1000000 = true) :
    Calls Tryd.prog 23 #[.agg #[.slice A n c, .int .i64 I, .int .i64 H, .int .i64 S, .int .i64 P]] w fun e w' => e = .returned (.bool (goodWorks f n I H S P)) ∧ Below w.heap.size w w' := by
  have HS : Hid (Sl (w.alloc (.cells #[.slice A n c, .int .i64 I, .int .i64 H, .int .i64 S, .int .i64 P] 26)) lo hi 4 A n f) := hs.below ((Below.refl _ w).alloc (Nat.le_refl _) _)
  clear hs
  have hl6 : ¬ ((6 : Int) < (n : Int)) := by omega
  go_enter Tryd.func23, Tryd.ntmps23
  go_wp2_with (go_at_call 49; refine (isKilos_any _ _).mono ?_; rintro e w2 ⟨rfl, rfl⟩)
  go_loopw [36] (fun i wr => ∃ k : Nat, k ≤ n ∧ i = .int .i64 k ∧ Hid (allTo (panStep f) k = true) ∧ Below (w.alloc (.cells #[.slice A n c, .int .i64 I, .int .i64 H, .int .i64 S, .int .i64 P] 26)).heap.size (w.alloc (.cells #[.slice A n c, .int .i64 I, .int .i64 H, .int .i64 S, .int .i64 P] 26)) wr) (fun i _ => n - (intOf i).toNat)
  case atStart => exact ⟨0, Nat.zero_le _, rfl, rfl, Below.refl _ _⟩
  case round =>
    obtain ⟨k, hk, rfl, hall, hbel⟩ := hrel
    have hbz : w.heap.size < wr.heap.size := by have := hbel.size; simp at this; omega
    have b0 : wr.cell? ⟨w.heap.size, 0, none⟩ = some (.slice A n c) := (hbel.cell (p := ⟨w.heap.size, 0, none⟩) (by simp)).trans (by simp)
    by_cases hlt : k < n
    · obtain ⟨b, off, rfl, hbw, HC⟩ := HS.out.open_ hbel (by omega)
      obtain ⟨c0, c1, c2, c3⟩ := cell4 HC hlt
      have hk0i : (0 : Int) ≤ (k : Int) := by omega
      have hkni : (k : Int) < (n : Int) := by omega
      have HF : Hid (∀ w', Below (wr.alloc (.cells #[.int .i64 (f (k * 4)), .int .i64 (f (k * 4 + 1)), .int .i64 (f (k * 4 + 2)), .int .i64 (f (k * 4 + 3))] 48)).heap.size (wr.alloc (.cells #[.int .i64 (f (k * 4)), .int .i64 (f (k * 4 + 1)), .int .i64 (f (k * 4 + 2)), .int .i64 (f (k * 4 + 3))] 48)) w' → w'.cell? ⟨wr.heap.size, 0, none⟩ = some (.int .i64 (f (k * 4))) ∧ w'.cell? ⟨wr.heap.size, 1, none⟩ = some (.int .i64 (f (k * 4 + 1))) ∧ w'.cell? ⟨wr.heap.size, 2, none⟩ = some (.int .i64 (f (k * 4 + 2))) ∧ w'.cell? ⟨wr.heap.size, 3, none⟩ = some (.int .i64 (f (k * 4 + 3))) ∧ w'.cell? ⟨w.heap.size, 0, none⟩ = some (.slice (some ⟨b, off, none⟩) n c)) := fun w' hq => ⟨(hq.cell (p := ⟨wr.heap.size, 0, none⟩) (by simp)).trans (by simp), (hq.cell (p := ⟨wr.heap.size, 1, none⟩) (by simp)).trans (by simp), (hq.cell (p := ⟨wr.heap.size, 2, none⟩) (by simp)).trans (by simp), (hq.cell (p := ⟨wr.heap.size, 3, none⟩) (by simp)).trans (by simp), (hq.cell (p := ⟨w.heap.size, 0, none⟩) (by simp; omega)).trans ((World.cell?_alloc_lt _ _ _ hbz).trans b0)⟩
      have HP : Hid (0 < k → ∀ w', Below (wr.alloc (.cells #[.int .i64 (f (k * 4)), .int .i64 (f (k * 4 + 1)), .int .i64 (f (k * 4 + 2)), .int .i64 (f (k * 4 + 3))] 48)).heap.size (wr.alloc (.cells #[.int .i64 (f (k * 4)), .int .i64 (f (k * 4 + 1)), .int .i64 (f (k * 4 + 2)), .int .i64 (f (k * 4 + 3))] 48)) w' → w'.cell? ⟨b, off + (k - 1) * 4, none⟩ = some (.int .i64 (f ((k - 1) * 4)))) := fun hk0 w' hq => (hq.cell (p := ⟨b, off + (k - 1) * 4, none⟩) (by simp; omega)).trans ((World.cell?_alloc_lt _ _ _ hbw).trans (HC.out _ (by omega)))
      clear HC HS
      go_wp2
      refine wp_region_held_drew (S := fun w' => Below ((wr.alloc (.cells #[.int .i64 (f (k * 4)), .int .i64 (f (k * 4 + 1)), .int .i64 (f (k * 4 + 2)), .int .i64 (f (k * 4 + 3))] 48))).heap.size ((wr.alloc (.cells #[.int .i64 (f (k * 4)), .int .i64 (f (k * 4 + 1)), .int .i64 (f (k * 4 + 2)), .int .i64 (f (k * 4 + 3))] 48))) w') (by kernel_rfl) ((Below.refl _ _).drew) (fun hHeld => ?_)
      refine tk (v := ?_) 0 41 HF rfl ?_ hHeld ?_
      rotate_left; · (intro _ _ _; go_simp; try with_reducible rfl)
      simp only [Act.put, p1, p2, p3]
      refine tk (v := ?_) 1 42 HF rfl ?_ hHeld ?_
      rotate_left; · (intro _ _ _; go_simp; try with_reducible rfl)
      simp only [Act.put, p1, p2, p3]
      refine wpAnyH_ready (rs := [2]) (by kernel_rfl) (by simp) ?_
      refine AllReadyH.cons rfl (fun K hK => ?_) AllReadyH.nil
      go_simp
      (go_at_call 50; refine (quiet_below (isId_any _ _)).mono ?_; rintro e w2 ⟨rfl, hb2⟩)
      refine hK.out _ _ (hHeld.trans (hb2.mono hHeld.size)) (fun hHeld => ?_)
      clear hK K hb2
      refine tk (v := ?_) 3 44 HF rfl ?_ hHeld ?_
      rotate_left; · (intro _ _ _; go_simp; try with_reducible rfl)
      simp only [Act.put, p1, p2, p3]
      refine tk (v := ?_) 4 45 HF rfl ?_ hHeld ?_
      rotate_left; · (intro _ _ _; go_simp; try with_reducible rfl)
      simp only [Act.put, p1, p2, p3]
      cases h1 : inR (f (k * 4)) 1 99 with
      | false =>
        have h2 : True := trivial
        have h3 : True := trivial
        have hm : True := trivial
        have hno : Hid (pansOk f n = false) := pansOk_no hlt (by simp [panStep, okPanAt, okPan, h1, h2, h3, hm])
        refine wpAnyH_skips (by kernel_rfl) (fun _ _ _ _ _ h => h) hHeld [(5, 46), (6, 47), (7, 48), (8, 49)] 31 4 _ _ rfl (by kernel_rfl) ?_
        simp only [skipL, skipA, Act.put, List.setIfInBounds_toArray, List.set_cons_zero, List.set_cons_succ]
        refine tk (v := ?_) 9 50 HF rfl ?_ hHeld ?_
        rotate_left; · (intro _ _ _; go_simp; try with_reducible rfl)
        simp only [Act.put, p1, p2, p3]
        refine tk (v := ?_) 10 51 HF rfl ?_ hHeld ?_
        rotate_left; · (intro _ _ _; go_simp; try with_reducible rfl)
        simp only [Act.put, p1, p2, p3]
        refine wpAnyH_skips (by kernel_rfl) (fun _ _ _ _ _ h => h) hHeld [(11, 52), (12, 53), (13, 54), (14, 55)] 25 4 _ _ rfl (by kernel_rfl) ?_
        simp only [skipL, skipA, Act.put, List.setIfInBounds_toArray, List.set_cons_zero, List.set_cons_succ]
        refine tk (v := ?_) 15 56 HF rfl ?_ hHeld ?_
        rotate_left; · (intro _ _ _; go_simp; try with_reducible rfl)
        simp only [Act.put, p1, p2, p3]
        refine tk (v := ?_) 16 57 HF rfl ?_ hHeld ?_
        rotate_left; · (intro _ _ _; go_simp; try with_reducible rfl)
        simp only [Act.put, p1, p2, p3]
        refine wpAnyH_skips (by kernel_rfl) (fun _ _ _ _ _ h => h) hHeld [(17, 58), (18, 59), (19, 60), (20, 61), (21, 62), (22, 63)] 17 6 _ _ rfl (by kernel_rfl) ?_
        simp only [skipL, skipA, Act.put, List.setIfInBounds_toArray, List.set_cons_zero, List.set_cons_succ]
        refine tk (v := ?_) 23 64 HF rfl ?_ hHeld ?_
        rotate_left; · (intro _ _ _; go_simp; try with_reducible rfl)
        simp only [Act.put, p1, p2, p3]
        refine tk (v := ?_) 24 65 HF rfl ?_ hHeld ?_
        rotate_left; · (intro _ _ _; go_simp; try with_reducible rfl)
        simp only [Act.put, p1, p2, p3]
        refine wpAnyH_skips (by kernel_rfl) (fun _ _ _ _ _ h => h) hHeld [(25, 66), (26, 67), (27, 68), (28, 69), (29, 70), (30, 71), (31, 72), (32, 73), (33, 74), (34, 75), (35, 76), (36, 77), (37, 78), (38, 79)] 1 14 _ _ rfl (by kernel_rfl) ?_
        simp only [skipL, skipA, Act.put, List.setIfInBounds_toArray, List.set_cons_zero, List.set_cons_succ]
        refine tk (v := ?_) 39 80 HF rfl ?_ hHeld ?_
        rotate_left; · (intro _ _ _; go_simp; try with_reducible rfl)
        simp only [Act.put, p1, p2, p3]
        refine wpAnyH_done (by kernel_rfl) ?_ _
        go_wp2
        go_ret
        exact ⟨ret_bool (by simp [goodWorks, hno.out]), ((Below.refl _ w).alloc (Nat.le_refl _) _).trans ((below_of hbel (((Below.refl _ wr).alloc (Nat.le_refl _) _).trans (hHeld.mono (by simp))) hbel.size).mono (by simp))⟩
      | true =>
        refine tk (v := ?_) 5 46 HF rfl ?_ hHeld ?_
        rotate_left; · (intro _ _ _; go_simp; try with_reducible rfl)
        simp only [Act.put, p1, p2, p3]
        refine tk (v := ?_) 6 47 HF rfl ?_ hHeld ?_
        rotate_left; · (intro _ _ _; go_simp; try with_reducible rfl)
        simp only [Act.put, p1, p2, p3]
        refine wpAnyH_ready (rs := [7]) (by kernel_rfl) (by simp) ?_
        refine AllReadyH.cons rfl (fun K hK => ?_) AllReadyH.nil
        go_simp
        (go_at_call 29; refine (quiet_below (within_any _ _ _ _)).mono ?_; rintro e w2 ⟨rfl, hb2⟩)
        refine hK.out _ _ (hHeld.trans (hb2.mono hHeld.size)) (fun hHeld => ?_)
        clear hK K hb2
        refine tk (v := ?_) 8 49 HF rfl ?_ hHeld ?_
        rotate_left; · (intro _ _ _; go_simp; try with_reducible rfl)
        simp only [Act.put, p1, p2, p3]
        refine tk (v := ?_) 9 50 HF rfl ?_ hHeld ?_
        rotate_left; · (intro _ _ _; go_simp; try with_reducible rfl)
        simp only [Act.put, p1, p2, p3]
        refine tk (v := ?_) 10 51 HF rfl ?_ hHeld ?_
        rotate_left; · (intro _ _ _; go_simp; try with_reducible rfl)
        simp only [Act.put, p1, p2, p3]
        cases h2 : inR (f (k * 4 + 1)) 1 100000 with
        | false =>
          have h3 : True := trivial
          have hm : True := trivial
          have hno : Hid (pansOk f n = false) := pansOk_no hlt (by simp [panStep, okPanAt, okPan, h1, h2, h3, hm])
          refine wpAnyH_skips (by kernel_rfl) (fun _ _ _ _ _ h => h) hHeld [(11, 52), (12, 53), (13, 54), (14, 55)] 25 4 _ _ rfl (by kernel_rfl) ?_
          simp only [skipL, skipA, Act.put, List.setIfInBounds_toArray, List.set_cons_zero, List.set_cons_succ]
          refine tk (v := ?_) 15 56 HF rfl ?_ hHeld ?_
          rotate_left; · (intro _ _ _; go_simp; try with_reducible rfl)
          simp only [Act.put, p1, p2, p3]
          refine tk (v := ?_) 16 57 HF rfl ?_ hHeld ?_
          rotate_left; · (intro _ _ _; go_simp; try with_reducible rfl)
          simp only [Act.put, p1, p2, p3]
          refine wpAnyH_skips (by kernel_rfl) (fun _ _ _ _ _ h => h) hHeld [(17, 58), (18, 59), (19, 60), (20, 61), (21, 62), (22, 63)] 17 6 _ _ rfl (by kernel_rfl) ?_
          simp only [skipL, skipA, Act.put, List.setIfInBounds_toArray, List.set_cons_zero, List.set_cons_succ]
          refine tk (v := ?_) 23 64 HF rfl ?_ hHeld ?_
          rotate_left; · (intro _ _ _; go_simp; try with_reducible rfl)
          simp only [Act.put, p1, p2, p3]
          refine tk (v := ?_) 24 65 HF rfl ?_ hHeld ?_
          rotate_left; · (intro _ _ _; go_simp; try with_reducible rfl)
          simp only [Act.put, p1, p2, p3]
          refine wpAnyH_skips (by kernel_rfl) (fun _ _ _ _ _ h => h) hHeld [(25, 66), (26, 67), (27, 68), (28, 69), (29, 70), (30, 71), (31, 72), (32, 73), (33, 74), (34, 75), (35, 76), (36, 77), (37, 78), (38, 79)] 1 14 _ _ rfl (by kernel_rfl) ?_
          simp only [skipL, skipA, Act.put, List.setIfInBounds_toArray, List.set_cons_zero, List.set_cons_succ]
          refine tk (v := ?_) 39 80 HF rfl ?_ hHeld ?_
          rotate_left; · (intro _ _ _; go_simp; try with_reducible rfl)
          simp only [Act.put, p1, p2, p3]
          refine wpAnyH_done (by kernel_rfl) ?_ _
          go_wp2
          go_ret
          exact ⟨ret_bool (by simp [goodWorks, hno.out]), ((Below.refl _ w).alloc (Nat.le_refl _) _).trans ((below_of hbel (((Below.refl _ wr).alloc (Nat.le_refl _) _).trans (hHeld.mono (by simp))) hbel.size).mono (by simp))⟩
        | true =>
          refine tk (v := ?_) 11 52 HF rfl ?_ hHeld ?_
          rotate_left; · (intro _ _ _; go_simp; try with_reducible rfl)
          simp only [Act.put, p1, p2, p3]
          refine tk (v := ?_) 12 53 HF rfl ?_ hHeld ?_
          rotate_left; · (intro _ _ _; go_simp; try with_reducible rfl)
          simp only [Act.put, p1, p2, p3]
          refine wpAnyH_ready (rs := [13]) (by kernel_rfl) (by simp) ?_
          refine AllReadyH.cons rfl (fun K hK => ?_) AllReadyH.nil
          go_simp
          (go_at_call 51; refine (IsBrine_any _ _ _).mono ?_; rintro e w2 ⟨rfl, hb2⟩)
          refine hK.out _ _ (hHeld.trans (hb2.mono hHeld.size)) (fun hHeld => ?_)
          clear hK K hb2
          refine tk (v := ?_) 14 55 HF rfl ?_ hHeld ?_
          rotate_left; · (intro _ _ _; go_simp; try with_reducible rfl)
          simp only [Act.put, p1, p2, p3]
          refine tk (v := ?_) 15 56 HF rfl ?_ hHeld ?_
          rotate_left; · (intro _ _ _; go_simp; try with_reducible rfl)
          simp only [Act.put, p1, p2, p3]
          refine tk (v := ?_) 16 57 HF rfl ?_ hHeld ?_
          rotate_left; · (intro _ _ _; go_simp; try with_reducible rfl)
          simp only [Act.put, p1, p2, p3]
          cases h3 : okBrine (f (k * 4 + 2)) (f (k * 4 + 3)) with
          | false =>
            have hm : True := trivial
            have hno : Hid (pansOk f n = false) := pansOk_no hlt (by simp [panStep, okPanAt, okPan, h1, h2, h3, hm])
            refine wpAnyH_skips (by kernel_rfl) (fun _ _ _ _ _ h => h) hHeld [(17, 58), (18, 59), (19, 60), (20, 61), (21, 62), (22, 63)] 17 6 _ _ rfl (by kernel_rfl) ?_
            simp only [skipL, skipA, Act.put, List.setIfInBounds_toArray, List.set_cons_zero, List.set_cons_succ]
            refine tk (v := ?_) 23 64 HF rfl ?_ hHeld ?_
            rotate_left; · (intro _ _ _; go_simp; try with_reducible rfl)
            simp only [Act.put, p1, p2, p3]
            refine tk (v := ?_) 24 65 HF rfl ?_ hHeld ?_
            rotate_left; · (intro _ _ _; go_simp; try with_reducible rfl)
            simp only [Act.put, p1, p2, p3]
            refine wpAnyH_skips (by kernel_rfl) (fun _ _ _ _ _ h => h) hHeld [(25, 66), (26, 67), (27, 68), (28, 69), (29, 70), (30, 71), (31, 72), (32, 73), (33, 74), (34, 75), (35, 76), (36, 77), (37, 78), (38, 79)] 1 14 _ _ rfl (by kernel_rfl) ?_
            simp only [skipL, skipA, Act.put, List.setIfInBounds_toArray, List.set_cons_zero, List.set_cons_succ]
            refine tk (v := ?_) 39 80 HF rfl ?_ hHeld ?_
            rotate_left; · (intro _ _ _; go_simp; try with_reducible rfl)
            simp only [Act.put, p1, p2, p3]
            refine wpAnyH_done (by kernel_rfl) ?_ _
            go_wp2
            go_ret
            exact ⟨ret_bool (by simp [goodWorks, hno.out]), ((Below.refl _ w).alloc (Nat.le_refl _) _).trans ((below_of hbel (((Below.refl _ wr).alloc (Nat.le_refl _) _).trans (hHeld.mono (by simp))) hbel.size).mono (by simp))⟩
          | true =>
            by_cases hm : massV (f (k * 4 + 2)) (f (k * 4 + 3)) ≤ f (k * 4 + 1)
            · have hmd : ¬ (f (k * 4 + 1) < massV (f (k * 4 + 2)) (f (k * 4 + 3))) := by omega
              refine tk (v := ?_) 17 58 HF rfl ?_ hHeld ?_
              rotate_left; · (intro _ _ _; go_simp; try with_reducible rfl)
              simp only [Act.put, p1, p2, p3]
              refine tk (v := ?_) 18 59 HF rfl ?_ hHeld ?_
              rotate_left; · (intro _ _ _; go_simp; try with_reducible rfl)
              simp only [Act.put, p1, p2, p3]
              refine tk (v := ?_) 20 61 HF rfl ?_ hHeld ?_
              rotate_left; · (intro _ _ _; go_simp; try with_reducible rfl)
              simp only [Act.put, p1, p2, p3]
              refine tk (v := ?_) 21 62 HF rfl ?_ hHeld ?_
              rotate_left; · (intro _ _ _; go_simp; try with_reducible rfl)
              simp only [Act.put, p1, p2, p3]
              refine wpAnyH_ready (rs := [19]) (by kernel_rfl) (by simp) ?_
              refine AllReadyH.cons rfl (fun K hK => ?_) AllReadyH.nil
              go_simp
              (go_at_call 33; refine (mass_any _ _ _).mono ?_; rintro e w2 ⟨rfl, hb2⟩)
              refine hK.out _ _ (hHeld.trans (hb2.mono hHeld.size)) (fun hHeld => ?_)
              clear hK K hb2
              refine tk (v := ?_) 22 63 HF rfl ?_ hHeld ?_
              rotate_left; · (intro _ _ _; go_simp; try with_reducible rfl)
              simp only [Act.put, p1, p2, p3]
              refine tk (v := ?_) 23 64 HF rfl ?_ hHeld ?_
              rotate_left; · (intro _ _ _; go_simp; try with_reducible rfl)
              simp only [Act.put, p1, p2, p3]
              refine tk (v := ?_) 24 65 HF rfl ?_ hHeld ?_
              rotate_left; · (intro _ _ _; go_simp; try with_reducible rfl)
              simp only [Act.put, p1, p2, p3]
              refine tk (v := ?_) 25 66 HF rfl ?_ hHeld ?_
              rotate_left; · (intro _ _ _; go_simp; try with_reducible rfl)
              simp only [Act.put, p1, p2, p3]
              refine tk (v := ?_) 26 67 HF rfl ?_ hHeld ?_
              rotate_left; · (intro _ _ _; go_simp; try with_reducible rfl)
              simp only [Act.put, p1, p2, p3]
              refine tk (v := ?_) 27 68 HF rfl ?_ hHeld ?_
              rotate_left; · (intro _ _ _; go_simp; try with_reducible rfl)
              simp only [Act.put, p1, p2, p3]
              by_cases h0 : k = 0
              · have hok1 : Hid (panStep f k = true) := by simp only [Hid, panStep, okPanAt, okPan, h1, h2, h3, hm, Bool.true_and, Bool.or_eq_true, decide_eq_true_eq, decide_true]; exact Or.inl h0
                have hk0b : decide ((0 : Int) < (k : Int)) = false := by simp; omega
                have hk0c : decide (0 < k) = false := by simp; omega
                clear h0 HP
                try simp only [hk0b, hk0c]
                refine wpAnyH_skips (by kernel_rfl) (fun _ _ _ _ _ h => h) hHeld [(28, 69), (29, 70), (30, 71), (31, 72), (32, 73), (33, 74), (34, 75), (35, 76), (36, 77), (37, 78)] 2 10 _ _ rfl (by kernel_rfl) ?_
                simp only [skipL, skipA, Act.put, List.setIfInBounds_toArray, List.set_cons_zero, List.set_cons_succ]
                refine tk (v := ?_) 38 79 HF rfl ?_ hHeld ?_
                rotate_left; · (intro _ _ _; go_simp; try with_reducible rfl)
                simp only [Act.put, p1, p2, p3]
                refine tk (v := ?_) 39 80 HF rfl ?_ hHeld ?_
                rotate_left; · (intro _ _ _; go_simp; try with_reducible rfl)
                simp only [Act.put, p1, p2, p3]
                refine wpAnyH_done (by kernel_rfl) ?_ _
                go_wp2
                go_roundw
                case rel => exact ⟨k + 1, by omega, by go_num, allTo_succ hall.out hok1.out, below_of hbel (((Below.refl _ wr).alloc (Nat.le_refl _) _).trans (hHeld.mono (by simp))) hbel.size⟩
                case measure => simp [intOf]; omega
              · have hk0 : 0 < k := by omega
                have hkk : ((k : Int) - 1).toNat = k - 1 := by omega
                have hb0 : (0 : Int) ≤ (k : Int) - 1 := by omega
                have hb1x : (1 : Int) ≤ (k : Int) := by omega
                have hb3 : (k : Int) - 1 < (n : Int) := by omega
                have hwk : IntKind.i64.wrap ((k : Int) - 1) = (k : Int) - 1 := IntWalk.i64_in _ (by omega)
                have hk0b : decide ((0 : Int) < (k : Int)) = true := by simp; omega
                have hk0c : decide (0 < k) = true := by simp; omega
                replace HF := Hid.and_ HF (HP.out hk0)
                clear HP
                try simp only [hk0b, hk0c]
                by_cases hlt2 : f ((k - 1) * 4) < f (k * 4)
                · have hok1 : Hid (panStep f k = true) := by simp [Hid, panStep, okPanAt, okPan, h1, h2, h3, hm, hlt2]
                  refine tk (v := ?_) 28 69 HF rfl ?_ hHeld ?_
                  rotate_left; · (intro _ _ _; go_simp; try with_reducible rfl)
                  simp only [Act.put, p1, p2, p3]
                  refine tk (v := ?_) 29 70 HF rfl ?_ hHeld ?_
                  rotate_left; · (intro _ _ _; go_simp; try with_reducible rfl)
                  simp only [Act.put, p1, p2, p3]
                  refine tk (v := ?_) 30 71 HF rfl ?_ hHeld ?_
                  rotate_left; · (intro _ _ _; go_simp; try with_reducible rfl)
                  simp only [Act.put, p1, p2, p3]
                  refine tk (v := ?_) 31 72 HF rfl ?_ hHeld ?_
                  rotate_left; · (intro _ _ _; go_simp; try with_reducible rfl)
                  simp only [Act.put, p1, p2, p3]
                  refine tk (v := ?_) 32 73 HF rfl ?_ hHeld ?_
                  rotate_left; · (intro _ _ _; go_simp; try with_reducible rfl)
                  simp only [Act.put, p1, p2, p3]
                  refine tk (v := ?_) 33 74 HF rfl ?_ hHeld ?_
                  rotate_left; · (intro _ _ _; go_simp; try with_reducible rfl)
                  simp only [Act.put, p1, p2, p3]
                  refine tk (v := ?_) 34 75 HF rfl ?_ hHeld ?_
                  rotate_left; · (intro _ _ _; go_simp; try with_reducible rfl)
                  simp only [Act.put, p1, p2, p3]
                  refine tk (v := ?_) 35 76 HF rfl ?_ hHeld ?_
                  rotate_left; · (intro _ _ _; go_simp; try with_reducible rfl)
                  simp only [Act.put, p1, p2, p3]
                  refine tk (v := ?_) 36 77 HF rfl ?_ hHeld ?_
                  rotate_left; · (intro _ _ _; go_simp; try with_reducible rfl)
                  simp only [Act.put, p1, p2, p3]
                  refine tk (v := ?_) 37 78 HF rfl ?_ hHeld ?_
                  rotate_left; · (intro _ _ _; go_simp; try with_reducible rfl)
                  simp only [Act.put, p1, p2, p3]
                  refine tk (v := ?_) 38 79 HF rfl ?_ hHeld ?_
                  rotate_left; · (intro _ _ _; go_simp; try with_reducible rfl)
                  simp only [Act.put, p1, p2, p3]
                  refine tk (v := ?_) 39 80 HF rfl ?_ hHeld ?_
                  rotate_left; · (intro _ _ _; go_simp; try with_reducible rfl)
                  simp only [Act.put, p1, p2, p3]
                  refine wpAnyH_done (by kernel_rfl) ?_ _
                  go_wp2
                  go_roundw
                  case rel => exact ⟨k + 1, by omega, by go_num, allTo_succ hall.out hok1.out, below_of hbel (((Below.refl _ wr).alloc (Nat.le_refl _) _).trans (hHeld.mono (by simp))) hbel.size⟩
                  case measure => simp [intOf]; omega
                · have hno : Hid (pansOk f n = false) := pansOk_no hlt (by simp [panStep, okPanAt, okPan, h1, h2, h3, hm, hlt2]; omega)
                  refine tk (v := ?_) 28 69 HF rfl ?_ hHeld ?_
                  rotate_left; · (intro _ _ _; go_simp; try with_reducible rfl)
                  simp only [Act.put, p1, p2, p3]
                  refine tk (v := ?_) 29 70 HF rfl ?_ hHeld ?_
                  rotate_left; · (intro _ _ _; go_simp; try with_reducible rfl)
                  simp only [Act.put, p1, p2, p3]
                  refine tk (v := ?_) 30 71 HF rfl ?_ hHeld ?_
                  rotate_left; · (intro _ _ _; go_simp; try with_reducible rfl)
                  simp only [Act.put, p1, p2, p3]
                  refine tk (v := ?_) 31 72 HF rfl ?_ hHeld ?_
                  rotate_left; · (intro _ _ _; go_simp; try with_reducible rfl)
                  simp only [Act.put, p1, p2, p3]
                  refine tk (v := ?_) 32 73 HF rfl ?_ hHeld ?_
                  rotate_left; · (intro _ _ _; go_simp; try with_reducible rfl)
                  simp only [Act.put, p1, p2, p3]
                  refine tk (v := ?_) 33 74 HF rfl ?_ hHeld ?_
                  rotate_left; · (intro _ _ _; go_simp; try with_reducible rfl)
                  simp only [Act.put, p1, p2, p3]
                  refine tk (v := ?_) 34 75 HF rfl ?_ hHeld ?_
                  rotate_left; · (intro _ _ _; go_simp; try with_reducible rfl)
                  simp only [Act.put, p1, p2, p3]
                  refine tk (v := ?_) 35 76 HF rfl ?_ hHeld ?_
                  rotate_left; · (intro _ _ _; go_simp; try with_reducible rfl)
                  simp only [Act.put, p1, p2, p3]
                  refine tk (v := ?_) 36 77 HF rfl ?_ hHeld ?_
                  rotate_left; · (intro _ _ _; go_simp; try with_reducible rfl)
                  simp only [Act.put, p1, p2, p3]
                  refine tk (v := ?_) 37 78 HF rfl ?_ hHeld ?_
                  rotate_left; · (intro _ _ _; go_simp; try with_reducible rfl)
                  simp only [Act.put, p1, p2, p3]
                  refine tk (v := ?_) 38 79 HF rfl ?_ hHeld ?_
                  rotate_left; · (intro _ _ _; go_simp; try with_reducible rfl)
                  simp only [Act.put, p1, p2, p3]
                  refine tk (v := ?_) 39 80 HF rfl ?_ hHeld ?_
                  rotate_left; · (intro _ _ _; go_simp; try with_reducible rfl)
                  simp only [Act.put, p1, p2, p3]
                  refine wpAnyH_done (by kernel_rfl) ?_ _
                  go_wp2
                  go_ret
                  exact ⟨ret_bool (by simp [goodWorks, hno.out]), ((Below.refl _ w).alloc (Nat.le_refl _) _).trans ((below_of hbel (((Below.refl _ wr).alloc (Nat.le_refl _) _).trans (hHeld.mono (by simp))) hbel.size).mono (by simp))⟩
            · have hmd : f (k * 4 + 1) < massV (f (k * 4 + 2)) (f (k * 4 + 3)) := by omega
              have hno : Hid (pansOk f n = false) := pansOk_no hlt (by simp [panStep, okPanAt, okPan, h1, h2, h3, hm])
              refine tk (v := ?_) 17 58 HF rfl ?_ hHeld ?_
              rotate_left; · (intro _ _ _; go_simp; try with_reducible rfl)
              simp only [Act.put, p1, p2, p3]
              refine tk (v := ?_) 18 59 HF rfl ?_ hHeld ?_
              rotate_left; · (intro _ _ _; go_simp; try with_reducible rfl)
              simp only [Act.put, p1, p2, p3]
              refine tk (v := ?_) 20 61 HF rfl ?_ hHeld ?_
              rotate_left; · (intro _ _ _; go_simp; try with_reducible rfl)
              simp only [Act.put, p1, p2, p3]
              refine tk (v := ?_) 21 62 HF rfl ?_ hHeld ?_
              rotate_left; · (intro _ _ _; go_simp; try with_reducible rfl)
              simp only [Act.put, p1, p2, p3]
              refine wpAnyH_ready (rs := [19]) (by kernel_rfl) (by simp) ?_
              refine AllReadyH.cons rfl (fun K hK => ?_) AllReadyH.nil
              go_simp
              (go_at_call 33; refine (mass_any _ _ _).mono ?_; rintro e w2 ⟨rfl, hb2⟩)
              refine hK.out _ _ (hHeld.trans (hb2.mono hHeld.size)) (fun hHeld => ?_)
              clear hK K hb2
              refine tk (v := ?_) 22 63 HF rfl ?_ hHeld ?_
              rotate_left; · (intro _ _ _; go_simp; try with_reducible rfl)
              simp only [Act.put, p1, p2, p3]
              refine tk (v := ?_) 23 64 HF rfl ?_ hHeld ?_
              rotate_left; · (intro _ _ _; go_simp; try with_reducible rfl)
              simp only [Act.put, p1, p2, p3]
              refine tk (v := ?_) 24 65 HF rfl ?_ hHeld ?_
              rotate_left; · (intro _ _ _; go_simp; try with_reducible rfl)
              simp only [Act.put, p1, p2, p3]
              refine wpAnyH_skips (by kernel_rfl) (fun _ _ _ _ _ h => h) hHeld [(25, 66), (26, 67), (27, 68), (28, 69), (29, 70), (30, 71), (31, 72), (32, 73), (33, 74), (34, 75), (35, 76), (36, 77), (37, 78), (38, 79)] 1 14 _ _ rfl (by kernel_rfl) ?_
              simp only [skipL, skipA, Act.put, List.setIfInBounds_toArray, List.set_cons_zero, List.set_cons_succ]
              refine tk (v := ?_) 39 80 HF rfl ?_ hHeld ?_
              rotate_left; · (intro _ _ _; go_simp; try with_reducible rfl)
              simp only [Act.put, p1, p2, p3]
              refine wpAnyH_done (by kernel_rfl) ?_ _
              go_wp2
              go_ret
              exact ⟨ret_bool (by simp [goodWorks, hno.out]), ((Below.refl _ w).alloc (Nat.le_refl _) _).trans ((below_of hbel (((Below.refl _ wr).alloc (Nat.le_refl _) _).trans (hHeld.mono (by simp))) hbel.size).mono (by simp))⟩
    · obtain rfl : n = k := by omega
      have b1 : wr.cell? ⟨w.heap.size, 1, none⟩ = some (.int .i64 I) := (hbel.cell (p := ⟨w.heap.size, 1, none⟩) (by simp)).trans (by simp)
      have b2 : wr.cell? ⟨w.heap.size, 2, none⟩ = some (.int .i64 H) := (hbel.cell (p := ⟨w.heap.size, 2, none⟩) (by simp)).trans (by simp)
      have b3 : wr.cell? ⟨w.heap.size, 3, none⟩ = some (.int .i64 S) := (hbel.cell (p := ⟨w.heap.size, 3, none⟩) (by simp)).trans (by simp)
      have b4 : wr.cell? ⟨w.heap.size, 4, none⟩ = some (.int .i64 P) := (hbel.cell (p := ⟨w.heap.size, 4, none⟩) (by simp)).trans (by simp)
      have hps : pansOk f n = true := by simp [pansOk, hall.out, hlen]
      have HF : Hid (∀ w', Below wr.heap.size wr w' → w'.cell? ⟨w.heap.size, 0, none⟩ = some (.slice A n c) ∧ w'.cell? ⟨w.heap.size, 1, none⟩ = some (.int .i64 I) ∧ w'.cell? ⟨w.heap.size, 2, none⟩ = some (.int .i64 H) ∧ w'.cell? ⟨w.heap.size, 3, none⟩ = some (.int .i64 S) ∧ w'.cell? ⟨w.heap.size, 4, none⟩ = some (.int .i64 P)) := fun w' hq => ⟨(hq.cell (p := ⟨w.heap.size, 0, none⟩) (by simp; omega)).trans b0, (hq.cell (p := ⟨w.heap.size, 1, none⟩) (by simp; omega)).trans b1, (hq.cell (p := ⟨w.heap.size, 2, none⟩) (by simp; omega)).trans b2, (hq.cell (p := ⟨w.heap.size, 3, none⟩) (by simp; omega)).trans b3, (hq.cell (p := ⟨w.heap.size, 4, none⟩) (by simp; omega)).trans b4⟩
      have HW : Hid (Sl wr lo hi 4 A n f) := HS.out.below hbel
      clear HS
      go_wp2
      refine wp_region_held_drew (S := fun w' => Below (wr).heap.size (wr) w') (by kernel_rfl) ((Below.refl _ _).drew) (fun hHeld => ?_)
      refine tk (v := ?_) 0 82 HF rfl ?_ hHeld ?_
      rotate_left; · (intro _ _ _; go_simp; try with_reducible rfl)
      simp only [Act.put, p1, p2, p3]
      refine tk (v := ?_) 1 83 HF rfl ?_ hHeld ?_
      rotate_left; · (intro _ _ _; go_simp; try with_reducible rfl)
      simp only [Act.put, p1, p2, p3]
      refine tk (v := ?_) 2 84 HF rfl ?_ hHeld ?_
      rotate_left; · (intro _ _ _; go_simp; try with_reducible rfl)
      simp only [Act.put, p1, p2, p3]
      refine tk (v := ?_) 4 86 HF rfl ?_ hHeld ?_
      rotate_left; · (intro _ _ _; go_simp; try with_reducible rfl)
      simp only [Act.put, p1, p2, p3]
      refine tk (v := ?_) 5 87 HF rfl ?_ hHeld ?_
      rotate_left; · (intro _ _ _; go_simp; try with_reducible rfl)
      simp only [Act.put, p1, p2, p3]
      refine tk (v := ?_) 7 89 HF rfl ?_ hHeld ?_
      rotate_left; · (intro _ _ _; go_simp; try with_reducible rfl)
      simp only [Act.put, p1, p2, p3]
      refine tk (v := ?_) 8 90 HF rfl ?_ hHeld ?_
      rotate_left; · (intro _ _ _; go_simp; try with_reducible rfl)
      simp only [Act.put, p1, p2, p3]
      refine tk (v := ?_) 10 92 HF rfl ?_ hHeld ?_
      rotate_left; · (intro _ _ _; go_simp; try with_reducible rfl)
      simp only [Act.put, p1, p2, p3]
      refine tk (v := ?_) 11 93 HF rfl ?_ hHeld ?_
      rotate_left; · (intro _ _ _; go_simp; try with_reducible rfl)
      simp only [Act.put, p1, p2, p3]
      refine wpAnyH_ready (rs := [3]) (by kernel_rfl) (by simp) ?_
      refine AllReadyH.cons rfl (fun K hK => ?_) AllReadyH.nil
      go_simp
      (go_at_call 52; refine (saltInPans_any A n c lo hi f I H S P _ (HW.out.below hHeld) hn hnc).mono ?_; rintro e w2 ⟨rfl, hb2⟩)
      refine hK.out _ _ (hHeld.trans (hb2.mono hHeld.size)) (fun hHeld => ?_)
      clear hK K hb2
      refine tk (v := ?_) 6 88 HF rfl ?_ hHeld ?_
      rotate_left; · (intro _ _ _; go_simp; try with_reducible rfl)
      simp only [Act.put, p1, p2, p3]
      refine tk (v := ?_) 9 91 HF rfl ?_ hHeld ?_
      rotate_left; · (intro _ _ _; go_simp; try with_reducible rfl)
      simp only [Act.put, p1, p2, p3]
      refine tk (v := ?_) 12 94 HF rfl ?_ hHeld ?_
      rotate_left; · (intro _ _ _; go_simp; try with_reducible rfl)
      simp only [Act.put, p1, p2, p3]
      refine tk (v := ?_) 13 95 HF rfl ?_ hHeld ?_
      rotate_left; · (intro _ _ _; go_simp; try with_reducible rfl)
      simp only [Act.put, p1, p2, p3]
      refine tk (v := ?_) 14 2 HF rfl ?_ hHeld ?_
      rotate_left; · (intro _ _ _; go_simp; try with_reducible rfl)
      simp only [Act.put, p1, p2, p3]
      refine wpAnyH_done (by kernel_rfl) ?_ _
      go_wp2
      go_ret
      exact ⟨ret_bool (by simp [goodWorks, kilosOk, totalV, hps, k1, k2, k3, k4]; try (rw [Bool.eq_iff_iff]; simp only [beq_iff_eq, IntWalk.i64_left]; exact ⟨fun h => decide_eq_true h, fun h => of_decide_eq_true h⟩)), ((Below.refl _ w).alloc (Nat.le_refl _) _).trans ((below_of hbel hHeld hbel.size).mono (by simp))⟩
theorem isWorks_any (A : Option Addr) (n c lo hi : Nat) (f : Nat → Int) (I H S P : Int) (w : World) (hs : Sl w lo hi 4 A n f) (hn : n ≤ 1048576) (hnc : n ≤ c) :
    Calls Tryd.prog 23 #[.agg #[.slice A n c, .int .i64 I, .int .i64 H, .int .i64 S, .int .i64 P]] w fun e w' => e = .returned (.bool (goodWorks f n I H S P)) ∧ Below w.heap.size w w' := by
  by_cases hlen : n ≤ 6
  · have hl6 : ¬ ((6 : Int) < (n : Int)) := by omega
    cases k1 : inR I 0 1000000 with
    | false =>
      go_enter Tryd.func23, Tryd.ntmps23
      go_wp2_with (go_at_call 49; refine (isKilos_any _ _).mono ?_; rintro e w2 ⟨rfl, rfl⟩)
      go_ret
      exact ⟨ret_bool (by simp [goodWorks, kilosOk, k1]), (Below.refl _ w).alloc (Nat.le_refl _) _⟩
    | true =>
      cases k2 : inR H 0 1000000 with
      | false =>
        go_enter Tryd.func23, Tryd.ntmps23
        go_wp2_with (go_at_call 49; refine (isKilos_any _ _).mono ?_; rintro e w2 ⟨rfl, rfl⟩)
        go_ret
        exact ⟨ret_bool (by simp [goodWorks, kilosOk, k1, k2]), (Below.refl _ w).alloc (Nat.le_refl _) _⟩
      | true =>
        cases k3 : inR S 0 1000000 with
        | false =>
          go_enter Tryd.func23, Tryd.ntmps23
          go_wp2_with (go_at_call 49; refine (isKilos_any _ _).mono ?_; rintro e w2 ⟨rfl, rfl⟩)
          go_ret
          exact ⟨ret_bool (by simp [goodWorks, kilosOk, k1, k2, k3]), (Below.refl _ w).alloc (Nat.le_refl _) _⟩
        | true =>
          cases k4 : inR P 0 1000000 with
          | false =>
            go_enter Tryd.func23, Tryd.ntmps23
            go_wp2_with (go_at_call 49; refine (isKilos_any _ _).mono ?_; rintro e w2 ⟨rfl, rfl⟩)
            go_ret
            exact ⟨ret_bool (by simp [goodWorks, kilosOk, k1, k2, k3, k4]), (Below.refl _ w).alloc (Nat.le_refl _) _⟩
          | true => exact isWorks_good A n c lo hi f I H S P w hs hn hnc hlen k1 k2 k3 k4
  · have hl6 : (6 : Int) < (n : Int) := by omega
    go_enter Tryd.func23, Tryd.ntmps23
    go_wp2_with (go_at_call 49; refine (isKilos_any _ _).mono ?_; rintro e w2 ⟨rfl, rfl⟩)
    go_ret
    exact ⟨ret_bool (by simp [goodWorks, pansOk, hlen]), (Below.refl _ w).alloc (Nat.le_refl _) _⟩
end Go.Proofs.YtjkockhldaacbaaDoor
