/-
  The walk of the law FnExactPanText.
-/
import Derived.Test.YtgocfmgofmkfgaaDoorWorksH
import Derived.Test.YtgocfmgofmkfgaaDoorWorksT
namespace Go.Proofs.YtgocfmgofmkfgaaDoor
open Go.RowKit
set_option linter.unusedVariables false
set_option linter.unusedSimpArgs false
set_option maxHeartbeats 1000000 in
theorem FnExactPanText_walk (A0 : Option Addr) (n0 c0 : Nat) (f0 : Nat → Int) (I0 H0 S0 P0 : Int) (z1 : Int) (w : World) (hnc0 : n0 ≤ c0) (hcm0 : c0 ≤ maxLen) (hs0 : Sl w 0 w.heap.size 4 A0 n0 f0) (hz1 : I64 z1) (ht : Tab w) :
    Calls Tryd.prog 3 #[.agg #[.slice A0 n0 c0, .int .i64 I0, .int .i64 H0, .int .i64 S0, .int .i64 P0], .int .i64 z1] w fun e w' => e = .returned (.bool true) ∧ Below w.heap.size w w' := by
  have hm0 : (n0 : Int) ≤ 9223372036854775807 := by unfold maxLen at hcm0; omega
  have BX : Below w.heap.size w (w.alloc (.cells #[.slice A0 n0 c0, .int .i64 I0, .int .i64 H0, .int .i64 S0, .int .i64 P0] 24)) := (Below.refl _ w).alloc (Nat.le_refl _) _
  have HS : Hid (Sl (w.alloc (.cells #[.slice A0 n0 c0, .int .i64 I0, .int .i64 H0, .int .i64 S0, .int .i64 P0] 24)) 0 w.heap.size 4 A0 n0 f0) := hs0.below BX
  have HB : Hid (∀ w', Below (w.alloc (.cells #[.slice A0 n0 c0, .int .i64 I0, .int .i64 H0, .int .i64 S0, .int .i64 P0] 24)).heap.size (w.alloc (.cells #[.slice A0 n0 c0, .int .i64 I0, .int .i64 H0, .int .i64 S0, .int .i64 P0] 24)) w' → w'.cell? ⟨w.heap.size, 0, none⟩ = some (.slice A0 n0 c0) ∧ w'.cell? ⟨w.heap.size, 1, none⟩ = some (.int .i64 I0) ∧ w'.cell? ⟨w.heap.size, 2, none⟩ = some (.int .i64 H0) ∧ w'.cell? ⟨w.heap.size, 3, none⟩ = some (.int .i64 S0) ∧ w'.cell? ⟨w.heap.size, 4, none⟩ = some (.int .i64 P0)) := fun w' hq => ⟨(hq.cell (p := ⟨w.heap.size, 0, none⟩) (by simp)).trans (by simp), (hq.cell (p := ⟨w.heap.size, 1, none⟩) (by simp)).trans (by simp), (hq.cell (p := ⟨w.heap.size, 2, none⟩) (by simp)).trans (by simp), (hq.cell (p := ⟨w.heap.size, 3, none⟩) (by simp)).trans (by simp), (hq.cell (p := ⟨w.heap.size, 4, none⟩) (by simp)).trans (by simp)⟩
  clear hs0 hcm0
  obtain ⟨hza1, hzb1⟩ := hz1
  by_cases hbig : n0 ≤ 1048576
  · by_cases hno : goodWorks f0 n0 I0 H0 S0 P0 = false ∨ findV (pid f0) z1 n0 0 = -1
    · go_enter Tryd.func3, Tryd.ntmps3
      go_wp2_with fail
      refine (szWorks_ok A0 n0 c0 I0 H0 S0 P0 1048576 _ (by omega) (by omega) (by omega)).mono ?_
      rintro e w1 ⟨rfl, B1⟩
      obtain ⟨b0, b1, b2, b3, b4⟩ := HB.out _ B1
      go_wp2_with fail
      refine (toWorks_any A0 n0 c0 0 w.heap.size f0 I0 H0 S0 P0 w1 (HS.out.below B1) hbig hnc0).mono ?_
      rintro e w2 ⟨g2, rfl, l2, k2, ho2, hb2⟩
      clear b0 b1 b2 b3 b4
      go_wp2_with fail
      refine (sPanText_no _ n0 n0 _ _ f0 I0 H0 S0 P0 z1 w2 ho2.sl hbig (Nat.le_refl _) hno).mono ?_
      rintro e w3 ⟨rfl, hb3⟩
      have B3 := below_of (below_of B1 hb2 B1.size) hb3 (by have := hb2.size; have := B1.size; omega)
      clear ho2 hb2 hb3 B1
      obtain ⟨b0, b1, b2, b3, b4⟩ := HB.out _ B3
      go_wp2_with fail
      refine (toWorks_any A0 n0 c0 0 w.heap.size f0 I0 H0 S0 P0 w3 (HS.out.below B3) hbig hnc0).mono ?_
      rintro e w4 ⟨g4, rfl, l4, k4, ho4, hb4⟩
      clear b0 b1 b2 b3 b4
      have B4 := below_of B3 hb4 B3.size
      have s4 := B4.size
      have B5 : Below (w.alloc (.cells #[.slice A0 n0 c0, .int .i64 I0, .int .i64 H0, .int .i64 S0, .int .i64 P0] 24)).heap.size (w.alloc (.cells #[.slice A0 n0 c0, .int .i64 I0, .int .i64 H0, .int .i64 S0, .int .i64 P0] 24)) (w4.alloc (.cells #[.slice (some ⟨g4, 0, none⟩) n0 n0, .int .i64 I0, .int .i64 H0, .int .i64 S0, .int .i64 P0] 30)) := B4.alloc s4 _
      have ho5 := ho4.below ((Below.refl _ w4).alloc (Nat.le_refl _) (.cells #[.slice (some ⟨g4, 0, none⟩) n0 n0, .int .i64 I0, .int .i64 H0, .int .i64 S0, .int .i64 P0] 30))
      clear ho4 hb4 B3 B4
      go_wp2_with fail
      refine (PanText_no _ n0 n0 _ _ f0 I0 H0 S0 P0 z1 _ ho5.sl hbig (Nat.le_refl _) (ht.below (BX.trans (B5.mono (by simp)))) hno).mono ?_
      rintro e w6 ⟨rfl, hb6⟩
      have hw4 : w4.heap.size < (w4.alloc (.cells #[.slice (some ⟨g4, 0, none⟩) n0 n0, .int .i64 I0, .int .i64 H0, .int .i64 S0, .int .i64 P0] 30)).heap.size := by simp
      have B6 := below_of B5 hb6 B5.size
      have HX : Hid (∀ w', Below w6.heap.size w6 w' → w'.cell? ⟨w4.heap.size, 0, none⟩ = some (.slice (some ⟨g4, 0, none⟩) n0 n0) ∧ w'.cell? ⟨w4.heap.size, 1, none⟩ = some (.int .i64 I0) ∧ w'.cell? ⟨w4.heap.size, 2, none⟩ = some (.int .i64 H0) ∧ w'.cell? ⟨w4.heap.size, 3, none⟩ = some (.int .i64 S0) ∧ w'.cell? ⟨w4.heap.size, 4, none⟩ = some (.int .i64 P0)) := fun w' hq => ⟨(hq.cell (p := ⟨w4.heap.size, 0, none⟩) (Nat.lt_of_lt_of_le hw4 hb6.size)).trans ((hb6.cell (p := ⟨w4.heap.size, 0, none⟩) hw4).trans (by simp)), (hq.cell (p := ⟨w4.heap.size, 1, none⟩) (Nat.lt_of_lt_of_le hw4 hb6.size)).trans ((hb6.cell (p := ⟨w4.heap.size, 1, none⟩) hw4).trans (by simp)), (hq.cell (p := ⟨w4.heap.size, 2, none⟩) (Nat.lt_of_lt_of_le hw4 hb6.size)).trans ((hb6.cell (p := ⟨w4.heap.size, 2, none⟩) hw4).trans (by simp)), (hq.cell (p := ⟨w4.heap.size, 3, none⟩) (Nat.lt_of_lt_of_le hw4 hb6.size)).trans ((hb6.cell (p := ⟨w4.heap.size, 3, none⟩) hw4).trans (by simp)), (hq.cell (p := ⟨w4.heap.size, 4, none⟩) (Nat.lt_of_lt_of_le hw4 hb6.size)).trans ((hb6.cell (p := ⟨w4.heap.size, 4, none⟩) hw4).trans (by simp))⟩
      have HF : Hid (∀ w', Below w6.heap.size w6 w' → (w'.cell? ⟨w4.heap.size, 0, none⟩ = some (.slice (some ⟨g4, 0, none⟩) n0 n0) ∧ w'.cell? ⟨w4.heap.size, 1, none⟩ = some (.int .i64 I0) ∧ w'.cell? ⟨w4.heap.size, 2, none⟩ = some (.int .i64 H0) ∧ w'.cell? ⟨w4.heap.size, 3, none⟩ = some (.int .i64 S0) ∧ w'.cell? ⟨w4.heap.size, 4, none⟩ = some (.int .i64 P0)) ∧ w'.cell? ⟨w.heap.size, 0, none⟩ = some (.slice A0 n0 c0) ∧ w'.cell? ⟨w.heap.size, 1, none⟩ = some (.int .i64 I0) ∧ w'.cell? ⟨w.heap.size, 2, none⟩ = some (.int .i64 H0) ∧ w'.cell? ⟨w.heap.size, 3, none⟩ = some (.int .i64 S0) ∧ w'.cell? ⟨w.heap.size, 4, none⟩ = some (.int .i64 P0)) := fun w' hq => ⟨HX.out w' hq, HB.out w' (below_of B6 hq B6.size)⟩
      have hx6 := ho5.below hb6
      have HS6 := HS.out.below B6
      clear ho5 hb6 B5 HX hw4
      go_wp2
      refine wp_region_held_drew (S := fun w' => Below (w6).heap.size (w6) w') (by kernel_rfl) ((Below.refl _ _).drew) (fun hHeld => ?_)
      refine wpAnyH_takeD (i := 0) (d := 39) (v := ?_) rfl (by kernel_rfl) (by kernel_rfl) (by kernel_rfl) (fun _ _ _ h => h) (by rfl) ?_ hHeld ?_
      rotate_left
      · intro wS hS
        have eF := HF.out wS hS
        go_simp
        try with_reducible rfl
      simp only [Act.put, List.setIfInBounds_toArray, List.set_cons_zero, List.set_cons_succ]
      refine wpAnyH_takeD (i := 1) (d := 40) (v := ?_) rfl (by kernel_rfl) (by kernel_rfl) (by kernel_rfl) (fun _ _ _ h => h) (by rfl) ?_ hHeld ?_
      rotate_left
      · intro wS hS
        have eF := HF.out wS hS
        go_simp
        try with_reducible rfl
      simp only [Act.put, List.setIfInBounds_toArray, List.set_cons_zero, List.set_cons_succ]
      refine wpAnyH_ready (rs := [2]) (by kernel_rfl) (by simp) ?_
      refine AllReadyH.cons rfl (fun K hK => ?_) AllReadyH.nil
      go_simp
      (go_at_call 6; refine (toWorks_any A0 n0 c0 0 w.heap.size f0 I0 H0 S0 P0 _ (HS6.below hHeld) hbig hnc0).mono ?_; rintro e w7 ⟨g7, rfl, l7, k7, ho7, hb2⟩)
      refine hK.out _ _ (hHeld.trans (hb2.mono hHeld.size)) (fun hHeld => ?_)
      clear hK K hb2
      refine wpAnyH_ready (rs := [3]) (by kernel_rfl) (by simp) ?_
      refine AllReadyH.cons rfl (fun K hK => ?_) AllReadyH.nil
      go_simp
      (go_at_call 8; refine (eqWorks_same _ _ n0 n0 n0 _ _ _ _ f0 I0 H0 S0 P0 w7 (hx6.below hHeld).sl ho7.sl hbig (Nat.le_refl _) (Nat.le_refl _)).mono ?_; rintro e w8 ⟨rfl, hb2⟩)
      refine hK.out _ _ (hHeld.trans (hb2.mono hHeld.size)) (fun hHeld => ?_)
      clear hK K hb2
      refine wpAnyH_takeD (i := 4) (d := 43) (v := ?_) rfl (by kernel_rfl) (by kernel_rfl) (by kernel_rfl) (fun _ _ _ h => h) (by rfl) ?_ hHeld ?_
      rotate_left
      · intro wS hS
        have eF := HF.out wS hS
        go_simp
        try with_reducible rfl
      simp only [Act.put, List.setIfInBounds_toArray, List.set_cons_zero, List.set_cons_succ]
      refine wpAnyH_done (by kernel_rfl) ?_ _
      go_wp2
      go_ret
      exact ⟨rfl, BX.trans ((below_of B6 hHeld B6.size).mono (by simp))⟩
    · have hg : goodWorks f0 n0 I0 H0 S0 P0 = true := by cases h : goodWorks f0 n0 I0 H0 S0 P0 with
        | false => exact absurd (Or.inl h) hno
        | true => rfl
      obtain ⟨j, hj, hfd⟩ : ∃ j : Nat, j < n0 ∧ findV (pid f0) z1 n0 0 = (j : Int) := by
        rcases findV_cases (pid f0) z1 n0 0 with ⟨h, _⟩ | ⟨j, _, h2, h3, _⟩
        · exact absurd (Or.inr h) hno
        · exact ⟨j, by omega, h3⟩
      clear hno
      go_enter Tryd.func3, Tryd.ntmps3
      go_wp2_with fail
      refine (szWorks_ok A0 n0 c0 I0 H0 S0 P0 1048576 _ (by omega) (by omega) (by omega)).mono ?_
      rintro e w1 ⟨rfl, B1⟩
      obtain ⟨b0, b1, b2, b3, b4⟩ := HB.out _ B1
      go_wp2_with fail
      refine (toWorks_any A0 n0 c0 0 w.heap.size f0 I0 H0 S0 P0 w1 (HS.out.below B1) hbig hnc0).mono ?_
      rintro e w2 ⟨g2, rfl, l2, k2, ho2, hb2⟩
      clear b0 b1 b2 b3 b4
      go_wp2_with fail
      refine (sPanText_yes _ n0 n0 _ _ f0 I0 H0 S0 P0 z1 w2 ho2.sl hbig (Nat.le_refl _) hg j hj hfd).mono ?_
      rintro e w3 ⟨rfl, hb3⟩
      have B3 := below_of (below_of B1 hb2 B1.size) hb3 (by have := hb2.size; have := B1.size; omega)
      clear ho2 hb2 hb3 B1
      obtain ⟨b0, b1, b2, b3, b4⟩ := HB.out _ B3
      go_wp2_with fail
      refine (toWorks_any A0 n0 c0 0 w.heap.size f0 I0 H0 S0 P0 w3 (HS.out.below B3) hbig hnc0).mono ?_
      rintro e w4 ⟨g4, rfl, l4, k4, ho4, hb4⟩
      clear b0 b1 b2 b3 b4
      have B4 := below_of B3 hb4 B3.size
      have s4 := B4.size
      have B5 : Below (w.alloc (.cells #[.slice A0 n0 c0, .int .i64 I0, .int .i64 H0, .int .i64 S0, .int .i64 P0] 24)).heap.size (w.alloc (.cells #[.slice A0 n0 c0, .int .i64 I0, .int .i64 H0, .int .i64 S0, .int .i64 P0] 24)) (w4.alloc (.cells #[.slice (some ⟨g4, 0, none⟩) n0 n0, .int .i64 I0, .int .i64 H0, .int .i64 S0, .int .i64 P0] 30)) := B4.alloc s4 _
      have ho5 := ho4.below ((Below.refl _ w4).alloc (Nat.le_refl _) (.cells #[.slice (some ⟨g4, 0, none⟩) n0 n0, .int .i64 I0, .int .i64 H0, .int .i64 S0, .int .i64 P0] 30))
      clear ho4 hb4 B3 B4
      go_wp2_with fail
      refine (PanText_yes _ n0 n0 _ _ f0 I0 H0 S0 P0 z1 _ ho5.sl hbig (Nat.le_refl _) (ht.below (BX.trans (B5.mono (by simp)))) hg j hj hfd).mono ?_
      rintro e w6 ⟨rfl, hb6⟩
      have hw4 : w4.heap.size < (w4.alloc (.cells #[.slice (some ⟨g4, 0, none⟩) n0 n0, .int .i64 I0, .int .i64 H0, .int .i64 S0, .int .i64 P0] 30)).heap.size := by simp
      have B6 := below_of B5 hb6 B5.size
      have HX : Hid (∀ w', Below w6.heap.size w6 w' → w'.cell? ⟨w4.heap.size, 0, none⟩ = some (.slice (some ⟨g4, 0, none⟩) n0 n0) ∧ w'.cell? ⟨w4.heap.size, 1, none⟩ = some (.int .i64 I0) ∧ w'.cell? ⟨w4.heap.size, 2, none⟩ = some (.int .i64 H0) ∧ w'.cell? ⟨w4.heap.size, 3, none⟩ = some (.int .i64 S0) ∧ w'.cell? ⟨w4.heap.size, 4, none⟩ = some (.int .i64 P0)) := fun w' hq => ⟨(hq.cell (p := ⟨w4.heap.size, 0, none⟩) (Nat.lt_of_lt_of_le hw4 hb6.size)).trans ((hb6.cell (p := ⟨w4.heap.size, 0, none⟩) hw4).trans (by simp)), (hq.cell (p := ⟨w4.heap.size, 1, none⟩) (Nat.lt_of_lt_of_le hw4 hb6.size)).trans ((hb6.cell (p := ⟨w4.heap.size, 1, none⟩) hw4).trans (by simp)), (hq.cell (p := ⟨w4.heap.size, 2, none⟩) (Nat.lt_of_lt_of_le hw4 hb6.size)).trans ((hb6.cell (p := ⟨w4.heap.size, 2, none⟩) hw4).trans (by simp)), (hq.cell (p := ⟨w4.heap.size, 3, none⟩) (Nat.lt_of_lt_of_le hw4 hb6.size)).trans ((hb6.cell (p := ⟨w4.heap.size, 3, none⟩) hw4).trans (by simp)), (hq.cell (p := ⟨w4.heap.size, 4, none⟩) (Nat.lt_of_lt_of_le hw4 hb6.size)).trans ((hb6.cell (p := ⟨w4.heap.size, 4, none⟩) hw4).trans (by simp))⟩
      have HF : Hid (∀ w', Below w6.heap.size w6 w' → (w'.cell? ⟨w4.heap.size, 0, none⟩ = some (.slice (some ⟨g4, 0, none⟩) n0 n0) ∧ w'.cell? ⟨w4.heap.size, 1, none⟩ = some (.int .i64 I0) ∧ w'.cell? ⟨w4.heap.size, 2, none⟩ = some (.int .i64 H0) ∧ w'.cell? ⟨w4.heap.size, 3, none⟩ = some (.int .i64 S0) ∧ w'.cell? ⟨w4.heap.size, 4, none⟩ = some (.int .i64 P0)) ∧ w'.cell? ⟨w.heap.size, 0, none⟩ = some (.slice A0 n0 c0) ∧ w'.cell? ⟨w.heap.size, 1, none⟩ = some (.int .i64 I0) ∧ w'.cell? ⟨w.heap.size, 2, none⟩ = some (.int .i64 H0) ∧ w'.cell? ⟨w.heap.size, 3, none⟩ = some (.int .i64 S0) ∧ w'.cell? ⟨w.heap.size, 4, none⟩ = some (.int .i64 P0)) := fun w' hq => ⟨HX.out w' hq, HB.out w' (below_of B6 hq B6.size)⟩
      have hx6 := ho5.below hb6
      have HS6 := HS.out.below B6
      clear ho5 hb6 B5 HX hw4
      go_wp2
      refine wp_region_held_drew (S := fun w' => Below (w6).heap.size (w6) w') (by kernel_rfl) ((Below.refl _ _).drew) (fun hHeld => ?_)
      refine wpAnyH_takeD (i := 0) (d := 39) (v := ?_) rfl (by kernel_rfl) (by kernel_rfl) (by kernel_rfl) (fun _ _ _ h => h) (by rfl) ?_ hHeld ?_
      rotate_left
      · intro wS hS
        have eF := HF.out wS hS
        go_simp
        try with_reducible rfl
      simp only [Act.put, List.setIfInBounds_toArray, List.set_cons_zero, List.set_cons_succ]
      refine wpAnyH_takeD (i := 1) (d := 40) (v := ?_) rfl (by kernel_rfl) (by kernel_rfl) (by kernel_rfl) (fun _ _ _ h => h) (by rfl) ?_ hHeld ?_
      rotate_left
      · intro wS hS
        have eF := HF.out wS hS
        go_simp
        try with_reducible rfl
      simp only [Act.put, List.setIfInBounds_toArray, List.set_cons_zero, List.set_cons_succ]
      refine wpAnyH_ready (rs := [2]) (by kernel_rfl) (by simp) ?_
      refine AllReadyH.cons rfl (fun K hK => ?_) AllReadyH.nil
      go_simp
      (go_at_call 6; refine (toWorks_any A0 n0 c0 0 w.heap.size f0 I0 H0 S0 P0 _ (HS6.below hHeld) hbig hnc0).mono ?_; rintro e w7 ⟨g7, rfl, l7, k7, ho7, hb2⟩)
      refine hK.out _ _ (hHeld.trans (hb2.mono hHeld.size)) (fun hHeld => ?_)
      clear hK K hb2
      refine wpAnyH_ready (rs := [3]) (by kernel_rfl) (by simp) ?_
      refine AllReadyH.cons rfl (fun K hK => ?_) AllReadyH.nil
      go_simp
      (go_at_call 8; refine (eqWorks_same _ _ n0 n0 n0 _ _ _ _ f0 I0 H0 S0 P0 w7 (hx6.below hHeld).sl ho7.sl hbig (Nat.le_refl _) (Nat.le_refl _)).mono ?_; rintro e w8 ⟨rfl, hb2⟩)
      refine hK.out _ _ (hHeld.trans (hb2.mono hHeld.size)) (fun hHeld => ?_)
      clear hK K hb2
      refine wpAnyH_takeD (i := 4) (d := 43) (v := ?_) rfl (by kernel_rfl) (by kernel_rfl) (by kernel_rfl) (fun _ _ _ h => h) (by rfl) ?_ hHeld ?_
      rotate_left
      · intro wS hS
        have eF := HF.out wS hS
        go_simp
        try with_reducible rfl
      simp only [Act.put, List.setIfInBounds_toArray, List.set_cons_zero, List.set_cons_succ]
      refine wpAnyH_done (by kernel_rfl) ?_ _
      go_wp2
      go_ret
      exact ⟨rfl, BX.trans ((below_of B6 hHeld B6.size).mono (by simp))⟩
  · go_enter Tryd.func3, Tryd.ntmps3
    go_wp2_with fail
    refine (szWorks_big A0 n0 c0 I0 H0 S0 P0 1048576 _ hm0 (by omega) (by omega) (by omega)).mono ?_
    rintro e w1 ⟨rfl, B1⟩
    go_wp2
    go_ret
    exact ⟨rfl, BX.trans (B1.mono (by simp))⟩
end Go.Proofs.YtgocfmgofmkfgaaDoor
