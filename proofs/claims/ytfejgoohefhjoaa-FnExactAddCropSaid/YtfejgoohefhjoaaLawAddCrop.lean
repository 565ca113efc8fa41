/-
  The walk of the law FnExactAddCrop.
-/
import Derived.Test.YtfejgoohefhjoaaSAddC
import Derived.Test.YtfejgoohefhjoaaAddC
import Derived.Test.YtfejgoohefhjoaaFlatCropRow
namespace Go.Proofs.Ytfejgoohefhjoaa
open Go.RowKit
set_option linter.unusedVariables false
set_option linter.unusedSimpArgs false
set_option maxHeartbeats 2000000 in
theorem FnExactAddCrop_walk (A0 : Option Addr) (n0 c0 : Nat) (f0 : Nat → Int) (f1 : Nat → Int) (w : World) (hnc0 : n0 ≤ c0) (hcm0 : c0 ≤ maxLen) (hs0 : Sl w 0 w.heap.size 5 A0 n0 f0) (hf0 : ∀ j, j < n0 * 5 → I64 (f0 j)) (hf1 : ∀ j, j < 5 → I64 (f1 j)) :
    Calls Try.prog 4 #[.slice A0 n0 c0, .agg #[.int .i64 (f1 0), .int .i64 (f1 1), .int .i64 (f1 2), .int .i64 (f1 3), .int .i64 (f1 4)]] w fun e w' => e = .returned (.bool true) ∧ Below w.heap.size w w' := by
  clear hf0 hf1
  have hm0 : (n0 : Int) ≤ 9223372036854775807 := by unfold maxLen at hcm0; omega
  have HS : Hid (Sl w 0 w.heap.size 5 A0 n0 f0) := hs0
  clear hs0 hcm0
  by_cases hbig : n0 ≤ 1048576
  · have hlen : addM f0 f1 n0 ≤ 1048576 := by have := addM_le f0 f1 n0; omega
    go_enter Try.func4, Try.ntmps4
    go_wp2_with fail
    refine nameC ?_
    intro wb hwb
    have HB0 : Below w.heap.size w wb := by rw [hwb]; exact (Below.refl _ w).alloc (Nat.le_refl _) _
    have hz0 : w.heap.size < wb.heap.size := by rw [hwb]; simp
    have HBX : Hid (∀ w', Below wb.heap.size wb w' → w'.cell? ⟨w.heap.size, 0, none⟩ = some (.int .i64 (f1 0)) ∧ w'.cell? ⟨w.heap.size, 1, none⟩ = some (.int .i64 (f1 1)) ∧ w'.cell? ⟨w.heap.size, 2, none⟩ = some (.int .i64 (f1 2)) ∧ w'.cell? ⟨w.heap.size, 3, none⟩ = some (.int .i64 (f1 3)) ∧ w'.cell? ⟨w.heap.size, 4, none⟩ = some (.int .i64 (f1 4))) := fun w' hq => by
      refine ⟨(hq.cell (p := ⟨w.heap.size, 0, none⟩) hz0).trans ?_, (hq.cell (p := ⟨w.heap.size, 1, none⟩) hz0).trans ?_, (hq.cell (p := ⟨w.heap.size, 2, none⟩) hz0).trans ?_, (hq.cell (p := ⟨w.heap.size, 3, none⟩) hz0).trans ?_, (hq.cell (p := ⟨w.heap.size, 4, none⟩) hz0).trans ?_⟩ <;> (rw [hwb]; simp)
    have HSw : Hid (Sl wb 0 wb.heap.size 5 A0 n0 f0) := by
      have h := HS.out.below HB0
      exact ⟨Nat.le_refl _, fun hn => by
        obtain ⟨b, off, e, h1, h2, h3⟩ := h.here hn
        exact ⟨b, off, e, h1, by omega, h3⟩⟩
    clear hwb HS
    have HS := HSw
    clear HSw
    refine (szCropRowS_ok A0 n0 c0 1048576 wb (by omega) (by omega) (by omega)).mono ?_
    rintro e w1 ⟨rfl, rfl⟩
    go_wp2_with fail
    have HF : Hid (∀ w', Below wb.heap.size wb w' → w'.cell? ⟨w.heap.size, 0, none⟩ = some (.int .i64 (f1 0)) ∧ w'.cell? ⟨w.heap.size, 1, none⟩ = some (.int .i64 (f1 1)) ∧ w'.cell? ⟨w.heap.size, 2, none⟩ = some (.int .i64 (f1 2)) ∧ w'.cell? ⟨w.heap.size, 3, none⟩ = some (.int .i64 (f1 3)) ∧ w'.cell? ⟨w.heap.size, 4, none⟩ = some (.int .i64 (f1 4))) := HBX
    refine wp_region_held_drew (S := fun w' => Below (wb).heap.size (wb) w') (by kernel_rfl) ((Below.refl _ _).drew) (fun hHeld => ?_)
    refine wpAnyH_takeD (i := 0) (d := 22) (v := ?_) rfl (by kernel_rfl) (by kernel_rfl) (by kernel_rfl) (fun _ _ _ h => h) (by rfl) ?_ hHeld ?_
    rotate_left
    · intro wS hS
      have eF := HF.out wS hS
      go_simp
      try with_reducible rfl
    simp only [Act.put, List.setIfInBounds_toArray, List.set_cons_zero, List.set_cons_succ]
    refine wpAnyH_takeD (i := 2) (d := 24) (v := ?_) rfl (by kernel_rfl) (by kernel_rfl) (by kernel_rfl) (fun _ _ _ h => h) (by rfl) ?_ hHeld ?_
    rotate_left
    · intro wS hS
      have eF := HF.out wS hS
      go_simp
      try with_reducible rfl
    simp only [Act.put, List.setIfInBounds_toArray, List.set_cons_zero, List.set_cons_succ]
    refine wpAnyH_ready (rs := [1]) (by kernel_rfl) (by simp) ?_
    refine AllReadyH.cons rfl (fun K hK => ?_) AllReadyH.nil
    go_simp
    (refine (toCropRowS_any A0 n0 c0 0 wb.heap.size f0 _ (HS.out.below hHeld) hbig hnc0).mono ?_; rintro e wa ⟨rfl, hoa, hb2⟩)
    refine hK.out _ _ (hHeld.trans (hb2.mono hHeld.size)) (fun hHeld => ?_)
    clear hK K hb2
    refine wpAnyH_ready (rs := [3]) (by kernel_rfl) (by simp) ?_
    refine AllReadyH.cons rfl (fun K hK => ?_) AllReadyH.nil
    go_simp
    (refine (toCropRow_any _ _ _ _ _ _).mono ?_; rintro e wc ⟨rfl, hb2⟩; have hoa := hoa.below hb2)
    refine hK.out _ _ (hHeld.trans (hb2.mono hHeld.size)) (fun hHeld => ?_)
    clear hK K hb2
    refine wpAnyH_ready (rs := [4]) (by kernel_rfl) (by simp) ?_
    refine AllReadyH.cons rfl (fun K hK => ?_) AllReadyH.nil
    go_simp
    (refine (sAddCrop_any _ n0 n0 _ _ f0 f1 wc hoa.sl hbig (Nat.le_refl _) (by unfold maxLen; omega) (by intro h; cases h) (fun ad h => ⟨_, _, (Option.some.inj h).symm⟩)).mono ?_; rintro e wd ⟨Ad, cd, rfl, hcd, hcdm, hd, hb2⟩)
    refine hK.out _ _ (hHeld.trans (hb2.mono hHeld.size)) (fun hHeld => ?_)
    clear hK K hb2
    refine wpAnyH_takeD (i := 5) (d := 21) (v := ?_) rfl (by kernel_rfl) (by kernel_rfl) (by kernel_rfl) (fun _ _ _ h => h) (by rfl) ?_ hHeld ?_
    rotate_left
    · intro wS hS
      have eF := HF.out wS hS
      go_simp
      try with_reducible rfl
    simp only [Act.put, List.setIfInBounds_toArray, List.set_cons_zero, List.set_cons_succ]
    refine wpAnyH_takeD (i := 6) (d := 27) (v := ?_) rfl (by kernel_rfl) (by kernel_rfl) (by kernel_rfl) (fun _ _ _ h => h) (by rfl) ?_ hHeld ?_
    rotate_left
    · intro wS hS
      have eF := HF.out wS hS
      go_simp
      try with_reducible rfl
    simp only [Act.put, List.setIfInBounds_toArray, List.set_cons_zero, List.set_cons_succ]
    refine wpAnyH_takeD (i := 7) (d := 28) (v := ?_) rfl (by kernel_rfl) (by kernel_rfl) (by kernel_rfl) (fun _ _ _ h => h) (by rfl) ?_ hHeld ?_
    rotate_left
    · intro wS hS
      have eF := HF.out wS hS
      go_simp
      try with_reducible rfl
    simp only [Act.put, List.setIfInBounds_toArray, List.set_cons_zero, List.set_cons_succ]
    refine wpAnyH_takeD (i := 8) (d := 6) (v := ?_) rfl (by kernel_rfl) (by kernel_rfl) (by kernel_rfl) (fun _ _ _ h => h) (by rfl) ?_ hHeld ?_
    rotate_left
    · intro wS hS
      have eF := HF.out wS hS
      go_simp
      try with_reducible rfl
    simp only [Act.put, List.setIfInBounds_toArray, List.set_cons_zero, List.set_cons_succ]
    refine wpAnyH_takeD (i := 9) (d := 7) (v := ?_) rfl (by kernel_rfl) (by kernel_rfl) (by kernel_rfl) (fun _ _ _ h => h) (by rfl) ?_ hHeld ?_
    rotate_left
    · intro wS hS
      have eF := HF.out wS hS
      go_simp
      try with_reducible rfl
    simp only [Act.put, List.setIfInBounds_toArray, List.set_cons_zero, List.set_cons_succ]
    refine wpAnyH_done (by kernel_rfl) ?_ _
    have B2 : Below wb.heap.size wb wd := hHeld
    have s2 := B2.size
    have hs2 := HS.out.below B2
    have hw2 := hd
    clear hHeld HF hoa
    go_wp2_with fail
    refine (toCropRowS_any A0 n0 c0 0 wb.heap.size f0 wd hs2 hbig hnc0).mono ?_
    rintro e w3 ⟨rfl, ho3, hb3⟩
    obtain ⟨q0, q1, q2, q3, q4⟩ := HBX.out _ (below_of B2 hb3 s2)
    go_wp2_with fail
    refine (toCropRow_any _ _ _ _ _ _).mono ?_
    rintro e w3a ⟨rfl, hx⟩
    have ho3 := ho3.below hx
    have hb3 := below_of hb3 hx hb3.size
    clear hx q0 q1 q2 q3 q4
    go_wp2_with fail
    refine (AddCrop_any _ n0 n0 _ _ f0 f1 w3a ho3.sl hbig (Nat.le_refl _) (by unfold maxLen; omega) (by intro h; cases h) (fun ad h => ⟨_, _, (Option.some.inj h).symm⟩)).mono ?_
    rintro e w4 ⟨Ag, cg, rfl, hcg, hcgm, hg4, hb4⟩
    have s3 := hb3.size
    have s3x := ho3.hi_le
    have s4 := hb4.size
    have B4 : Below wb.heap.size wb w4 := below_of (below_of B2 hb3 s2) hb4 (by omega)
    have hx4 := ho3.below hb4
    have hs4 := HS.out.below B4
    have hw4 := (hw2.below hb3).below hb4
    clear ho3 hb3 hb4 B2 hs2 hw2
    go_wp2_with fail
    refine (eqCropRowS_same _ _ _ _ _ _ _ _ _ _ w4 hg4.sl hw4.sl (by exact hlen) hcg hcd).mono ?_
    rintro e w5 ⟨rfl, hb5⟩
    have B5 := below_of B4 hb5 B4.size
    have s5 := hb5.size
    have hx5 := hx4.below hb5
    have hg5 := hg4.below hb5
    have hw5 := hw4.below hb5
    have hs5 := HS.out.below B5
    clear hx4 hg4 hw4 hs4 B4 hb5
    go_wp2_with fail
    refine (toCropRowS_any A0 n0 c0 0 wb.heap.size f0 w5 hs5 hbig hnc0).mono ?_
    rintro e w6 ⟨rfl, ho6, hb6⟩
    have B6 := below_of B5 hb6 (by omega)
    have s6 := hb6.size
    have hx6 := hx5.below hb6
    have hg6 := hg5.below hb6
    have hw6 := hw5.below hb6
    clear hx5 hg5 hw5 hs5 B5 hb6
    go_wp2_with fail
    refine (eqCropRowS_same _ _ n0 n0 n0 _ _ _ _ f0 w6 hx6.sl ho6.sl hbig (Nat.le_refl _) (Nat.le_refl _)).mono ?_
    rintro e w7 ⟨rfl, hb7⟩
    have B7 := below_of B6 hb7 (by omega)
    have s7 := hb7.size
    have hx7 := hx6.below hb7
    have hg7 := hg6.below hb7
    have hw7 := hw6.below hb7
    clear hx6 hg6 hw6 ho6 B6 hb7
    go_wp2_with fail
    refine (markCropRowS_any _ n0 n0 _ _ 1 f0 w7 hx7 hbig (Nat.le_refl _) (by omega) (by omega)).mono ?_
    rintro e w8 ⟨rfl, _, hr8⟩
    have s8 := hr8.size
    have B8 : Below wb.heap.size wb w8 := B7.trans (hr8.below (by omega) (by omega))
    have hg8 := hg7.fr hr8 (by omega)
    have hw8 := hw7.fr hr8 (by omega)
    clear hx7 hg7 hw7 hr8 B7
    go_wp2_with fail
    refine (eqCropRowS_same _ _ _ _ _ _ _ _ _ _ w8 hg8.sl hw8.sl (by exact hlen) hcg hcd).mono ?_
    rintro e w9 ⟨rfl, hb9⟩
    have B9 := below_of B8 hb9 (by omega)
    have s9 := hb9.size
    have hg9 := hg8.below hb9
    have hw9 := hw8.below hb9
    clear hg8 hw8 B8 hb9
    go_wp2_with fail
    refine (markCropRowS_any _ _ _ _ _ 1 _ w9 hg9 (by exact hlen) hcg (by omega) (by omega)).mono ?_
    rintro e w10 ⟨rfl, hg10, hr10⟩
    have s10 := hr10.size
    have B10 : Below wb.heap.size wb w10 := B9.trans (hr10.below (by omega) (by omega))
    have hw10 := hw9.fr hr10 (by omega)
    have hs10 := HS.out.below B10
    clear hg9 hw9 hr10 B9
    go_wp2_with fail
    refine (heldCropRowS_any _ _ _ _ _ 1 w10 hg10.sl (by exact hlen) hcg (by omega) (by omega)).mono ?_
    rintro e w11 ⟨rfl, rfl⟩
    go_wp2_with fail
    have HF : Hid (∀ w', Below w10.heap.size w10 w' → w'.cell? ⟨w.heap.size, 0, none⟩ = some (.int .i64 (f1 0)) ∧ w'.cell? ⟨w.heap.size, 1, none⟩ = some (.int .i64 (f1 1)) ∧ w'.cell? ⟨w.heap.size, 2, none⟩ = some (.int .i64 (f1 2)) ∧ w'.cell? ⟨w.heap.size, 3, none⟩ = some (.int .i64 (f1 3)) ∧ w'.cell? ⟨w.heap.size, 4, none⟩ = some (.int .i64 (f1 4))) := fun w' hq => HBX.out w' (below_of B10 hq (by omega))
    refine wp_region_held_drew (S := fun w' => Below (w10).heap.size (w10) w') (by kernel_rfl) ((Below.refl _ _).drew) (fun hHeld => ?_)
    refine wpAnyH_takeD (i := 0) (d := 80) (v := ?_) rfl (by kernel_rfl) (by kernel_rfl) (by kernel_rfl) (fun _ _ _ h => h) (by rfl) ?_ hHeld ?_
    rotate_left
    · intro wS hS
      have eF := HF.out wS hS
      go_simp
      try with_reducible rfl
    simp only [Act.put, List.setIfInBounds_toArray, List.set_cons_zero, List.set_cons_succ]
    refine wpAnyH_takeD (i := 2) (d := 82) (v := ?_) rfl (by kernel_rfl) (by kernel_rfl) (by kernel_rfl) (fun _ _ _ h => h) (by rfl) ?_ hHeld ?_
    rotate_left
    · intro wS hS
      have eF := HF.out wS hS
      go_simp
      try with_reducible rfl
    simp only [Act.put, List.setIfInBounds_toArray, List.set_cons_zero, List.set_cons_succ]
    refine wpAnyH_ready (rs := [1]) (by kernel_rfl) (by simp) ?_
    refine AllReadyH.cons rfl (fun K hK => ?_) AllReadyH.nil
    go_simp
    (refine (toCropRowS_any A0 n0 c0 0 wb.heap.size f0 _ (HS.out.below (below_of B10 hHeld (by omega))) hbig hnc0).mono ?_; rintro e w11 ⟨rfl, ho11, hb2⟩)
    refine hK.out _ _ (hHeld.trans (hb2.mono hHeld.size)) (fun hHeld => ?_)
    clear hK K hb2
    refine wpAnyH_ready (rs := [3]) (by kernel_rfl) (by simp) ?_
    refine AllReadyH.cons rfl (fun K hK => ?_) AllReadyH.nil
    go_simp
    (refine (toCropRow_any _ _ _ _ _ _).mono ?_; rintro e w11a ⟨rfl, hb2⟩; have ho11 := ho11.below hb2)
    refine hK.out _ _ (hHeld.trans (hb2.mono hHeld.size)) (fun hHeld => ?_)
    clear hK K hb2
    refine wpAnyH_ready (rs := [4]) (by kernel_rfl) (by simp) ?_
    refine AllReadyH.cons rfl (fun K hK => ?_) AllReadyH.nil
    go_simp
    (refine (AddCrop_any _ n0 n0 _ _ f0 f1 w11a ho11.sl hbig (Nat.le_refl _) (by unfold maxLen; omega) (by intro h; cases h) (fun ad h => ⟨_, _, (Option.some.inj h).symm⟩)).mono ?_; rintro e w12 ⟨Ah, ch, rfl, hch, hchm, hh12, hb2⟩)
    refine hK.out _ _ (hHeld.trans (hb2.mono hHeld.size)) (fun hHeld => ?_)
    clear hK K hb2
    refine wpAnyH_takeD (i := 5) (d := 79) (v := ?_) rfl (by kernel_rfl) (by kernel_rfl) (by kernel_rfl) (fun _ _ _ h => h) (by rfl) ?_ hHeld ?_
    rotate_left
    · intro wS hS
      have eF := HF.out wS hS
      go_simp
      try with_reducible rfl
    simp only [Act.put, List.setIfInBounds_toArray, List.set_cons_zero, List.set_cons_succ]
    refine wpAnyH_takeD (i := 6) (d := 85) (v := ?_) rfl (by kernel_rfl) (by kernel_rfl) (by kernel_rfl) (fun _ _ _ h => h) (by rfl) ?_ hHeld ?_
    rotate_left
    · intro wS hS
      have eF := HF.out wS hS
      go_simp
      try with_reducible rfl
    simp only [Act.put, List.setIfInBounds_toArray, List.set_cons_zero, List.set_cons_succ]
    refine wpAnyH_takeD (i := 7) (d := 86) (v := ?_) rfl (by kernel_rfl) (by kernel_rfl) (by kernel_rfl) (fun _ _ _ h => h) (by rfl) ?_ hHeld ?_
    rotate_left
    · intro wS hS
      have eF := HF.out wS hS
      go_simp
      try with_reducible rfl
    simp only [Act.put, List.setIfInBounds_toArray, List.set_cons_zero, List.set_cons_succ]
    refine wpAnyH_takeD (i := 8) (d := 14) (v := ?_) rfl (by kernel_rfl) (by kernel_rfl) (by kernel_rfl) (fun _ _ _ h => h) (by rfl) ?_ hHeld ?_
    rotate_left
    · intro wS hS
      have eF := HF.out wS hS
      go_simp
      try with_reducible rfl
    simp only [Act.put, List.setIfInBounds_toArray, List.set_cons_zero, List.set_cons_succ]
    refine wpAnyH_takeD (i := 9) (d := 15) (v := ?_) rfl (by kernel_rfl) (by kernel_rfl) (by kernel_rfl) (fun _ _ _ h => h) (by rfl) ?_ hHeld ?_
    rotate_left
    · intro wS hS
      have eF := HF.out wS hS
      go_simp
      try with_reducible rfl
    simp only [Act.put, List.setIfInBounds_toArray, List.set_cons_zero, List.set_cons_succ]
    refine wpAnyH_done (by kernel_rfl) ?_ _
    have B12 := below_of B10 hHeld (by omega)
    have s12 := hHeld.size
    have hg12 := hg10.below hHeld
    have hw12 := hw10.below hHeld
    clear hg10 hw10 hs10 B10 hHeld HF ho11
    go_wp2_with fail
    refine (eqCropRowS_same _ _ _ _ _ _ _ _ _ _ w12 hh12.sl hw12.sl (by exact hlen) hch hcd).mono ?_
    rintro e w13 ⟨rfl, hb13⟩
    have B13 := below_of B12 hb13 (by omega)
    have hg13 := hg12.below hb13
    clear hg12 hw12 hh12 B12 hb13
    go_wp2_with fail
    refine (heldCropRowS_any _ _ _ _ _ 1 w13 hg13.sl (by exact hlen) hcg (by omega) (by omega)).mono ?_
    rintro e w14 ⟨rfl, rfl⟩
    clear hg13
    go_wp2
    go_ret
    exact ⟨rfl, HB0.trans (B13.mono HB0.size)⟩
  · go_enter Try.func4, Try.ntmps4
    go_wp2_with fail
    refine nameC ?_
    intro wb hwb
    have HB0 : Below w.heap.size w wb := by rw [hwb]; exact (Below.refl _ w).alloc (Nat.le_refl _) _
    have hz0 : w.heap.size < wb.heap.size := by rw [hwb]; simp
    have HBX : Hid (∀ w', Below wb.heap.size wb w' → w'.cell? ⟨w.heap.size, 0, none⟩ = some (.int .i64 (f1 0)) ∧ w'.cell? ⟨w.heap.size, 1, none⟩ = some (.int .i64 (f1 1)) ∧ w'.cell? ⟨w.heap.size, 2, none⟩ = some (.int .i64 (f1 2)) ∧ w'.cell? ⟨w.heap.size, 3, none⟩ = some (.int .i64 (f1 3)) ∧ w'.cell? ⟨w.heap.size, 4, none⟩ = some (.int .i64 (f1 4))) := fun w' hq => by
      refine ⟨(hq.cell (p := ⟨w.heap.size, 0, none⟩) hz0).trans ?_, (hq.cell (p := ⟨w.heap.size, 1, none⟩) hz0).trans ?_, (hq.cell (p := ⟨w.heap.size, 2, none⟩) hz0).trans ?_, (hq.cell (p := ⟨w.heap.size, 3, none⟩) hz0).trans ?_, (hq.cell (p := ⟨w.heap.size, 4, none⟩) hz0).trans ?_⟩ <;> (rw [hwb]; simp)
    have HSw : Hid (Sl wb 0 wb.heap.size 5 A0 n0 f0) := by
      have h := HS.out.below HB0
      exact ⟨Nat.le_refl _, fun hn => by
        obtain ⟨b, off, e, h1, h2, h3⟩ := h.here hn
        exact ⟨b, off, e, h1, by omega, h3⟩⟩
    clear hwb HS
    have HS := HSw
    clear HSw
    refine (szCropRowS_big A0 n0 c0 1048576 wb hm0 (by omega) (by omega) (by omega)).mono ?_
    rintro e w1 ⟨rfl, rfl⟩
    go_wp2
    go_ret
    exact ⟨rfl, HB0⟩
end Go.Proofs.Ytfejgoohefhjoaa

