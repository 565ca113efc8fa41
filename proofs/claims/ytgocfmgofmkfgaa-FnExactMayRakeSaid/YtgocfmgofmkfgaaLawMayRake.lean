/-
  The walk of the law FnExactMayRake.
-/
import Derived.Test.YtgocfmgofmkfgaaMarkW
import Derived.Test.YtgocfmgofmkfgaaWorksN
import Derived.Test.YtgocfmgofmkfgaaFlatInt
namespace Go.Proofs.Ytgocfmgofmkfgaa
open Go.RowKit
set_option linter.unusedVariables false
set_option linter.unusedSimpArgs false
set_option maxRecDepth 100000 in
set_option maxHeartbeats 2000000 in
theorem FnExactMayRake_walk (A0 : Option Addr) (n0 c0 : Nat) (f0 : Nat → Int) (I0 H0 S0 P0 : Int) (w : World) (hnc0 : n0 ≤ c0) (hcm0 : c0 ≤ maxLen) (hs0 : Sl w 0 w.heap.size 4 A0 n0 f0) :
    Calls Try.prog 7 #[.agg #[.slice A0 n0 c0, .int .i64 I0, .int .i64 H0, .int .i64 S0, .int .i64 P0]] w fun e w' => e = .returned (.bool true) ∧ Below w.heap.size w w' := by
  have hm0 : (n0 : Int) ≤ 9223372036854775807 := by unfold maxLen at hcm0; omega
  have BX : Below w.heap.size w (w.alloc (.cells #[.slice A0 n0 c0, .int .i64 I0, .int .i64 H0, .int .i64 S0, .int .i64 P0] 24)) := (Below.refl _ w).alloc (Nat.le_refl _) _
  have HS : Hid (Sl (w.alloc (.cells #[.slice A0 n0 c0, .int .i64 I0, .int .i64 H0, .int .i64 S0, .int .i64 P0] 24)) 0 w.heap.size 4 A0 n0 f0) := hs0.below BX
  have HB : Hid (∀ w', Below (w.alloc (.cells #[.slice A0 n0 c0, .int .i64 I0, .int .i64 H0, .int .i64 S0, .int .i64 P0] 24)).heap.size (w.alloc (.cells #[.slice A0 n0 c0, .int .i64 I0, .int .i64 H0, .int .i64 S0, .int .i64 P0] 24)) w' → w'.cell? ⟨w.heap.size, 0, none⟩ = some (.slice A0 n0 c0) ∧ w'.cell? ⟨w.heap.size, 1, none⟩ = some (.int .i64 I0) ∧ w'.cell? ⟨w.heap.size, 2, none⟩ = some (.int .i64 H0) ∧ w'.cell? ⟨w.heap.size, 3, none⟩ = some (.int .i64 S0) ∧ w'.cell? ⟨w.heap.size, 4, none⟩ = some (.int .i64 P0)) := fun w' hq => ⟨(hq.cell (p := ⟨w.heap.size, 0, none⟩) (by simp)).trans (by simp), (hq.cell (p := ⟨w.heap.size, 1, none⟩) (by simp)).trans (by simp), (hq.cell (p := ⟨w.heap.size, 2, none⟩) (by simp)).trans (by simp), (hq.cell (p := ⟨w.heap.size, 3, none⟩) (by simp)).trans (by simp), (hq.cell (p := ⟨w.heap.size, 4, none⟩) (by simp)).trans (by simp)⟩
  clear hs0 hcm0
  by_cases hbig : n0 ≤ 1048576
  · have hlen : (rakeRes f0 n0 (goodWorks f0 n0 I0 H0 S0 P0)).length ≤ 1048576 := Nat.le_trans (rakeRes_len f0 n0 _) hbig
    go_enter Try.func7, Try.ntmps7
    go_wp2_with fail
    refine (szWorks_ok A0 n0 c0 I0 H0 S0 P0 1048576 _ (by omega) (by omega) (by omega)).mono ?_
    rintro e w1 ⟨rfl, B1⟩
    obtain ⟨b0, b1, b2, b3, b4⟩ := HB.out _ B1
    go_wp2_with fail
    refine (toWorks_any A0 n0 c0 0 w.heap.size f0 I0 H0 S0 P0 w1 (HS.out.below B1) hbig hnc0).mono ?_
    rintro e w2 ⟨g2, rfl, l2, k2, ho2, hb2⟩
    clear b0 b1 b2 b3 b4
    go_wp2_with fail
    refine (sMayRake_any _ n0 n0 _ _ f0 I0 H0 S0 P0 w2 ho2.sl hbig (Nat.le_refl _)).mono ?_
    rintro e w3 ⟨Aw, cw, rfl, hcw, hcwm, hw3, hb3⟩
    have B3 := below_of (below_of B1 hb2 B1.size) hb3 (by have := hb2.size; have := B1.size; omega)
    have s2 := hb2.size
    have s3 := hb3.size
    have s1 := B1.size
    clear ho2 hb2 hb3 B1
    obtain ⟨b0, b1, b2, b3, b4⟩ := HB.out _ B3
    go_wp2_with fail
    refine (toWorks_any A0 n0 c0 0 w.heap.size f0 I0 H0 S0 P0 w3 (HS.out.below B3) hbig hnc0).mono ?_
    rintro e w4 ⟨g4, rfl, l4, k4, ho4, hb4⟩
    clear b0 b1 b2 b3 b4
    have B4 := below_of B3 hb4 B3.size
    have s4 := hb4.size
    have hal4 := (Below.refl _ w4).alloc (Nat.le_refl _) (.cells #[.slice (some ⟨g4, 0, none⟩) n0 n0, .int .i64 I0, .int .i64 H0, .int .i64 S0, .int .i64 P0] 29)
    have B5 : Below (w.alloc (.cells #[.slice A0 n0 c0, .int .i64 I0, .int .i64 H0, .int .i64 S0, .int .i64 P0] 24)).heap.size (w.alloc (.cells #[.slice A0 n0 c0, .int .i64 I0, .int .i64 H0, .int .i64 S0, .int .i64 P0] 24)) (w4.alloc (.cells #[.slice (some ⟨g4, 0, none⟩) n0 n0, .int .i64 I0, .int .i64 H0, .int .i64 S0, .int .i64 P0] 29)) := B4.alloc B4.size _
    have hw5 := (hw3.below hb4).below hal4
    have ho5 := ho4.below hal4
    clear hw3 ho4 hb4 hal4 B3 B4
    go_wp2_with fail
    refine (MayRake_any _ n0 n0 _ _ f0 I0 H0 S0 P0 _ ho5.sl hbig (Nat.le_refl _)).mono ?_
    rintro e w6 ⟨Ag, cg, rfl, hcg, hcgm, hg6, hb6⟩
    have hw4 : w4.heap.size < (w4.alloc (.cells #[.slice (some ⟨g4, 0, none⟩) n0 n0, .int .i64 I0, .int .i64 H0, .int .i64 S0, .int .i64 P0] 29)).heap.size := by simp
    have B6 := below_of B5 hb6 B5.size
    have s6 := hb6.size
    have HX : Hid (∀ w', Below w6.heap.size w6 w' → w'.cell? ⟨w4.heap.size, 0, none⟩ = some (.slice (some ⟨g4, 0, none⟩) n0 n0) ∧ w'.cell? ⟨w4.heap.size, 1, none⟩ = some (.int .i64 I0) ∧ w'.cell? ⟨w4.heap.size, 2, none⟩ = some (.int .i64 H0) ∧ w'.cell? ⟨w4.heap.size, 3, none⟩ = some (.int .i64 S0) ∧ w'.cell? ⟨w4.heap.size, 4, none⟩ = some (.int .i64 P0)) := fun w' hq => ⟨(hq.cell (p := ⟨w4.heap.size, 0, none⟩) (Nat.lt_of_lt_of_le hw4 hb6.size)).trans ((hb6.cell (p := ⟨w4.heap.size, 0, none⟩) hw4).trans (by simp)), (hq.cell (p := ⟨w4.heap.size, 1, none⟩) (Nat.lt_of_lt_of_le hw4 hb6.size)).trans ((hb6.cell (p := ⟨w4.heap.size, 1, none⟩) hw4).trans (by simp)), (hq.cell (p := ⟨w4.heap.size, 2, none⟩) (Nat.lt_of_lt_of_le hw4 hb6.size)).trans ((hb6.cell (p := ⟨w4.heap.size, 2, none⟩) hw4).trans (by simp)), (hq.cell (p := ⟨w4.heap.size, 3, none⟩) (Nat.lt_of_lt_of_le hw4 hb6.size)).trans ((hb6.cell (p := ⟨w4.heap.size, 3, none⟩) hw4).trans (by simp)), (hq.cell (p := ⟨w4.heap.size, 4, none⟩) (Nat.lt_of_lt_of_le hw4 hb6.size)).trans ((hb6.cell (p := ⟨w4.heap.size, 4, none⟩) hw4).trans (by simp))⟩
    have hx6 := ho5.below hb6
    have hw6 := hw5.below hb6
    clear ho5 hw5 hb6 B5
    have hs41 : (w4.alloc (.cells #[.slice (some ⟨g4, 0, none⟩) n0 n0, .int .i64 I0, .int .i64 H0, .int .i64 S0, .int .i64 P0] 29)).heap.size = w4.heap.size + 1 := by simp
    rw [hs41] at hg6 s6
    clear hs41 hw4
    go_wp2_with fail
    refine (eqIntS_same _ _ _ _ _ _ _ _ _ _ w6 hg6.sl hw6.sl (by exact hlen) hcg hcw).mono ?_
    rintro e w7 ⟨rfl, hb7⟩
    have s7 := hb7.size
    have B7 := below_of B6 hb7 B6.size
    have HF : Hid (∀ w', Below w7.heap.size w7 w' → (w'.cell? ⟨w4.heap.size, 0, none⟩ = some (.slice (some ⟨g4, 0, none⟩) n0 n0) ∧ w'.cell? ⟨w4.heap.size, 1, none⟩ = some (.int .i64 I0) ∧ w'.cell? ⟨w4.heap.size, 2, none⟩ = some (.int .i64 H0) ∧ w'.cell? ⟨w4.heap.size, 3, none⟩ = some (.int .i64 S0) ∧ w'.cell? ⟨w4.heap.size, 4, none⟩ = some (.int .i64 P0)) ∧ w'.cell? ⟨w.heap.size, 0, none⟩ = some (.slice A0 n0 c0) ∧ w'.cell? ⟨w.heap.size, 1, none⟩ = some (.int .i64 I0) ∧ w'.cell? ⟨w.heap.size, 2, none⟩ = some (.int .i64 H0) ∧ w'.cell? ⟨w.heap.size, 3, none⟩ = some (.int .i64 S0) ∧ w'.cell? ⟨w.heap.size, 4, none⟩ = some (.int .i64 P0)) := fun w' hq => ⟨HX.out w' (below_of hb7 hq hb7.size), HB.out w' (below_of B7 hq B7.size)⟩
    have HX7 : Hid (∀ w', Below w7.heap.size w7 w' → w'.cell? ⟨w4.heap.size, 0, none⟩ = some (.slice (some ⟨g4, 0, none⟩) n0 n0) ∧ w'.cell? ⟨w4.heap.size, 1, none⟩ = some (.int .i64 I0) ∧ w'.cell? ⟨w4.heap.size, 2, none⟩ = some (.int .i64 H0) ∧ w'.cell? ⟨w4.heap.size, 3, none⟩ = some (.int .i64 S0) ∧ w'.cell? ⟨w4.heap.size, 4, none⟩ = some (.int .i64 P0)) := fun w' hq => HX.out w' (below_of hb7 hq hb7.size)
    have hg7 := hg6.below hb7
    have hw7 := hw6.below hb7
    have hx7 := hx6.below hb7
    have HS7 := HS.out.below B7
    clear hg6 hw6 hx6 hb7 B6 HX
    go_wp2
    refine wp_region_held_drew (S := fun w' => Below (w7).heap.size (w7) w') (by kernel_rfl) ((Below.refl _ _).drew) (fun hHeld => ?_)
    refine wpAnyH_takeD (i := 0) (d := 41) (v := ?_) rfl (by kernel_rfl) (by kernel_rfl) (by kernel_rfl) (fun _ _ _ h => h) (by rfl) ?_ hHeld ?_
    rotate_left
    · intro wS hS
      have eF := HF.out wS hS
      go_simp
      try with_reducible rfl
    simp only [Act.put, List.setIfInBounds_toArray, List.set_cons_zero, List.set_cons_succ]
    refine wpAnyH_takeD (i := 1) (d := 42) (v := ?_) rfl (by kernel_rfl) (by kernel_rfl) (by kernel_rfl) (fun _ _ _ h => h) (by rfl) ?_ hHeld ?_
    rotate_left
    · intro wS hS
      have eF := HF.out wS hS
      go_simp
      try with_reducible rfl
    simp only [Act.put, List.setIfInBounds_toArray, List.set_cons_zero, List.set_cons_succ]
    refine wpAnyH_ready (rs := [2]) (by kernel_rfl) (by simp) ?_
    refine AllReadyH.cons rfl (fun K hK => ?_) AllReadyH.nil
    go_simp
    (go_at_call 14; refine (toWorks_any A0 n0 c0 0 w.heap.size f0 I0 H0 S0 P0 _ (HS7.below hHeld) hbig hnc0).mono ?_; rintro e w8 ⟨g8, rfl, l8, k8, ho8, hb2⟩)
    refine hK.out _ _ (hHeld.trans (hb2.mono hHeld.size)) (fun hHeld => ?_)
    clear hK K hb2
    refine wpAnyH_ready (rs := [3]) (by kernel_rfl) (by simp) ?_
    refine AllReadyH.cons rfl (fun K hK => ?_) AllReadyH.nil
    go_simp
    (go_at_call 16; refine (eqWorks_same _ _ n0 n0 n0 _ _ _ _ f0 I0 H0 S0 P0 w8 (hx7.below hHeld).sl ho8.sl hbig (Nat.le_refl _) (Nat.le_refl _)).mono ?_; rintro e w9 ⟨rfl, hb2⟩)
    refine hK.out _ _ (hHeld.trans (hb2.mono hHeld.size)) (fun hHeld => ?_)
    clear hK K hb2
    refine wpAnyH_takeD (i := 4) (d := 45) (v := ?_) rfl (by kernel_rfl) (by kernel_rfl) (by kernel_rfl) (fun _ _ _ h => h) (by rfl) ?_ hHeld ?_
    rotate_left
    · intro wS hS
      have eF := HF.out wS hS
      go_simp
      try with_reducible rfl
    simp only [Act.put, List.setIfInBounds_toArray, List.set_cons_zero, List.set_cons_succ]
    refine wpAnyH_done (by kernel_rfl) ?_ _
    have s9 := hHeld.size
    have B9 := below_of B7 hHeld B7.size
    have hg9 := hg7.below hHeld
    have hw9 := hw7.below hHeld
    have hx9 := hx7.below hHeld
    obtain ⟨x0, x1, x2, x3, x4⟩ := HX7.out _ hHeld
    clear hg7 hw7 hx7 HF HX7 HS7 ho8
    go_wp2_with fail
    refine (markWorks_any _ n0 n0 g4 (g4 + 1) 1 f0 I0 H0 S0 P0 w9 hx9 hbig (Nat.le_refl _) (by omega) (by omega)).mono ?_
    rintro e wa ⟨rfl, _, hra⟩
    have sa := hra.size
    have hga := hg9.fr hra (by omega)
    have hwa := hw9.fr hra (by omega)
    have Ba : Below (w.alloc (.cells #[.slice A0 n0 c0, .int .i64 I0, .int .i64 H0, .int .i64 S0, .int .i64 P0] 24)).heap.size (w.alloc (.cells #[.slice A0 n0 c0, .int .i64 I0, .int .i64 H0, .int .i64 S0, .int .i64 P0] 24)) wa := B9.trans (hra.below (by have := B7.size; omega) (by have := B7.size; omega))
    clear x0 x1 x2 x3 x4 hx9 hg9 hw9 hra B9 hHeld
    go_wp2_with fail
    refine (eqIntS_same _ _ _ _ _ _ _ _ _ _ wa hga.sl hwa.sl (by exact hlen) hcg hcw).mono ?_
    rintro e wb ⟨rfl, hbb⟩
    have sb := hbb.size
    have Bb := below_of Ba hbb Ba.size
    have hgb := hga.below hbb
    have hwb := hwa.below hbb
    clear hga hwa hbb Ba
    go_wp2_with fail
    refine (markIntS_any _ _ _ _ _ 1 _ wb hgb (by exact hlen) hcg (by omega) (by omega)).mono ?_
    rintro e wc ⟨rfl, hgc, hrc⟩
    have sc := hrc.size
    have hwc := hwb.fr hrc (by omega)
    have Bc : Below (w.alloc (.cells #[.slice A0 n0 c0, .int .i64 I0, .int .i64 H0, .int .i64 S0, .int .i64 P0] 24)).heap.size (w.alloc (.cells #[.slice A0 n0 c0, .int .i64 I0, .int .i64 H0, .int .i64 S0, .int .i64 P0] 24)) wc := Bb.trans (hrc.below (by have := B7.size; omega) (by have := Bb.size; omega))
    clear hgb hwb hrc Bb
    go_wp2_with fail
    refine (heldIntS_any _ _ _ _ _ 1 wc hgc.sl (by exact hlen) hcg (by omega) (by omega)).mono ?_
    rintro e wd ⟨rfl, rfl⟩
    obtain ⟨b0, b1, b2, b3, b4⟩ := HB.out _ Bc
    go_wp2_with fail
    refine (toWorks_any A0 n0 c0 0 w.heap.size f0 I0 H0 S0 P0 wc (HS.out.below Bc) hbig hnc0).mono ?_
    rintro e wd ⟨gd, rfl, ld, kd, hod, hbd⟩
    clear b0 b1 b2 b3 b4
    have sd := hbd.size
    have Bd := below_of Bc hbd Bc.size
    have hgd := hgc.below hbd
    have hwd := hwc.below hbd
    clear hgc hwc hbd Bc
    go_wp2_with fail
    refine (MayRake_any _ n0 n0 _ _ f0 I0 H0 S0 P0 wd hod.sl hbig (Nat.le_refl _)).mono ?_
    rintro e we ⟨Ah, ch, rfl, hch, hchm, hhe, hbe⟩
    have se := hbe.size
    have Be := below_of Bd hbe Bd.size
    have hge := hgd.below hbe
    have hwe := hwd.below hbe
    clear hgd hwd hod Bd hbe
    go_wp2_with fail
    refine (eqIntS_same _ _ _ _ _ _ _ _ _ _ we hhe.sl hwe.sl (by exact hlen) hch hcw).mono ?_
    rintro e wf ⟨rfl, hbf⟩
    have Bf := below_of Be hbf Be.size
    have hgf := hge.below hbf
    clear hge hwe hhe Be hbf
    go_wp2_with fail
    refine (heldIntS_any _ _ _ _ _ 1 wf hgf.sl (by exact hlen) hcg (by omega) (by omega)).mono ?_
    rintro e wg ⟨rfl, rfl⟩
    clear hgf
    go_wp2
    go_ret
    exact ⟨rfl, BX.trans (Bf.mono (by simp))⟩
  · go_enter Try.func7, Try.ntmps7
    go_wp2_with fail
    refine (szWorks_big A0 n0 c0 I0 H0 S0 P0 1048576 _ hm0 (by omega) (by omega) (by omega)).mono ?_
    rintro e w1 ⟨rfl, B1⟩
    go_wp2
    go_ret
    exact ⟨rfl, BX.trans (B1.mono (by simp))⟩
end Go.Proofs.Ytgocfmgofmkfgaa
