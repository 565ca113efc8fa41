/-
  The walk of the law FnExactCropReport.
-/
import Derived.Test.YtmllpjgoeajmnaaDoorLineB
import Derived.Test.YtmllpjgoeajmnaaDoorFlatCropRow
namespace Go.Proofs.YtmllpjgoeajmnaaDoor
open Go.RowKit
set_option linter.unusedVariables false
set_option linter.unusedSimpArgs false
set_option maxHeartbeats 1000000 in
theorem FnExactCropReport_walk (A0 : Option Addr) (n0 c0 : Nat) (f0 : Nat → Int) (w : World) (hnc0 : n0 ≤ c0) (hcm0 : c0 ≤ maxLen) (hs0 : Sl w 0 w.heap.size 5 A0 n0 f0) (hf0 : ∀ j, j < n0 * 5 → I64 (f0 j)) (ht : Tab w) :
    Calls Tryd.prog 4 #[.slice A0 n0 c0] w fun e w' => e = .returned (.bool true) ∧ Below w.heap.size w w' := by
  clear hf0
  have hm0 : (n0 : Int) ≤ 9223372036854775807 := by unfold maxLen at hcm0; omega
  have HS : Hid (Sl w 0 w.heap.size 5 A0 n0 f0) := hs0
  clear hs0 hcm0
  by_cases hbig : n0 ≤ 1048576
  · have HS0 := fun A lo hi W hs => sCropReport_any A n0 n0 lo hi f0 W hs hbig (Nat.le_refl _)
    have HI0 := fun A lo hi W hs ht => CropReport_any A n0 n0 lo hi f0 W hs hbig (Nat.le_refl _) ht
    generalize repR f0 n0 = R at HS0 HI0
    generalize goodRows f0 n0 = b at HS0 HI0
    have HSS := Lib.hid HS0
    have HII := Lib.hid HI0
    clear HS0 HI0
    go_enter Tryd.func4, Tryd.ntmps4
    go_wp2_with fail
    refine (szCropRowS_ok A0 n0 c0 1048576 w (by omega) (by omega) (by omega)).mono ?_
    rintro e w1 ⟨rfl, rfl⟩
    go_wp2_with fail
    refine (toCropRowS_any A0 n0 c0 0 w.heap.size f0 w HS.out hbig hnc0).mono ?_
    rintro e w1 ⟨rfl, ho1, hb1⟩
    go_wp2_with fail
    refine (HSS.out _ _ _ w1 ho1.sl).mono ?_
    rintro e w2 ⟨rfl, hb2⟩
    have B2 : Below w.heap.size w w2 := below_of hb1 hb2 hb1.size
    have s2 := B2.size
    have hs2 := HS.out.below B2
    clear ho1 hb1 hb2
    go_wp2_with fail
    refine (toCropRowS_any A0 n0 c0 0 w.heap.size f0 w2 hs2 hbig hnc0).mono ?_
    rintro e w3 ⟨rfl, ho3, hb3⟩
    go_wp2_with fail
    refine (HII.out _ _ _ w3 ho3.sl (ht.below (below_of B2 hb3 s2))).mono ?_
    rintro e w4 ⟨rfl, hb4⟩
    have s3 := hb3.size
    have s3x := ho3.hi_le
    have s4 := hb4.size
    have B4 : Below w.heap.size w w4 := below_of (below_of B2 hb3 s2) hb4 (by omega)
    have hx4 := ho3.below hb4
    have hs4 := HS.out.below B4
    clear ho3 hb3 hb4 B2 hs2
    go_wp2_with fail
    refine (toCropRowS_any A0 n0 c0 0 w.heap.size f0 w4 hs4 hbig hnc0).mono ?_
    rintro e w5 ⟨rfl, ho5, hb5⟩
    go_wp2_with fail
    refine (eqCropRowS_same _ _ n0 n0 n0 _ _ _ _ f0 w5 (hx4.below hb5).sl ho5.sl hbig (Nat.le_refl _) (Nat.le_refl _)).mono ?_
    rintro e w6 ⟨rfl, hb6⟩
    go_wp2
    go_ret
    exact ⟨rfl, below_of (below_of B4 hb5 B4.size) hb6 (by have := hb5.size; omega)⟩
  · go_enter Tryd.func4, Tryd.ntmps4
    go_wp2_with fail
    refine (szCropRowS_big A0 n0 c0 1048576 w hm0 (by omega) (by omega) (by omega)).mono ?_
    rintro e w1 ⟨rfl, rfl⟩
    go_wp2
    go_ret
    exact ⟨rfl, Below.refl _ _⟩
end Go.Proofs.YtmllpjgoeajmnaaDoor

