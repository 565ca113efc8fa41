/-
  The walk of the law FnExactPathPast.
-/
import Derived.Test.YtcecaoooepemiaaNestN
import Derived.Test.YtcecaoooepemiaaFlatNest
import Derived.Test.YtcecaoooepemiaaFlatInt
namespace Go.Proofs.Ytcecaoooepemiaa
open Go.RowKit
set_option linter.unusedVariables false
set_option linter.unusedSimpArgs false
set_option maxHeartbeats 1000000 in
theorem FnExactPathPast_walk (A0 : Option Addr) (n0 c0 : Nat) (f0 : Nat → Int) (z1 : Int) (z2 : Int) (w : World) (hnc0 : n0 ≤ c0) (hcm0 : c0 ≤ maxLen) (hs0 : Sl w 0 w.heap.size 7 A0 n0 f0) (hf0 : ∀ j, j < n0 * 7 → I64 (f0 j)) (hz1 : I64 z1) (hz2 : I64 z2) :
    Calls Try.prog 8 #[.slice A0 n0 c0, .int .i64 z1, .int .i64 z2] w fun e w' => e = .returned (.bool true) ∧ Below w.heap.size w w' := by
  clear hf0
  have hm0 : (n0 : Int) ≤ 9223372036854775807 := by unfold maxLen at hcm0; omega
  have HS : Hid (Sl w 0 w.heap.size 7 A0 n0 f0) := hs0
  clear hs0 hcm0
  obtain ⟨hza1, hzb1⟩ := hz1
  obtain ⟨hza2, hzb2⟩ := hz2
  by_cases hbig : n0 ≤ 1048576
  · have hlen : (pastRes f0 n0 z1 z2).length ≤ 1048576 := Nat.le_trans (pastRes_len f0 n0 z1 z2) hbig
    go_enter Try.func8, Try.ntmps8
    go_wp2_with fail
    refine (szNestS_ok A0 n0 c0 1048576 w (by omega) (by omega) (by omega)).mono ?_
    rintro e w1 ⟨rfl, rfl⟩
    go_wp2_with fail
    refine (toNestS_any A0 n0 c0 0 w.heap.size f0 w HS.out hbig hnc0).mono ?_
    rintro e w1 ⟨rfl, ho1, hb1⟩
    go_wp2_with fail
    refine (sPathPast_any _ n0 n0 _ _ f0 z1 z2 w1 ho1.sl hbig (Nat.le_refl _)).mono ?_
    rintro e w2 ⟨Aw, cw, rfl, hcw, hcwm, hw2, hb2⟩
    have B2 : Below w.heap.size w w2 := below_of hb1 hb2 hb1.size
    have s2 := B2.size
    have hs2 := HS.out.below B2
    clear ho1 hb1 hb2
    go_wp2_with fail
    refine (toNestS_any A0 n0 c0 0 w.heap.size f0 w2 hs2 hbig hnc0).mono ?_
    rintro e w3 ⟨rfl, ho3, hb3⟩
    go_wp2_with fail
    refine (PathPast_any _ n0 n0 _ _ f0 z1 z2 w3 ho3.sl hbig (Nat.le_refl _)).mono ?_
    rintro e w4 ⟨Ag, cg, rfl, hcg, hcgm, hg4, hb4⟩
    have s3 := hb3.size
    have s3x := ho3.hi_le
    have s4 := hb4.size
    have B4 : Below w.heap.size w w4 := below_of (below_of B2 hb3 s2) hb4 (by omega)
    have hx4 := ho3.below hb4
    have hs4 := HS.out.below B4
    have hw4 := (hw2.below hb3).below hb4
    clear ho3 hb3 hb4 B2 hs2 hw2
    go_wp2_with fail
    refine (eqIntS_same _ _ _ _ _ _ _ _ _ _ w4 hg4.sl hw4.sl (by exact hlen) hcg hcw).mono ?_
    rintro e w5 ⟨rfl, hb5⟩
    have B5 := below_of B4 hb5 B4.size
    have s5 := hb5.size
    have hx5 := hx4.below hb5
    have hg5 := hg4.below hb5
    have hw5 := hw4.below hb5
    have hs5 := HS.out.below B5
    clear hx4 hg4 hw4 hs4 B4 hb5
    go_wp2_with fail
    refine (toNestS_any A0 n0 c0 0 w.heap.size f0 w5 hs5 hbig hnc0).mono ?_
    rintro e w6 ⟨rfl, ho6, hb6⟩
    have B6 := below_of B5 hb6 (by omega)
    have s6 := hb6.size
    have hx6 := hx5.below hb6
    have hg6 := hg5.below hb6
    have hw6 := hw5.below hb6
    clear hx5 hg5 hw5 hs5 B5 hb6
    go_wp2_with fail
    refine (eqNestS_same _ _ n0 n0 n0 _ _ _ _ f0 w6 hx6.sl ho6.sl hbig (Nat.le_refl _) (Nat.le_refl _)).mono ?_
    rintro e w7 ⟨rfl, hb7⟩
    have B7 := below_of B6 hb7 (by omega)
    have s7 := hb7.size
    have hx7 := hx6.below hb7
    have hg7 := hg6.below hb7
    have hw7 := hw6.below hb7
    clear hx6 hg6 hw6 ho6 B6 hb7
    go_wp2_with fail
    refine (markNestS_any _ n0 n0 _ _ 1 f0 w7 hx7 hbig (Nat.le_refl _) (by omega) (by omega)).mono ?_
    rintro e w8 ⟨rfl, _, hr8⟩
    have s8 := hr8.size
    have B8 : Below w.heap.size w w8 := B7.trans (hr8.below (by omega) (by omega))
    have hg8 := hg7.fr hr8 (by omega)
    have hw8 := hw7.fr hr8 (by omega)
    clear hx7 hg7 hw7 hr8 B7
    go_wp2_with fail
    refine (eqIntS_same _ _ _ _ _ _ _ _ _ _ w8 hg8.sl hw8.sl (by exact hlen) hcg hcw).mono ?_
    rintro e w9 ⟨rfl, hb9⟩
    have B9 := below_of B8 hb9 (by omega)
    have s9 := hb9.size
    have hg9 := hg8.below hb9
    have hw9 := hw8.below hb9
    clear hg8 hw8 B8 hb9
    go_wp2_with fail
    refine (markIntS_any _ _ _ _ _ 1 _ w9 hg9 (by exact hlen) hcg (by omega) (by omega)).mono ?_
    rintro e w10 ⟨rfl, hg10, hr10⟩
    have s10 := hr10.size
    have B10 : Below w.heap.size w w10 := B9.trans (hr10.below (by omega) (by omega))
    have hw10 := hw9.fr hr10 (by omega)
    have hs10 := HS.out.below B10
    clear hg9 hw9 hr10 B9
    go_wp2_with fail
    refine (heldIntS_any _ _ _ _ _ 1 w10 hg10.sl (by exact hlen) hcg (by omega) (by omega)).mono ?_
    rintro e w11 ⟨rfl, rfl⟩
    go_wp2_with fail
    refine (toNestS_any A0 n0 c0 0 w.heap.size f0 w10 hs10 hbig hnc0).mono ?_
    rintro e w11 ⟨rfl, ho11, hb11⟩
    have B11 := below_of B10 hb11 (by omega)
    have s11 := hb11.size
    have hg11 := hg10.below hb11
    have hw11 := hw10.below hb11
    clear hg10 hw10 hs10 B10 hb11
    go_wp2_with fail
    refine (PathPast_any _ n0 n0 _ _ f0 z1 z2 w11 ho11.sl hbig (Nat.le_refl _)).mono ?_
    rintro e w12 ⟨Ah, ch, rfl, hch, hchm, hh12, hb12⟩
    have B12 := below_of B11 hb12 (by omega)
    have s12 := hb12.size
    have hg12 := hg11.below hb12
    have hw12 := hw11.below hb12
    clear hg11 hw11 ho11 B11 hb12
    go_wp2_with fail
    refine (eqIntS_same _ _ _ _ _ _ _ _ _ _ w12 hh12.sl hw12.sl (by exact hlen) hch hcw).mono ?_
    rintro e w13 ⟨rfl, hb13⟩
    have B13 := below_of B12 hb13 (by omega)
    have hg13 := hg12.below hb13
    clear hg12 hw12 hh12 B12 hb13
    go_wp2_with fail
    refine (heldIntS_any _ _ _ _ _ 1 w13 hg13.sl (by exact hlen) hcg (by omega) (by omega)).mono ?_
    rintro e w14 ⟨rfl, rfl⟩
    clear hg13
    go_wp2
    go_ret
    exact ⟨rfl, B13⟩
  · go_enter Try.func8, Try.ntmps8
    go_wp2_with fail
    refine (szNestS_big A0 n0 c0 1048576 w hm0 (by omega) (by omega) (by omega)).mono ?_
    rintro e w1 ⟨rfl, rfl⟩
    go_wp2
    go_ret
    exact ⟨rfl, Below.refl _ _⟩
end Go.Proofs.Ytcecaoooepemiaa
