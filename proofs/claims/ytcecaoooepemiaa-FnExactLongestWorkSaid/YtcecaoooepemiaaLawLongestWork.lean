/-
  The walk of the law FnExactLongestWork.
-/
import Derived.Test.YtcecaoooepemiaaNestH
import Derived.Test.YtcecaoooepemiaaFlatNest
namespace Go.Proofs.Ytcecaoooepemiaa
open Go.RowKit
set_option linter.unusedVariables false
set_option linter.unusedSimpArgs false
set_option maxHeartbeats 1000000 in
theorem FnExactLongestWork_walk (A0 : Option Addr) (n0 c0 : Nat) (f0 : Nat → Int) (z1 : Int) (z2 : Int) (z3 : Int) (w : World) (hnc0 : n0 ≤ c0) (hcm0 : c0 ≤ maxLen) (hs0 : Sl w 0 w.heap.size 7 A0 n0 f0) (hf0 : ∀ j, j < n0 * 7 → I64 (f0 j)) (hz1 : I64 z1) (hz2 : I64 z2) (hz3 : I64 z3) :
    Calls Try.prog 6 #[.slice A0 n0 c0, .int .i64 z1, .int .i64 z2, .int .i64 z3] w fun e w' => e = .returned (.bool true) ∧ Below w.heap.size w w' := by
  clear hf0
  have hm0 : (n0 : Int) ≤ 9223372036854775807 := by unfold maxLen at hcm0; omega
  have HS : Hid (Sl w 0 w.heap.size 7 A0 n0 f0) := hs0
  clear hs0 hcm0
  obtain ⟨hza1, hzb1⟩ := hz1
  obtain ⟨hza2, hzb2⟩ := hz2
  obtain ⟨hza3, hzb3⟩ := hz3
  by_cases hbig : n0 ≤ 1048576
  · cases hsp : spanOk f0 n0 z1 z2 z3 with
    | true =>
      go_enter Try.func6, Try.ntmps6
      go_wp2_with fail
      refine (szNestS_ok A0 n0 c0 1048576 w (by omega) (by omega) (by omega)).mono ?_
      rintro e w1 ⟨rfl, rfl⟩
      go_wp2_with fail
      refine (toNestS_any A0 n0 c0 0 w.heap.size f0 w HS.out hbig hnc0).mono ?_
      rintro e w1 ⟨rfl, ho1, hb1⟩
      go_wp2_with fail
      refine (sLongestWork_yes _ n0 n0 _ _ f0 z1 z2 z3 w1 ho1.sl hbig (Nat.le_refl _) hsp).mono ?_
      rintro e w2 ⟨rfl, hb2⟩
      have B2 : Below w.heap.size w w2 := below_of hb1 hb2 hb1.size
      have s2 := B2.size
      have hs2 := HS.out.below B2
      clear ho1 hb1 hb2
      go_wp2_with fail
      refine (toNestS_any A0 n0 c0 0 w.heap.size f0 w2 hs2 hbig hnc0).mono ?_
      rintro e w3 ⟨rfl, ho3, hb3⟩
      go_wp2_with fail
      refine (LongestWork_yes _ n0 n0 _ _ f0 z1 z2 z3 w3 ho3.sl hbig (Nat.le_refl _) hsp).mono ?_
      rintro e w4 ⟨rfl, hb4⟩
      have s3 := hb3.size
      have s3x := ho3.hi_le
      have s4 := hb4.size
      have B4 : Below w.heap.size w w4 := below_of (below_of B2 hb3 s2) hb4 (by omega)
      have hx4 := ho3.below hb4
      have hs4 := HS.out.below B4
      clear ho3 hb3 hb4 B2 hs2
      go_wp2_with fail
      refine (toNestS_any A0 n0 c0 0 w.heap.size f0 w4 hs4 hbig hnc0).mono ?_
      rintro e w5 ⟨rfl, ho5, hb5⟩
      go_wp2_with fail
      refine (eqNestS_same _ _ n0 n0 n0 _ _ _ _ f0 w5 (hx4.below hb5).sl ho5.sl hbig (Nat.le_refl _) (Nat.le_refl _)).mono ?_
      rintro e w6 ⟨rfl, hb6⟩
      go_wp2
      go_ret
      exact ⟨rfl, below_of (below_of B4 hb5 B4.size) hb6 (by have := hb5.size; omega)⟩
    | false =>
      go_enter Try.func6, Try.ntmps6
      go_wp2_with fail
      refine (szNestS_ok A0 n0 c0 1048576 w (by omega) (by omega) (by omega)).mono ?_
      rintro e w1 ⟨rfl, rfl⟩
      go_wp2_with fail
      refine (toNestS_any A0 n0 c0 0 w.heap.size f0 w HS.out hbig hnc0).mono ?_
      rintro e w1 ⟨rfl, ho1, hb1⟩
      go_wp2_with fail
      refine (sLongestWork_no _ n0 n0 _ _ f0 z1 z2 z3 w1 ho1.sl hbig (Nat.le_refl _) hsp).mono ?_
      rintro e w2 ⟨rfl, hb2⟩
      have B2 : Below w.heap.size w w2 := below_of hb1 hb2 hb1.size
      have s2 := B2.size
      have hs2 := HS.out.below B2
      clear ho1 hb1 hb2
      go_wp2_with fail
      refine (toNestS_any A0 n0 c0 0 w.heap.size f0 w2 hs2 hbig hnc0).mono ?_
      rintro e w3 ⟨rfl, ho3, hb3⟩
      go_wp2_with fail
      refine (LongestWork_no _ n0 n0 _ _ f0 z1 z2 z3 w3 ho3.sl hbig (Nat.le_refl _) hsp).mono ?_
      rintro e w4 ⟨rfl, hb4⟩
      have s3 := hb3.size
      have s3x := ho3.hi_le
      have s4 := hb4.size
      have B4 : Below w.heap.size w w4 := below_of (below_of B2 hb3 s2) hb4 (by omega)
      have hx4 := ho3.below hb4
      have hs4 := HS.out.below B4
      clear ho3 hb3 hb4 B2 hs2
      go_wp2_with fail
      refine (toNestS_any A0 n0 c0 0 w.heap.size f0 w4 hs4 hbig hnc0).mono ?_
      rintro e w5 ⟨rfl, ho5, hb5⟩
      go_wp2_with fail
      refine (eqNestS_same _ _ n0 n0 n0 _ _ _ _ f0 w5 (hx4.below hb5).sl ho5.sl hbig (Nat.le_refl _) (Nat.le_refl _)).mono ?_
      rintro e w6 ⟨rfl, hb6⟩
      go_wp2
      go_ret
      exact ⟨rfl, below_of (below_of B4 hb5 B4.size) hb6 (by have := hb5.size; omega)⟩
  · go_enter Try.func6, Try.ntmps6
    go_wp2_with fail
    refine (szNestS_big A0 n0 c0 1048576 w hm0 (by omega) (by omega) (by omega)).mono ?_
    rintro e w1 ⟨rfl, rfl⟩
    go_wp2
    go_ret
    exact ⟨rfl, Below.refl _ _⟩
end Go.Proofs.Ytcecaoooepemiaa
