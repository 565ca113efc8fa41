/-
  The walks of the laws FnExactIsCropRow and FnExactAreCropRows.
-/
import Derived.Test.YtmllpjgoeajmnaaCropA
import Derived.Test.YtmllpjgoeajmnaaFlatCropRow
namespace Go.Proofs.Ytmllpjgoeajmnaa
open Go.RowKit
theorem FnExactIsCropRow_walk (f0 : Nat → Int) (w : World) (hf0 : ∀ j, j < 5 → I64 (f0 j)) :
    Calls Try.prog 3 #[.agg #[.int .i64 (f0 0), .int .i64 (f0 1), .int .i64 (f0 2), .int .i64 (f0 3), .int .i64 (f0 4)]] w fun e w' => e = .returned (.bool true) ∧ Below w.heap.size w w' := by
  generalize f0 0 = y
  generalize f0 1 = d
  generalize f0 2 = t
  generalize f0 3 = l
  generalize f0 4 = p
  clear hf0
  go_enter Try.func3, Try.ntmps3
  go_wp2_with fail
  refine (toCropRow_any y d t l p _).mono ?_
  rintro e w1 ⟨rfl, hb1⟩
  have B1 : Below w.heap.size w w1 := ((Below.refl _ w).alloc (Nat.le_refl _) _).trans (hb1.mono (by simp))
  have e0 : ∀ j : Nat, w1.cell? ⟨w.heap.size, j, none⟩ = (w.alloc (.cells #[.int .i64 y, .int .i64 d, .int .i64 t, .int .i64 l, .int .i64 p] 23)).cell? ⟨w.heap.size, j, none⟩ := fun j => hb1.cell (p := ⟨w.heap.size, j, none⟩) (by simp)
  have c0 : w1.cell? ⟨w.heap.size, 0, none⟩ = some (.int .i64 y) := (e0 0).trans (by simp)
  have c1 : w1.cell? ⟨w.heap.size, 1, none⟩ = some (.int .i64 d) := (e0 1).trans (by simp)
  have c2 : w1.cell? ⟨w.heap.size, 2, none⟩ = some (.int .i64 t) := (e0 2).trans (by simp)
  have c3 : w1.cell? ⟨w.heap.size, 3, none⟩ = some (.int .i64 l) := (e0 3).trans (by simp)
  have c4 : w1.cell? ⟨w.heap.size, 4, none⟩ = some (.int .i64 p) := (e0 4).trans (by simp)
  clear e0
  go_wp2_with fail
  refine (sIsCropRow_any y d t l p w1).mono ?_
  rintro e w2 ⟨rfl, hb2⟩
  have hz : w.heap.size < w1.heap.size := by have := hb1.size; simp at this; omega
  have q0 := (hb2.cell (p := ⟨w.heap.size, 0, none⟩) hz).trans c0
  have q1 := (hb2.cell (p := ⟨w.heap.size, 1, none⟩) hz).trans c1
  have q2 := (hb2.cell (p := ⟨w.heap.size, 2, none⟩) hz).trans c2
  have q3 := (hb2.cell (p := ⟨w.heap.size, 3, none⟩) hz).trans c3
  have q4 := (hb2.cell (p := ⟨w.heap.size, 4, none⟩) hz).trans c4
  clear c0 c1 c2 c3 c4
  go_wp2_with fail
  refine (toCropRow_any y d t l p w2).mono ?_
  rintro e w3 ⟨rfl, hb3⟩
  go_wp2_with fail
  refine (IsCropRow_any y d t l p w3).mono ?_
  rintro e w4 ⟨rfl, hb4⟩
  have hB : Below w.heap.size w w4 := below_of (below_of (below_of B1 hb2 (by omega)) hb3 (by have := hb2.size; omega)) hb4 (by have := hb2.size; have := hb3.size; omega)
  clear hb1 hb2 hb3 hb4 B1 hz
  go_wp2
  go_ret
  exact ⟨rfl, hB⟩
theorem FnExactAreCropRows_walk (A0 : Option Addr) (n0 c0 : Nat) (f0 : Nat → Int) (w : World) (hnc0 : n0 ≤ c0) (hcm0 : c0 ≤ maxLen) (hs0 : Sl w 0 w.heap.size 5 A0 n0 f0) (hf0 : ∀ j, j < n0 * 5 → I64 (f0 j)) :
    Calls Try.prog 4 #[.slice A0 n0 c0] w fun e w' => e = .returned (.bool true) ∧ Below w.heap.size w w' := by
  clear hf0
  have hm0 : (n0 : Int) ≤ 9223372036854775807 := by unfold maxLen at hcm0; omega
  have HS : Hid (Sl w 0 w.heap.size 5 A0 n0 f0) := hs0
  clear hs0 hcm0
  by_cases hbig : n0 ≤ 1048576
  · go_enter Try.func4, Try.ntmps4
    go_wp2_with fail
    refine (szCropRowS_ok A0 n0 c0 1048576 w (by omega) (by omega) (by omega)).mono ?_
    rintro e w1 ⟨rfl, rfl⟩
    go_wp2_with fail
    refine (toCropRowS_any A0 n0 c0 0 w.heap.size f0 w HS.out hbig hnc0).mono ?_
    rintro e w1 ⟨rfl, ho1, hb1⟩
    go_wp2_with fail
    refine (sAreCropRows_any _ n0 n0 _ _ f0 w1 ho1.sl hbig (Nat.le_refl _)).mono ?_
    rintro e w2 ⟨rfl, hb2⟩
    have B2 : Below w.heap.size w w2 := below_of hb1 hb2 hb1.size
    have hs2 := HS.out.below B2
    go_wp2_with fail
    refine (toCropRowS_any A0 n0 c0 0 w.heap.size f0 w2 hs2 hbig hnc0).mono ?_
    rintro e w3 ⟨rfl, ho3, hb3⟩
    go_wp2_with fail
    refine (AreCropRows_any _ n0 n0 _ _ f0 w3 ho3.sl hbig (Nat.le_refl _)).mono ?_
    rintro e w4 ⟨rfl, hb4⟩
    have B4 : Below w.heap.size w w4 := below_of (below_of B2 hb3 B2.size) hb4 (by have := B2.size; have := hb3.size; omega)
    have ho4 := ho3.below hb4
    have hs4 := HS.out.below B4
    clear ho1 ho3 hb1 hb2 hb3 hb4 B2 hs2
    go_wp2_with fail
    refine (toCropRowS_any A0 n0 c0 0 w.heap.size f0 w4 hs4 hbig hnc0).mono ?_
    rintro e w5 ⟨rfl, ho5, hb5⟩
    go_wp2_with fail
    refine (eqCropRowS_same _ _ n0 n0 n0 _ _ _ _ f0 w5 (ho4.below hb5).sl ho5.sl hbig (Nat.le_refl _) (Nat.le_refl _)).mono ?_
    rintro e w6 ⟨rfl, hb6⟩
    go_wp2
    go_ret
    exact ⟨rfl, below_of (below_of B4 hb5 B4.size) hb6 (by have := B4.size; have := hb5.size; omega)⟩
  · go_enter Try.func4, Try.ntmps4
    go_wp2_with fail
    refine (szCropRowS_big A0 n0 c0 1048576 w hm0 (by omega) (by omega) (by omega)).mono ?_
    rintro e w1 ⟨rfl, rfl⟩
    go_wp2
    go_ret
    exact ⟨rfl, Below.refl _ _⟩
end Go.Proofs.Ytmllpjgoeajmnaa
