/-
  The walk of the law FnExactNestText.
-/
import Derived.Test.YtcecaoooepemiaaDoorNestT
import Derived.Test.YtcecaoooepemiaaDoorFlatNest
import Derived.Test.YtcecaoooepemiaaDoorOwn7
namespace Go.Proofs.YtcecaoooepemiaaDoor
open Go.RowKit
set_option linter.unusedVariables false
set_option linter.unusedSimpArgs false
set_option maxHeartbeats 1000000 in
theorem FnExactNestText_walk (f0 : Nat → Int) (w : World) (hf0 : ∀ j, j < 7 → I64 (f0 j)) (ht : Tab w) :
    Calls Tryd.prog 3 #[.agg #[.int .i64 (f0 0), .int .i64 (f0 1), .int .i64 (f0 2), .int .i64 (f0 3), .int .i64 (f0 4), .int .i64 (f0 5), .int .i64 (f0 6)]] w fun e w' => e = .returned (.bool true) ∧ Below w.heap.size w w' := by
  clear hf0
  have hK := own_new7 w 23 (f0 0) (f0 1) (f0 2) (f0 3) (f0 4) (f0 5) (f0 6) f0 rfl rfl rfl rfl rfl rfl rfl
  have HAL : Below w.heap.size w (w.alloc (.cells #[.int .i64 (f0 0), .int .i64 (f0 1), .int .i64 (f0 2), .int .i64 (f0 3), .int .i64 (f0 4), .int .i64 (f0 5), .int .i64 (f0 6)] 23)) := (Below.refl _ w).alloc (Nat.le_refl _) _
  have HK := Lib.hid hK
  clear hK
  go_enter Tryd.func3, Tryd.ntmps3
  go_wp2_with fail
  refine (toNest_any _ _ _ _ _ _ _ _).mono ?_
  rintro e w1 ⟨rfl, hb1⟩
  go_wp2_with fail
  refine (sNestText_any _ _ _ _ _ _ _ _).mono ?_
  rintro e w2 ⟨rfl, hb2⟩
  have hz1 := hb1.size
  have HB2 := HAL.trans ((hb1.trans (hb2.mono hz1)).mono (by simp))
  obtain ⟨q0, q1, q2, q3, q4, q5, q6, _, _⟩ := (HK.out.below (hb1.trans (hb2.mono hz1))).cells7
  clear hb1 hb2 HK
  generalize hR : (if okNest (f0 0) (f0 1) (f0 2) (f0 3) (f0 4) (f0 5) (f0 6) then nestText (f0 1) (f0 2) (f0 3) (f0 4) (f0 5) (f0 6) else ⟨#[]⟩) = R
  have HR := Lib.hid hR
  clear hR
  go_wp2_with fail
  refine (toNest_any _ _ _ _ _ _ _ _).mono ?_
  rintro e w3 ⟨rfl, hb3⟩
  have HB3 := below_of HB2 hb3 HB2.size
  go_wp2_with fail
  refine (NestText_any _ _ _ _ _ _ _ _ (ht.below HB3)).mono ?_
  rw [HR.out]
  rintro e w4 ⟨rfl, hb4⟩
  go_wp2
  go_ret
  exact ⟨rfl, below_of HB3 hb4 HB3.size⟩
end Go.Proofs.YtcecaoooepemiaaDoor
