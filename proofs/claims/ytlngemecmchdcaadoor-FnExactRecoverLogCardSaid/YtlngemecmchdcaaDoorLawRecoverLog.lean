/-
  The walk of the law FnExactRecoverLog.
-/
import Derived.Test.YtlngemecmchdcaaDoorLogG
import Derived.Test.YtlngemecmchdcaaDoorMemS
namespace Go.Proofs.YtlngemecmchdcaaDoor
open Go.RowKit
set_option linter.unusedVariables false
set_option linter.unusedSimpArgs false
set_option maxHeartbeats 1000000 in
theorem FnExactRecoverLog_walk (s0 : ByteArray) (w : World) (hs0 : s0.size ≤ maxLen) (ht : Tab w) (hm : Mx w) :
    Calls Tryd.prog 4 #[.string s0] w fun e w' => e = .returned (.bool true) ∧ Below w.heap.size w w' := by
  have hc : (s0.size : Int) ≤ 9223372036854775807 := by unfold maxLen at hs0; omega
  clear hs0
  by_cases hbig : 1048576 < (s0.size : Int)
  · go_enter Tryd.func4, Tryd.ntmps4
    go_wp2
    go_ret
    exact ⟨rfl, Below.refl _ _⟩
  · have hn : s0.size ≤ 4000000 := by omega
    have HS := Lib.hid (fun W => sRecoverLog_any s0 hn W)
    have HI := Lib.hid (fun W hT hM => RecoverLog_any s0 hn W hT hM)
    generalize recD s0 = D at HS HI
    generalize recC s0 = c at HS HI
    generalize recR s0 = r at HS HI
    generalize recOk s0 = b at HS HI
    go_enter Tryd.func4, Tryd.ntmps4
    go_wp2_with fail
    refine (HS.out w).mono ?_
    rintro e w1 ⟨rfl, hb1⟩
    have AL1 := (Below.refl _ w1).alloc (Nat.le_refl _) (.cells #[.string D, .string ⟨#[]⟩, .int .i64 c] 31)
    have B2 := below_of hb1 AL1 hb1.size
    have h4 := heap_alloc_new w1 (.cells #[.string D, .string ⟨#[]⟩, .int .i64 c] 31)
    have hs1 := hb1.size
    go_wp2_with fail
    refine (HI.out _ (ht.below B2) (hm.below B2)).mono ?_
    rintro e w3 ⟨rfl, hb3⟩
    have B3 := below_of B2 hb3 B2.size
    obtain ⟨q0, q1, q2, _, _, _⟩ := row3 (zero_row3 (w := w) h4 hb3)
    have hlt : w1.heap.size < w3.heap.size := Nat.lt_of_lt_of_le (by simp) hb3.size
    clear h4 AL1 hb3 hb1 HS HI
    go_wp2_with fail
    refine (eqLog_same _ _ _ _).mono ?_
    rintro e w5 ⟨rfl, hb5⟩
    go_wp2
    go_ret
    exact ⟨rfl, below_of (B3.alloc B3.size _) hb5 (Below.size (B3.alloc B3.size _))⟩
end Go.Proofs.YtlngemecmchdcaaDoor
