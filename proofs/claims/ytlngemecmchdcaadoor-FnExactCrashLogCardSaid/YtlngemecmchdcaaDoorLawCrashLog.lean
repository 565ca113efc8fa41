/-
  The walk of the law FnExactCrashLog.
-/
import Derived.Test.YtlngemecmchdcaaDoorLogJ
import Derived.Test.YtlngemecmchdcaaDoorMemS
namespace Go.Proofs.YtlngemecmchdcaaDoor
open Go.RowKit
set_option linter.unusedVariables false
set_option linter.unusedSimpArgs false
set_option maxHeartbeats 1000000 in
theorem FnExactCrashLog_walk (s0 t0 : ByteArray) (z0 : Int) (z1 : Int) (b2 : Bool) (w : World) (hs0 : s0.size ≤ maxLen) (ht0 : t0.size ≤ maxLen) (hz0 : I64 z0) (hz1 : I64 z1) (ht : Tab w) (hm : Mx w) :
    Calls Tryd.prog 6 #[.agg #[.string s0, .string t0, .int .i64 z0], .int .i64 z1, .bool b2] w fun e w' => e = .returned (.bool true) ∧ Below w.heap.size w w' := by
  have hc : (s0.size : Int) ≤ 9223372036854775807 := by unfold maxLen at hs0; omega
  have hr : (t0.size : Int) ≤ 9223372036854775807 := by unfold maxLen at ht0; omega
  clear hs0 ht0
  have HAL : Below w.heap.size w (w.alloc (.cells #[.string s0, .string t0, .int .i64 z0] 36)) := (Below.refl _ w).alloc (Nat.le_refl _) _
  have hcell : ∀ j v, (#[Value.string s0, .string t0, .int .i64 z0] : Array Value)[j]? = some v → ∀ w', Below (w.alloc (.cells #[.string s0, .string t0, .int .i64 z0] 36)).heap.size (w.alloc (.cells #[.string s0, .string t0, .int .i64 z0] 36)) w' → w'.cell? ⟨w.heap.size, j, none⟩ = some v := by
    intro j v hv w' hb
    refine (hb.cell (p := ⟨w.heap.size, j, none⟩) (by simp)).trans ?_
    rw [cell_of_row _ w.heap.size j _ _ (0, 0) (heap_alloc_new w _)]
    exact hv
  have HC := Lib.hid hcell
  clear hcell
  by_cases hbig : 1048576 < (s0.size : Int) + (t0.size : Int)
  · go_enter Tryd.func6, Tryd.ntmps6
    go_wp2_with fail
    refine (szLog_big _ _ _ _ hc hr hbig).mono ?_
    rintro e w1 ⟨rfl, hb1⟩
    go_wp2
    go_ret
    exact ⟨rfl, HAL.trans (hb1.mono (by simp))⟩
  · have hD : s0.size ≤ 1048576 := by omega
    have hP : t0.size ≤ 1048576 := by omega
    have HS := Lib.hid (fun W => sCrashLog_any s0 t0 z0 z1 b2 hD hP W)
    have HI := Lib.hid (fun W hT hM => CrashLog_any s0 t0 z0 z1 b2 hD hP W hT hM)
    generalize crS s0 t0 z0 z1 b2 = d at HS HI
    generalize crT s0 t0 z0 z1 = b at HS HI
    have hn : 0 ≤ 1048576 - (s0.size : Int) - (t0.size : Int) := by omega
    have hn2 : ¬ (1048576 - (s0.size : Int) - (t0.size : Int) < 0) := by omega
    go_enter Tryd.func6, Tryd.ntmps6
    go_wp2_with fail
    refine (szLog_ok _ _ _ _ (by omega)).mono ?_
    rintro e w1 ⟨rfl, hb1⟩
    have q0 := HC.out 0 _ rfl w1 hb1
    have q1 := HC.out 1 _ rfl w1 hb1
    have q2 := HC.out 2 _ rfl w1 hb1
    go_wp2_with fail
    refine (toLog_any _ _ _ _).mono ?_
    rintro e w2 ⟨rfl, hb2'⟩
    have hb2 := hb1.trans (hb2'.mono hb1.size)
    clear hb2' q0 q1 q2
    go_wp2_with fail
    refine (HS.out _).mono ?_
    rintro e w3 ⟨rfl, hb3'⟩
    have hb3 := hb2.trans (hb3'.mono hb2.size)
    have q0 := HC.out 0 _ rfl w3 hb3
    have q1 := HC.out 1 _ rfl w3 hb3
    have q2 := HC.out 2 _ rfl w3 hb3
    clear hb3' hb1 hb2
    go_wp2_with fail
    refine (toLog_any _ _ _ _).mono ?_
    rintro e w4 ⟨rfl, hb4'⟩
    have hb4 := hb3.trans (hb4'.mono hb3.size)
    have B4 := HAL.trans (hb4.mono (by simp))
    go_wp2_with fail
    refine (HI.out _ (ht.below B4) (hm.below B4)).mono ?_
    rintro e w5 ⟨rfl, hb5'⟩
    have B5 := below_of B4 hb5' B4.size
    clear hb5' hb4' hb4 hb3 HC HAL HS HI q0 q1 q2
    go_wp2_with fail
    go_ret
    exact ⟨rfl, B5⟩
end Go.Proofs.YtlngemecmchdcaaDoor
