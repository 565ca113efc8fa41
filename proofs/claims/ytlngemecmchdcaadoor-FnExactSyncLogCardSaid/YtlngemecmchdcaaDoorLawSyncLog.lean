/-
  The walk of the law FnExactSyncLog.
-/
import Derived.Test.YtlngemecmchdcaaDoorLogH
import Derived.Test.YtlngemecmchdcaaDoorMemS
namespace Go.Proofs.YtlngemecmchdcaaDoor
open Go.RowKit
set_option linter.unusedVariables false
set_option linter.unusedSimpArgs false
set_option maxHeartbeats 1000000 in
theorem FnExactSyncLog_walk (s0 t0 : ByteArray) (z0 : Int) (w : World) (hs0 : s0.size ≤ maxLen) (ht0 : t0.size ≤ maxLen) (hz0 : I64 z0) (ht : Tab w) (hm : Mx w) :
    Calls Tryd.prog 7 #[.agg #[.string s0, .string t0, .int .i64 z0]] w fun e w' => e = .returned (.bool true) ∧ Below w.heap.size w w' := by
  have hc : (s0.size : Int) ≤ 9223372036854775807 := by unfold maxLen at hs0; omega
  have hr : (t0.size : Int) ≤ 9223372036854775807 := by unfold maxLen at ht0; omega
  clear hs0 ht0
  have HAL : Below w.heap.size w (w.alloc (.cells #[.string s0, .string t0, .int .i64 z0] 36)) := (Below.refl _ w).alloc (Nat.le_refl _) _
  have hcell : ∀ j v, (#[Value.string s0, .string t0, .int .i64 z0] : Array Value)[j]? = some v → ∀ w', Below (w.alloc (.cells #[.string s0, .string t0, .int .i64 z0] 36)).heap.size (w.alloc (.cells #[.string s0, .string t0, .int .i64 z0] 36)) w' → w'.cell? ⟨w.heap.size, j, none⟩ = some v := by
    intro j v hv w' hb
    refine (hb.cell (p := ⟨w.heap.size, j, none⟩) (by simp)).trans ?_
    rw [cell_of_row _ w.heap.size j _ _ (0, 0) (heap_alloc_new w _)]
    exact hv
  have HC := Lib.hid hcell
  clear hcell
  by_cases hbig : 1048576 < (s0.size : Int) + (t0.size : Int)
  · go_enter Tryd.func7, Tryd.ntmps7
    go_wp2_with fail
    refine (szLog_big _ _ _ _ hc hr hbig).mono ?_
    rintro e w1 ⟨rfl, hb1⟩
    go_wp2
    go_ret
    exact ⟨rfl, HAL.trans (hb1.mono (by simp))⟩
  · have hD : s0.size ≤ 1048576 := by omega
    have hP : t0.size ≤ 1048576 := by omega
    have HS := Lib.hid (fun W => sSyncLog_any s0 t0 z0 hD hP W)
    have HI := Lib.hid (fun W hT hM => SyncLog_any s0 t0 z0 hD hP W hT hM)
    generalize (if logOk s0 t0 z0 = true then s0 ++ t0 else ⟨#[]⟩) = d at HS HI
    generalize (if logOk s0 t0 z0 = true then z0 else 0) = c at HS HI
    generalize logOk s0 t0 z0 = b at HS HI
    have hn : 0 ≤ 1048576 - (s0.size : Int) - (t0.size : Int) := by omega
    have hn2 : ¬ (1048576 - (s0.size : Int) - (t0.size : Int) < 0) := by omega
    go_enter Tryd.func7, Tryd.ntmps7
    go_wp2_with fail
    refine (szLog_ok _ _ _ _ (by omega)).mono ?_
    rintro e w1 ⟨rfl, hb1⟩
    have q0 := HC.out 0 _ rfl w1 hb1
    have q1 := HC.out 1 _ rfl w1 hb1
    have q2 := HC.out 2 _ rfl w1 hb1
    go_wp2_with fail
    refine (toLog_any _ _ _ _).mono ?_
    rintro e w2 ⟨rfl, hb2'⟩
    have hb2 := hb1.trans (hb2'.mono hb1.size)
    clear hb2' q0 q1 q2
    go_wp2_with fail
    refine (HS.out _).mono ?_
    rintro e w3 ⟨rfl, hb3'⟩
    have hb3 := hb2.trans (hb3'.mono hb2.size)
    have q0 := HC.out 0 _ rfl w3 hb3
    have q1 := HC.out 1 _ rfl w3 hb3
    have q2 := HC.out 2 _ rfl w3 hb3
    clear hb3' hb1 hb2
    have AL3 := (Below.refl _ w3).alloc (Nat.le_refl _) (.cells #[.string d, .string ⟨#[]⟩, .int .i64 c] 31)
    have h4 := heap_alloc_new w3 (.cells #[.string d, .string ⟨#[]⟩, .int .i64 c] 31)
    have hb3x := hb3.trans (AL3.mono hb3.size)
    have hlt0 : w.heap.size < w3.heap.size := Nat.lt_of_lt_of_le (by simp) hb3.size
    go_wp2_with fail
    refine (toLog_any _ _ _ _).mono ?_
    rintro e w4 ⟨rfl, hb4'⟩
    have hb4 := hb3x.trans (hb4'.mono hb3x.size)
    have B4 := HAL.trans (hb4.mono (by simp))
    have h44 := zero_row3 (w := w) h4 hb4'
    go_wp2_with fail
    refine (HI.out _ (ht.below B4) (hm.below B4)).mono ?_
    rintro e w5 ⟨rfl, hb5'⟩
    have B5 := below_of B4 hb5' B4.size
    obtain ⟨r0, r1, r2, _, _, _⟩ := row3 (zero_row3 (w := w) h44 hb5')
    have hlt : w3.heap.size < w5.heap.size := Nat.lt_of_lt_of_le (Nat.lt_of_lt_of_le (by simp) hb4'.size) hb5'.size
    clear h44 h4 hb5' hb4' hb4 hb3x hb3 AL3 HC HAL HS HI q0 q1 q2
    go_wp2_with fail
    refine (eqLog_same _ _ _ _).mono ?_
    rintro e w6 ⟨rfl, hb6⟩
    go_wp2
    go_ret
    exact ⟨rfl, below_of (B5.alloc B5.size _) hb6 (Below.size (B5.alloc B5.size _))⟩
end Go.Proofs.YtlngemecmchdcaaDoor
