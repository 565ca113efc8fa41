/-
  The walk of the law FnExactEncodeRecord.
-/
import Derived.Test.YtlngemecmchdcaaDoorLogB
import Derived.Test.YtlngemecmchdcaaDoorMemS
namespace Go.Proofs.YtlngemecmchdcaaDoor
open Go.RowKit
set_option linter.unusedVariables false
set_option linter.unusedSimpArgs false
set_option maxHeartbeats 1000000 in
theorem FnExactEncodeRecord_walk (z0 : Int) (s1 t1 : ByteArray) (w : World) (hz0 : I64 z0) (hs1 : s1.size ≤ maxLen) (ht1 : t1.size ≤ maxLen) (ht : Tab w) :
    Calls Tryd.prog 3 #[.int .i64 z0, .agg #[.string s1, .string t1]] w fun e w' => e = .returned (.bool true) ∧ Below w.heap.size w w' := by
  have hc : (s1.size : Int) ≤ 9223372036854775807 := by unfold maxLen at hs1; omega
  have hr : (t1.size : Int) ≤ 9223372036854775807 := by unfold maxLen at ht1; omega
  clear hs1 ht1
  have HAL : Below w.heap.size w (w.alloc (.cells #[.string s1, .string t1] 23)) := (Below.refl _ w).alloc (Nat.le_refl _) _
  have hcell : ∀ j v, (#[Value.string s1, .string t1] : Array Value)[j]? = some v → ∀ w', Below (w.alloc (.cells #[.string s1, .string t1] 23)).heap.size (w.alloc (.cells #[.string s1, .string t1] 23)) w' → w'.cell? ⟨w.heap.size, j, none⟩ = some v := by
    intro j v hv w' hb
    refine (hb.cell (p := ⟨w.heap.size, j, none⟩) (by simp)).trans ?_
    rw [cell_of_row _ w.heap.size j _ _ (0, 0) (heap_alloc_new w _)]
    exact hv
  have HC := Lib.hid hcell
  clear hcell
  have HS := fun w => sEncodeRecord_any z0 s1 t1 hc hr w
  have HI := fun w ht => EncodeRecord_any z0 s1 t1 hc hr w ht
  generalize (if (inR z0 0 59 && goodRec s1 t1) = true then lineB z0 s1 t1 else ⟨#[]⟩) = X at HS HI
  generalize (inR z0 0 59 && goodRec s1 t1) = b at HS HI
  have HS2 := Lib.hid HS
  have HI2 := Lib.hid HI
  clear HS HI
  by_cases hbig : 1048576 < (s1.size : Int) + (t1.size : Int)
  · go_enter Tryd.func3, Tryd.ntmps3
    go_wp2_with fail
    refine (szLogRecord_big _ _ _ hc hr hbig).mono ?_
    rintro e w1 ⟨rfl, hb1⟩
    go_wp2
    go_ret
    exact ⟨rfl, HAL.trans (hb1.mono (by simp))⟩
  · have hn : 0 ≤ 1048576 - (s1.size : Int) - (t1.size : Int) := by omega
    have hn2 : ¬ (1048576 - (s1.size : Int) - (t1.size : Int) < 0) := by omega
    go_enter Tryd.func3, Tryd.ntmps3
    go_wp2_with fail
    refine (szLogRecord_ok _ _ _ (by omega)).mono ?_
    rintro e w1 ⟨rfl, hb1⟩
    have q0 := HC.out 0 _ rfl w1 hb1
    have q1 := HC.out 1 _ rfl w1 hb1
    go_wp2_with fail
    refine (toLogRecord_any _ _ _).mono ?_
    rintro e w2 ⟨rfl, hb2'⟩
    have hb2 := hb1.trans (hb2'.mono hb1.size)
    clear hb2' q0 q1
    go_wp2_with fail
    refine (HS2.out _).mono ?_
    rintro e w3 ⟨rfl, hb3'⟩
    have hb3 := hb2.trans (hb3'.mono hb2.size)
    have q0 := HC.out 0 _ rfl w3 hb3
    have q1 := HC.out 1 _ rfl w3 hb3
    clear hb3' hb1 hb2
    go_wp2_with fail
    refine (toLogRecord_any _ _ _).mono ?_
    rintro e w4 ⟨rfl, hb4'⟩
    have hb4 := hb3.trans (hb4'.mono hb3.size)
    go_wp2_with fail
    refine (HI2.out _ (ht.below (HAL.trans (hb4.mono (by simp))))).mono ?_
    rintro e w5 ⟨rfl, hb5'⟩
    have hb5 := hb4.trans (hb5'.mono hb4.size)
    have HB := HAL.trans (hb5.mono (by simp))
    clear q0 q1 hb3 hb4 hb4' hb5 hb5' HC HAL
    go_wp2
    go_ret
    exact ⟨rfl, HB⟩
end Go.Proofs.YtlngemecmchdcaaDoor
