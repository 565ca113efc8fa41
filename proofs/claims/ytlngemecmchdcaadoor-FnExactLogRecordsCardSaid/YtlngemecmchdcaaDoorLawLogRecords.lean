/-
  The walk of the law FnExactLogRecords.
-/
import Derived.Test.YtlngemecmchdcaaDoorLogK
import Derived.Test.YtlngemecmchdcaaDoorMemS
namespace Go.Proofs.YtlngemecmchdcaaDoor
open Go.RowKit
set_option linter.unusedVariables false
set_option linter.unusedSimpArgs false
set_option maxHeartbeats 1000000 in
theorem FnExactLogRecords_walk (s0 t0 : ByteArray) (z0 : Int) (w : World) (hs0 : s0.size ≤ maxLen) (ht0 : t0.size ≤ maxLen) (hz0 : I64 z0) (ht : Tab w) (hm : Mx w) :
    Calls Tryd.prog 9 #[.agg #[.string s0, .string t0, .int .i64 z0]] w fun e w' => e = .returned (.bool true) ∧ Below w.heap.size w w' := by
  have hc : (s0.size : Int) ≤ 9223372036854775807 := by unfold maxLen at hs0; omega
  have hr : (t0.size : Int) ≤ 9223372036854775807 := by unfold maxLen at ht0; omega
  clear hs0 ht0
  have HAL : Below w.heap.size w (w.alloc (.cells #[.string s0, .string t0, .int .i64 z0] 36)) := (Below.refl _ w).alloc (Nat.le_refl _) _
  have hcell : ∀ j v, (#[Value.string s0, .string t0, .int .i64 z0] : Array Value)[j]? = some v → ∀ w', Below (w.alloc (.cells #[.string s0, .string t0, .int .i64 z0] 36)).heap.size (w.alloc (.cells #[.string s0, .string t0, .int .i64 z0] 36)) w' → w'.cell? ⟨w.heap.size, j, none⟩ = some v := by
    intro j v hv w' hb
    refine (hb.cell (p := ⟨w.heap.size, j, none⟩) (by simp)).trans ?_
    rw [cell_of_row _ w.heap.size j _ _ (0, 0) (heap_alloc_new w _)]
    exact hv
  have HC := Lib.hid hcell
  clear hcell
  by_cases hbig : 1048576 < (s0.size : Int) + (t0.size : Int)
  · go_enter Tryd.func9, Tryd.ntmps9
    go_wp2_with fail
    refine (szLog_big _ _ _ _ hc hr hbig).mono ?_
    rintro e w1 ⟨rfl, hb1⟩
    go_wp2
    go_ret
    exact ⟨rfl, HAL.trans (hb1.mono (by simp))⟩
  · have hD : s0.size ≤ 1048576 := by omega
    have hP : t0.size ≤ 1048576 := by omega
    have HS := Lib.hid (fun W => sLogRecords_any s0 t0 z0 hD hP W)
    have HI := Lib.hid (fun W hT hM => LogRecords_any s0 t0 z0 hD hP W hT hM)
    have hle := lrN_le s0 t0 z0
    generalize lrN s0 t0 z0 = n at HS HI hle
    generalize lrF s0 t0 = F at HS HI
    generalize logOk s0 t0 z0 = b at HS HI
    have hn : 0 ≤ 1048576 - (s0.size : Int) - (t0.size : Int) := by omega
    have hn2 : ¬ (1048576 - (s0.size : Int) - (t0.size : Int) < 0) := by omega
    go_enter Tryd.func9, Tryd.ntmps9
    go_wp2_with fail
    refine (szLog_ok _ _ _ _ (by omega)).mono ?_
    rintro e w1 ⟨rfl, hb1⟩
    have q0 := HC.out 0 _ rfl w1 hb1
    have q1 := HC.out 1 _ rfl w1 hb1
    have q2 := HC.out 2 _ rfl w1 hb1
    go_wp2_with fail
    refine (toLog_any _ _ _ _).mono ?_
    rintro e w2 ⟨rfl, hb2'⟩
    have hb2 := hb1.trans (hb2'.mono hb1.size)
    clear hb2' q0 q1 q2
    go_wp2_with fail
    refine (HS.out _).mono ?_
    rintro e w3 ⟨Aw, cw, rfl, hcw, hcwm, hw3, hb3'⟩
    have hb3 := hb2.trans (hb3'.mono hb2.size)
    have q0 := HC.out 0 _ rfl w3 hb3
    have q1 := HC.out 1 _ rfl w3 hb3
    have q2 := HC.out 2 _ rfl w3 hb3
    have HW3 := Lib.hid hw3
    clear hb3' hb1 hb2 hw3
    go_wp2_with fail
    refine (toLog_any _ _ _ _).mono ?_
    rintro e w4 ⟨rfl, hb4'⟩
    have hb4 := hb3.trans (hb4'.mono hb3.size)
    have B4 := HAL.trans (hb4.mono (by simp))
    have HW4 := Lib.hid (HW3.out.below hb4')
    have s4y := hb4.size
    clear hb4' HW3 q0 q1 q2 hb3
    go_wp2_with fail
    refine (HI.out _ (ht.below B4) (hm.below B4)).mono ?_
    rintro e w5 ⟨Ag, cg, rfl, hcg, hcgm, hg5, hb5'⟩
    have hb5 := hb4.trans (hb5'.mono hb4.size)
    have s4 := HW4.out.hi_le
    have HW5 := Lib.hid (HW4.out.below hb5')
    have HG5 := Lib.hid hg5
    clear hb5' HW4 hg5 hb4 B4
    go_wp2_with fail
    refine (eqLogRecordS_same _ _ _ _ _ _ _ _ _ _ w5 HG5.out.sl HW5.out.sl (by omega) hcg hcw).mono ?_
    rintro e w6 ⟨rfl, hb6'⟩
    have hb6 := hb5.trans (hb6'.mono hb5.size)
    have HW6 := Lib.hid (HW5.out.below hb6')
    have HG6 := Lib.hid (HG5.out.below hb6')
    have s5 := hb5.size
    clear HW5 HG5 hb6' hb5
    go_wp2_with fail
    refine (markLogRecordS_any _ _ _ _ _ _ w6 HG6.out (by omega) hcg).mono ?_
    rintro e w7 ⟨rfl, hg7, hr7⟩
    have hb7 := hb6.trans (hr7.below s4y hb6.size)
    have HW7 := Lib.hid (HW6.out.fr hr7 (Or.inl s4))
    have HG7 := Lib.hid hg7
    clear HW6 HG6 hg7 hr7 hb6
    go_wp2_with fail
    refine (heldLogRecordS_any _ _ _ _ _ w7 HG7.out.sl (by omega) hcg).mono ?_
    rintro e w8 ⟨rfl, hb8'⟩
    have hb8 := hb7.trans (hb8'.mono hb7.size)
    have HW8 := Lib.hid (HW7.out.below hb8')
    have HG8 := Lib.hid (HG7.out.below hb8')
    have q0 := HC.out 0 _ rfl w8 hb8
    have q1 := HC.out 1 _ rfl w8 hb8
    have q2 := HC.out 2 _ rfl w8 hb8
    clear HW7 HG7 hb8' hb7
    have pe : ¬ (1 + (n : Int) * 2 < 0) := by omega
    go_wp2_with fail
    refine (toLog_any _ _ _ _).mono ?_
    rintro e w9 ⟨rfl, hb9'⟩
    have hb9 := hb8.trans (hb9'.mono hb8.size)
    have HW9 := Lib.hid (HW8.out.below hb9')
    have HG9 := Lib.hid (HG8.out.below hb9')
    have B9 := HAL.trans (hb9.mono (by simp))
    clear HW8 HG8 hb9' hb8 q0 q1 q2
    go_wp2_with fail
    refine (HI.out _ (ht.below B9) (hm.below B9)).mono ?_
    rintro e w10 ⟨Ah, ch, rfl, hch, hchm, hh10, hb10'⟩
    have hb10 := hb9.trans (hb10'.mono hb9.size)
    have HW10 := Lib.hid (HW9.out.below hb10')
    have HG10 := Lib.hid (HG9.out.below hb10')
    have HH10 := Lib.hid hh10
    clear HW9 HG9 hb10' hb9 B9 hh10
    go_wp2_with fail
    refine (eqLogRecordS_same _ _ _ _ _ _ _ _ _ _ w10 HH10.out.sl HW10.out.sl (by omega) hch hcw).mono ?_
    rintro e w11 ⟨rfl, hb11'⟩
    have hb11 := hb10.trans (hb11'.mono hb10.size)
    have HG11 := Lib.hid (HG10.out.below hb11')
    clear HW10 HG10 HH10 hb11' hb10
    go_wp2_with fail
    refine (heldLogRecordS_any _ _ _ _ _ w11 HG11.out.sl (by omega) hcg).mono ?_
    rintro e w12 ⟨rfl, hb12'⟩
    have B12 := HAL.trans ((hb11.trans (hb12'.mono hb11.size)).mono (by simp))
    clear HG11 hb12' hb11 HC HAL HS HI
    go_wp2_with fail
    go_ret
    exact ⟨rfl, B12⟩
end Go.Proofs.YtlngemecmchdcaaDoor
