/-
  SyncLog and AppendRecord: the same on both sides.
-/
import Derived.Test.YtbhhlnciojcgbaaDoorLogG
namespace Go.Proofs.YtbhhlnciojcgbaaDoor
open Go.RowKit
set_option linter.unusedVariables false
set_option linter.unusedSimpArgs false
attribute [local go_sem ↓] Go.wp_at_zero Go.wp_at_succ
theorem heap_alloc2 (w : World) (o1 o2 : Obj) : ((w.alloc o1).alloc o2).heap[w.heap.size]? = some o1 :=
  (((Below.refl (w.alloc o1).heap.size (w.alloc o1)).alloc (Nat.le_refl _) o2).block w.heap.size (by simp)).trans (heap_alloc_new w o1)

theorem below3 {w w1 : World} {b : Nat} {x y : BA} {u : Int} (B : Below w.heap.size w w1) (hb : w.heap.size ≤ b) : Below w.heap.size w (((w1.setCell ⟨b, 0, none⟩ (.string x)).setCell ⟨b, 1, none⟩ (.string y)).setCell ⟨b, 2, none⟩ (.int .i64 u)) :=
  ((B.setCell (p := ⟨b, 0, none⟩) hb (.string x)).setCell (p := ⟨b, 1, none⟩) hb (.string y)).setCell (p := ⟨b, 2, none⟩) hb (.int .i64 u)
set_option maxHeartbeats 1000000 in
theorem SyncLog_any (D P : BA) (z : Int) (hD : D.size ≤ 1048576) (hP : P.size ≤ 1048576) (w : World) (ht : Tab w) (hm : Mx w) :
    Calls Tryd.prog 16 #[.agg #[.string D, .string P, .int .i64 z]] w fun e w' => e = .returned (.tuple #[.agg #[.string (if logOk D P z then D ++ P else ⟨#[]⟩), .string ⟨#[]⟩, .int .i64 (if logOk D P z then z else 0)], .bool (logOk D P z)]) ∧ Below w.heap.size w w' := by
  have AL1 : Below w.heap.size w (w.alloc (.cells #[.string D, .string P, .int .i64 z] 25)) := (Below.refl _ w).alloc (Nat.le_refl _) _
  have HAL : Below w.heap.size w ((w.alloc (.cells #[.string D, .string P, .int .i64 z] 25)).alloc (.cells #[.string ⟨#[]⟩, .string ⟨#[]⟩, .int .i64 0] 25)) := AL1.alloc AL1.size _
  have hXa : ((w.alloc (.cells #[.string D, .string P, .int .i64 z] 25)).alloc (.cells #[.string ⟨#[]⟩, .string ⟨#[]⟩, .int .i64 0] 25)).heap[w.heap.size]? = some (.cells #[.string D, .string P, .int .i64 z] 25 (0, 0)) := heap_alloc2 w _ _
  have hXz : ((w.alloc (.cells #[.string D, .string P, .int .i64 z] 25)).alloc (.cells #[.string ⟨#[]⟩, .string ⟨#[]⟩, .int .i64 0] 25)).heap[w.heap.size + 1]? = some (.cells #[.string ⟨#[]⟩, .string ⟨#[]⟩, .int .i64 0] 25 (0, 0)) := by
    have := heap_alloc_new (w.alloc (.cells #[.string D, .string P, .int .i64 z] 25)) (.cells #[.string ⟨#[]⟩, .string ⟨#[]⟩, .int .i64 0] 25)
    simpa using this
  have hsz : D.size + P.size ≤ 4000000 := by omega
  have HC := Lib.hid (IsValidLog_any D P z hD hP ((w.alloc (.cells #[.string D, .string P, .int .i64 z] 25)).alloc (.cells #[.string ⟨#[]⟩, .string ⟨#[]⟩, .int .i64 0] 25)) (ht.below HAL) (hm.below HAL))
  cases hk : logOk D P z with
  | false =>
    rw [hk] at HC
    go_enter Tryd.func16, Tryd.ntmps16
    go_wp2_with fail
    refine HC.out.mono ?_
    rintro e w1 ⟨rfl, hb1⟩
    have h4 := zero_row3 (w := w) hXz hb1
    have B1 := HAL.trans (hb1.mono (by simp; omega))
    obtain ⟨z0, z1, z2, z3, z4, z5⟩ := row3 h4
    clear hb1 HC HAL hXa hXz AL1 hk ht hm hD hP
    have hgle : w.heap.size ≤ w.heap.size + 1 := by omega
    generalize w.heap.size + 1 = g at *
    go_wp2_with fail
    obtain ⟨a0, a1, a2, _, _, _⟩ := row3 (row3_set (x := ⟨#[]⟩) (y := ⟨#[]⟩) (u := 0) h4)
    have BZ := below3 (b := g) (x := ⟨#[]⟩) (y := ⟨#[]⟩) (u := 0) B1 hgle
    generalize ((w1.setCell ⟨g, 0, none⟩ (.string ⟨#[]⟩)).setCell ⟨g, 1, none⟩ (.string ⟨#[]⟩)).setCell ⟨g, 2, none⟩ (.int .i64 0) = WZ at *
    (try simp only [Exit.inBlock, Exit.then]); refine bodyPost_ret (by simp [results, Tryd.results16, go_sem, a0, a1, a2]; try rfl) rfl ?_
    exact ⟨rfl, BZ⟩
  | true =>
    rw [hk] at HC
    go_enter Tryd.func16, Tryd.ntmps16
    go_wp2_with fail
    refine HC.out.mono ?_
    rintro e w1 ⟨rfl, hb1⟩
    have h4 := zero_row3 (w := w) hXz hb1
    have h5 := zero_row3 (w := w) hXa hb1
    have B1 := HAL.trans (hb1.mono (by simp; omega))
    obtain ⟨z0, z1, z2, z3, z4, z5⟩ := row3 h4
    obtain ⟨y0, y1, y2, _, _, _⟩ := row3 h5
    clear hb1 HC HAL hXa hXz AL1 h5 hk ht hm hD hP
    have hgle : w.heap.size ≤ w.heap.size + 1 := by omega
    generalize w.heap.size + 1 = g at *
    go_wp2_with fail
    obtain ⟨a0, a1, a2, _, _, _⟩ := row3 (row3_set (x := (D ++ P)) (y := ⟨#[]⟩) (u := z) h4)
    have BZ := below3 (b := g) (x := (D ++ P)) (y := ⟨#[]⟩) (u := z) B1 hgle
    generalize ((w1.setCell ⟨g, 0, none⟩ (.string (D ++ P))).setCell ⟨g, 1, none⟩ (.string ⟨#[]⟩)).setCell ⟨g, 2, none⟩ (.int .i64 z) = WZ at *
    (try simp only [Exit.inBlock, Exit.then]); refine bodyPost_ret (by simp [results, Tryd.results16, go_sem, a0, a1, a2]; try rfl) rfl ?_
    exact ⟨rfl, BZ⟩
set_option maxHeartbeats 1000000 in
theorem sSyncLog_any (D P : BA) (z : Int) (hD : D.size ≤ 1048576) (hP : P.size ≤ 1048576) (w : World) :
    Calls Tryd.prog 56 #[.agg #[.string D, .string P, .int .i64 z]] w fun e w' => e = .returned (.tuple #[.agg #[.string (if logOk D P z then D ++ P else ⟨#[]⟩), .string ⟨#[]⟩, .int .i64 (if logOk D P z then z else 0)], .bool (logOk D P z)]) ∧ Below w.heap.size w w' := by
  have AL1 : Below w.heap.size w (w.alloc (.cells #[.string D, .string P, .int .i64 z] 25)) := (Below.refl _ w).alloc (Nat.le_refl _) _
  have HAL : Below w.heap.size w ((w.alloc (.cells #[.string D, .string P, .int .i64 z] 25)).alloc (.cells #[.string ⟨#[]⟩, .string ⟨#[]⟩, .int .i64 0] 25)) := AL1.alloc AL1.size _
  have hXa : ((w.alloc (.cells #[.string D, .string P, .int .i64 z] 25)).alloc (.cells #[.string ⟨#[]⟩, .string ⟨#[]⟩, .int .i64 0] 25)).heap[w.heap.size]? = some (.cells #[.string D, .string P, .int .i64 z] 25 (0, 0)) := heap_alloc2 w _ _
  have hXz : ((w.alloc (.cells #[.string D, .string P, .int .i64 z] 25)).alloc (.cells #[.string ⟨#[]⟩, .string ⟨#[]⟩, .int .i64 0] 25)).heap[w.heap.size + 1]? = some (.cells #[.string ⟨#[]⟩, .string ⟨#[]⟩, .int .i64 0] 25 (0, 0)) := by
    have := heap_alloc_new (w.alloc (.cells #[.string D, .string P, .int .i64 z] 25)) (.cells #[.string ⟨#[]⟩, .string ⟨#[]⟩, .int .i64 0] 25)
    simpa using this
  have hsz : D.size + P.size ≤ 4000000 := by omega
  have HC := Lib.hid (l27Log_any D P z hD hP ((w.alloc (.cells #[.string D, .string P, .int .i64 z] 25)).alloc (.cells #[.string ⟨#[]⟩, .string ⟨#[]⟩, .int .i64 0] 25)))
  cases hk : logOk D P z with
  | false =>
    rw [hk] at HC
    go_enter Tryd.func56, Tryd.ntmps56
    go_wp2_with fail
    refine HC.out.mono ?_
    rintro e w1 ⟨rfl, hb1⟩
    have h4 := zero_row3 (w := w) hXz hb1
    have B1 := HAL.trans (hb1.mono (by simp; omega))
    obtain ⟨z0, z1, z2, z3, z4, z5⟩ := row3 h4
    clear hb1 HC HAL hXa hXz AL1 hk hD hP
    have hgle : w.heap.size ≤ w.heap.size + 1 := by omega
    generalize w.heap.size + 1 = g at *
    go_wp2_with fail
    obtain ⟨a0, a1, a2, _, _, _⟩ := row3 (row3_set (x := ⟨#[]⟩) (y := ⟨#[]⟩) (u := 0) h4)
    have BZ := below3 (b := g) (x := ⟨#[]⟩) (y := ⟨#[]⟩) (u := 0) B1 hgle
    generalize ((w1.setCell ⟨g, 0, none⟩ (.string ⟨#[]⟩)).setCell ⟨g, 1, none⟩ (.string ⟨#[]⟩)).setCell ⟨g, 2, none⟩ (.int .i64 0) = WZ at *
    (try simp only [Exit.inBlock, Exit.then]); refine bodyPost_ret (by simp [results, Tryd.results56, go_sem, a0, a1, a2]; try rfl) rfl ?_
    exact ⟨rfl, BZ⟩
  | true =>
    rw [hk] at HC
    go_enter Tryd.func56, Tryd.ntmps56
    go_wp2_with fail
    refine HC.out.mono ?_
    rintro e w1 ⟨rfl, hb1⟩
    have h4 := zero_row3 (w := w) hXz hb1
    have h5 := zero_row3 (w := w) hXa hb1
    have B1 := HAL.trans (hb1.mono (by simp; omega))
    obtain ⟨z0, z1, z2, z3, z4, z5⟩ := row3 h4
    obtain ⟨y0, y1, y2, _, _, _⟩ := row3 h5
    clear hb1 HC HAL hXa hXz AL1 h5 hk hD hP
    have hgle : w.heap.size ≤ w.heap.size + 1 := by omega
    generalize w.heap.size + 1 = g at *
    go_wp2_with fail
    obtain ⟨a0, a1, a2, _, _, _⟩ := row3 (row3_set (x := (D ++ P)) (y := ⟨#[]⟩) (u := z) h4)
    have BZ := below3 (b := g) (x := (D ++ P)) (y := ⟨#[]⟩) (u := z) B1 hgle
    generalize ((w1.setCell ⟨g, 0, none⟩ (.string (D ++ P))).setCell ⟨g, 1, none⟩ (.string ⟨#[]⟩)).setCell ⟨g, 2, none⟩ (.int .i64 z) = WZ at *
    (try simp only [Exit.inBlock, Exit.then]); refine bodyPost_ret (by simp [results, Tryd.results56, go_sem, a0, a1, a2]; try rfl) rfl ?_
    exact ⟨rfl, BZ⟩
end Go.Proofs.YtbhhlnciojcgbaaDoor
