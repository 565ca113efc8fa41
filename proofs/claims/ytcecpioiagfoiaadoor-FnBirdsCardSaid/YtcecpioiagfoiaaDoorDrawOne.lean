/-
  The draws of one Nest: some row.
-/
import Derived.Test.YtcecpioiagfoiaaDoorDrawRow
import Derived.Test.YtcecpioiagfoiaaDoorDrawR
namespace Go.Proofs.YtcecpioiagfoiaaDoor
open Go.RowKit
set_option linter.unusedVariables false
set_option linter.unusedSimpArgs false
set_option maxHeartbeats 1000000 in
theorem DrawIsNest_any (A : Option Addr) (n c : Nat) (w : World) (hc : Code w A n) (hn : n ≤ 65536) :
    Calls Tryd.prog 50 #[.slice A n c] w fun e w' => ∃ a0 a1 a2 a3 a4 a5 a6 : Int, e = .returned (.agg #[.int .i64 a0, .int .i64 a1, .int .i64 a2, .int .i64 a3, .int .i64 a4, .int .i64 a5, .int .i64 a6]) ∧ Below w.heap.size w w' := by
  go_enter Tryd.func50, Tryd.ntmps50
  go_upto_region 1 with fail
  refine nameW0 ?_
  intro w0 hw0
  have hR0 : Blk w0 w.heap.size 36 [0, 0, 0, 0, 0, 0, 0] := by rw [hw0]; exact Blk.new [0, 0, 0, 0, 0, 0, 0] rfl
  have hB0 : Below w.heap.size w w0 := by rw [hw0]; exact (Below.refl _ w).alloc (Nat.le_refl _) _
  have hc0 := hc.below hB0
  clear hw0 hc
  go_upto_region 2 with fail
  refine nameW0 ?_
  intro w1 hw1
  have hC1 : Cur w1 w0.heap.size A n c 0 := by rw [hw1]; exact hc0.cur
  have hB1 : Below w.heap.size w w1 := by rw [hw1]; exact hB0.alloc hB0.size _
  have hR1 : Blk w1 w.heap.size 36 [0, 0, 0, 0, 0, 0, 0] := by rw [hw1]; exact hR0.alloc _
  have hz0 := hR0.lt
  clear hw1 hc0 hR0 hB0
  go_wp2_with fail
  refine (among_lit w0.heap.size n c _ _ A w1 [1, 42, 999] _ _ _ rfl rfl (by simp) (by simp) hC1 hn (by omega)).mono ?_
  rintro e w4 ⟨z, rfl, hC4, hF4⟩
  have hB4 := hB1.trans (hF4.below (by omega) hB1.size)
  have hR4 : Blk w4 w.heap.size 36 [0, 0, 0, 0, 0, 0, 0] := (hF4.block _ hR1.lt (Or.inl hz0)).trans hR1
  clear hC1 hF4 hB1 hR1
  go_wp2_with fail
  refine (nest_any w0.heap.size n c _ A _ w4 hC4 hn (by omega)).mono ?_
  rintro e w5 ⟨a0, a1, a2, a3, a4, a5, a6, rfl, hC5, hF5⟩
  have hB5 := hB4.trans (hF5.below (by omega) hB4.size)
  have hR5 : Blk w5 w.heap.size 36 [0, 0, 0, 0, 0, 0, 0] := (hF5.block _ hR4.lt (Or.inl hz0)).trans hR4
  clear hC4 hC5 hF5 hB4 hR4
  have y0 : w5.cell? ⟨w.heap.size, 0, none⟩ = some (.int .i64 0) := hR5.cell (j := 0) (by simp)
  have y1 : w5.cell? ⟨w.heap.size, 1, none⟩ = some (.int .i64 0) := hR5.cell (j := 1) (by simp)
  have y2 : w5.cell? ⟨w.heap.size, 2, none⟩ = some (.int .i64 0) := hR5.cell (j := 2) (by simp)
  have y3 : w5.cell? ⟨w.heap.size, 3, none⟩ = some (.int .i64 0) := hR5.cell (j := 3) (by simp)
  have y4 : w5.cell? ⟨w.heap.size, 4, none⟩ = some (.int .i64 0) := hR5.cell (j := 4) (by simp)
  have y5 : w5.cell? ⟨w.heap.size, 5, none⟩ = some (.int .i64 0) := hR5.cell (j := 5) (by simp)
  have y6 : w5.cell? ⟨w.heap.size, 6, none⟩ = some (.int .i64 0) := hR5.cell (j := 6) (by simp)
  have yf : ∀ j, w5.frozen? ⟨w.heap.size, j, none⟩ = false := hR5.fz
  go_wp2
  obtain ⟨wq, hwq⟩ : ∃ wq, wq = (((((((w5.setCell ⟨w.heap.size, 0, none⟩ (.int .i64 a0)).setCell ⟨w.heap.size, 1, none⟩ (.int .i64 a1)).setCell ⟨w.heap.size, 2, none⟩ (.int .i64 a2)).setCell ⟨w.heap.size, 3, none⟩ (.int .i64 a3)).setCell ⟨w.heap.size, 4, none⟩ (.int .i64 a4)).setCell ⟨w.heap.size, 5, none⟩ (.int .i64 a5)).setCell ⟨w.heap.size, 6, none⟩ (.int .i64 a6)) := ⟨_, rfl⟩
  rw [← hwq]
  have q0 : wq.cell? ⟨w.heap.size, 0, none⟩ = some (.int .i64 a0) := by rw [hwq]; go_simp
  have q1 : wq.cell? ⟨w.heap.size, 1, none⟩ = some (.int .i64 a1) := by rw [hwq]; go_simp
  have q2 : wq.cell? ⟨w.heap.size, 2, none⟩ = some (.int .i64 a2) := by rw [hwq]; go_simp
  have q3 : wq.cell? ⟨w.heap.size, 3, none⟩ = some (.int .i64 a3) := by rw [hwq]; go_simp
  have q4 : wq.cell? ⟨w.heap.size, 4, none⟩ = some (.int .i64 a4) := by rw [hwq]; go_simp
  have q5 : wq.cell? ⟨w.heap.size, 5, none⟩ = some (.int .i64 a5) := by rw [hwq]; go_simp
  have q6 : wq.cell? ⟨w.heap.size, 6, none⟩ = some (.int .i64 a6) := by rw [hwq]; go_simp
  have hBq : Below w.heap.size w wq := by rw [hwq]; exact (((((((hB5.setCell (Nat.le_refl _) _).setCell (Nat.le_refl _) _).setCell (Nat.le_refl _) _).setCell (Nat.le_refl _) _).setCell (Nat.le_refl _) _).setCell (Nat.le_refl _) _).setCell (Nat.le_refl _) _)
  clear hwq hB5 hR5 yf y0 y1 y2 y3 y4 y5 y6
  refine bodyPost_ret (by simp [results, Tryd.results50, go_sem, q0, q1, q2, q3, q4, q5, q6]; try rfl) rfl ?_
  exact ⟨a0, a1, a2, a3, a4, a5, a6, rfl, hBq⟩
set_option maxHeartbeats 1000000 in
theorem DrawNestText_any (A : Option Addr) (n c : Nat) (w : World) (hc : Code w A n) (hn : n ≤ 65536) :
    Calls Tryd.prog 22 #[.slice A n c] w fun e w' => ∃ a0 a1 a2 a3 a4 a5 a6 : Int, e = .returned (.agg #[.int .i64 a0, .int .i64 a1, .int .i64 a2, .int .i64 a3, .int .i64 a4, .int .i64 a5, .int .i64 a6]) ∧ Below w.heap.size w w' := by
  go_enter Tryd.func22, Tryd.ntmps22
  go_upto_region 1 with fail
  refine nameW0 ?_
  intro w0 hw0
  have hR0 : Blk w0 w.heap.size 36 [0, 0, 0, 0, 0, 0, 0] := by rw [hw0]; exact Blk.new [0, 0, 0, 0, 0, 0, 0] rfl
  have hB0 : Below w.heap.size w w0 := by rw [hw0]; exact (Below.refl _ w).alloc (Nat.le_refl _) _
  have hc0 := hc.below hB0
  clear hw0 hc
  go_wp2_with fail
  refine (DrawIsNest_any A n c w0 hc0 hn).mono ?_
  rintro e w5 ⟨a0, a1, a2, a3, a4, a5, a6, rfl, hb⟩
  have hB5 := below_of hB0 hb hB0.size
  have hR5 : Blk w5 w.heap.size 36 [0, 0, 0, 0, 0, 0, 0] := (hb.block _ hR0.lt).trans hR0
  clear hc0 hb hB0 hR0
  have y0 : w5.cell? ⟨w.heap.size, 0, none⟩ = some (.int .i64 0) := hR5.cell (j := 0) (by simp)
  have y1 : w5.cell? ⟨w.heap.size, 1, none⟩ = some (.int .i64 0) := hR5.cell (j := 1) (by simp)
  have y2 : w5.cell? ⟨w.heap.size, 2, none⟩ = some (.int .i64 0) := hR5.cell (j := 2) (by simp)
  have y3 : w5.cell? ⟨w.heap.size, 3, none⟩ = some (.int .i64 0) := hR5.cell (j := 3) (by simp)
  have y4 : w5.cell? ⟨w.heap.size, 4, none⟩ = some (.int .i64 0) := hR5.cell (j := 4) (by simp)
  have y5 : w5.cell? ⟨w.heap.size, 5, none⟩ = some (.int .i64 0) := hR5.cell (j := 5) (by simp)
  have y6 : w5.cell? ⟨w.heap.size, 6, none⟩ = some (.int .i64 0) := hR5.cell (j := 6) (by simp)
  have yf : ∀ j, w5.frozen? ⟨w.heap.size, j, none⟩ = false := hR5.fz
  go_wp2
  obtain ⟨wq, hwq⟩ : ∃ wq, wq = (((((((w5.setCell ⟨w.heap.size, 0, none⟩ (.int .i64 a0)).setCell ⟨w.heap.size, 1, none⟩ (.int .i64 a1)).setCell ⟨w.heap.size, 2, none⟩ (.int .i64 a2)).setCell ⟨w.heap.size, 3, none⟩ (.int .i64 a3)).setCell ⟨w.heap.size, 4, none⟩ (.int .i64 a4)).setCell ⟨w.heap.size, 5, none⟩ (.int .i64 a5)).setCell ⟨w.heap.size, 6, none⟩ (.int .i64 a6)) := ⟨_, rfl⟩
  rw [← hwq]
  have q0 : wq.cell? ⟨w.heap.size, 0, none⟩ = some (.int .i64 a0) := by rw [hwq]; go_simp
  have q1 : wq.cell? ⟨w.heap.size, 1, none⟩ = some (.int .i64 a1) := by rw [hwq]; go_simp
  have q2 : wq.cell? ⟨w.heap.size, 2, none⟩ = some (.int .i64 a2) := by rw [hwq]; go_simp
  have q3 : wq.cell? ⟨w.heap.size, 3, none⟩ = some (.int .i64 a3) := by rw [hwq]; go_simp
  have q4 : wq.cell? ⟨w.heap.size, 4, none⟩ = some (.int .i64 a4) := by rw [hwq]; go_simp
  have q5 : wq.cell? ⟨w.heap.size, 5, none⟩ = some (.int .i64 a5) := by rw [hwq]; go_simp
  have q6 : wq.cell? ⟨w.heap.size, 6, none⟩ = some (.int .i64 a6) := by rw [hwq]; go_simp
  have hBq : Below w.heap.size w wq := by rw [hwq]; exact (((((((hB5.setCell (Nat.le_refl _) _).setCell (Nat.le_refl _) _).setCell (Nat.le_refl _) _).setCell (Nat.le_refl _) _).setCell (Nat.le_refl _) _).setCell (Nat.le_refl _) _).setCell (Nat.le_refl _) _)
  clear hwq hB5 hR5 yf y0 y1 y2 y3 y4 y5 y6
  refine bodyPost_ret (by simp [results, Tryd.results22, go_sem, q0, q1, q2, q3, q4, q5, q6]; try rfl) rfl ?_
  exact ⟨a0, a1, a2, a3, a4, a5, a6, rfl, hBq⟩
end Go.Proofs.YtcecpioiagfoiaaDoor
