/-
  The cursor's nest: some row, whatever the bytes.
-/
import Derived.Test.YtcecpioiagfoiaaDoorDraw
import Derived.Test.YtcecpioiagfoiaaDoorBase
import Derived.Deep.Cut
import Derived.Lib.Hide
namespace Go.Proofs.YtcecpioiagfoiaaDoor
open Go.RowKit
set_option linter.unusedVariables false
set_option linter.unusedSimpArgs false
theorem nameW0 {P : Program} {c : Go.Code} {Q : Exit → Act → World → Prop} {a : Act} {W : World} (h : ∀ w2, w2 = W → c.wp P Q a w2) : c.wp P Q a W := h W rfl
set_option maxRecDepth 100000 in
set_option maxHeartbeats 2000000 in
theorem nest_any (g n c p : Nat) (A : Option Addr) (id : Int) (w : World) (hC0 : Cur w g A n c p) (hn : n ≤ 65536) (hp : p ≤ 800000000) :
    Calls Tryd.prog 56 #[.pointer (some ⟨g, 0, none⟩), .int .i64 id] w fun e w' => ∃ a0 a1 a2 a3 a4 a5 a6 : Int, e = .returned (.agg #[.int .i64 a0, .int .i64 a1, .int .i64 a2, .int .i64 a3, .int .i64 a4, .int .i64 a5, .int .i64 a6]) ∧ Cur w' g A n c (p + 20) ∧ Fr g (g + 1) w w' := by
  go_enter Tryd.func56, Tryd.ntmps56
  have hgR : g < w.heap.size := hC0.lt
  have hwR : w.heap.size ≤ w.heap.size := Nat.le_refl _
  have HWR := Lib.hid hwR
  clear hwR
  go_upto_region 1 with fail
  refine nameW0 ?_
  intro w1 hw1
  have hR1 : Blk w1 w.heap.size 36 [0, 0, 0, 0, 0, 0, 0] := by rw [hw1]; exact Blk.new [0, 0, 0, 0, 0, 0, 0] rfl
  have hF1 : Fr g (g + 1) w w1 := by rw [hw1]; exact (Fr.refl _ _ w).alloc' _
  have hC1 : Cur w1 g A n c (p + 0) := by rw [hw1]; exact hC0.alloc _
  clear hw1 hC0
  go_wp2_with fail
  refine (among_lit g n c _ _ A _ [1, 1, 2, 6] _ _ _ rfl rfl (by simp) (by simp) hC1 hn (by omega)).mono ?_
  rintro e w2 ⟨z2, rfl, hC2, hf2⟩
  have hF2 := hF1.trans hf2
  have hR2 := hR1.fr hf2 hgR
  clear hC1 hF1 hR1 hf2
  go_wp2_with fail
  refine (among_lit g n c _ _ A _ [1, 1, 2, 99] _ _ _ rfl rfl (by simp) (by simp) hC2 hn (by omega)).mono ?_
  rintro e w3 ⟨z3, rfl, hC3, hf3⟩
  have hF3 := hF2.trans hf3
  have hR3 := hR2.fr hf3 hgR
  clear hC2 hF2 hR2 hf3
  go_wp2_with fail
  refine (among_lit g n c _ _ A _ [0, 5, 20, 40, 3990, 4000] _ _ _ rfl rfl (by simp) (by simp) hC3 hn (by omega)).mono ?_
  rintro e w4 ⟨z4, rfl, hC4, hf4⟩
  have hF4 := hF3.trans hf4
  have hR4 := hR3.fr hf4 hgR
  clear hC3 hF3 hR3 hf4
  go_wp2_with fail
  refine (among_lit g n c _ _ A _ [10, 14, 20, 60] _ _ _ rfl rfl (by simp) (by simp) hC4 hn (by omega)).mono ?_
  rintro e w5 ⟨z5, rfl, hC5, hf5⟩
  have hF5 := hF4.trans hf5
  have hR5 := hR4.fr hf5 hgR
  clear hC4 hF4 hR4 hf5
  go_wp2_with fail
  refine (among_lit g n c _ _ A _ [0, 100, 110, 129, 130, 999] _ _ _ rfl rfl (by simp) (by simp) hC5 hn (by omega)).mono ?_
  rintro e w6 ⟨z6, rfl, hC6, hf6⟩
  have hF6 := hF5.trans hf6
  have hR6 := hR5.fr hf6 hgR
  clear hC5 hF5 hR5 hf6
  go_wp2_with fail
  refine (among_lit g n c _ _ A _ [0, 0, 1, 20, 999] _ _ _ rfl rfl (by simp) (by simp) hC6 hn (by omega)).mono ?_
  rintro e w7 ⟨z7, rfl, hC7, hf7⟩
  have hF7 := hF6.trans hf7
  have hR7 := hR6.fr hf7 hgR
  clear hC6 hF6 hR6 hf7
  have zX := hF7.size
  go_upto_region 2 with fail
  refine nameW0 ?_
  intro w8 hw8
  have hX8 : Blk w8 w7.heap.size 36 [id, z2, z3, z4, z5, z6, z7] := by rw [hw8]; exact Blk.new [id, z2, z3, z4, z5, z6, z7] rfl
  have hC8 : Cur w8 g A n c (p + 12) := by rw [hw8]; exact hC7.alloc _
  have hF8 : Fr g (g + 1) w w8 := by rw [hw8]; exact hF7.alloc' _
  have hR8 : Blk w8 w.heap.size 36 [0, 0, 0, 0, 0, 0, 0] := by rw [hw8]; exact hR7.alloc _
  have hwX : w.heap.size ≤ w7.heap.size := zX
  have hgX : g < w7.heap.size := by omega
  have hRX : w.heap.size ≠ w7.heap.size := by have := hR7.lt; omega
  clear hw8 hC7 hF7 hR7 zX
  generalize w7.heap.size = rb at hX8 hwX hgX hRX ⊢
  go_wp2_with fail
  refine (pick_any g n c _ 100 A _ hC8 hn (by omega) (by omega) (by omega)).mono ?_
  rintro e w9 ⟨m9, rfl, hm9, hC9, hf9⟩
  have hF9 := hF8.trans hf9
  have hR9 := hR8.fr hf9 hgR
  have hX9 := hX8.fr hf9 hgX
  clear hC8 hF8 hR8 hX8 hf9
  by_cases e0 : m9 = 0
  · subst e0
    have x0 : w9.cell? ⟨rb, 0, none⟩ = some (.int .i64 (id)) := hX9.cell (j := 0) (by simp)
    have x1 : w9.cell? ⟨rb, 1, none⟩ = some (.int .i64 (z2)) := hX9.cell (j := 1) (by simp)
    have x2 : w9.cell? ⟨rb, 2, none⟩ = some (.int .i64 (z3)) := hX9.cell (j := 2) (by simp)
    have x3 : w9.cell? ⟨rb, 3, none⟩ = some (.int .i64 (z4)) := hX9.cell (j := 3) (by simp)
    have x4 : w9.cell? ⟨rb, 4, none⟩ = some (.int .i64 (z5)) := hX9.cell (j := 4) (by simp)
    have x5 : w9.cell? ⟨rb, 5, none⟩ = some (.int .i64 (z6)) := hX9.cell (j := 5) (by simp)
    have x6 : w9.cell? ⟨rb, 6, none⟩ = some (.int .i64 (z7)) := hX9.cell (j := 6) (by simp)
    have xf : ∀ j, w9.frozen? ⟨rb, j, none⟩ = false := hX9.fz
    go_wp2_with fail
    refine (among_lit g n c _ _ A _ [0, 999, 1000] _ _ _ rfl rfl (by simp) (by simp) hC9 hn (by omega)).mono ?_
    rintro e w10 ⟨z10, rfl, hC10, hf10⟩
    have hF10 := hF9.trans hf10
    have hR10 := hR9.fr hf10 hgR
    have hX10 := hX9.fr hf10 hgX
    clear x0 x1 x2 x3 x4 x5 x6 xf hX9
    clear hC9 hF9 hR9 hf10
    have x0 : w10.cell? ⟨rb, 0, none⟩ = some (.int .i64 (id)) := hX10.cell (j := 0) (by simp)
    have x1 : w10.cell? ⟨rb, 1, none⟩ = some (.int .i64 (z2)) := hX10.cell (j := 1) (by simp)
    have x2 : w10.cell? ⟨rb, 2, none⟩ = some (.int .i64 (z3)) := hX10.cell (j := 2) (by simp)
    have x3 : w10.cell? ⟨rb, 3, none⟩ = some (.int .i64 (z4)) := hX10.cell (j := 3) (by simp)
    have x4 : w10.cell? ⟨rb, 4, none⟩ = some (.int .i64 (z5)) := hX10.cell (j := 4) (by simp)
    have x5 : w10.cell? ⟨rb, 5, none⟩ = some (.int .i64 (z6)) := hX10.cell (j := 5) (by simp)
    have x6 : w10.cell? ⟨rb, 6, none⟩ = some (.int .i64 (z7)) := hX10.cell (j := 6) (by simp)
    have xf : ∀ j, w10.frozen? ⟨rb, j, none⟩ = false := hX10.fz
    go_upto_region 17 with fail
    refine nameW0 ?_
    intro w11 hw11
    have hC11 : Cur w11 g A n c (p + 16) := by rw [hw11]; exact hC10.setOwn (q := ⟨rb, 0, none⟩) hgX _
    have hF11 : Fr g (g + 1) w w11 := by rw [hw11]; exact hF10.setOwn (j := 0) (p := ⟨rb, 0, none⟩) hwX _
    have hR11 : Blk w11 w.heap.size 36 [0, 0, 0, 0, 0, 0, 0] := by rw [hw11]; exact hR10.other (q := ⟨rb, 0, none⟩) hRX _
    have hX11 : Blk w11 rb 36 [z10, z2, z3, z4, z5, z6, z7] := by rw [hw11]; exact hX10.set 0 _
    clear x0 x1 x2 x3 x4 x5 x6 xf hC10 hF10 hR10 hX10 hw11
    have x0 : w11.cell? ⟨rb, 0, none⟩ = some (.int .i64 (z10)) := hX11.cell (j := 0) (by simp)
    have x1 : w11.cell? ⟨rb, 1, none⟩ = some (.int .i64 (z2)) := hX11.cell (j := 1) (by simp)
    have x2 : w11.cell? ⟨rb, 2, none⟩ = some (.int .i64 (z3)) := hX11.cell (j := 2) (by simp)
    have x3 : w11.cell? ⟨rb, 3, none⟩ = some (.int .i64 (z4)) := hX11.cell (j := 3) (by simp)
    have x4 : w11.cell? ⟨rb, 4, none⟩ = some (.int .i64 (z5)) := hX11.cell (j := 4) (by simp)
    have x5 : w11.cell? ⟨rb, 5, none⟩ = some (.int .i64 (z6)) := hX11.cell (j := 5) (by simp)
    have x6 : w11.cell? ⟨rb, 6, none⟩ = some (.int .i64 (z7)) := hX11.cell (j := 6) (by simp)
    have xf : ∀ j, w11.frozen? ⟨rb, j, none⟩ = false := hX11.fz
    have y0 : w11.cell? ⟨w.heap.size, 0, none⟩ = some (.int .i64 0) := hR11.cell (j := 0) (by simp)
    have y1 : w11.cell? ⟨w.heap.size, 1, none⟩ = some (.int .i64 0) := hR11.cell (j := 1) (by simp)
    have y2 : w11.cell? ⟨w.heap.size, 2, none⟩ = some (.int .i64 0) := hR11.cell (j := 2) (by simp)
    have y3 : w11.cell? ⟨w.heap.size, 3, none⟩ = some (.int .i64 0) := hR11.cell (j := 3) (by simp)
    have y4 : w11.cell? ⟨w.heap.size, 4, none⟩ = some (.int .i64 0) := hR11.cell (j := 4) (by simp)
    have y5 : w11.cell? ⟨w.heap.size, 5, none⟩ = some (.int .i64 0) := hR11.cell (j := 5) (by simp)
    have y6 : w11.cell? ⟨w.heap.size, 6, none⟩ = some (.int .i64 0) := hR11.cell (j := 6) (by simp)
    have yf : ∀ j, w11.frozen? ⟨w.heap.size, j, none⟩ = false := hR11.fz
    go_wp2
    obtain ⟨wq, hwq⟩ : ∃ wq, wq = (((((((w11.setCell ⟨w.heap.size, 0, none⟩ (.int .i64 (z10))).setCell ⟨w.heap.size, 1, none⟩ (.int .i64 (z2))).setCell ⟨w.heap.size, 2, none⟩ (.int .i64 (z3))).setCell ⟨w.heap.size, 3, none⟩ (.int .i64 (z4))).setCell ⟨w.heap.size, 4, none⟩ (.int .i64 (z5))).setCell ⟨w.heap.size, 5, none⟩ (.int .i64 (z6))).setCell ⟨w.heap.size, 6, none⟩ (.int .i64 (z7))) := ⟨_, rfl⟩
    rw [← hwq]
    have q0 : wq.cell? ⟨w.heap.size, 0, none⟩ = some (.int .i64 (z10)) := by rw [hwq]; go_simp
    have q1 : wq.cell? ⟨w.heap.size, 1, none⟩ = some (.int .i64 (z2)) := by rw [hwq]; go_simp
    have q2 : wq.cell? ⟨w.heap.size, 2, none⟩ = some (.int .i64 (z3)) := by rw [hwq]; go_simp
    have q3 : wq.cell? ⟨w.heap.size, 3, none⟩ = some (.int .i64 (z4)) := by rw [hwq]; go_simp
    have q4 : wq.cell? ⟨w.heap.size, 4, none⟩ = some (.int .i64 (z5)) := by rw [hwq]; go_simp
    have q5 : wq.cell? ⟨w.heap.size, 5, none⟩ = some (.int .i64 (z6)) := by rw [hwq]; go_simp
    have q6 : wq.cell? ⟨w.heap.size, 6, none⟩ = some (.int .i64 (z7)) := by rw [hwq]; go_simp
    have hCq : Cur wq g A n c (p + 16) := by rw [hwq]; exact (((((((hC11.setOwn (q := ⟨w.heap.size, 0, none⟩) hgR _).setOwn (q := ⟨w.heap.size, 1, none⟩) hgR _).setOwn (q := ⟨w.heap.size, 2, none⟩) hgR _).setOwn (q := ⟨w.heap.size, 3, none⟩) hgR _).setOwn (q := ⟨w.heap.size, 4, none⟩) hgR _).setOwn (q := ⟨w.heap.size, 5, none⟩) hgR _).setOwn (q := ⟨w.heap.size, 6, none⟩) hgR _)
    have hFq : Fr g (g + 1) w wq := by rw [hwq]; exact (((((((hF11.setOwn (j := 0) (p := ⟨w.heap.size, 0, none⟩) HWR.out _).setOwn (j := 0) (p := ⟨w.heap.size, 1, none⟩) HWR.out _).setOwn (j := 0) (p := ⟨w.heap.size, 2, none⟩) HWR.out _).setOwn (j := 0) (p := ⟨w.heap.size, 3, none⟩) HWR.out _).setOwn (j := 0) (p := ⟨w.heap.size, 4, none⟩) HWR.out _).setOwn (j := 0) (p := ⟨w.heap.size, 5, none⟩) HWR.out _).setOwn (j := 0) (p := ⟨w.heap.size, 6, none⟩) HWR.out _)
    clear hwq hC11 hF11 hR11 hX11 x0 y0 x1 y1 x2 y2 x3 y3 x4 y4 x5 y5 x6 y6 xf yf
    refine bodyPost_ret (by simp [results, Tryd.results56, go_sem, q0, q1, q2, q3, q4, q5, q6]; try rfl) rfl ?_
    exact ⟨z10, z2, z3, z4, z5, z6, z7, rfl, hCq.weaken (by omega), hFq⟩
  · have n0 : ((m9 : Int) == 0) = false := by simp; omega
    by_cases e1 : m9 = 1
    · subst e1
      have x0 : w9.cell? ⟨rb, 0, none⟩ = some (.int .i64 (id)) := hX9.cell (j := 0) (by simp)
      have x1 : w9.cell? ⟨rb, 1, none⟩ = some (.int .i64 (z2)) := hX9.cell (j := 1) (by simp)
      have x2 : w9.cell? ⟨rb, 2, none⟩ = some (.int .i64 (z3)) := hX9.cell (j := 2) (by simp)
      have x3 : w9.cell? ⟨rb, 3, none⟩ = some (.int .i64 (z4)) := hX9.cell (j := 3) (by simp)
      have x4 : w9.cell? ⟨rb, 4, none⟩ = some (.int .i64 (z5)) := hX9.cell (j := 4) (by simp)
      have x5 : w9.cell? ⟨rb, 5, none⟩ = some (.int .i64 (z6)) := hX9.cell (j := 5) (by simp)
      have x6 : w9.cell? ⟨rb, 6, none⟩ = some (.int .i64 (z7)) := hX9.cell (j := 6) (by simp)
      have xf : ∀ j, w9.frozen? ⟨rb, j, none⟩ = false := hX9.fz
      go_wp2_with fail
      refine (among_lit g n c _ _ A _ [0, 7] _ _ _ rfl rfl (by simp) (by simp) hC9 hn (by omega)).mono ?_
      rintro e w13 ⟨z13, rfl, hC13, hf13⟩
      have hF13 := hF9.trans hf13
      have hR13 := hR9.fr hf13 hgR
      have hX13 := hX9.fr hf13 hgX
      clear x0 x1 x2 x3 x4 x5 x6 xf hX9
      clear hC9 hF9 hR9 hf13
      have x0 : w13.cell? ⟨rb, 0, none⟩ = some (.int .i64 (id)) := hX13.cell (j := 0) (by simp)
      have x1 : w13.cell? ⟨rb, 1, none⟩ = some (.int .i64 (z2)) := hX13.cell (j := 1) (by simp)
      have x2 : w13.cell? ⟨rb, 2, none⟩ = some (.int .i64 (z3)) := hX13.cell (j := 2) (by simp)
      have x3 : w13.cell? ⟨rb, 3, none⟩ = some (.int .i64 (z4)) := hX13.cell (j := 3) (by simp)
      have x4 : w13.cell? ⟨rb, 4, none⟩ = some (.int .i64 (z5)) := hX13.cell (j := 4) (by simp)
      have x5 : w13.cell? ⟨rb, 5, none⟩ = some (.int .i64 (z6)) := hX13.cell (j := 5) (by simp)
      have x6 : w13.cell? ⟨rb, 6, none⟩ = some (.int .i64 (z7)) := hX13.cell (j := 6) (by simp)
      have xf : ∀ j, w13.frozen? ⟨rb, j, none⟩ = false := hX13.fz
      go_upto_region 17 with fail
      refine nameW0 ?_
      intro w14 hw14
      have hC14 : Cur w14 g A n c (p + 16) := by rw [hw14]; exact hC13.setOwn (q := ⟨rb, 1, none⟩) hgX _
      have hF14 : Fr g (g + 1) w w14 := by rw [hw14]; exact hF13.setOwn (j := 0) (p := ⟨rb, 1, none⟩) hwX _
      have hR14 : Blk w14 w.heap.size 36 [0, 0, 0, 0, 0, 0, 0] := by rw [hw14]; exact hR13.other (q := ⟨rb, 1, none⟩) hRX _
      have hX14 : Blk w14 rb 36 [id, z13, z3, z4, z5, z6, z7] := by rw [hw14]; exact hX13.set 1 _
      clear x0 x1 x2 x3 x4 x5 x6 xf hC13 hF13 hR13 hX13 hw14
      have x0 : w14.cell? ⟨rb, 0, none⟩ = some (.int .i64 (id)) := hX14.cell (j := 0) (by simp)
      have x1 : w14.cell? ⟨rb, 1, none⟩ = some (.int .i64 (z13)) := hX14.cell (j := 1) (by simp)
      have x2 : w14.cell? ⟨rb, 2, none⟩ = some (.int .i64 (z3)) := hX14.cell (j := 2) (by simp)
      have x3 : w14.cell? ⟨rb, 3, none⟩ = some (.int .i64 (z4)) := hX14.cell (j := 3) (by simp)
      have x4 : w14.cell? ⟨rb, 4, none⟩ = some (.int .i64 (z5)) := hX14.cell (j := 4) (by simp)
      have x5 : w14.cell? ⟨rb, 5, none⟩ = some (.int .i64 (z6)) := hX14.cell (j := 5) (by simp)
      have x6 : w14.cell? ⟨rb, 6, none⟩ = some (.int .i64 (z7)) := hX14.cell (j := 6) (by simp)
      have xf : ∀ j, w14.frozen? ⟨rb, j, none⟩ = false := hX14.fz
      have y0 : w14.cell? ⟨w.heap.size, 0, none⟩ = some (.int .i64 0) := hR14.cell (j := 0) (by simp)
      have y1 : w14.cell? ⟨w.heap.size, 1, none⟩ = some (.int .i64 0) := hR14.cell (j := 1) (by simp)
      have y2 : w14.cell? ⟨w.heap.size, 2, none⟩ = some (.int .i64 0) := hR14.cell (j := 2) (by simp)
      have y3 : w14.cell? ⟨w.heap.size, 3, none⟩ = some (.int .i64 0) := hR14.cell (j := 3) (by simp)
      have y4 : w14.cell? ⟨w.heap.size, 4, none⟩ = some (.int .i64 0) := hR14.cell (j := 4) (by simp)
      have y5 : w14.cell? ⟨w.heap.size, 5, none⟩ = some (.int .i64 0) := hR14.cell (j := 5) (by simp)
      have y6 : w14.cell? ⟨w.heap.size, 6, none⟩ = some (.int .i64 0) := hR14.cell (j := 6) (by simp)
      have yf : ∀ j, w14.frozen? ⟨w.heap.size, j, none⟩ = false := hR14.fz
      go_wp2
      obtain ⟨wq, hwq⟩ : ∃ wq, wq = (((((((w14.setCell ⟨w.heap.size, 0, none⟩ (.int .i64 (id))).setCell ⟨w.heap.size, 1, none⟩ (.int .i64 (z13))).setCell ⟨w.heap.size, 2, none⟩ (.int .i64 (z3))).setCell ⟨w.heap.size, 3, none⟩ (.int .i64 (z4))).setCell ⟨w.heap.size, 4, none⟩ (.int .i64 (z5))).setCell ⟨w.heap.size, 5, none⟩ (.int .i64 (z6))).setCell ⟨w.heap.size, 6, none⟩ (.int .i64 (z7))) := ⟨_, rfl⟩
      rw [← hwq]
      have q0 : wq.cell? ⟨w.heap.size, 0, none⟩ = some (.int .i64 (id)) := by rw [hwq]; go_simp
      have q1 : wq.cell? ⟨w.heap.size, 1, none⟩ = some (.int .i64 (z13)) := by rw [hwq]; go_simp
      have q2 : wq.cell? ⟨w.heap.size, 2, none⟩ = some (.int .i64 (z3)) := by rw [hwq]; go_simp
      have q3 : wq.cell? ⟨w.heap.size, 3, none⟩ = some (.int .i64 (z4)) := by rw [hwq]; go_simp
      have q4 : wq.cell? ⟨w.heap.size, 4, none⟩ = some (.int .i64 (z5)) := by rw [hwq]; go_simp
      have q5 : wq.cell? ⟨w.heap.size, 5, none⟩ = some (.int .i64 (z6)) := by rw [hwq]; go_simp
      have q6 : wq.cell? ⟨w.heap.size, 6, none⟩ = some (.int .i64 (z7)) := by rw [hwq]; go_simp
      have hCq : Cur wq g A n c (p + 16) := by rw [hwq]; exact (((((((hC14.setOwn (q := ⟨w.heap.size, 0, none⟩) hgR _).setOwn (q := ⟨w.heap.size, 1, none⟩) hgR _).setOwn (q := ⟨w.heap.size, 2, none⟩) hgR _).setOwn (q := ⟨w.heap.size, 3, none⟩) hgR _).setOwn (q := ⟨w.heap.size, 4, none⟩) hgR _).setOwn (q := ⟨w.heap.size, 5, none⟩) hgR _).setOwn (q := ⟨w.heap.size, 6, none⟩) hgR _)
      have hFq : Fr g (g + 1) w wq := by rw [hwq]; exact (((((((hF14.setOwn (j := 0) (p := ⟨w.heap.size, 0, none⟩) HWR.out _).setOwn (j := 0) (p := ⟨w.heap.size, 1, none⟩) HWR.out _).setOwn (j := 0) (p := ⟨w.heap.size, 2, none⟩) HWR.out _).setOwn (j := 0) (p := ⟨w.heap.size, 3, none⟩) HWR.out _).setOwn (j := 0) (p := ⟨w.heap.size, 4, none⟩) HWR.out _).setOwn (j := 0) (p := ⟨w.heap.size, 5, none⟩) HWR.out _).setOwn (j := 0) (p := ⟨w.heap.size, 6, none⟩) HWR.out _)
      clear hwq hC14 hF14 hR14 hX14 x0 y0 x1 y1 x2 y2 x3 y3 x4 y4 x5 y5 x6 y6 xf yf
      refine bodyPost_ret (by simp [results, Tryd.results56, go_sem, q0, q1, q2, q3, q4, q5, q6]; try rfl) rfl ?_
      exact ⟨id, z13, z3, z4, z5, z6, z7, rfl, hCq.weaken (by omega), hFq⟩
    · have n1 : ((m9 : Int) == 1) = false := by simp; omega
      by_cases e2 : m9 = 2
      · subst e2
        have x0 : w9.cell? ⟨rb, 0, none⟩ = some (.int .i64 (id)) := hX9.cell (j := 0) (by simp)
        have x1 : w9.cell? ⟨rb, 1, none⟩ = some (.int .i64 (z2)) := hX9.cell (j := 1) (by simp)
        have x2 : w9.cell? ⟨rb, 2, none⟩ = some (.int .i64 (z3)) := hX9.cell (j := 2) (by simp)
        have x3 : w9.cell? ⟨rb, 3, none⟩ = some (.int .i64 (z4)) := hX9.cell (j := 3) (by simp)
        have x4 : w9.cell? ⟨rb, 4, none⟩ = some (.int .i64 (z5)) := hX9.cell (j := 4) (by simp)
        have x5 : w9.cell? ⟨rb, 5, none⟩ = some (.int .i64 (z6)) := hX9.cell (j := 5) (by simp)
        have x6 : w9.cell? ⟨rb, 6, none⟩ = some (.int .i64 (z7)) := hX9.cell (j := 6) (by simp)
        have xf : ∀ j, w9.frozen? ⟨rb, j, none⟩ = false := hX9.fz
        go_wp2_with fail
        refine (among_lit g n c _ _ A _ [0, 100] _ _ _ rfl rfl (by simp) (by simp) hC9 hn (by omega)).mono ?_
        rintro e w16 ⟨z16, rfl, hC16, hf16⟩
        have hF16 := hF9.trans hf16
        have hR16 := hR9.fr hf16 hgR
        have hX16 := hX9.fr hf16 hgX
        clear x0 x1 x2 x3 x4 x5 x6 xf hX9
        clear hC9 hF9 hR9 hf16
        have x0 : w16.cell? ⟨rb, 0, none⟩ = some (.int .i64 (id)) := hX16.cell (j := 0) (by simp)
        have x1 : w16.cell? ⟨rb, 1, none⟩ = some (.int .i64 (z2)) := hX16.cell (j := 1) (by simp)
        have x2 : w16.cell? ⟨rb, 2, none⟩ = some (.int .i64 (z3)) := hX16.cell (j := 2) (by simp)
        have x3 : w16.cell? ⟨rb, 3, none⟩ = some (.int .i64 (z4)) := hX16.cell (j := 3) (by simp)
        have x4 : w16.cell? ⟨rb, 4, none⟩ = some (.int .i64 (z5)) := hX16.cell (j := 4) (by simp)
        have x5 : w16.cell? ⟨rb, 5, none⟩ = some (.int .i64 (z6)) := hX16.cell (j := 5) (by simp)
        have x6 : w16.cell? ⟨rb, 6, none⟩ = some (.int .i64 (z7)) := hX16.cell (j := 6) (by simp)
        have xf : ∀ j, w16.frozen? ⟨rb, j, none⟩ = false := hX16.fz
        go_upto_region 17 with fail
        refine nameW0 ?_
        intro w17 hw17
        have hC17 : Cur w17 g A n c (p + 16) := by rw [hw17]; exact hC16.setOwn (q := ⟨rb, 2, none⟩) hgX _
        have hF17 : Fr g (g + 1) w w17 := by rw [hw17]; exact hF16.setOwn (j := 0) (p := ⟨rb, 2, none⟩) hwX _
        have hR17 : Blk w17 w.heap.size 36 [0, 0, 0, 0, 0, 0, 0] := by rw [hw17]; exact hR16.other (q := ⟨rb, 2, none⟩) hRX _
        have hX17 : Blk w17 rb 36 [id, z2, z16, z4, z5, z6, z7] := by rw [hw17]; exact hX16.set 2 _
        clear x0 x1 x2 x3 x4 x5 x6 xf hC16 hF16 hR16 hX16 hw17
        have x0 : w17.cell? ⟨rb, 0, none⟩ = some (.int .i64 (id)) := hX17.cell (j := 0) (by simp)
        have x1 : w17.cell? ⟨rb, 1, none⟩ = some (.int .i64 (z2)) := hX17.cell (j := 1) (by simp)
        have x2 : w17.cell? ⟨rb, 2, none⟩ = some (.int .i64 (z16)) := hX17.cell (j := 2) (by simp)
        have x3 : w17.cell? ⟨rb, 3, none⟩ = some (.int .i64 (z4)) := hX17.cell (j := 3) (by simp)
        have x4 : w17.cell? ⟨rb, 4, none⟩ = some (.int .i64 (z5)) := hX17.cell (j := 4) (by simp)
        have x5 : w17.cell? ⟨rb, 5, none⟩ = some (.int .i64 (z6)) := hX17.cell (j := 5) (by simp)
        have x6 : w17.cell? ⟨rb, 6, none⟩ = some (.int .i64 (z7)) := hX17.cell (j := 6) (by simp)
        have xf : ∀ j, w17.frozen? ⟨rb, j, none⟩ = false := hX17.fz
        have y0 : w17.cell? ⟨w.heap.size, 0, none⟩ = some (.int .i64 0) := hR17.cell (j := 0) (by simp)
        have y1 : w17.cell? ⟨w.heap.size, 1, none⟩ = some (.int .i64 0) := hR17.cell (j := 1) (by simp)
        have y2 : w17.cell? ⟨w.heap.size, 2, none⟩ = some (.int .i64 0) := hR17.cell (j := 2) (by simp)
        have y3 : w17.cell? ⟨w.heap.size, 3, none⟩ = some (.int .i64 0) := hR17.cell (j := 3) (by simp)
        have y4 : w17.cell? ⟨w.heap.size, 4, none⟩ = some (.int .i64 0) := hR17.cell (j := 4) (by simp)
        have y5 : w17.cell? ⟨w.heap.size, 5, none⟩ = some (.int .i64 0) := hR17.cell (j := 5) (by simp)
        have y6 : w17.cell? ⟨w.heap.size, 6, none⟩ = some (.int .i64 0) := hR17.cell (j := 6) (by simp)
        have yf : ∀ j, w17.frozen? ⟨w.heap.size, j, none⟩ = false := hR17.fz
        go_wp2
        obtain ⟨wq, hwq⟩ : ∃ wq, wq = (((((((w17.setCell ⟨w.heap.size, 0, none⟩ (.int .i64 (id))).setCell ⟨w.heap.size, 1, none⟩ (.int .i64 (z2))).setCell ⟨w.heap.size, 2, none⟩ (.int .i64 (z16))).setCell ⟨w.heap.size, 3, none⟩ (.int .i64 (z4))).setCell ⟨w.heap.size, 4, none⟩ (.int .i64 (z5))).setCell ⟨w.heap.size, 5, none⟩ (.int .i64 (z6))).setCell ⟨w.heap.size, 6, none⟩ (.int .i64 (z7))) := ⟨_, rfl⟩
        rw [← hwq]
        have q0 : wq.cell? ⟨w.heap.size, 0, none⟩ = some (.int .i64 (id)) := by rw [hwq]; go_simp
        have q1 : wq.cell? ⟨w.heap.size, 1, none⟩ = some (.int .i64 (z2)) := by rw [hwq]; go_simp
        have q2 : wq.cell? ⟨w.heap.size, 2, none⟩ = some (.int .i64 (z16)) := by rw [hwq]; go_simp
        have q3 : wq.cell? ⟨w.heap.size, 3, none⟩ = some (.int .i64 (z4)) := by rw [hwq]; go_simp
        have q4 : wq.cell? ⟨w.heap.size, 4, none⟩ = some (.int .i64 (z5)) := by rw [hwq]; go_simp
        have q5 : wq.cell? ⟨w.heap.size, 5, none⟩ = some (.int .i64 (z6)) := by rw [hwq]; go_simp
        have q6 : wq.cell? ⟨w.heap.size, 6, none⟩ = some (.int .i64 (z7)) := by rw [hwq]; go_simp
        have hCq : Cur wq g A n c (p + 16) := by rw [hwq]; exact (((((((hC17.setOwn (q := ⟨w.heap.size, 0, none⟩) hgR _).setOwn (q := ⟨w.heap.size, 1, none⟩) hgR _).setOwn (q := ⟨w.heap.size, 2, none⟩) hgR _).setOwn (q := ⟨w.heap.size, 3, none⟩) hgR _).setOwn (q := ⟨w.heap.size, 4, none⟩) hgR _).setOwn (q := ⟨w.heap.size, 5, none⟩) hgR _).setOwn (q := ⟨w.heap.size, 6, none⟩) hgR _)
        have hFq : Fr g (g + 1) w wq := by rw [hwq]; exact (((((((hF17.setOwn (j := 0) (p := ⟨w.heap.size, 0, none⟩) HWR.out _).setOwn (j := 0) (p := ⟨w.heap.size, 1, none⟩) HWR.out _).setOwn (j := 0) (p := ⟨w.heap.size, 2, none⟩) HWR.out _).setOwn (j := 0) (p := ⟨w.heap.size, 3, none⟩) HWR.out _).setOwn (j := 0) (p := ⟨w.heap.size, 4, none⟩) HWR.out _).setOwn (j := 0) (p := ⟨w.heap.size, 5, none⟩) HWR.out _).setOwn (j := 0) (p := ⟨w.heap.size, 6, none⟩) HWR.out _)
        clear hwq hC17 hF17 hR17 hX17 x0 y0 x1 y1 x2 y2 x3 y3 x4 y4 x5 y5 x6 y6 xf yf
        refine bodyPost_ret (by simp [results, Tryd.results56, go_sem, q0, q1, q2, q3, q4, q5, q6]; try rfl) rfl ?_
        exact ⟨id, z2, z16, z4, z5, z6, z7, rfl, hCq.weaken (by omega), hFq⟩
      · have n2 : ((m9 : Int) == 2) = false := by simp; omega
        by_cases e3 : m9 = 3
        · subst e3
          have x0 : w9.cell? ⟨rb, 0, none⟩ = some (.int .i64 (id)) := hX9.cell (j := 0) (by simp)
          have x1 : w9.cell? ⟨rb, 1, none⟩ = some (.int .i64 (z2)) := hX9.cell (j := 1) (by simp)
          have x2 : w9.cell? ⟨rb, 2, none⟩ = some (.int .i64 (z3)) := hX9.cell (j := 2) (by simp)
          have x3 : w9.cell? ⟨rb, 3, none⟩ = some (.int .i64 (z4)) := hX9.cell (j := 3) (by simp)
          have x4 : w9.cell? ⟨rb, 4, none⟩ = some (.int .i64 (z5)) := hX9.cell (j := 4) (by simp)
          have x5 : w9.cell? ⟨rb, 5, none⟩ = some (.int .i64 (z6)) := hX9.cell (j := 5) (by simp)
          have x6 : w9.cell? ⟨rb, 6, none⟩ = some (.int .i64 (z7)) := hX9.cell (j := 6) (by simp)
          have xf : ∀ j, w9.frozen? ⟨rb, j, none⟩ = false := hX9.fz
          go_wp2_with fail
          refine (among_lit g n c _ _ A _ [-1, 4001] _ _ _ rfl rfl (by simp) (by simp) hC9 hn (by omega)).mono ?_
          rintro e w19 ⟨z19, rfl, hC19, hf19⟩
          have hF19 := hF9.trans hf19
          have hR19 := hR9.fr hf19 hgR
          have hX19 := hX9.fr hf19 hgX
          clear x0 x1 x2 x3 x4 x5 x6 xf hX9
          clear hC9 hF9 hR9 hf19
          have x0 : w19.cell? ⟨rb, 0, none⟩ = some (.int .i64 (id)) := hX19.cell (j := 0) (by simp)
          have x1 : w19.cell? ⟨rb, 1, none⟩ = some (.int .i64 (z2)) := hX19.cell (j := 1) (by simp)
          have x2 : w19.cell? ⟨rb, 2, none⟩ = some (.int .i64 (z3)) := hX19.cell (j := 2) (by simp)
          have x3 : w19.cell? ⟨rb, 3, none⟩ = some (.int .i64 (z4)) := hX19.cell (j := 3) (by simp)
          have x4 : w19.cell? ⟨rb, 4, none⟩ = some (.int .i64 (z5)) := hX19.cell (j := 4) (by simp)
          have x5 : w19.cell? ⟨rb, 5, none⟩ = some (.int .i64 (z6)) := hX19.cell (j := 5) (by simp)
          have x6 : w19.cell? ⟨rb, 6, none⟩ = some (.int .i64 (z7)) := hX19.cell (j := 6) (by simp)
          have xf : ∀ j, w19.frozen? ⟨rb, j, none⟩ = false := hX19.fz
          go_upto_region 17 with fail
          refine nameW0 ?_
          intro w20 hw20
          have hC20 : Cur w20 g A n c (p + 16) := by rw [hw20]; exact hC19.setOwn (q := ⟨rb, 3, none⟩) hgX _
          have hF20 : Fr g (g + 1) w w20 := by rw [hw20]; exact hF19.setOwn (j := 0) (p := ⟨rb, 3, none⟩) hwX _
          have hR20 : Blk w20 w.heap.size 36 [0, 0, 0, 0, 0, 0, 0] := by rw [hw20]; exact hR19.other (q := ⟨rb, 3, none⟩) hRX _
          have hX20 : Blk w20 rb 36 [id, z2, z3, z19, z5, z6, z7] := by rw [hw20]; exact hX19.set 3 _
          clear x0 x1 x2 x3 x4 x5 x6 xf hC19 hF19 hR19 hX19 hw20
          have x0 : w20.cell? ⟨rb, 0, none⟩ = some (.int .i64 (id)) := hX20.cell (j := 0) (by simp)
          have x1 : w20.cell? ⟨rb, 1, none⟩ = some (.int .i64 (z2)) := hX20.cell (j := 1) (by simp)
          have x2 : w20.cell? ⟨rb, 2, none⟩ = some (.int .i64 (z3)) := hX20.cell (j := 2) (by simp)
          have x3 : w20.cell? ⟨rb, 3, none⟩ = some (.int .i64 (z19)) := hX20.cell (j := 3) (by simp)
          have x4 : w20.cell? ⟨rb, 4, none⟩ = some (.int .i64 (z5)) := hX20.cell (j := 4) (by simp)
          have x5 : w20.cell? ⟨rb, 5, none⟩ = some (.int .i64 (z6)) := hX20.cell (j := 5) (by simp)
          have x6 : w20.cell? ⟨rb, 6, none⟩ = some (.int .i64 (z7)) := hX20.cell (j := 6) (by simp)
          have xf : ∀ j, w20.frozen? ⟨rb, j, none⟩ = false := hX20.fz
          have y0 : w20.cell? ⟨w.heap.size, 0, none⟩ = some (.int .i64 0) := hR20.cell (j := 0) (by simp)
          have y1 : w20.cell? ⟨w.heap.size, 1, none⟩ = some (.int .i64 0) := hR20.cell (j := 1) (by simp)
          have y2 : w20.cell? ⟨w.heap.size, 2, none⟩ = some (.int .i64 0) := hR20.cell (j := 2) (by simp)
          have y3 : w20.cell? ⟨w.heap.size, 3, none⟩ = some (.int .i64 0) := hR20.cell (j := 3) (by simp)
          have y4 : w20.cell? ⟨w.heap.size, 4, none⟩ = some (.int .i64 0) := hR20.cell (j := 4) (by simp)
          have y5 : w20.cell? ⟨w.heap.size, 5, none⟩ = some (.int .i64 0) := hR20.cell (j := 5) (by simp)
          have y6 : w20.cell? ⟨w.heap.size, 6, none⟩ = some (.int .i64 0) := hR20.cell (j := 6) (by simp)
          have yf : ∀ j, w20.frozen? ⟨w.heap.size, j, none⟩ = false := hR20.fz
          go_wp2
          obtain ⟨wq, hwq⟩ : ∃ wq, wq = (((((((w20.setCell ⟨w.heap.size, 0, none⟩ (.int .i64 (id))).setCell ⟨w.heap.size, 1, none⟩ (.int .i64 (z2))).setCell ⟨w.heap.size, 2, none⟩ (.int .i64 (z3))).setCell ⟨w.heap.size, 3, none⟩ (.int .i64 (z19))).setCell ⟨w.heap.size, 4, none⟩ (.int .i64 (z5))).setCell ⟨w.heap.size, 5, none⟩ (.int .i64 (z6))).setCell ⟨w.heap.size, 6, none⟩ (.int .i64 (z7))) := ⟨_, rfl⟩
          rw [← hwq]
          have q0 : wq.cell? ⟨w.heap.size, 0, none⟩ = some (.int .i64 (id)) := by rw [hwq]; go_simp
          have q1 : wq.cell? ⟨w.heap.size, 1, none⟩ = some (.int .i64 (z2)) := by rw [hwq]; go_simp
          have q2 : wq.cell? ⟨w.heap.size, 2, none⟩ = some (.int .i64 (z3)) := by rw [hwq]; go_simp
          have q3 : wq.cell? ⟨w.heap.size, 3, none⟩ = some (.int .i64 (z19)) := by rw [hwq]; go_simp
          have q4 : wq.cell? ⟨w.heap.size, 4, none⟩ = some (.int .i64 (z5)) := by rw [hwq]; go_simp
          have q5 : wq.cell? ⟨w.heap.size, 5, none⟩ = some (.int .i64 (z6)) := by rw [hwq]; go_simp
          have q6 : wq.cell? ⟨w.heap.size, 6, none⟩ = some (.int .i64 (z7)) := by rw [hwq]; go_simp
          have hCq : Cur wq g A n c (p + 16) := by rw [hwq]; exact (((((((hC20.setOwn (q := ⟨w.heap.size, 0, none⟩) hgR _).setOwn (q := ⟨w.heap.size, 1, none⟩) hgR _).setOwn (q := ⟨w.heap.size, 2, none⟩) hgR _).setOwn (q := ⟨w.heap.size, 3, none⟩) hgR _).setOwn (q := ⟨w.heap.size, 4, none⟩) hgR _).setOwn (q := ⟨w.heap.size, 5, none⟩) hgR _).setOwn (q := ⟨w.heap.size, 6, none⟩) hgR _)
          have hFq : Fr g (g + 1) w wq := by rw [hwq]; exact (((((((hF20.setOwn (j := 0) (p := ⟨w.heap.size, 0, none⟩) HWR.out _).setOwn (j := 0) (p := ⟨w.heap.size, 1, none⟩) HWR.out _).setOwn (j := 0) (p := ⟨w.heap.size, 2, none⟩) HWR.out _).setOwn (j := 0) (p := ⟨w.heap.size, 3, none⟩) HWR.out _).setOwn (j := 0) (p := ⟨w.heap.size, 4, none⟩) HWR.out _).setOwn (j := 0) (p := ⟨w.heap.size, 5, none⟩) HWR.out _).setOwn (j := 0) (p := ⟨w.heap.size, 6, none⟩) HWR.out _)
          clear hwq hC20 hF20 hR20 hX20 x0 y0 x1 y1 x2 y2 x3 y3 x4 y4 x5 y5 x6 y6 xf yf
          refine bodyPost_ret (by simp [results, Tryd.results56, go_sem, q0, q1, q2, q3, q4, q5, q6]; try rfl) rfl ?_
          exact ⟨id, z2, z3, z19, z5, z6, z7, rfl, hCq.weaken (by omega), hFq⟩
        · have n3 : ((m9 : Int) == 3) = false := by simp; omega
          by_cases e4 : m9 = 4
          · subst e4
            have x0 : w9.cell? ⟨rb, 0, none⟩ = some (.int .i64 (id)) := hX9.cell (j := 0) (by simp)
            have x1 : w9.cell? ⟨rb, 1, none⟩ = some (.int .i64 (z2)) := hX9.cell (j := 1) (by simp)
            have x2 : w9.cell? ⟨rb, 2, none⟩ = some (.int .i64 (z3)) := hX9.cell (j := 2) (by simp)
            have x3 : w9.cell? ⟨rb, 3, none⟩ = some (.int .i64 (z4)) := hX9.cell (j := 3) (by simp)
            have x4 : w9.cell? ⟨rb, 4, none⟩ = some (.int .i64 (z5)) := hX9.cell (j := 4) (by simp)
            have x5 : w9.cell? ⟨rb, 5, none⟩ = some (.int .i64 (z6)) := hX9.cell (j := 5) (by simp)
            have x6 : w9.cell? ⟨rb, 6, none⟩ = some (.int .i64 (z7)) := hX9.cell (j := 6) (by simp)
            have xf : ∀ j, w9.frozen? ⟨rb, j, none⟩ = false := hX9.fz
            go_wp2_with fail
            refine (among_lit g n c _ _ A _ [9, 61] _ _ _ rfl rfl (by simp) (by simp) hC9 hn (by omega)).mono ?_
            rintro e w22 ⟨z22, rfl, hC22, hf22⟩
            have hF22 := hF9.trans hf22
            have hR22 := hR9.fr hf22 hgR
            have hX22 := hX9.fr hf22 hgX
            clear x0 x1 x2 x3 x4 x5 x6 xf hX9
            clear hC9 hF9 hR9 hf22
            have x0 : w22.cell? ⟨rb, 0, none⟩ = some (.int .i64 (id)) := hX22.cell (j := 0) (by simp)
            have x1 : w22.cell? ⟨rb, 1, none⟩ = some (.int .i64 (z2)) := hX22.cell (j := 1) (by simp)
            have x2 : w22.cell? ⟨rb, 2, none⟩ = some (.int .i64 (z3)) := hX22.cell (j := 2) (by simp)
            have x3 : w22.cell? ⟨rb, 3, none⟩ = some (.int .i64 (z4)) := hX22.cell (j := 3) (by simp)
            have x4 : w22.cell? ⟨rb, 4, none⟩ = some (.int .i64 (z5)) := hX22.cell (j := 4) (by simp)
            have x5 : w22.cell? ⟨rb, 5, none⟩ = some (.int .i64 (z6)) := hX22.cell (j := 5) (by simp)
            have x6 : w22.cell? ⟨rb, 6, none⟩ = some (.int .i64 (z7)) := hX22.cell (j := 6) (by simp)
            have xf : ∀ j, w22.frozen? ⟨rb, j, none⟩ = false := hX22.fz
            go_upto_region 17 with fail
            refine nameW0 ?_
            intro w23 hw23
            have hC23 : Cur w23 g A n c (p + 16) := by rw [hw23]; exact hC22.setOwn (q := ⟨rb, 4, none⟩) hgX _
            have hF23 : Fr g (g + 1) w w23 := by rw [hw23]; exact hF22.setOwn (j := 0) (p := ⟨rb, 4, none⟩) hwX _
            have hR23 : Blk w23 w.heap.size 36 [0, 0, 0, 0, 0, 0, 0] := by rw [hw23]; exact hR22.other (q := ⟨rb, 4, none⟩) hRX _
            have hX23 : Blk w23 rb 36 [id, z2, z3, z4, z22, z6, z7] := by rw [hw23]; exact hX22.set 4 _
            clear x0 x1 x2 x3 x4 x5 x6 xf hC22 hF22 hR22 hX22 hw23
            have x0 : w23.cell? ⟨rb, 0, none⟩ = some (.int .i64 (id)) := hX23.cell (j := 0) (by simp)
            have x1 : w23.cell? ⟨rb, 1, none⟩ = some (.int .i64 (z2)) := hX23.cell (j := 1) (by simp)
            have x2 : w23.cell? ⟨rb, 2, none⟩ = some (.int .i64 (z3)) := hX23.cell (j := 2) (by simp)
            have x3 : w23.cell? ⟨rb, 3, none⟩ = some (.int .i64 (z4)) := hX23.cell (j := 3) (by simp)
            have x4 : w23.cell? ⟨rb, 4, none⟩ = some (.int .i64 (z22)) := hX23.cell (j := 4) (by simp)
            have x5 : w23.cell? ⟨rb, 5, none⟩ = some (.int .i64 (z6)) := hX23.cell (j := 5) (by simp)
            have x6 : w23.cell? ⟨rb, 6, none⟩ = some (.int .i64 (z7)) := hX23.cell (j := 6) (by simp)
            have xf : ∀ j, w23.frozen? ⟨rb, j, none⟩ = false := hX23.fz
            have y0 : w23.cell? ⟨w.heap.size, 0, none⟩ = some (.int .i64 0) := hR23.cell (j := 0) (by simp)
            have y1 : w23.cell? ⟨w.heap.size, 1, none⟩ = some (.int .i64 0) := hR23.cell (j := 1) (by simp)
            have y2 : w23.cell? ⟨w.heap.size, 2, none⟩ = some (.int .i64 0) := hR23.cell (j := 2) (by simp)
            have y3 : w23.cell? ⟨w.heap.size, 3, none⟩ = some (.int .i64 0) := hR23.cell (j := 3) (by simp)
            have y4 : w23.cell? ⟨w.heap.size, 4, none⟩ = some (.int .i64 0) := hR23.cell (j := 4) (by simp)
            have y5 : w23.cell? ⟨w.heap.size, 5, none⟩ = some (.int .i64 0) := hR23.cell (j := 5) (by simp)
            have y6 : w23.cell? ⟨w.heap.size, 6, none⟩ = some (.int .i64 0) := hR23.cell (j := 6) (by simp)
            have yf : ∀ j, w23.frozen? ⟨w.heap.size, j, none⟩ = false := hR23.fz
            go_wp2
            obtain ⟨wq, hwq⟩ : ∃ wq, wq = (((((((w23.setCell ⟨w.heap.size, 0, none⟩ (.int .i64 (id))).setCell ⟨w.heap.size, 1, none⟩ (.int .i64 (z2))).setCell ⟨w.heap.size, 2, none⟩ (.int .i64 (z3))).setCell ⟨w.heap.size, 3, none⟩ (.int .i64 (z4))).setCell ⟨w.heap.size, 4, none⟩ (.int .i64 (z22))).setCell ⟨w.heap.size, 5, none⟩ (.int .i64 (z6))).setCell ⟨w.heap.size, 6, none⟩ (.int .i64 (z7))) := ⟨_, rfl⟩
            rw [← hwq]
            have q0 : wq.cell? ⟨w.heap.size, 0, none⟩ = some (.int .i64 (id)) := by rw [hwq]; go_simp
            have q1 : wq.cell? ⟨w.heap.size, 1, none⟩ = some (.int .i64 (z2)) := by rw [hwq]; go_simp
            have q2 : wq.cell? ⟨w.heap.size, 2, none⟩ = some (.int .i64 (z3)) := by rw [hwq]; go_simp
            have q3 : wq.cell? ⟨w.heap.size, 3, none⟩ = some (.int .i64 (z4)) := by rw [hwq]; go_simp
            have q4 : wq.cell? ⟨w.heap.size, 4, none⟩ = some (.int .i64 (z22)) := by rw [hwq]; go_simp
            have q5 : wq.cell? ⟨w.heap.size, 5, none⟩ = some (.int .i64 (z6)) := by rw [hwq]; go_simp
            have q6 : wq.cell? ⟨w.heap.size, 6, none⟩ = some (.int .i64 (z7)) := by rw [hwq]; go_simp
            have hCq : Cur wq g A n c (p + 16) := by rw [hwq]; exact (((((((hC23.setOwn (q := ⟨w.heap.size, 0, none⟩) hgR _).setOwn (q := ⟨w.heap.size, 1, none⟩) hgR _).setOwn (q := ⟨w.heap.size, 2, none⟩) hgR _).setOwn (q := ⟨w.heap.size, 3, none⟩) hgR _).setOwn (q := ⟨w.heap.size, 4, none⟩) hgR _).setOwn (q := ⟨w.heap.size, 5, none⟩) hgR _).setOwn (q := ⟨w.heap.size, 6, none⟩) hgR _)
            have hFq : Fr g (g + 1) w wq := by rw [hwq]; exact (((((((hF23.setOwn (j := 0) (p := ⟨w.heap.size, 0, none⟩) HWR.out _).setOwn (j := 0) (p := ⟨w.heap.size, 1, none⟩) HWR.out _).setOwn (j := 0) (p := ⟨w.heap.size, 2, none⟩) HWR.out _).setOwn (j := 0) (p := ⟨w.heap.size, 3, none⟩) HWR.out _).setOwn (j := 0) (p := ⟨w.heap.size, 4, none⟩) HWR.out _).setOwn (j := 0) (p := ⟨w.heap.size, 5, none⟩) HWR.out _).setOwn (j := 0) (p := ⟨w.heap.size, 6, none⟩) HWR.out _)
            clear hwq hC23 hF23 hR23 hX23 x0 y0 x1 y1 x2 y2 x3 y3 x4 y4 x5 y5 x6 y6 xf yf
            refine bodyPost_ret (by simp [results, Tryd.results56, go_sem, q0, q1, q2, q3, q4, q5, q6]; try rfl) rfl ?_
            exact ⟨id, z2, z3, z4, z22, z6, z7, rfl, hCq.weaken (by omega), hFq⟩
          · have n4 : ((m9 : Int) == 4) = false := by simp; omega
            by_cases e5 : m9 = 5
            · subst e5
              have x0 : w9.cell? ⟨rb, 0, none⟩ = some (.int .i64 (id)) := hX9.cell (j := 0) (by simp)
              have x1 : w9.cell? ⟨rb, 1, none⟩ = some (.int .i64 (z2)) := hX9.cell (j := 1) (by simp)
              have x2 : w9.cell? ⟨rb, 2, none⟩ = some (.int .i64 (z3)) := hX9.cell (j := 2) (by simp)
              have x3 : w9.cell? ⟨rb, 3, none⟩ = some (.int .i64 (z4)) := hX9.cell (j := 3) (by simp)
              have x4 : w9.cell? ⟨rb, 4, none⟩ = some (.int .i64 (z5)) := hX9.cell (j := 4) (by simp)
              have x5 : w9.cell? ⟨rb, 5, none⟩ = some (.int .i64 (z6)) := hX9.cell (j := 5) (by simp)
              have x6 : w9.cell? ⟨rb, 6, none⟩ = some (.int .i64 (z7)) := hX9.cell (j := 6) (by simp)
              have xf : ∀ j, w9.frozen? ⟨rb, j, none⟩ = false := hX9.fz
              go_wp2_with fail
              refine (among_lit g n c _ _ A _ [-1, 1000] _ _ _ rfl rfl (by simp) (by simp) hC9 hn (by omega)).mono ?_
              rintro e w25 ⟨z25, rfl, hC25, hf25⟩
              have hF25 := hF9.trans hf25
              have hR25 := hR9.fr hf25 hgR
              have hX25 := hX9.fr hf25 hgX
              clear x0 x1 x2 x3 x4 x5 x6 xf hX9
              clear hC9 hF9 hR9 hf25
              have x0 : w25.cell? ⟨rb, 0, none⟩ = some (.int .i64 (id)) := hX25.cell (j := 0) (by simp)
              have x1 : w25.cell? ⟨rb, 1, none⟩ = some (.int .i64 (z2)) := hX25.cell (j := 1) (by simp)
              have x2 : w25.cell? ⟨rb, 2, none⟩ = some (.int .i64 (z3)) := hX25.cell (j := 2) (by simp)
              have x3 : w25.cell? ⟨rb, 3, none⟩ = some (.int .i64 (z4)) := hX25.cell (j := 3) (by simp)
              have x4 : w25.cell? ⟨rb, 4, none⟩ = some (.int .i64 (z5)) := hX25.cell (j := 4) (by simp)
              have x5 : w25.cell? ⟨rb, 5, none⟩ = some (.int .i64 (z6)) := hX25.cell (j := 5) (by simp)
              have x6 : w25.cell? ⟨rb, 6, none⟩ = some (.int .i64 (z7)) := hX25.cell (j := 6) (by simp)
              have xf : ∀ j, w25.frozen? ⟨rb, j, none⟩ = false := hX25.fz
              go_upto_region 17 with fail
              refine nameW0 ?_
              intro w26 hw26
              have hC26 : Cur w26 g A n c (p + 16) := by rw [hw26]; exact hC25.setOwn (q := ⟨rb, 5, none⟩) hgX _
              have hF26 : Fr g (g + 1) w w26 := by rw [hw26]; exact hF25.setOwn (j := 0) (p := ⟨rb, 5, none⟩) hwX _
              have hR26 : Blk w26 w.heap.size 36 [0, 0, 0, 0, 0, 0, 0] := by rw [hw26]; exact hR25.other (q := ⟨rb, 5, none⟩) hRX _
              have hX26 : Blk w26 rb 36 [id, z2, z3, z4, z5, z25, z7] := by rw [hw26]; exact hX25.set 5 _
              clear x0 x1 x2 x3 x4 x5 x6 xf hC25 hF25 hR25 hX25 hw26
              have x0 : w26.cell? ⟨rb, 0, none⟩ = some (.int .i64 (id)) := hX26.cell (j := 0) (by simp)
              have x1 : w26.cell? ⟨rb, 1, none⟩ = some (.int .i64 (z2)) := hX26.cell (j := 1) (by simp)
              have x2 : w26.cell? ⟨rb, 2, none⟩ = some (.int .i64 (z3)) := hX26.cell (j := 2) (by simp)
              have x3 : w26.cell? ⟨rb, 3, none⟩ = some (.int .i64 (z4)) := hX26.cell (j := 3) (by simp)
              have x4 : w26.cell? ⟨rb, 4, none⟩ = some (.int .i64 (z5)) := hX26.cell (j := 4) (by simp)
              have x5 : w26.cell? ⟨rb, 5, none⟩ = some (.int .i64 (z25)) := hX26.cell (j := 5) (by simp)
              have x6 : w26.cell? ⟨rb, 6, none⟩ = some (.int .i64 (z7)) := hX26.cell (j := 6) (by simp)
              have xf : ∀ j, w26.frozen? ⟨rb, j, none⟩ = false := hX26.fz
              have y0 : w26.cell? ⟨w.heap.size, 0, none⟩ = some (.int .i64 0) := hR26.cell (j := 0) (by simp)
              have y1 : w26.cell? ⟨w.heap.size, 1, none⟩ = some (.int .i64 0) := hR26.cell (j := 1) (by simp)
              have y2 : w26.cell? ⟨w.heap.size, 2, none⟩ = some (.int .i64 0) := hR26.cell (j := 2) (by simp)
              have y3 : w26.cell? ⟨w.heap.size, 3, none⟩ = some (.int .i64 0) := hR26.cell (j := 3) (by simp)
              have y4 : w26.cell? ⟨w.heap.size, 4, none⟩ = some (.int .i64 0) := hR26.cell (j := 4) (by simp)
              have y5 : w26.cell? ⟨w.heap.size, 5, none⟩ = some (.int .i64 0) := hR26.cell (j := 5) (by simp)
              have y6 : w26.cell? ⟨w.heap.size, 6, none⟩ = some (.int .i64 0) := hR26.cell (j := 6) (by simp)
              have yf : ∀ j, w26.frozen? ⟨w.heap.size, j, none⟩ = false := hR26.fz
              go_wp2
              obtain ⟨wq, hwq⟩ : ∃ wq, wq = (((((((w26.setCell ⟨w.heap.size, 0, none⟩ (.int .i64 (id))).setCell ⟨w.heap.size, 1, none⟩ (.int .i64 (z2))).setCell ⟨w.heap.size, 2, none⟩ (.int .i64 (z3))).setCell ⟨w.heap.size, 3, none⟩ (.int .i64 (z4))).setCell ⟨w.heap.size, 4, none⟩ (.int .i64 (z5))).setCell ⟨w.heap.size, 5, none⟩ (.int .i64 (z25))).setCell ⟨w.heap.size, 6, none⟩ (.int .i64 (z7))) := ⟨_, rfl⟩
              rw [← hwq]
              have q0 : wq.cell? ⟨w.heap.size, 0, none⟩ = some (.int .i64 (id)) := by rw [hwq]; go_simp
              have q1 : wq.cell? ⟨w.heap.size, 1, none⟩ = some (.int .i64 (z2)) := by rw [hwq]; go_simp
              have q2 : wq.cell? ⟨w.heap.size, 2, none⟩ = some (.int .i64 (z3)) := by rw [hwq]; go_simp
              have q3 : wq.cell? ⟨w.heap.size, 3, none⟩ = some (.int .i64 (z4)) := by rw [hwq]; go_simp
              have q4 : wq.cell? ⟨w.heap.size, 4, none⟩ = some (.int .i64 (z5)) := by rw [hwq]; go_simp
              have q5 : wq.cell? ⟨w.heap.size, 5, none⟩ = some (.int .i64 (z25)) := by rw [hwq]; go_simp
              have q6 : wq.cell? ⟨w.heap.size, 6, none⟩ = some (.int .i64 (z7)) := by rw [hwq]; go_simp
              have hCq : Cur wq g A n c (p + 16) := by rw [hwq]; exact (((((((hC26.setOwn (q := ⟨w.heap.size, 0, none⟩) hgR _).setOwn (q := ⟨w.heap.size, 1, none⟩) hgR _).setOwn (q := ⟨w.heap.size, 2, none⟩) hgR _).setOwn (q := ⟨w.heap.size, 3, none⟩) hgR _).setOwn (q := ⟨w.heap.size, 4, none⟩) hgR _).setOwn (q := ⟨w.heap.size, 5, none⟩) hgR _).setOwn (q := ⟨w.heap.size, 6, none⟩) hgR _)
              have hFq : Fr g (g + 1) w wq := by rw [hwq]; exact (((((((hF26.setOwn (j := 0) (p := ⟨w.heap.size, 0, none⟩) HWR.out _).setOwn (j := 0) (p := ⟨w.heap.size, 1, none⟩) HWR.out _).setOwn (j := 0) (p := ⟨w.heap.size, 2, none⟩) HWR.out _).setOwn (j := 0) (p := ⟨w.heap.size, 3, none⟩) HWR.out _).setOwn (j := 0) (p := ⟨w.heap.size, 4, none⟩) HWR.out _).setOwn (j := 0) (p := ⟨w.heap.size, 5, none⟩) HWR.out _).setOwn (j := 0) (p := ⟨w.heap.size, 6, none⟩) HWR.out _)
              clear hwq hC26 hF26 hR26 hX26 x0 y0 x1 y1 x2 y2 x3 y3 x4 y4 x5 y5 x6 y6 xf yf
              refine bodyPost_ret (by simp [results, Tryd.results56, go_sem, q0, q1, q2, q3, q4, q5, q6]; try rfl) rfl ?_
              exact ⟨id, z2, z3, z4, z5, z25, z7, rfl, hCq.weaken (by omega), hFq⟩
            · have n5 : ((m9 : Int) == 5) = false := by simp; omega
              by_cases e6 : m9 = 6
              · subst e6
                have x0 : w9.cell? ⟨rb, 0, none⟩ = some (.int .i64 (id)) := hX9.cell (j := 0) (by simp)
                have x1 : w9.cell? ⟨rb, 1, none⟩ = some (.int .i64 (z2)) := hX9.cell (j := 1) (by simp)
                have x2 : w9.cell? ⟨rb, 2, none⟩ = some (.int .i64 (z3)) := hX9.cell (j := 2) (by simp)
                have x3 : w9.cell? ⟨rb, 3, none⟩ = some (.int .i64 (z4)) := hX9.cell (j := 3) (by simp)
                have x4 : w9.cell? ⟨rb, 4, none⟩ = some (.int .i64 (z5)) := hX9.cell (j := 4) (by simp)
                have x5 : w9.cell? ⟨rb, 5, none⟩ = some (.int .i64 (z6)) := hX9.cell (j := 5) (by simp)
                have x6 : w9.cell? ⟨rb, 6, none⟩ = some (.int .i64 (z7)) := hX9.cell (j := 6) (by simp)
                have xf : ∀ j, w9.frozen? ⟨rb, j, none⟩ = false := hX9.fz
                go_wp2_with fail
                refine (among_lit g n c _ _ A _ [-1, 1000] _ _ _ rfl rfl (by simp) (by simp) hC9 hn (by omega)).mono ?_
                rintro e w28 ⟨z28, rfl, hC28, hf28⟩
                have hF28 := hF9.trans hf28
                have hR28 := hR9.fr hf28 hgR
                have hX28 := hX9.fr hf28 hgX
                clear x0 x1 x2 x3 x4 x5 x6 xf hX9
                clear hC9 hF9 hR9 hf28
                have x0 : w28.cell? ⟨rb, 0, none⟩ = some (.int .i64 (id)) := hX28.cell (j := 0) (by simp)
                have x1 : w28.cell? ⟨rb, 1, none⟩ = some (.int .i64 (z2)) := hX28.cell (j := 1) (by simp)
                have x2 : w28.cell? ⟨rb, 2, none⟩ = some (.int .i64 (z3)) := hX28.cell (j := 2) (by simp)
                have x3 : w28.cell? ⟨rb, 3, none⟩ = some (.int .i64 (z4)) := hX28.cell (j := 3) (by simp)
                have x4 : w28.cell? ⟨rb, 4, none⟩ = some (.int .i64 (z5)) := hX28.cell (j := 4) (by simp)
                have x5 : w28.cell? ⟨rb, 5, none⟩ = some (.int .i64 (z6)) := hX28.cell (j := 5) (by simp)
                have x6 : w28.cell? ⟨rb, 6, none⟩ = some (.int .i64 (z7)) := hX28.cell (j := 6) (by simp)
                have xf : ∀ j, w28.frozen? ⟨rb, j, none⟩ = false := hX28.fz
                go_upto_region 17 with fail
                refine nameW0 ?_
                intro w29 hw29
                have hC29 : Cur w29 g A n c (p + 16) := by rw [hw29]; exact hC28.setOwn (q := ⟨rb, 6, none⟩) hgX _
                have hF29 : Fr g (g + 1) w w29 := by rw [hw29]; exact hF28.setOwn (j := 0) (p := ⟨rb, 6, none⟩) hwX _
                have hR29 : Blk w29 w.heap.size 36 [0, 0, 0, 0, 0, 0, 0] := by rw [hw29]; exact hR28.other (q := ⟨rb, 6, none⟩) hRX _
                have hX29 : Blk w29 rb 36 [id, z2, z3, z4, z5, z6, z28] := by rw [hw29]; exact hX28.set 6 _
                clear x0 x1 x2 x3 x4 x5 x6 xf hC28 hF28 hR28 hX28 hw29
                have x0 : w29.cell? ⟨rb, 0, none⟩ = some (.int .i64 (id)) := hX29.cell (j := 0) (by simp)
                have x1 : w29.cell? ⟨rb, 1, none⟩ = some (.int .i64 (z2)) := hX29.cell (j := 1) (by simp)
                have x2 : w29.cell? ⟨rb, 2, none⟩ = some (.int .i64 (z3)) := hX29.cell (j := 2) (by simp)
                have x3 : w29.cell? ⟨rb, 3, none⟩ = some (.int .i64 (z4)) := hX29.cell (j := 3) (by simp)
                have x4 : w29.cell? ⟨rb, 4, none⟩ = some (.int .i64 (z5)) := hX29.cell (j := 4) (by simp)
                have x5 : w29.cell? ⟨rb, 5, none⟩ = some (.int .i64 (z6)) := hX29.cell (j := 5) (by simp)
                have x6 : w29.cell? ⟨rb, 6, none⟩ = some (.int .i64 (z28)) := hX29.cell (j := 6) (by simp)
                have xf : ∀ j, w29.frozen? ⟨rb, j, none⟩ = false := hX29.fz
                have y0 : w29.cell? ⟨w.heap.size, 0, none⟩ = some (.int .i64 0) := hR29.cell (j := 0) (by simp)
                have y1 : w29.cell? ⟨w.heap.size, 1, none⟩ = some (.int .i64 0) := hR29.cell (j := 1) (by simp)
                have y2 : w29.cell? ⟨w.heap.size, 2, none⟩ = some (.int .i64 0) := hR29.cell (j := 2) (by simp)
                have y3 : w29.cell? ⟨w.heap.size, 3, none⟩ = some (.int .i64 0) := hR29.cell (j := 3) (by simp)
                have y4 : w29.cell? ⟨w.heap.size, 4, none⟩ = some (.int .i64 0) := hR29.cell (j := 4) (by simp)
                have y5 : w29.cell? ⟨w.heap.size, 5, none⟩ = some (.int .i64 0) := hR29.cell (j := 5) (by simp)
                have y6 : w29.cell? ⟨w.heap.size, 6, none⟩ = some (.int .i64 0) := hR29.cell (j := 6) (by simp)
                have yf : ∀ j, w29.frozen? ⟨w.heap.size, j, none⟩ = false := hR29.fz
                go_wp2
                obtain ⟨wq, hwq⟩ : ∃ wq, wq = (((((((w29.setCell ⟨w.heap.size, 0, none⟩ (.int .i64 (id))).setCell ⟨w.heap.size, 1, none⟩ (.int .i64 (z2))).setCell ⟨w.heap.size, 2, none⟩ (.int .i64 (z3))).setCell ⟨w.heap.size, 3, none⟩ (.int .i64 (z4))).setCell ⟨w.heap.size, 4, none⟩ (.int .i64 (z5))).setCell ⟨w.heap.size, 5, none⟩ (.int .i64 (z6))).setCell ⟨w.heap.size, 6, none⟩ (.int .i64 (z28))) := ⟨_, rfl⟩
                rw [← hwq]
                have q0 : wq.cell? ⟨w.heap.size, 0, none⟩ = some (.int .i64 (id)) := by rw [hwq]; go_simp
                have q1 : wq.cell? ⟨w.heap.size, 1, none⟩ = some (.int .i64 (z2)) := by rw [hwq]; go_simp
                have q2 : wq.cell? ⟨w.heap.size, 2, none⟩ = some (.int .i64 (z3)) := by rw [hwq]; go_simp
                have q3 : wq.cell? ⟨w.heap.size, 3, none⟩ = some (.int .i64 (z4)) := by rw [hwq]; go_simp
                have q4 : wq.cell? ⟨w.heap.size, 4, none⟩ = some (.int .i64 (z5)) := by rw [hwq]; go_simp
                have q5 : wq.cell? ⟨w.heap.size, 5, none⟩ = some (.int .i64 (z6)) := by rw [hwq]; go_simp
                have q6 : wq.cell? ⟨w.heap.size, 6, none⟩ = some (.int .i64 (z28)) := by rw [hwq]; go_simp
                have hCq : Cur wq g A n c (p + 16) := by rw [hwq]; exact (((((((hC29.setOwn (q := ⟨w.heap.size, 0, none⟩) hgR _).setOwn (q := ⟨w.heap.size, 1, none⟩) hgR _).setOwn (q := ⟨w.heap.size, 2, none⟩) hgR _).setOwn (q := ⟨w.heap.size, 3, none⟩) hgR _).setOwn (q := ⟨w.heap.size, 4, none⟩) hgR _).setOwn (q := ⟨w.heap.size, 5, none⟩) hgR _).setOwn (q := ⟨w.heap.size, 6, none⟩) hgR _)
                have hFq : Fr g (g + 1) w wq := by rw [hwq]; exact (((((((hF29.setOwn (j := 0) (p := ⟨w.heap.size, 0, none⟩) HWR.out _).setOwn (j := 0) (p := ⟨w.heap.size, 1, none⟩) HWR.out _).setOwn (j := 0) (p := ⟨w.heap.size, 2, none⟩) HWR.out _).setOwn (j := 0) (p := ⟨w.heap.size, 3, none⟩) HWR.out _).setOwn (j := 0) (p := ⟨w.heap.size, 4, none⟩) HWR.out _).setOwn (j := 0) (p := ⟨w.heap.size, 5, none⟩) HWR.out _).setOwn (j := 0) (p := ⟨w.heap.size, 6, none⟩) HWR.out _)
                clear hwq hC29 hF29 hR29 hX29 x0 y0 x1 y1 x2 y2 x3 y3 x4 y4 x5 y5 x6 y6 xf yf
                refine bodyPost_ret (by simp [results, Tryd.results56, go_sem, q0, q1, q2, q3, q4, q5, q6]; try rfl) rfl ?_
                exact ⟨id, z2, z3, z4, z5, z6, z28, rfl, hCq.weaken (by omega), hFq⟩
              · have n6 : ((m9 : Int) == 6) = false := by simp; omega
                go_upto_region 17 with fail
                have x0 : w9.cell? ⟨rb, 0, none⟩ = some (.int .i64 (id)) := hX9.cell (j := 0) (by simp)
                have x1 : w9.cell? ⟨rb, 1, none⟩ = some (.int .i64 (z2)) := hX9.cell (j := 1) (by simp)
                have x2 : w9.cell? ⟨rb, 2, none⟩ = some (.int .i64 (z3)) := hX9.cell (j := 2) (by simp)
                have x3 : w9.cell? ⟨rb, 3, none⟩ = some (.int .i64 (z4)) := hX9.cell (j := 3) (by simp)
                have x4 : w9.cell? ⟨rb, 4, none⟩ = some (.int .i64 (z5)) := hX9.cell (j := 4) (by simp)
                have x5 : w9.cell? ⟨rb, 5, none⟩ = some (.int .i64 (z6)) := hX9.cell (j := 5) (by simp)
                have x6 : w9.cell? ⟨rb, 6, none⟩ = some (.int .i64 (z7)) := hX9.cell (j := 6) (by simp)
                have xf : ∀ j, w9.frozen? ⟨rb, j, none⟩ = false := hX9.fz
                have y0 : w9.cell? ⟨w.heap.size, 0, none⟩ = some (.int .i64 0) := hR9.cell (j := 0) (by simp)
                have y1 : w9.cell? ⟨w.heap.size, 1, none⟩ = some (.int .i64 0) := hR9.cell (j := 1) (by simp)
                have y2 : w9.cell? ⟨w.heap.size, 2, none⟩ = some (.int .i64 0) := hR9.cell (j := 2) (by simp)
                have y3 : w9.cell? ⟨w.heap.size, 3, none⟩ = some (.int .i64 0) := hR9.cell (j := 3) (by simp)
                have y4 : w9.cell? ⟨w.heap.size, 4, none⟩ = some (.int .i64 0) := hR9.cell (j := 4) (by simp)
                have y5 : w9.cell? ⟨w.heap.size, 5, none⟩ = some (.int .i64 0) := hR9.cell (j := 5) (by simp)
                have y6 : w9.cell? ⟨w.heap.size, 6, none⟩ = some (.int .i64 0) := hR9.cell (j := 6) (by simp)
                have yf : ∀ j, w9.frozen? ⟨w.heap.size, j, none⟩ = false := hR9.fz
                go_wp2
                obtain ⟨wq, hwq⟩ : ∃ wq, wq = (((((((w9.setCell ⟨w.heap.size, 0, none⟩ (.int .i64 (id))).setCell ⟨w.heap.size, 1, none⟩ (.int .i64 (z2))).setCell ⟨w.heap.size, 2, none⟩ (.int .i64 (z3))).setCell ⟨w.heap.size, 3, none⟩ (.int .i64 (z4))).setCell ⟨w.heap.size, 4, none⟩ (.int .i64 (z5))).setCell ⟨w.heap.size, 5, none⟩ (.int .i64 (z6))).setCell ⟨w.heap.size, 6, none⟩ (.int .i64 (z7))) := ⟨_, rfl⟩
                rw [← hwq]
                have q0 : wq.cell? ⟨w.heap.size, 0, none⟩ = some (.int .i64 (id)) := by rw [hwq]; go_simp
                have q1 : wq.cell? ⟨w.heap.size, 1, none⟩ = some (.int .i64 (z2)) := by rw [hwq]; go_simp
                have q2 : wq.cell? ⟨w.heap.size, 2, none⟩ = some (.int .i64 (z3)) := by rw [hwq]; go_simp
                have q3 : wq.cell? ⟨w.heap.size, 3, none⟩ = some (.int .i64 (z4)) := by rw [hwq]; go_simp
                have q4 : wq.cell? ⟨w.heap.size, 4, none⟩ = some (.int .i64 (z5)) := by rw [hwq]; go_simp
                have q5 : wq.cell? ⟨w.heap.size, 5, none⟩ = some (.int .i64 (z6)) := by rw [hwq]; go_simp
                have q6 : wq.cell? ⟨w.heap.size, 6, none⟩ = some (.int .i64 (z7)) := by rw [hwq]; go_simp
                have hCq : Cur wq g A n c (p + 14) := by rw [hwq]; exact (((((((hC9.setOwn (q := ⟨w.heap.size, 0, none⟩) hgR _).setOwn (q := ⟨w.heap.size, 1, none⟩) hgR _).setOwn (q := ⟨w.heap.size, 2, none⟩) hgR _).setOwn (q := ⟨w.heap.size, 3, none⟩) hgR _).setOwn (q := ⟨w.heap.size, 4, none⟩) hgR _).setOwn (q := ⟨w.heap.size, 5, none⟩) hgR _).setOwn (q := ⟨w.heap.size, 6, none⟩) hgR _)
                have hFq : Fr g (g + 1) w wq := by rw [hwq]; exact (((((((hF9.setOwn (j := 0) (p := ⟨w.heap.size, 0, none⟩) HWR.out _).setOwn (j := 0) (p := ⟨w.heap.size, 1, none⟩) HWR.out _).setOwn (j := 0) (p := ⟨w.heap.size, 2, none⟩) HWR.out _).setOwn (j := 0) (p := ⟨w.heap.size, 3, none⟩) HWR.out _).setOwn (j := 0) (p := ⟨w.heap.size, 4, none⟩) HWR.out _).setOwn (j := 0) (p := ⟨w.heap.size, 5, none⟩) HWR.out _).setOwn (j := 0) (p := ⟨w.heap.size, 6, none⟩) HWR.out _)
                clear hwq hC9 hF9 hR9 hX9 x0 y0 x1 y1 x2 y2 x3 y3 x4 y4 x5 y5 x6 y6 xf yf
                refine bodyPost_ret (by simp [results, Tryd.results56, go_sem, q0, q1, q2, q3, q4, q5, q6]; try rfl) rfl ?_
                exact ⟨id, z2, z3, z4, z5, z6, z7, rfl, hCq.weaken (by omega), hFq⟩
end Go.Proofs.YtcecpioiagfoiaaDoor
