/-
  The cursor's cropRow: some row, whatever the bytes.
-/
import Derived.Test.YtfejgoohefhjoaaDoorDraw
import Derived.Test.YtfejgoohefhjoaaDoorBase
import Derived.Deep.Cut
import Derived.Lib.Hide
namespace Go.Proofs.YtfejgoohefhjoaaDoor
open Go.RowKit
set_option linter.unusedVariables false
set_option linter.unusedSimpArgs false
theorem nameW0 {P : Program} {c : Go.Code} {Q : Exit → Act → World → Prop} {a : Act} {W : World} (h : ∀ w2, w2 = W → c.wp P Q a w2) : c.wp P Q a W := h W rfl
set_option maxRecDepth 100000 in
set_option maxHeartbeats 2000000 in
theorem cropRow_any (g n c p : Nat) (A : Option Addr) (year : Int) (w : World) (hC0 : Cur w g A n c p) (hn : n ≤ 65536) (hp : p ≤ 800000000) :
    Calls Tryd.prog 34 #[.pointer (some ⟨g, 0, none⟩), .int .i64 year] w fun e w' => ∃ a0 a1 a2 a3 a4 : Int, e = .returned (.agg #[.int .i64 a0, .int .i64 a1, .int .i64 a2, .int .i64 a3, .int .i64 a4]) ∧ Cur w' g A n c (p + 20) ∧ Fr g (g + 1) w w' := by
  go_enter Tryd.func34, Tryd.ntmps34
  have hgR : g < w.heap.size := hC0.lt
  have hwR : w.heap.size ≤ w.heap.size := Nat.le_refl _
  have HWR := Lib.hid hwR
  clear hwR
  go_upto_region 1 with fail
  refine nameW0 ?_
  intro w1 hw1
  have hR1 : Blk w1 w.heap.size 36 [0, 0, 0, 0, 0] := by rw [hw1]; exact Blk.new [0, 0, 0, 0, 0] rfl
  have hF1 : Fr g (g + 1) w w1 := by rw [hw1]; exact (Fr.refl _ _ w).alloc' _
  have hC1 : Cur w1 g A n c (p + 0) := by rw [hw1]; exact hC0.alloc _
  clear hw1 hC0
  go_wp2_with fail
  refine (among_lit g n c _ _ A _ [0, 1, 1, 40, 366] _ _ _ rfl rfl (by simp) (by simp) hC1 hn (by omega)).mono ?_
  rintro e w2 ⟨z2, rfl, hC2, hf2⟩
  have hF2 := hF1.trans hf2
  have hR2 := hR1.fr hf2 hgR
  clear hC1 hF1 hR1 hf2
  go_wp2_with fail
  refine (among_lit g n c _ _ A _ [0, 20, 20, 25, 9999] _ _ _ rfl rfl (by simp) (by simp) hC2 hn (by omega)).mono ?_
  rintro e w3 ⟨z3, rfl, hC3, hf3⟩
  have hF3 := hF2.trans hf3
  have hR3 := hR2.fr hf3 hgR
  clear hC2 hF2 hR2 hf3
  have zX := hF3.size
  go_upto_region 2 with fail
  refine nameW0 ?_
  intro w4 hw4
  have hX4 : Blk w4 w3.heap.size 36 [year, z2, 0, 0, z3] := by rw [hw4]; exact Blk.new [year, z2, 0, 0, z3] rfl
  have hC4 : Cur w4 g A n c (p + 4) := by rw [hw4]; exact hC3.alloc _
  have hF4 : Fr g (g + 1) w w4 := by rw [hw4]; exact hF3.alloc' _
  have hR4 : Blk w4 w.heap.size 36 [0, 0, 0, 0, 0] := by rw [hw4]; exact hR3.alloc _
  have hwX : w.heap.size ≤ w3.heap.size := zX
  have hgX : g < w3.heap.size := by omega
  have hRX : w.heap.size ≠ w3.heap.size := by have := hR3.lt; omega
  clear hw4 hC3 hF3 hR3 zX
  generalize w3.heap.size = rb at hX4 hwX hgX hRX ⊢
  by_cases hd : 0 < z2
  · have x0 : w4.cell? ⟨rb, 0, none⟩ = some (.int .i64 (year)) := hX4.cell (j := 0) (by simp)
    have x1 : w4.cell? ⟨rb, 1, none⟩ = some (.int .i64 (z2)) := hX4.cell (j := 1) (by simp)
    have x2 : w4.cell? ⟨rb, 2, none⟩ = some (.int .i64 (0)) := hX4.cell (j := 2) (by simp)
    have x3 : w4.cell? ⟨rb, 3, none⟩ = some (.int .i64 (0)) := hX4.cell (j := 3) (by simp)
    have x4 : w4.cell? ⟨rb, 4, none⟩ = some (.int .i64 (z3)) := hX4.cell (j := 4) (by simp)
    have xf : ∀ j, w4.frozen? ⟨rb, j, none⟩ = false := hX4.fz
    go_wp2_with fail
    refine (among_lit g n c _ _ A _ [0, 1, 100, 110, 3000, 1000000] _ _ _ rfl rfl (by simp) (by simp) hC4 hn (by omega)).mono ?_
    rintro e w5 ⟨z5, rfl, hC5, hf5⟩
    have hF5 := hF4.trans hf5
    have hR5 := hR4.fr hf5 hgR
    have hX5 := hX4.fr hf5 hgX
    clear x0 x1 x2 x3 x4 xf hX4
    clear hC4 hF4 hR4 hf5
    have x0 : w5.cell? ⟨rb, 0, none⟩ = some (.int .i64 (year)) := hX5.cell (j := 0) (by simp)
    have x1 : w5.cell? ⟨rb, 1, none⟩ = some (.int .i64 (z2)) := hX5.cell (j := 1) (by simp)
    have x2 : w5.cell? ⟨rb, 2, none⟩ = some (.int .i64 (0)) := hX5.cell (j := 2) (by simp)
    have x3 : w5.cell? ⟨rb, 3, none⟩ = some (.int .i64 (0)) := hX5.cell (j := 3) (by simp)
    have x4 : w5.cell? ⟨rb, 4, none⟩ = some (.int .i64 (z3)) := hX5.cell (j := 4) (by simp)
    have xf : ∀ j, w5.frozen? ⟨rb, j, none⟩ = false := hX5.fz
    go_upto_region 4 with fail
    refine nameW0 ?_
    intro w6 hw6
    have hC6 : Cur w6 g A n c (p + 6) := by rw [hw6]; exact hC5.setOwn (q := ⟨rb, 2, none⟩) hgX _
    have hF6 : Fr g (g + 1) w w6 := by rw [hw6]; exact hF5.setOwn (j := 0) (p := ⟨rb, 2, none⟩) hwX _
    have hR6 : Blk w6 w.heap.size 36 [0, 0, 0, 0, 0] := by rw [hw6]; exact hR5.other (q := ⟨rb, 2, none⟩) hRX _
    have hX6 : Blk w6 rb 36 [year, z2, z5, 0, z3] := by rw [hw6]; exact hX5.set 2 _
    clear x0 x1 x2 x3 x4 xf hC5 hF5 hR5 hX5 hw6
    have x0 : w6.cell? ⟨rb, 0, none⟩ = some (.int .i64 (year)) := hX6.cell (j := 0) (by simp)
    have x1 : w6.cell? ⟨rb, 1, none⟩ = some (.int .i64 (z2)) := hX6.cell (j := 1) (by simp)
    have x2 : w6.cell? ⟨rb, 2, none⟩ = some (.int .i64 (z5)) := hX6.cell (j := 2) (by simp)
    have x3 : w6.cell? ⟨rb, 3, none⟩ = some (.int .i64 (0)) := hX6.cell (j := 3) (by simp)
    have x4 : w6.cell? ⟨rb, 4, none⟩ = some (.int .i64 (z3)) := hX6.cell (j := 4) (by simp)
    have xf : ∀ j, w6.frozen? ⟨rb, j, none⟩ = false := hX6.fz
    go_wp2_with fail
    refine (among_lit g n c _ _ A _ [0, 0, wrap64 ((z5).tdiv 100), wrap64 ((z5).tdiv 3), z5] _ _ _ rfl rfl (by simp) (by simp) hC6 hn (by omega)).mono ?_
    rintro e w7 ⟨z7, rfl, hC7, hf7⟩
    have hF7 := hF6.trans hf7
    have hR7 := hR6.fr hf7 hgR
    have hX7 := hX6.fr hf7 hgX
    clear x0 x1 x2 x3 x4 xf hX6
    clear hC6 hF6 hR6 hf7
    have x0 : w7.cell? ⟨rb, 0, none⟩ = some (.int .i64 (year)) := hX7.cell (j := 0) (by simp)
    have x1 : w7.cell? ⟨rb, 1, none⟩ = some (.int .i64 (z2)) := hX7.cell (j := 1) (by simp)
    have x2 : w7.cell? ⟨rb, 2, none⟩ = some (.int .i64 (z5)) := hX7.cell (j := 2) (by simp)
    have x3 : w7.cell? ⟨rb, 3, none⟩ = some (.int .i64 (0)) := hX7.cell (j := 3) (by simp)
    have x4 : w7.cell? ⟨rb, 4, none⟩ = some (.int .i64 (z3)) := hX7.cell (j := 4) (by simp)
    have xf : ∀ j, w7.frozen? ⟨rb, j, none⟩ = false := hX7.fz
    go_upto_region 5 with fail
    refine nameW0 ?_
    intro w8 hw8
    have hC8 : Cur w8 g A n c (p + 8) := by rw [hw8]; exact hC7.setOwn (q := ⟨rb, 3, none⟩) hgX _
    have hF8 : Fr g (g + 1) w w8 := by rw [hw8]; exact hF7.setOwn (j := 0) (p := ⟨rb, 3, none⟩) hwX _
    have hR8 : Blk w8 w.heap.size 36 [0, 0, 0, 0, 0] := by rw [hw8]; exact hR7.other (q := ⟨rb, 3, none⟩) hRX _
    have hX8 : Blk w8 rb 36 [year, z2, z5, z7, z3] := by rw [hw8]; exact hX7.set 3 _
    clear x0 x1 x2 x3 x4 xf hC7 hF7 hR7 hX7 hw8
    go_wp2_with fail
    refine (pick_any g n c _ 80 A _ hC8 hn (by omega) (by omega) (by omega)).mono ?_
    rintro e w9 ⟨m9, rfl, hm9, hC9, hf9⟩
    have hF9 := hF8.trans hf9
    have hR9 := hR8.fr hf9 hgR
    have hX9 := hX8.fr hf9 hgX
    clear hC8 hF8 hR8 hX8 hf9
    by_cases e0 : m9 = 0
    · subst e0
      have x0 : w9.cell? ⟨rb, 0, none⟩ = some (.int .i64 (year)) := hX9.cell (j := 0) (by simp)
      have x1 : w9.cell? ⟨rb, 1, none⟩ = some (.int .i64 (z2)) := hX9.cell (j := 1) (by simp)
      have x2 : w9.cell? ⟨rb, 2, none⟩ = some (.int .i64 (z5)) := hX9.cell (j := 2) (by simp)
      have x3 : w9.cell? ⟨rb, 3, none⟩ = some (.int .i64 (z7)) := hX9.cell (j := 3) (by simp)
      have x4 : w9.cell? ⟨rb, 4, none⟩ = some (.int .i64 (z3)) := hX9.cell (j := 4) (by simp)
      have xf : ∀ j, w9.frozen? ⟨rb, j, none⟩ = false := hX9.fz
      go_wp2_with fail
      refine (among_lit g n c _ _ A _ [1799, 2101] _ _ _ rfl rfl (by simp) (by simp) hC9 hn (by omega)).mono ?_
      rintro e w10 ⟨z10, rfl, hC10, hf10⟩
      have hF10 := hF9.trans hf10
      have hR10 := hR9.fr hf10 hgR
      have hX10 := hX9.fr hf10 hgX
      clear x0 x1 x2 x3 x4 xf hX9
      clear hC9 hF9 hR9 hf10
      have x0 : w10.cell? ⟨rb, 0, none⟩ = some (.int .i64 (year)) := hX10.cell (j := 0) (by simp)
      have x1 : w10.cell? ⟨rb, 1, none⟩ = some (.int .i64 (z2)) := hX10.cell (j := 1) (by simp)
      have x2 : w10.cell? ⟨rb, 2, none⟩ = some (.int .i64 (z5)) := hX10.cell (j := 2) (by simp)
      have x3 : w10.cell? ⟨rb, 3, none⟩ = some (.int .i64 (z7)) := hX10.cell (j := 3) (by simp)
      have x4 : w10.cell? ⟨rb, 4, none⟩ = some (.int .i64 (z3)) := hX10.cell (j := 4) (by simp)
      have xf : ∀ j, w10.frozen? ⟨rb, j, none⟩ = false := hX10.fz
      go_upto_region 16 with fail
      refine nameW0 ?_
      intro w11 hw11
      have hC11 : Cur w11 g A n c (p + 12) := by rw [hw11]; exact hC10.setOwn (q := ⟨rb, 0, none⟩) hgX _
      have hF11 : Fr g (g + 1) w w11 := by rw [hw11]; exact hF10.setOwn (j := 0) (p := ⟨rb, 0, none⟩) hwX _
      have hR11 : Blk w11 w.heap.size 36 [0, 0, 0, 0, 0] := by rw [hw11]; exact hR10.other (q := ⟨rb, 0, none⟩) hRX _
      have hX11 : Blk w11 rb 36 [z10, z2, z5, z7, z3] := by rw [hw11]; exact hX10.set 0 _
      clear x0 x1 x2 x3 x4 xf hC10 hF10 hR10 hX10 hw11
      have x0 : w11.cell? ⟨rb, 0, none⟩ = some (.int .i64 (z10)) := hX11.cell (j := 0) (by simp)
      have x1 : w11.cell? ⟨rb, 1, none⟩ = some (.int .i64 (z2)) := hX11.cell (j := 1) (by simp)
      have x2 : w11.cell? ⟨rb, 2, none⟩ = some (.int .i64 (z5)) := hX11.cell (j := 2) (by simp)
      have x3 : w11.cell? ⟨rb, 3, none⟩ = some (.int .i64 (z7)) := hX11.cell (j := 3) (by simp)
      have x4 : w11.cell? ⟨rb, 4, none⟩ = some (.int .i64 (z3)) := hX11.cell (j := 4) (by simp)
      have xf : ∀ j, w11.frozen? ⟨rb, j, none⟩ = false := hX11.fz
      have y0 : w11.cell? ⟨w.heap.size, 0, none⟩ = some (.int .i64 0) := hR11.cell (j := 0) (by simp)
      have y1 : w11.cell? ⟨w.heap.size, 1, none⟩ = some (.int .i64 0) := hR11.cell (j := 1) (by simp)
      have y2 : w11.cell? ⟨w.heap.size, 2, none⟩ = some (.int .i64 0) := hR11.cell (j := 2) (by simp)
      have y3 : w11.cell? ⟨w.heap.size, 3, none⟩ = some (.int .i64 0) := hR11.cell (j := 3) (by simp)
      have y4 : w11.cell? ⟨w.heap.size, 4, none⟩ = some (.int .i64 0) := hR11.cell (j := 4) (by simp)
      have yf : ∀ j, w11.frozen? ⟨w.heap.size, j, none⟩ = false := hR11.fz
      go_wp2
      obtain ⟨wq, hwq⟩ : ∃ wq, wq = (((((w11.setCell ⟨w.heap.size, 0, none⟩ (.int .i64 (z10))).setCell ⟨w.heap.size, 1, none⟩ (.int .i64 (z2))).setCell ⟨w.heap.size, 2, none⟩ (.int .i64 (z5))).setCell ⟨w.heap.size, 3, none⟩ (.int .i64 (z7))).setCell ⟨w.heap.size, 4, none⟩ (.int .i64 (z3))) := ⟨_, rfl⟩
      rw [← hwq]
      have q0 : wq.cell? ⟨w.heap.size, 0, none⟩ = some (.int .i64 (z10)) := by rw [hwq]; go_simp
      have q1 : wq.cell? ⟨w.heap.size, 1, none⟩ = some (.int .i64 (z2)) := by rw [hwq]; go_simp
      have q2 : wq.cell? ⟨w.heap.size, 2, none⟩ = some (.int .i64 (z5)) := by rw [hwq]; go_simp
      have q3 : wq.cell? ⟨w.heap.size, 3, none⟩ = some (.int .i64 (z7)) := by rw [hwq]; go_simp
      have q4 : wq.cell? ⟨w.heap.size, 4, none⟩ = some (.int .i64 (z3)) := by rw [hwq]; go_simp
      have hCq : Cur wq g A n c (p + 12) := by rw [hwq]; exact (((((hC11.setOwn (q := ⟨w.heap.size, 0, none⟩) hgR _).setOwn (q := ⟨w.heap.size, 1, none⟩) hgR _).setOwn (q := ⟨w.heap.size, 2, none⟩) hgR _).setOwn (q := ⟨w.heap.size, 3, none⟩) hgR _).setOwn (q := ⟨w.heap.size, 4, none⟩) hgR _)
      have hFq : Fr g (g + 1) w wq := by rw [hwq]; exact (((((hF11.setOwn (j := 0) (p := ⟨w.heap.size, 0, none⟩) HWR.out _).setOwn (j := 0) (p := ⟨w.heap.size, 1, none⟩) HWR.out _).setOwn (j := 0) (p := ⟨w.heap.size, 2, none⟩) HWR.out _).setOwn (j := 0) (p := ⟨w.heap.size, 3, none⟩) HWR.out _).setOwn (j := 0) (p := ⟨w.heap.size, 4, none⟩) HWR.out _)
      clear hwq hC11 hF11 hR11 hX11 x0 y0 x1 y1 x2 y2 x3 y3 x4 y4 xf yf
      refine bodyPost_ret (by simp [results, Tryd.results34, go_sem, q0, q1, q2, q3, q4]; try rfl) rfl ?_
      exact ⟨z10, z2, z5, z7, z3, rfl, hCq.weaken (by omega), hFq⟩
    · have n0 : ((m9 : Int) == 0) = false := by simp; omega
      by_cases e1 : m9 = 1
      · subst e1
        have x0 : w9.cell? ⟨rb, 0, none⟩ = some (.int .i64 (year)) := hX9.cell (j := 0) (by simp)
        have x1 : w9.cell? ⟨rb, 1, none⟩ = some (.int .i64 (z2)) := hX9.cell (j := 1) (by simp)
        have x2 : w9.cell? ⟨rb, 2, none⟩ = some (.int .i64 (z5)) := hX9.cell (j := 2) (by simp)
        have x3 : w9.cell? ⟨rb, 3, none⟩ = some (.int .i64 (z7)) := hX9.cell (j := 3) (by simp)
        have x4 : w9.cell? ⟨rb, 4, none⟩ = some (.int .i64 (z3)) := hX9.cell (j := 4) (by simp)
        have xf : ∀ j, w9.frozen? ⟨rb, j, none⟩ = false := hX9.fz
        go_wp2_with fail
        refine (among_lit g n c _ _ A _ [-1, 367, 0] _ _ _ rfl rfl (by simp) (by simp) hC9 hn (by omega)).mono ?_
        rintro e w13 ⟨z13, rfl, hC13, hf13⟩
        have hF13 := hF9.trans hf13
        have hR13 := hR9.fr hf13 hgR
        have hX13 := hX9.fr hf13 hgX
        clear x0 x1 x2 x3 x4 xf hX9
        clear hC9 hF9 hR9 hf13
        have x0 : w13.cell? ⟨rb, 0, none⟩ = some (.int .i64 (year)) := hX13.cell (j := 0) (by simp)
        have x1 : w13.cell? ⟨rb, 1, none⟩ = some (.int .i64 (z2)) := hX13.cell (j := 1) (by simp)
        have x2 : w13.cell? ⟨rb, 2, none⟩ = some (.int .i64 (z5)) := hX13.cell (j := 2) (by simp)
        have x3 : w13.cell? ⟨rb, 3, none⟩ = some (.int .i64 (z7)) := hX13.cell (j := 3) (by simp)
        have x4 : w13.cell? ⟨rb, 4, none⟩ = some (.int .i64 (z3)) := hX13.cell (j := 4) (by simp)
        have xf : ∀ j, w13.frozen? ⟨rb, j, none⟩ = false := hX13.fz
        go_upto_region 16 with fail
        refine nameW0 ?_
        intro w14 hw14
        have hC14 : Cur w14 g A n c (p + 12) := by rw [hw14]; exact hC13.setOwn (q := ⟨rb, 1, none⟩) hgX _
        have hF14 : Fr g (g + 1) w w14 := by rw [hw14]; exact hF13.setOwn (j := 0) (p := ⟨rb, 1, none⟩) hwX _
        have hR14 : Blk w14 w.heap.size 36 [0, 0, 0, 0, 0] := by rw [hw14]; exact hR13.other (q := ⟨rb, 1, none⟩) hRX _
        have hX14 : Blk w14 rb 36 [year, z13, z5, z7, z3] := by rw [hw14]; exact hX13.set 1 _
        clear x0 x1 x2 x3 x4 xf hC13 hF13 hR13 hX13 hw14
        have x0 : w14.cell? ⟨rb, 0, none⟩ = some (.int .i64 (year)) := hX14.cell (j := 0) (by simp)
        have x1 : w14.cell? ⟨rb, 1, none⟩ = some (.int .i64 (z13)) := hX14.cell (j := 1) (by simp)
        have x2 : w14.cell? ⟨rb, 2, none⟩ = some (.int .i64 (z5)) := hX14.cell (j := 2) (by simp)
        have x3 : w14.cell? ⟨rb, 3, none⟩ = some (.int .i64 (z7)) := hX14.cell (j := 3) (by simp)
        have x4 : w14.cell? ⟨rb, 4, none⟩ = some (.int .i64 (z3)) := hX14.cell (j := 4) (by simp)
        have xf : ∀ j, w14.frozen? ⟨rb, j, none⟩ = false := hX14.fz
        have y0 : w14.cell? ⟨w.heap.size, 0, none⟩ = some (.int .i64 0) := hR14.cell (j := 0) (by simp)
        have y1 : w14.cell? ⟨w.heap.size, 1, none⟩ = some (.int .i64 0) := hR14.cell (j := 1) (by simp)
        have y2 : w14.cell? ⟨w.heap.size, 2, none⟩ = some (.int .i64 0) := hR14.cell (j := 2) (by simp)
        have y3 : w14.cell? ⟨w.heap.size, 3, none⟩ = some (.int .i64 0) := hR14.cell (j := 3) (by simp)
        have y4 : w14.cell? ⟨w.heap.size, 4, none⟩ = some (.int .i64 0) := hR14.cell (j := 4) (by simp)
        have yf : ∀ j, w14.frozen? ⟨w.heap.size, j, none⟩ = false := hR14.fz
        go_wp2
        obtain ⟨wq, hwq⟩ : ∃ wq, wq = (((((w14.setCell ⟨w.heap.size, 0, none⟩ (.int .i64 (year))).setCell ⟨w.heap.size, 1, none⟩ (.int .i64 (z13))).setCell ⟨w.heap.size, 2, none⟩ (.int .i64 (z5))).setCell ⟨w.heap.size, 3, none⟩ (.int .i64 (z7))).setCell ⟨w.heap.size, 4, none⟩ (.int .i64 (z3))) := ⟨_, rfl⟩
        rw [← hwq]
        have q0 : wq.cell? ⟨w.heap.size, 0, none⟩ = some (.int .i64 (year)) := by rw [hwq]; go_simp
        have q1 : wq.cell? ⟨w.heap.size, 1, none⟩ = some (.int .i64 (z13)) := by rw [hwq]; go_simp
        have q2 : wq.cell? ⟨w.heap.size, 2, none⟩ = some (.int .i64 (z5)) := by rw [hwq]; go_simp
        have q3 : wq.cell? ⟨w.heap.size, 3, none⟩ = some (.int .i64 (z7)) := by rw [hwq]; go_simp
        have q4 : wq.cell? ⟨w.heap.size, 4, none⟩ = some (.int .i64 (z3)) := by rw [hwq]; go_simp
        have hCq : Cur wq g A n c (p + 12) := by rw [hwq]; exact (((((hC14.setOwn (q := ⟨w.heap.size, 0, none⟩) hgR _).setOwn (q := ⟨w.heap.size, 1, none⟩) hgR _).setOwn (q := ⟨w.heap.size, 2, none⟩) hgR _).setOwn (q := ⟨w.heap.size, 3, none⟩) hgR _).setOwn (q := ⟨w.heap.size, 4, none⟩) hgR _)
        have hFq : Fr g (g + 1) w wq := by rw [hwq]; exact (((((hF14.setOwn (j := 0) (p := ⟨w.heap.size, 0, none⟩) HWR.out _).setOwn (j := 0) (p := ⟨w.heap.size, 1, none⟩) HWR.out _).setOwn (j := 0) (p := ⟨w.heap.size, 2, none⟩) HWR.out _).setOwn (j := 0) (p := ⟨w.heap.size, 3, none⟩) HWR.out _).setOwn (j := 0) (p := ⟨w.heap.size, 4, none⟩) HWR.out _)
        clear hwq hC14 hF14 hR14 hX14 x0 y0 x1 y1 x2 y2 x3 y3 x4 y4 xf yf
        refine bodyPost_ret (by simp [results, Tryd.results34, go_sem, q0, q1, q2, q3, q4]; try rfl) rfl ?_
        exact ⟨year, z13, z5, z7, z3, rfl, hCq.weaken (by omega), hFq⟩
      · have n1 : ((m9 : Int) == 1) = false := by simp; omega
        by_cases e2 : m9 = 2
        · subst e2
          have x0 : w9.cell? ⟨rb, 0, none⟩ = some (.int .i64 (year)) := hX9.cell (j := 0) (by simp)
          have x1 : w9.cell? ⟨rb, 1, none⟩ = some (.int .i64 (z2)) := hX9.cell (j := 1) (by simp)
          have x2 : w9.cell? ⟨rb, 2, none⟩ = some (.int .i64 (z5)) := hX9.cell (j := 2) (by simp)
          have x3 : w9.cell? ⟨rb, 3, none⟩ = some (.int .i64 (z7)) := hX9.cell (j := 3) (by simp)
          have x4 : w9.cell? ⟨rb, 4, none⟩ = some (.int .i64 (z3)) := hX9.cell (j := 4) (by simp)
          have xf : ∀ j, w9.frozen? ⟨rb, j, none⟩ = false := hX9.fz
          go_wp2_with fail
          refine (among_lit g n c _ _ A _ [-1, 1000001] _ _ _ rfl rfl (by simp) (by simp) hC9 hn (by omega)).mono ?_
          rintro e w16 ⟨z16, rfl, hC16, hf16⟩
          have hF16 := hF9.trans hf16
          have hR16 := hR9.fr hf16 hgR
          have hX16 := hX9.fr hf16 hgX
          clear x0 x1 x2 x3 x4 xf hX9
          clear hC9 hF9 hR9 hf16
          have x0 : w16.cell? ⟨rb, 0, none⟩ = some (.int .i64 (year)) := hX16.cell (j := 0) (by simp)
          have x1 : w16.cell? ⟨rb, 1, none⟩ = some (.int .i64 (z2)) := hX16.cell (j := 1) (by simp)
          have x2 : w16.cell? ⟨rb, 2, none⟩ = some (.int .i64 (z5)) := hX16.cell (j := 2) (by simp)
          have x3 : w16.cell? ⟨rb, 3, none⟩ = some (.int .i64 (z7)) := hX16.cell (j := 3) (by simp)
          have x4 : w16.cell? ⟨rb, 4, none⟩ = some (.int .i64 (z3)) := hX16.cell (j := 4) (by simp)
          have xf : ∀ j, w16.frozen? ⟨rb, j, none⟩ = false := hX16.fz
          go_upto_region 16 with fail
          refine nameW0 ?_
          intro w17 hw17
          have hC17 : Cur w17 g A n c (p + 12) := by rw [hw17]; exact hC16.setOwn (q := ⟨rb, 2, none⟩) hgX _
          have hF17 : Fr g (g + 1) w w17 := by rw [hw17]; exact hF16.setOwn (j := 0) (p := ⟨rb, 2, none⟩) hwX _
          have hR17 : Blk w17 w.heap.size 36 [0, 0, 0, 0, 0] := by rw [hw17]; exact hR16.other (q := ⟨rb, 2, none⟩) hRX _
          have hX17 : Blk w17 rb 36 [year, z2, z16, z7, z3] := by rw [hw17]; exact hX16.set 2 _
          clear x0 x1 x2 x3 x4 xf hC16 hF16 hR16 hX16 hw17
          have x0 : w17.cell? ⟨rb, 0, none⟩ = some (.int .i64 (year)) := hX17.cell (j := 0) (by simp)
          have x1 : w17.cell? ⟨rb, 1, none⟩ = some (.int .i64 (z2)) := hX17.cell (j := 1) (by simp)
          have x2 : w17.cell? ⟨rb, 2, none⟩ = some (.int .i64 (z16)) := hX17.cell (j := 2) (by simp)
          have x3 : w17.cell? ⟨rb, 3, none⟩ = some (.int .i64 (z7)) := hX17.cell (j := 3) (by simp)
          have x4 : w17.cell? ⟨rb, 4, none⟩ = some (.int .i64 (z3)) := hX17.cell (j := 4) (by simp)
          have xf : ∀ j, w17.frozen? ⟨rb, j, none⟩ = false := hX17.fz
          have y0 : w17.cell? ⟨w.heap.size, 0, none⟩ = some (.int .i64 0) := hR17.cell (j := 0) (by simp)
          have y1 : w17.cell? ⟨w.heap.size, 1, none⟩ = some (.int .i64 0) := hR17.cell (j := 1) (by simp)
          have y2 : w17.cell? ⟨w.heap.size, 2, none⟩ = some (.int .i64 0) := hR17.cell (j := 2) (by simp)
          have y3 : w17.cell? ⟨w.heap.size, 3, none⟩ = some (.int .i64 0) := hR17.cell (j := 3) (by simp)
          have y4 : w17.cell? ⟨w.heap.size, 4, none⟩ = some (.int .i64 0) := hR17.cell (j := 4) (by simp)
          have yf : ∀ j, w17.frozen? ⟨w.heap.size, j, none⟩ = false := hR17.fz
          go_wp2
          obtain ⟨wq, hwq⟩ : ∃ wq, wq = (((((w17.setCell ⟨w.heap.size, 0, none⟩ (.int .i64 (year))).setCell ⟨w.heap.size, 1, none⟩ (.int .i64 (z2))).setCell ⟨w.heap.size, 2, none⟩ (.int .i64 (z16))).setCell ⟨w.heap.size, 3, none⟩ (.int .i64 (z7))).setCell ⟨w.heap.size, 4, none⟩ (.int .i64 (z3))) := ⟨_, rfl⟩
          rw [← hwq]
          have q0 : wq.cell? ⟨w.heap.size, 0, none⟩ = some (.int .i64 (year)) := by rw [hwq]; go_simp
          have q1 : wq.cell? ⟨w.heap.size, 1, none⟩ = some (.int .i64 (z2)) := by rw [hwq]; go_simp
          have q2 : wq.cell? ⟨w.heap.size, 2, none⟩ = some (.int .i64 (z16)) := by rw [hwq]; go_simp
          have q3 : wq.cell? ⟨w.heap.size, 3, none⟩ = some (.int .i64 (z7)) := by rw [hwq]; go_simp
          have q4 : wq.cell? ⟨w.heap.size, 4, none⟩ = some (.int .i64 (z3)) := by rw [hwq]; go_simp
          have hCq : Cur wq g A n c (p + 12) := by rw [hwq]; exact (((((hC17.setOwn (q := ⟨w.heap.size, 0, none⟩) hgR _).setOwn (q := ⟨w.heap.size, 1, none⟩) hgR _).setOwn (q := ⟨w.heap.size, 2, none⟩) hgR _).setOwn (q := ⟨w.heap.size, 3, none⟩) hgR _).setOwn (q := ⟨w.heap.size, 4, none⟩) hgR _)
          have hFq : Fr g (g + 1) w wq := by rw [hwq]; exact (((((hF17.setOwn (j := 0) (p := ⟨w.heap.size, 0, none⟩) HWR.out _).setOwn (j := 0) (p := ⟨w.heap.size, 1, none⟩) HWR.out _).setOwn (j := 0) (p := ⟨w.heap.size, 2, none⟩) HWR.out _).setOwn (j := 0) (p := ⟨w.heap.size, 3, none⟩) HWR.out _).setOwn (j := 0) (p := ⟨w.heap.size, 4, none⟩) HWR.out _)
          clear hwq hC17 hF17 hR17 hX17 x0 y0 x1 y1 x2 y2 x3 y3 x4 y4 xf yf
          refine bodyPost_ret (by simp [results, Tryd.results34, go_sem, q0, q1, q2, q3, q4]; try rfl) rfl ?_
          exact ⟨year, z2, z16, z7, z3, rfl, hCq.weaken (by omega), hFq⟩
        · have n2 : ((m9 : Int) == 2) = false := by simp; omega
          by_cases e3 : m9 = 3
          · subst e3
            have x0 : w9.cell? ⟨rb, 0, none⟩ = some (.int .i64 (year)) := hX9.cell (j := 0) (by simp)
            have x1 : w9.cell? ⟨rb, 1, none⟩ = some (.int .i64 (z2)) := hX9.cell (j := 1) (by simp)
            have x2 : w9.cell? ⟨rb, 2, none⟩ = some (.int .i64 (z5)) := hX9.cell (j := 2) (by simp)
            have x3 : w9.cell? ⟨rb, 3, none⟩ = some (.int .i64 (z7)) := hX9.cell (j := 3) (by simp)
            have x4 : w9.cell? ⟨rb, 4, none⟩ = some (.int .i64 (z3)) := hX9.cell (j := 4) (by simp)
            have xf : ∀ j, w9.frozen? ⟨rb, j, none⟩ = false := hX9.fz
            go_wp2_with fail
            refine (among_lit g n c _ _ A _ [-1, wrap64 (z5 + 1)] _ _ _ rfl rfl (by simp) (by simp) hC9 hn (by omega)).mono ?_
            rintro e w19 ⟨z19, rfl, hC19, hf19⟩
            have hF19 := hF9.trans hf19
            have hR19 := hR9.fr hf19 hgR
            have hX19 := hX9.fr hf19 hgX
            clear x0 x1 x2 x3 x4 xf hX9
            clear hC9 hF9 hR9 hf19
            have x0 : w19.cell? ⟨rb, 0, none⟩ = some (.int .i64 (year)) := hX19.cell (j := 0) (by simp)
            have x1 : w19.cell? ⟨rb, 1, none⟩ = some (.int .i64 (z2)) := hX19.cell (j := 1) (by simp)
            have x2 : w19.cell? ⟨rb, 2, none⟩ = some (.int .i64 (z5)) := hX19.cell (j := 2) (by simp)
            have x3 : w19.cell? ⟨rb, 3, none⟩ = some (.int .i64 (z7)) := hX19.cell (j := 3) (by simp)
            have x4 : w19.cell? ⟨rb, 4, none⟩ = some (.int .i64 (z3)) := hX19.cell (j := 4) (by simp)
            have xf : ∀ j, w19.frozen? ⟨rb, j, none⟩ = false := hX19.fz
            go_upto_region 16 with fail
            refine nameW0 ?_
            intro w20 hw20
            have hC20 : Cur w20 g A n c (p + 12) := by rw [hw20]; exact hC19.setOwn (q := ⟨rb, 3, none⟩) hgX _
            have hF20 : Fr g (g + 1) w w20 := by rw [hw20]; exact hF19.setOwn (j := 0) (p := ⟨rb, 3, none⟩) hwX _
            have hR20 : Blk w20 w.heap.size 36 [0, 0, 0, 0, 0] := by rw [hw20]; exact hR19.other (q := ⟨rb, 3, none⟩) hRX _
            have hX20 : Blk w20 rb 36 [year, z2, z5, z19, z3] := by rw [hw20]; exact hX19.set 3 _
            clear x0 x1 x2 x3 x4 xf hC19 hF19 hR19 hX19 hw20
            have x0 : w20.cell? ⟨rb, 0, none⟩ = some (.int .i64 (year)) := hX20.cell (j := 0) (by simp)
            have x1 : w20.cell? ⟨rb, 1, none⟩ = some (.int .i64 (z2)) := hX20.cell (j := 1) (by simp)
            have x2 : w20.cell? ⟨rb, 2, none⟩ = some (.int .i64 (z5)) := hX20.cell (j := 2) (by simp)
            have x3 : w20.cell? ⟨rb, 3, none⟩ = some (.int .i64 (z19)) := hX20.cell (j := 3) (by simp)
            have x4 : w20.cell? ⟨rb, 4, none⟩ = some (.int .i64 (z3)) := hX20.cell (j := 4) (by simp)
            have xf : ∀ j, w20.frozen? ⟨rb, j, none⟩ = false := hX20.fz
            have y0 : w20.cell? ⟨w.heap.size, 0, none⟩ = some (.int .i64 0) := hR20.cell (j := 0) (by simp)
            have y1 : w20.cell? ⟨w.heap.size, 1, none⟩ = some (.int .i64 0) := hR20.cell (j := 1) (by simp)
            have y2 : w20.cell? ⟨w.heap.size, 2, none⟩ = some (.int .i64 0) := hR20.cell (j := 2) (by simp)
            have y3 : w20.cell? ⟨w.heap.size, 3, none⟩ = some (.int .i64 0) := hR20.cell (j := 3) (by simp)
            have y4 : w20.cell? ⟨w.heap.size, 4, none⟩ = some (.int .i64 0) := hR20.cell (j := 4) (by simp)
            have yf : ∀ j, w20.frozen? ⟨w.heap.size, j, none⟩ = false := hR20.fz
            go_wp2
            obtain ⟨wq, hwq⟩ : ∃ wq, wq = (((((w20.setCell ⟨w.heap.size, 0, none⟩ (.int .i64 (year))).setCell ⟨w.heap.size, 1, none⟩ (.int .i64 (z2))).setCell ⟨w.heap.size, 2, none⟩ (.int .i64 (z5))).setCell ⟨w.heap.size, 3, none⟩ (.int .i64 (z19))).setCell ⟨w.heap.size, 4, none⟩ (.int .i64 (z3))) := ⟨_, rfl⟩
            rw [← hwq]
            have q0 : wq.cell? ⟨w.heap.size, 0, none⟩ = some (.int .i64 (year)) := by rw [hwq]; go_simp
            have q1 : wq.cell? ⟨w.heap.size, 1, none⟩ = some (.int .i64 (z2)) := by rw [hwq]; go_simp
            have q2 : wq.cell? ⟨w.heap.size, 2, none⟩ = some (.int .i64 (z5)) := by rw [hwq]; go_simp
            have q3 : wq.cell? ⟨w.heap.size, 3, none⟩ = some (.int .i64 (z19)) := by rw [hwq]; go_simp
            have q4 : wq.cell? ⟨w.heap.size, 4, none⟩ = some (.int .i64 (z3)) := by rw [hwq]; go_simp
            have hCq : Cur wq g A n c (p + 12) := by rw [hwq]; exact (((((hC20.setOwn (q := ⟨w.heap.size, 0, none⟩) hgR _).setOwn (q := ⟨w.heap.size, 1, none⟩) hgR _).setOwn (q := ⟨w.heap.size, 2, none⟩) hgR _).setOwn (q := ⟨w.heap.size, 3, none⟩) hgR _).setOwn (q := ⟨w.heap.size, 4, none⟩) hgR _)
            have hFq : Fr g (g + 1) w wq := by rw [hwq]; exact (((((hF20.setOwn (j := 0) (p := ⟨w.heap.size, 0, none⟩) HWR.out _).setOwn (j := 0) (p := ⟨w.heap.size, 1, none⟩) HWR.out _).setOwn (j := 0) (p := ⟨w.heap.size, 2, none⟩) HWR.out _).setOwn (j := 0) (p := ⟨w.heap.size, 3, none⟩) HWR.out _).setOwn (j := 0) (p := ⟨w.heap.size, 4, none⟩) HWR.out _)
            clear hwq hC20 hF20 hR20 hX20 x0 y0 x1 y1 x2 y2 x3 y3 x4 y4 xf yf
            refine bodyPost_ret (by simp [results, Tryd.results34, go_sem, q0, q1, q2, q3, q4]; try rfl) rfl ?_
            exact ⟨year, z2, z5, z19, z3, rfl, hCq.weaken (by omega), hFq⟩
          · have n3 : ((m9 : Int) == 3) = false := by simp; omega
            by_cases e4 : m9 = 4
            · subst e4
              have x0 : w9.cell? ⟨rb, 0, none⟩ = some (.int .i64 (year)) := hX9.cell (j := 0) (by simp)
              have x1 : w9.cell? ⟨rb, 1, none⟩ = some (.int .i64 (z2)) := hX9.cell (j := 1) (by simp)
              have x2 : w9.cell? ⟨rb, 2, none⟩ = some (.int .i64 (z5)) := hX9.cell (j := 2) (by simp)
              have x3 : w9.cell? ⟨rb, 3, none⟩ = some (.int .i64 (z7)) := hX9.cell (j := 3) (by simp)
              have x4 : w9.cell? ⟨rb, 4, none⟩ = some (.int .i64 (z3)) := hX9.cell (j := 4) (by simp)
              have xf : ∀ j, w9.frozen? ⟨rb, j, none⟩ = false := hX9.fz
              go_wp2_with fail
              refine (among_lit g n c _ _ A _ [-1, 10000] _ _ _ rfl rfl (by simp) (by simp) hC9 hn (by omega)).mono ?_
              rintro e w22 ⟨z22, rfl, hC22, hf22⟩
              have hF22 := hF9.trans hf22
              have hR22 := hR9.fr hf22 hgR
              have hX22 := hX9.fr hf22 hgX
              clear x0 x1 x2 x3 x4 xf hX9
              clear hC9 hF9 hR9 hf22
              have x0 : w22.cell? ⟨rb, 0, none⟩ = some (.int .i64 (year)) := hX22.cell (j := 0) (by simp)
              have x1 : w22.cell? ⟨rb, 1, none⟩ = some (.int .i64 (z2)) := hX22.cell (j := 1) (by simp)
              have x2 : w22.cell? ⟨rb, 2, none⟩ = some (.int .i64 (z5)) := hX22.cell (j := 2) (by simp)
              have x3 : w22.cell? ⟨rb, 3, none⟩ = some (.int .i64 (z7)) := hX22.cell (j := 3) (by simp)
              have x4 : w22.cell? ⟨rb, 4, none⟩ = some (.int .i64 (z3)) := hX22.cell (j := 4) (by simp)
              have xf : ∀ j, w22.frozen? ⟨rb, j, none⟩ = false := hX22.fz
              go_upto_region 16 with fail
              refine nameW0 ?_
              intro w23 hw23
              have hC23 : Cur w23 g A n c (p + 12) := by rw [hw23]; exact hC22.setOwn (q := ⟨rb, 4, none⟩) hgX _
              have hF23 : Fr g (g + 1) w w23 := by rw [hw23]; exact hF22.setOwn (j := 0) (p := ⟨rb, 4, none⟩) hwX _
              have hR23 : Blk w23 w.heap.size 36 [0, 0, 0, 0, 0] := by rw [hw23]; exact hR22.other (q := ⟨rb, 4, none⟩) hRX _
              have hX23 : Blk w23 rb 36 [year, z2, z5, z7, z22] := by rw [hw23]; exact hX22.set 4 _
              clear x0 x1 x2 x3 x4 xf hC22 hF22 hR22 hX22 hw23
              have x0 : w23.cell? ⟨rb, 0, none⟩ = some (.int .i64 (year)) := hX23.cell (j := 0) (by simp)
              have x1 : w23.cell? ⟨rb, 1, none⟩ = some (.int .i64 (z2)) := hX23.cell (j := 1) (by simp)
              have x2 : w23.cell? ⟨rb, 2, none⟩ = some (.int .i64 (z5)) := hX23.cell (j := 2) (by simp)
              have x3 : w23.cell? ⟨rb, 3, none⟩ = some (.int .i64 (z7)) := hX23.cell (j := 3) (by simp)
              have x4 : w23.cell? ⟨rb, 4, none⟩ = some (.int .i64 (z22)) := hX23.cell (j := 4) (by simp)
              have xf : ∀ j, w23.frozen? ⟨rb, j, none⟩ = false := hX23.fz
              have y0 : w23.cell? ⟨w.heap.size, 0, none⟩ = some (.int .i64 0) := hR23.cell (j := 0) (by simp)
              have y1 : w23.cell? ⟨w.heap.size, 1, none⟩ = some (.int .i64 0) := hR23.cell (j := 1) (by simp)
              have y2 : w23.cell? ⟨w.heap.size, 2, none⟩ = some (.int .i64 0) := hR23.cell (j := 2) (by simp)
              have y3 : w23.cell? ⟨w.heap.size, 3, none⟩ = some (.int .i64 0) := hR23.cell (j := 3) (by simp)
              have y4 : w23.cell? ⟨w.heap.size, 4, none⟩ = some (.int .i64 0) := hR23.cell (j := 4) (by simp)
              have yf : ∀ j, w23.frozen? ⟨w.heap.size, j, none⟩ = false := hR23.fz
              go_wp2
              obtain ⟨wq, hwq⟩ : ∃ wq, wq = (((((w23.setCell ⟨w.heap.size, 0, none⟩ (.int .i64 (year))).setCell ⟨w.heap.size, 1, none⟩ (.int .i64 (z2))).setCell ⟨w.heap.size, 2, none⟩ (.int .i64 (z5))).setCell ⟨w.heap.size, 3, none⟩ (.int .i64 (z7))).setCell ⟨w.heap.size, 4, none⟩ (.int .i64 (z22))) := ⟨_, rfl⟩
              rw [← hwq]
              have q0 : wq.cell? ⟨w.heap.size, 0, none⟩ = some (.int .i64 (year)) := by rw [hwq]; go_simp
              have q1 : wq.cell? ⟨w.heap.size, 1, none⟩ = some (.int .i64 (z2)) := by rw [hwq]; go_simp
              have q2 : wq.cell? ⟨w.heap.size, 2, none⟩ = some (.int .i64 (z5)) := by rw [hwq]; go_simp
              have q3 : wq.cell? ⟨w.heap.size, 3, none⟩ = some (.int .i64 (z7)) := by rw [hwq]; go_simp
              have q4 : wq.cell? ⟨w.heap.size, 4, none⟩ = some (.int .i64 (z22)) := by rw [hwq]; go_simp
              have hCq : Cur wq g A n c (p + 12) := by rw [hwq]; exact (((((hC23.setOwn (q := ⟨w.heap.size, 0, none⟩) hgR _).setOwn (q := ⟨w.heap.size, 1, none⟩) hgR _).setOwn (q := ⟨w.heap.size, 2, none⟩) hgR _).setOwn (q := ⟨w.heap.size, 3, none⟩) hgR _).setOwn (q := ⟨w.heap.size, 4, none⟩) hgR _)
              have hFq : Fr g (g + 1) w wq := by rw [hwq]; exact (((((hF23.setOwn (j := 0) (p := ⟨w.heap.size, 0, none⟩) HWR.out _).setOwn (j := 0) (p := ⟨w.heap.size, 1, none⟩) HWR.out _).setOwn (j := 0) (p := ⟨w.heap.size, 2, none⟩) HWR.out _).setOwn (j := 0) (p := ⟨w.heap.size, 3, none⟩) HWR.out _).setOwn (j := 0) (p := ⟨w.heap.size, 4, none⟩) HWR.out _)
              clear hwq hC23 hF23 hR23 hX23 x0 y0 x1 y1 x2 y2 x3 y3 x4 y4 xf yf
              refine bodyPost_ret (by simp [results, Tryd.results34, go_sem, q0, q1, q2, q3, q4]; try rfl) rfl ?_
              exact ⟨year, z2, z5, z7, z22, rfl, hCq.weaken (by omega), hFq⟩
            · have n4 : ((m9 : Int) == 4) = false := by simp; omega
              go_upto_region 16 with fail
              have x0 : w9.cell? ⟨rb, 0, none⟩ = some (.int .i64 (year)) := hX9.cell (j := 0) (by simp)
              have x1 : w9.cell? ⟨rb, 1, none⟩ = some (.int .i64 (z2)) := hX9.cell (j := 1) (by simp)
              have x2 : w9.cell? ⟨rb, 2, none⟩ = some (.int .i64 (z5)) := hX9.cell (j := 2) (by simp)
              have x3 : w9.cell? ⟨rb, 3, none⟩ = some (.int .i64 (z7)) := hX9.cell (j := 3) (by simp)
              have x4 : w9.cell? ⟨rb, 4, none⟩ = some (.int .i64 (z3)) := hX9.cell (j := 4) (by simp)
              have xf : ∀ j, w9.frozen? ⟨rb, j, none⟩ = false := hX9.fz
              have y0 : w9.cell? ⟨w.heap.size, 0, none⟩ = some (.int .i64 0) := hR9.cell (j := 0) (by simp)
              have y1 : w9.cell? ⟨w.heap.size, 1, none⟩ = some (.int .i64 0) := hR9.cell (j := 1) (by simp)
              have y2 : w9.cell? ⟨w.heap.size, 2, none⟩ = some (.int .i64 0) := hR9.cell (j := 2) (by simp)
              have y3 : w9.cell? ⟨w.heap.size, 3, none⟩ = some (.int .i64 0) := hR9.cell (j := 3) (by simp)
              have y4 : w9.cell? ⟨w.heap.size, 4, none⟩ = some (.int .i64 0) := hR9.cell (j := 4) (by simp)
              have yf : ∀ j, w9.frozen? ⟨w.heap.size, j, none⟩ = false := hR9.fz
              go_wp2
              obtain ⟨wq, hwq⟩ : ∃ wq, wq = (((((w9.setCell ⟨w.heap.size, 0, none⟩ (.int .i64 (year))).setCell ⟨w.heap.size, 1, none⟩ (.int .i64 (z2))).setCell ⟨w.heap.size, 2, none⟩ (.int .i64 (z5))).setCell ⟨w.heap.size, 3, none⟩ (.int .i64 (z7))).setCell ⟨w.heap.size, 4, none⟩ (.int .i64 (z3))) := ⟨_, rfl⟩
              rw [← hwq]
              have q0 : wq.cell? ⟨w.heap.size, 0, none⟩ = some (.int .i64 (year)) := by rw [hwq]; go_simp
              have q1 : wq.cell? ⟨w.heap.size, 1, none⟩ = some (.int .i64 (z2)) := by rw [hwq]; go_simp
              have q2 : wq.cell? ⟨w.heap.size, 2, none⟩ = some (.int .i64 (z5)) := by rw [hwq]; go_simp
              have q3 : wq.cell? ⟨w.heap.size, 3, none⟩ = some (.int .i64 (z7)) := by rw [hwq]; go_simp
              have q4 : wq.cell? ⟨w.heap.size, 4, none⟩ = some (.int .i64 (z3)) := by rw [hwq]; go_simp
              have hCq : Cur wq g A n c (p + 10) := by rw [hwq]; exact (((((hC9.setOwn (q := ⟨w.heap.size, 0, none⟩) hgR _).setOwn (q := ⟨w.heap.size, 1, none⟩) hgR _).setOwn (q := ⟨w.heap.size, 2, none⟩) hgR _).setOwn (q := ⟨w.heap.size, 3, none⟩) hgR _).setOwn (q := ⟨w.heap.size, 4, none⟩) hgR _)
              have hFq : Fr g (g + 1) w wq := by rw [hwq]; exact (((((hF9.setOwn (j := 0) (p := ⟨w.heap.size, 0, none⟩) HWR.out _).setOwn (j := 0) (p := ⟨w.heap.size, 1, none⟩) HWR.out _).setOwn (j := 0) (p := ⟨w.heap.size, 2, none⟩) HWR.out _).setOwn (j := 0) (p := ⟨w.heap.size, 3, none⟩) HWR.out _).setOwn (j := 0) (p := ⟨w.heap.size, 4, none⟩) HWR.out _)
              clear hwq hC9 hF9 hR9 hX9 x0 y0 x1 y1 x2 y2 x3 y3 x4 y4 xf yf
              refine bodyPost_ret (by simp [results, Tryd.results34, go_sem, q0, q1, q2, q3, q4]; try rfl) rfl ?_
              exact ⟨year, z2, z5, z7, z3, rfl, hCq.weaken (by omega), hFq⟩
  · have x0 : w4.cell? ⟨rb, 0, none⟩ = some (.int .i64 (year)) := hX4.cell (j := 0) (by simp)
    have x1 : w4.cell? ⟨rb, 1, none⟩ = some (.int .i64 (z2)) := hX4.cell (j := 1) (by simp)
    have x2 : w4.cell? ⟨rb, 2, none⟩ = some (.int .i64 (0)) := hX4.cell (j := 2) (by simp)
    have x3 : w4.cell? ⟨rb, 3, none⟩ = some (.int .i64 (0)) := hX4.cell (j := 3) (by simp)
    have x4 : w4.cell? ⟨rb, 4, none⟩ = some (.int .i64 (z3)) := hX4.cell (j := 4) (by simp)
    have xf : ∀ j, w4.frozen? ⟨rb, j, none⟩ = false := hX4.fz
    go_upto_region 4 with fail
    clear x0 x1 x2 x3 x4 xf
    have x0 : w4.cell? ⟨rb, 0, none⟩ = some (.int .i64 (year)) := hX4.cell (j := 0) (by simp)
    have x1 : w4.cell? ⟨rb, 1, none⟩ = some (.int .i64 (z2)) := hX4.cell (j := 1) (by simp)
    have x2 : w4.cell? ⟨rb, 2, none⟩ = some (.int .i64 (0)) := hX4.cell (j := 2) (by simp)
    have x3 : w4.cell? ⟨rb, 3, none⟩ = some (.int .i64 (0)) := hX4.cell (j := 3) (by simp)
    have x4 : w4.cell? ⟨rb, 4, none⟩ = some (.int .i64 (z3)) := hX4.cell (j := 4) (by simp)
    have xf : ∀ j, w4.frozen? ⟨rb, j, none⟩ = false := hX4.fz
    go_wp2_with fail
    refine (among_lit g n c _ _ A _ [0, 0, 0, 0, 0] _ _ _ rfl rfl (by simp) (by simp) hC4 hn (by omega)).mono ?_
    rintro e w26 ⟨z26, rfl, hC26, hf26⟩
    have hF26 := hF4.trans hf26
    have hR26 := hR4.fr hf26 hgR
    have hX26 := hX4.fr hf26 hgX
    clear x0 x1 x2 x3 x4 xf hX4
    clear hC4 hF4 hR4 hf26
    have x0 : w26.cell? ⟨rb, 0, none⟩ = some (.int .i64 (year)) := hX26.cell (j := 0) (by simp)
    have x1 : w26.cell? ⟨rb, 1, none⟩ = some (.int .i64 (z2)) := hX26.cell (j := 1) (by simp)
    have x2 : w26.cell? ⟨rb, 2, none⟩ = some (.int .i64 (0)) := hX26.cell (j := 2) (by simp)
    have x3 : w26.cell? ⟨rb, 3, none⟩ = some (.int .i64 (0)) := hX26.cell (j := 3) (by simp)
    have x4 : w26.cell? ⟨rb, 4, none⟩ = some (.int .i64 (z3)) := hX26.cell (j := 4) (by simp)
    have xf : ∀ j, w26.frozen? ⟨rb, j, none⟩ = false := hX26.fz
    go_upto_region 5 with fail
    refine nameW0 ?_
    intro w27 hw27
    have hC27 : Cur w27 g A n c (p + 6) := by rw [hw27]; exact hC26.setOwn (q := ⟨rb, 3, none⟩) hgX _
    have hF27 : Fr g (g + 1) w w27 := by rw [hw27]; exact hF26.setOwn (j := 0) (p := ⟨rb, 3, none⟩) hwX _
    have hR27 : Blk w27 w.heap.size 36 [0, 0, 0, 0, 0] := by rw [hw27]; exact hR26.other (q := ⟨rb, 3, none⟩) hRX _
    have hX27 : Blk w27 rb 36 [year, z2, 0, z26, z3] := by rw [hw27]; exact hX26.set 3 _
    clear x0 x1 x2 x3 x4 xf hC26 hF26 hR26 hX26 hw27
    go_wp2_with fail
    refine (pick_any g n c _ 80 A _ hC27 hn (by omega) (by omega) (by omega)).mono ?_
    rintro e w28 ⟨m28, rfl, hm28, hC28, hf28⟩
    have hF28 := hF27.trans hf28
    have hR28 := hR27.fr hf28 hgR
    have hX28 := hX27.fr hf28 hgX
    clear hC27 hF27 hR27 hX27 hf28
    by_cases e0 : m28 = 0
    · subst e0
      have x0 : w28.cell? ⟨rb, 0, none⟩ = some (.int .i64 (year)) := hX28.cell (j := 0) (by simp)
      have x1 : w28.cell? ⟨rb, 1, none⟩ = some (.int .i64 (z2)) := hX28.cell (j := 1) (by simp)
      have x2 : w28.cell? ⟨rb, 2, none⟩ = some (.int .i64 (0)) := hX28.cell (j := 2) (by simp)
      have x3 : w28.cell? ⟨rb, 3, none⟩ = some (.int .i64 (z26)) := hX28.cell (j := 3) (by simp)
      have x4 : w28.cell? ⟨rb, 4, none⟩ = some (.int .i64 (z3)) := hX28.cell (j := 4) (by simp)
      have xf : ∀ j, w28.frozen? ⟨rb, j, none⟩ = false := hX28.fz
      go_wp2_with fail
      refine (among_lit g n c _ _ A _ [1799, 2101] _ _ _ rfl rfl (by simp) (by simp) hC28 hn (by omega)).mono ?_
      rintro e w29 ⟨z29, rfl, hC29, hf29⟩
      have hF29 := hF28.trans hf29
      have hR29 := hR28.fr hf29 hgR
      have hX29 := hX28.fr hf29 hgX
      clear x0 x1 x2 x3 x4 xf hX28
      clear hC28 hF28 hR28 hf29
      have x0 : w29.cell? ⟨rb, 0, none⟩ = some (.int .i64 (year)) := hX29.cell (j := 0) (by simp)
      have x1 : w29.cell? ⟨rb, 1, none⟩ = some (.int .i64 (z2)) := hX29.cell (j := 1) (by simp)
      have x2 : w29.cell? ⟨rb, 2, none⟩ = some (.int .i64 (0)) := hX29.cell (j := 2) (by simp)
      have x3 : w29.cell? ⟨rb, 3, none⟩ = some (.int .i64 (z26)) := hX29.cell (j := 3) (by simp)
      have x4 : w29.cell? ⟨rb, 4, none⟩ = some (.int .i64 (z3)) := hX29.cell (j := 4) (by simp)
      have xf : ∀ j, w29.frozen? ⟨rb, j, none⟩ = false := hX29.fz
      go_upto_region 16 with fail
      refine nameW0 ?_
      intro w30 hw30
      have hC30 : Cur w30 g A n c (p + 10) := by rw [hw30]; exact hC29.setOwn (q := ⟨rb, 0, none⟩) hgX _
      have hF30 : Fr g (g + 1) w w30 := by rw [hw30]; exact hF29.setOwn (j := 0) (p := ⟨rb, 0, none⟩) hwX _
      have hR30 : Blk w30 w.heap.size 36 [0, 0, 0, 0, 0] := by rw [hw30]; exact hR29.other (q := ⟨rb, 0, none⟩) hRX _
      have hX30 : Blk w30 rb 36 [z29, z2, 0, z26, z3] := by rw [hw30]; exact hX29.set 0 _
      clear x0 x1 x2 x3 x4 xf hC29 hF29 hR29 hX29 hw30
      have x0 : w30.cell? ⟨rb, 0, none⟩ = some (.int .i64 (z29)) := hX30.cell (j := 0) (by simp)
      have x1 : w30.cell? ⟨rb, 1, none⟩ = some (.int .i64 (z2)) := hX30.cell (j := 1) (by simp)
      have x2 : w30.cell? ⟨rb, 2, none⟩ = some (.int .i64 (0)) := hX30.cell (j := 2) (by simp)
      have x3 : w30.cell? ⟨rb, 3, none⟩ = some (.int .i64 (z26)) := hX30.cell (j := 3) (by simp)
      have x4 : w30.cell? ⟨rb, 4, none⟩ = some (.int .i64 (z3)) := hX30.cell (j := 4) (by simp)
      have xf : ∀ j, w30.frozen? ⟨rb, j, none⟩ = false := hX30.fz
      have y0 : w30.cell? ⟨w.heap.size, 0, none⟩ = some (.int .i64 0) := hR30.cell (j := 0) (by simp)
      have y1 : w30.cell? ⟨w.heap.size, 1, none⟩ = some (.int .i64 0) := hR30.cell (j := 1) (by simp)
      have y2 : w30.cell? ⟨w.heap.size, 2, none⟩ = some (.int .i64 0) := hR30.cell (j := 2) (by simp)
      have y3 : w30.cell? ⟨w.heap.size, 3, none⟩ = some (.int .i64 0) := hR30.cell (j := 3) (by simp)
      have y4 : w30.cell? ⟨w.heap.size, 4, none⟩ = some (.int .i64 0) := hR30.cell (j := 4) (by simp)
      have yf : ∀ j, w30.frozen? ⟨w.heap.size, j, none⟩ = false := hR30.fz
      go_wp2
      obtain ⟨wq, hwq⟩ : ∃ wq, wq = (((((w30.setCell ⟨w.heap.size, 0, none⟩ (.int .i64 (z29))).setCell ⟨w.heap.size, 1, none⟩ (.int .i64 (z2))).setCell ⟨w.heap.size, 2, none⟩ (.int .i64 (0))).setCell ⟨w.heap.size, 3, none⟩ (.int .i64 (z26))).setCell ⟨w.heap.size, 4, none⟩ (.int .i64 (z3))) := ⟨_, rfl⟩
      rw [← hwq]
      have q0 : wq.cell? ⟨w.heap.size, 0, none⟩ = some (.int .i64 (z29)) := by rw [hwq]; go_simp
      have q1 : wq.cell? ⟨w.heap.size, 1, none⟩ = some (.int .i64 (z2)) := by rw [hwq]; go_simp
      have q2 : wq.cell? ⟨w.heap.size, 2, none⟩ = some (.int .i64 (0)) := by rw [hwq]; go_simp
      have q3 : wq.cell? ⟨w.heap.size, 3, none⟩ = some (.int .i64 (z26)) := by rw [hwq]; go_simp
      have q4 : wq.cell? ⟨w.heap.size, 4, none⟩ = some (.int .i64 (z3)) := by rw [hwq]; go_simp
      have hCq : Cur wq g A n c (p + 10) := by rw [hwq]; exact (((((hC30.setOwn (q := ⟨w.heap.size, 0, none⟩) hgR _).setOwn (q := ⟨w.heap.size, 1, none⟩) hgR _).setOwn (q := ⟨w.heap.size, 2, none⟩) hgR _).setOwn (q := ⟨w.heap.size, 3, none⟩) hgR _).setOwn (q := ⟨w.heap.size, 4, none⟩) hgR _)
      have hFq : Fr g (g + 1) w wq := by rw [hwq]; exact (((((hF30.setOwn (j := 0) (p := ⟨w.heap.size, 0, none⟩) HWR.out _).setOwn (j := 0) (p := ⟨w.heap.size, 1, none⟩) HWR.out _).setOwn (j := 0) (p := ⟨w.heap.size, 2, none⟩) HWR.out _).setOwn (j := 0) (p := ⟨w.heap.size, 3, none⟩) HWR.out _).setOwn (j := 0) (p := ⟨w.heap.size, 4, none⟩) HWR.out _)
      clear hwq hC30 hF30 hR30 hX30 x0 y0 x1 y1 x2 y2 x3 y3 x4 y4 xf yf
      refine bodyPost_ret (by simp [results, Tryd.results34, go_sem, q0, q1, q2, q3, q4]; try rfl) rfl ?_
      exact ⟨z29, z2, 0, z26, z3, rfl, hCq.weaken (by omega), hFq⟩
    · have n0 : ((m28 : Int) == 0) = false := by simp; omega
      by_cases e1 : m28 = 1
      · subst e1
        have x0 : w28.cell? ⟨rb, 0, none⟩ = some (.int .i64 (year)) := hX28.cell (j := 0) (by simp)
        have x1 : w28.cell? ⟨rb, 1, none⟩ = some (.int .i64 (z2)) := hX28.cell (j := 1) (by simp)
        have x2 : w28.cell? ⟨rb, 2, none⟩ = some (.int .i64 (0)) := hX28.cell (j := 2) (by simp)
        have x3 : w28.cell? ⟨rb, 3, none⟩ = some (.int .i64 (z26)) := hX28.cell (j := 3) (by simp)
        have x4 : w28.cell? ⟨rb, 4, none⟩ = some (.int .i64 (z3)) := hX28.cell (j := 4) (by simp)
        have xf : ∀ j, w28.frozen? ⟨rb, j, none⟩ = false := hX28.fz
        go_wp2_with fail
        refine (among_lit g n c _ _ A _ [-1, 367, 0] _ _ _ rfl rfl (by simp) (by simp) hC28 hn (by omega)).mono ?_
        rintro e w32 ⟨z32, rfl, hC32, hf32⟩
        have hF32 := hF28.trans hf32
        have hR32 := hR28.fr hf32 hgR
        have hX32 := hX28.fr hf32 hgX
        clear x0 x1 x2 x3 x4 xf hX28
        clear hC28 hF28 hR28 hf32
        have x0 : w32.cell? ⟨rb, 0, none⟩ = some (.int .i64 (year)) := hX32.cell (j := 0) (by simp)
        have x1 : w32.cell? ⟨rb, 1, none⟩ = some (.int .i64 (z2)) := hX32.cell (j := 1) (by simp)
        have x2 : w32.cell? ⟨rb, 2, none⟩ = some (.int .i64 (0)) := hX32.cell (j := 2) (by simp)
        have x3 : w32.cell? ⟨rb, 3, none⟩ = some (.int .i64 (z26)) := hX32.cell (j := 3) (by simp)
        have x4 : w32.cell? ⟨rb, 4, none⟩ = some (.int .i64 (z3)) := hX32.cell (j := 4) (by simp)
        have xf : ∀ j, w32.frozen? ⟨rb, j, none⟩ = false := hX32.fz
        go_upto_region 16 with fail
        refine nameW0 ?_
        intro w33 hw33
        have hC33 : Cur w33 g A n c (p + 10) := by rw [hw33]; exact hC32.setOwn (q := ⟨rb, 1, none⟩) hgX _
        have hF33 : Fr g (g + 1) w w33 := by rw [hw33]; exact hF32.setOwn (j := 0) (p := ⟨rb, 1, none⟩) hwX _
        have hR33 : Blk w33 w.heap.size 36 [0, 0, 0, 0, 0] := by rw [hw33]; exact hR32.other (q := ⟨rb, 1, none⟩) hRX _
        have hX33 : Blk w33 rb 36 [year, z32, 0, z26, z3] := by rw [hw33]; exact hX32.set 1 _
        clear x0 x1 x2 x3 x4 xf hC32 hF32 hR32 hX32 hw33
        have x0 : w33.cell? ⟨rb, 0, none⟩ = some (.int .i64 (year)) := hX33.cell (j := 0) (by simp)
        have x1 : w33.cell? ⟨rb, 1, none⟩ = some (.int .i64 (z32)) := hX33.cell (j := 1) (by simp)
        have x2 : w33.cell? ⟨rb, 2, none⟩ = some (.int .i64 (0)) := hX33.cell (j := 2) (by simp)
        have x3 : w33.cell? ⟨rb, 3, none⟩ = some (.int .i64 (z26)) := hX33.cell (j := 3) (by simp)
        have x4 : w33.cell? ⟨rb, 4, none⟩ = some (.int .i64 (z3)) := hX33.cell (j := 4) (by simp)
        have xf : ∀ j, w33.frozen? ⟨rb, j, none⟩ = false := hX33.fz
        have y0 : w33.cell? ⟨w.heap.size, 0, none⟩ = some (.int .i64 0) := hR33.cell (j := 0) (by simp)
        have y1 : w33.cell? ⟨w.heap.size, 1, none⟩ = some (.int .i64 0) := hR33.cell (j := 1) (by simp)
        have y2 : w33.cell? ⟨w.heap.size, 2, none⟩ = some (.int .i64 0) := hR33.cell (j := 2) (by simp)
        have y3 : w33.cell? ⟨w.heap.size, 3, none⟩ = some (.int .i64 0) := hR33.cell (j := 3) (by simp)
        have y4 : w33.cell? ⟨w.heap.size, 4, none⟩ = some (.int .i64 0) := hR33.cell (j := 4) (by simp)
        have yf : ∀ j, w33.frozen? ⟨w.heap.size, j, none⟩ = false := hR33.fz
        go_wp2
        obtain ⟨wq, hwq⟩ : ∃ wq, wq = (((((w33.setCell ⟨w.heap.size, 0, none⟩ (.int .i64 (year))).setCell ⟨w.heap.size, 1, none⟩ (.int .i64 (z32))).setCell ⟨w.heap.size, 2, none⟩ (.int .i64 (0))).setCell ⟨w.heap.size, 3, none⟩ (.int .i64 (z26))).setCell ⟨w.heap.size, 4, none⟩ (.int .i64 (z3))) := ⟨_, rfl⟩
        rw [← hwq]
        have q0 : wq.cell? ⟨w.heap.size, 0, none⟩ = some (.int .i64 (year)) := by rw [hwq]; go_simp
        have q1 : wq.cell? ⟨w.heap.size, 1, none⟩ = some (.int .i64 (z32)) := by rw [hwq]; go_simp
        have q2 : wq.cell? ⟨w.heap.size, 2, none⟩ = some (.int .i64 (0)) := by rw [hwq]; go_simp
        have q3 : wq.cell? ⟨w.heap.size, 3, none⟩ = some (.int .i64 (z26)) := by rw [hwq]; go_simp
        have q4 : wq.cell? ⟨w.heap.size, 4, none⟩ = some (.int .i64 (z3)) := by rw [hwq]; go_simp
        have hCq : Cur wq g A n c (p + 10) := by rw [hwq]; exact (((((hC33.setOwn (q := ⟨w.heap.size, 0, none⟩) hgR _).setOwn (q := ⟨w.heap.size, 1, none⟩) hgR _).setOwn (q := ⟨w.heap.size, 2, none⟩) hgR _).setOwn (q := ⟨w.heap.size, 3, none⟩) hgR _).setOwn (q := ⟨w.heap.size, 4, none⟩) hgR _)
        have hFq : Fr g (g + 1) w wq := by rw [hwq]; exact (((((hF33.setOwn (j := 0) (p := ⟨w.heap.size, 0, none⟩) HWR.out _).setOwn (j := 0) (p := ⟨w.heap.size, 1, none⟩) HWR.out _).setOwn (j := 0) (p := ⟨w.heap.size, 2, none⟩) HWR.out _).setOwn (j := 0) (p := ⟨w.heap.size, 3, none⟩) HWR.out _).setOwn (j := 0) (p := ⟨w.heap.size, 4, none⟩) HWR.out _)
        clear hwq hC33 hF33 hR33 hX33 x0 y0 x1 y1 x2 y2 x3 y3 x4 y4 xf yf
        refine bodyPost_ret (by simp [results, Tryd.results34, go_sem, q0, q1, q2, q3, q4]; try rfl) rfl ?_
        exact ⟨year, z32, 0, z26, z3, rfl, hCq.weaken (by omega), hFq⟩
      · have n1 : ((m28 : Int) == 1) = false := by simp; omega
        by_cases e2 : m28 = 2
        · subst e2
          have x0 : w28.cell? ⟨rb, 0, none⟩ = some (.int .i64 (year)) := hX28.cell (j := 0) (by simp)
          have x1 : w28.cell? ⟨rb, 1, none⟩ = some (.int .i64 (z2)) := hX28.cell (j := 1) (by simp)
          have x2 : w28.cell? ⟨rb, 2, none⟩ = some (.int .i64 (0)) := hX28.cell (j := 2) (by simp)
          have x3 : w28.cell? ⟨rb, 3, none⟩ = some (.int .i64 (z26)) := hX28.cell (j := 3) (by simp)
          have x4 : w28.cell? ⟨rb, 4, none⟩ = some (.int .i64 (z3)) := hX28.cell (j := 4) (by simp)
          have xf : ∀ j, w28.frozen? ⟨rb, j, none⟩ = false := hX28.fz
          go_wp2_with fail
          refine (among_lit g n c _ _ A _ [-1, 1000001] _ _ _ rfl rfl (by simp) (by simp) hC28 hn (by omega)).mono ?_
          rintro e w35 ⟨z35, rfl, hC35, hf35⟩
          have hF35 := hF28.trans hf35
          have hR35 := hR28.fr hf35 hgR
          have hX35 := hX28.fr hf35 hgX
          clear x0 x1 x2 x3 x4 xf hX28
          clear hC28 hF28 hR28 hf35
          have x0 : w35.cell? ⟨rb, 0, none⟩ = some (.int .i64 (year)) := hX35.cell (j := 0) (by simp)
          have x1 : w35.cell? ⟨rb, 1, none⟩ = some (.int .i64 (z2)) := hX35.cell (j := 1) (by simp)
          have x2 : w35.cell? ⟨rb, 2, none⟩ = some (.int .i64 (0)) := hX35.cell (j := 2) (by simp)
          have x3 : w35.cell? ⟨rb, 3, none⟩ = some (.int .i64 (z26)) := hX35.cell (j := 3) (by simp)
          have x4 : w35.cell? ⟨rb, 4, none⟩ = some (.int .i64 (z3)) := hX35.cell (j := 4) (by simp)
          have xf : ∀ j, w35.frozen? ⟨rb, j, none⟩ = false := hX35.fz
          go_upto_region 16 with fail
          refine nameW0 ?_
          intro w36 hw36
          have hC36 : Cur w36 g A n c (p + 10) := by rw [hw36]; exact hC35.setOwn (q := ⟨rb, 2, none⟩) hgX _
          have hF36 : Fr g (g + 1) w w36 := by rw [hw36]; exact hF35.setOwn (j := 0) (p := ⟨rb, 2, none⟩) hwX _
          have hR36 : Blk w36 w.heap.size 36 [0, 0, 0, 0, 0] := by rw [hw36]; exact hR35.other (q := ⟨rb, 2, none⟩) hRX _
          have hX36 : Blk w36 rb 36 [year, z2, z35, z26, z3] := by rw [hw36]; exact hX35.set 2 _
          clear x0 x1 x2 x3 x4 xf hC35 hF35 hR35 hX35 hw36
          have x0 : w36.cell? ⟨rb, 0, none⟩ = some (.int .i64 (year)) := hX36.cell (j := 0) (by simp)
          have x1 : w36.cell? ⟨rb, 1, none⟩ = some (.int .i64 (z2)) := hX36.cell (j := 1) (by simp)
          have x2 : w36.cell? ⟨rb, 2, none⟩ = some (.int .i64 (z35)) := hX36.cell (j := 2) (by simp)
          have x3 : w36.cell? ⟨rb, 3, none⟩ = some (.int .i64 (z26)) := hX36.cell (j := 3) (by simp)
          have x4 : w36.cell? ⟨rb, 4, none⟩ = some (.int .i64 (z3)) := hX36.cell (j := 4) (by simp)
          have xf : ∀ j, w36.frozen? ⟨rb, j, none⟩ = false := hX36.fz
          have y0 : w36.cell? ⟨w.heap.size, 0, none⟩ = some (.int .i64 0) := hR36.cell (j := 0) (by simp)
          have y1 : w36.cell? ⟨w.heap.size, 1, none⟩ = some (.int .i64 0) := hR36.cell (j := 1) (by simp)
          have y2 : w36.cell? ⟨w.heap.size, 2, none⟩ = some (.int .i64 0) := hR36.cell (j := 2) (by simp)
          have y3 : w36.cell? ⟨w.heap.size, 3, none⟩ = some (.int .i64 0) := hR36.cell (j := 3) (by simp)
          have y4 : w36.cell? ⟨w.heap.size, 4, none⟩ = some (.int .i64 0) := hR36.cell (j := 4) (by simp)
          have yf : ∀ j, w36.frozen? ⟨w.heap.size, j, none⟩ = false := hR36.fz
          go_wp2
          obtain ⟨wq, hwq⟩ : ∃ wq, wq = (((((w36.setCell ⟨w.heap.size, 0, none⟩ (.int .i64 (year))).setCell ⟨w.heap.size, 1, none⟩ (.int .i64 (z2))).setCell ⟨w.heap.size, 2, none⟩ (.int .i64 (z35))).setCell ⟨w.heap.size, 3, none⟩ (.int .i64 (z26))).setCell ⟨w.heap.size, 4, none⟩ (.int .i64 (z3))) := ⟨_, rfl⟩
          rw [← hwq]
          have q0 : wq.cell? ⟨w.heap.size, 0, none⟩ = some (.int .i64 (year)) := by rw [hwq]; go_simp
          have q1 : wq.cell? ⟨w.heap.size, 1, none⟩ = some (.int .i64 (z2)) := by rw [hwq]; go_simp
          have q2 : wq.cell? ⟨w.heap.size, 2, none⟩ = some (.int .i64 (z35)) := by rw [hwq]; go_simp
          have q3 : wq.cell? ⟨w.heap.size, 3, none⟩ = some (.int .i64 (z26)) := by rw [hwq]; go_simp
          have q4 : wq.cell? ⟨w.heap.size, 4, none⟩ = some (.int .i64 (z3)) := by rw [hwq]; go_simp
          have hCq : Cur wq g A n c (p + 10) := by rw [hwq]; exact (((((hC36.setOwn (q := ⟨w.heap.size, 0, none⟩) hgR _).setOwn (q := ⟨w.heap.size, 1, none⟩) hgR _).setOwn (q := ⟨w.heap.size, 2, none⟩) hgR _).setOwn (q := ⟨w.heap.size, 3, none⟩) hgR _).setOwn (q := ⟨w.heap.size, 4, none⟩) hgR _)
          have hFq : Fr g (g + 1) w wq := by rw [hwq]; exact (((((hF36.setOwn (j := 0) (p := ⟨w.heap.size, 0, none⟩) HWR.out _).setOwn (j := 0) (p := ⟨w.heap.size, 1, none⟩) HWR.out _).setOwn (j := 0) (p := ⟨w.heap.size, 2, none⟩) HWR.out _).setOwn (j := 0) (p := ⟨w.heap.size, 3, none⟩) HWR.out _).setOwn (j := 0) (p := ⟨w.heap.size, 4, none⟩) HWR.out _)
          clear hwq hC36 hF36 hR36 hX36 x0 y0 x1 y1 x2 y2 x3 y3 x4 y4 xf yf
          refine bodyPost_ret (by simp [results, Tryd.results34, go_sem, q0, q1, q2, q3, q4]; try rfl) rfl ?_
          exact ⟨year, z2, z35, z26, z3, rfl, hCq.weaken (by omega), hFq⟩
        · have n2 : ((m28 : Int) == 2) = false := by simp; omega
          by_cases e3 : m28 = 3
          · subst e3
            have x0 : w28.cell? ⟨rb, 0, none⟩ = some (.int .i64 (year)) := hX28.cell (j := 0) (by simp)
            have x1 : w28.cell? ⟨rb, 1, none⟩ = some (.int .i64 (z2)) := hX28.cell (j := 1) (by simp)
            have x2 : w28.cell? ⟨rb, 2, none⟩ = some (.int .i64 (0)) := hX28.cell (j := 2) (by simp)
            have x3 : w28.cell? ⟨rb, 3, none⟩ = some (.int .i64 (z26)) := hX28.cell (j := 3) (by simp)
            have x4 : w28.cell? ⟨rb, 4, none⟩ = some (.int .i64 (z3)) := hX28.cell (j := 4) (by simp)
            have xf : ∀ j, w28.frozen? ⟨rb, j, none⟩ = false := hX28.fz
            go_wp2_with fail
            refine (among_lit g n c _ _ A _ [-1, 1] _ _ _ rfl rfl (by simp) (by simp) hC28 hn (by omega)).mono ?_
            rintro e w38 ⟨z38, rfl, hC38, hf38⟩
            have hF38 := hF28.trans hf38
            have hR38 := hR28.fr hf38 hgR
            have hX38 := hX28.fr hf38 hgX
            clear x0 x1 x2 x3 x4 xf hX28
            clear hC28 hF28 hR28 hf38
            have x0 : w38.cell? ⟨rb, 0, none⟩ = some (.int .i64 (year)) := hX38.cell (j := 0) (by simp)
            have x1 : w38.cell? ⟨rb, 1, none⟩ = some (.int .i64 (z2)) := hX38.cell (j := 1) (by simp)
            have x2 : w38.cell? ⟨rb, 2, none⟩ = some (.int .i64 (0)) := hX38.cell (j := 2) (by simp)
            have x3 : w38.cell? ⟨rb, 3, none⟩ = some (.int .i64 (z26)) := hX38.cell (j := 3) (by simp)
            have x4 : w38.cell? ⟨rb, 4, none⟩ = some (.int .i64 (z3)) := hX38.cell (j := 4) (by simp)
            have xf : ∀ j, w38.frozen? ⟨rb, j, none⟩ = false := hX38.fz
            go_upto_region 16 with fail
            refine nameW0 ?_
            intro w39 hw39
            have hC39 : Cur w39 g A n c (p + 10) := by rw [hw39]; exact hC38.setOwn (q := ⟨rb, 3, none⟩) hgX _
            have hF39 : Fr g (g + 1) w w39 := by rw [hw39]; exact hF38.setOwn (j := 0) (p := ⟨rb, 3, none⟩) hwX _
            have hR39 : Blk w39 w.heap.size 36 [0, 0, 0, 0, 0] := by rw [hw39]; exact hR38.other (q := ⟨rb, 3, none⟩) hRX _
            have hX39 : Blk w39 rb 36 [year, z2, 0, z38, z3] := by rw [hw39]; exact hX38.set 3 _
            clear x0 x1 x2 x3 x4 xf hC38 hF38 hR38 hX38 hw39
            have x0 : w39.cell? ⟨rb, 0, none⟩ = some (.int .i64 (year)) := hX39.cell (j := 0) (by simp)
            have x1 : w39.cell? ⟨rb, 1, none⟩ = some (.int .i64 (z2)) := hX39.cell (j := 1) (by simp)
            have x2 : w39.cell? ⟨rb, 2, none⟩ = some (.int .i64 (0)) := hX39.cell (j := 2) (by simp)
            have x3 : w39.cell? ⟨rb, 3, none⟩ = some (.int .i64 (z38)) := hX39.cell (j := 3) (by simp)
            have x4 : w39.cell? ⟨rb, 4, none⟩ = some (.int .i64 (z3)) := hX39.cell (j := 4) (by simp)
            have xf : ∀ j, w39.frozen? ⟨rb, j, none⟩ = false := hX39.fz
            have y0 : w39.cell? ⟨w.heap.size, 0, none⟩ = some (.int .i64 0) := hR39.cell (j := 0) (by simp)
            have y1 : w39.cell? ⟨w.heap.size, 1, none⟩ = some (.int .i64 0) := hR39.cell (j := 1) (by simp)
            have y2 : w39.cell? ⟨w.heap.size, 2, none⟩ = some (.int .i64 0) := hR39.cell (j := 2) (by simp)
            have y3 : w39.cell? ⟨w.heap.size, 3, none⟩ = some (.int .i64 0) := hR39.cell (j := 3) (by simp)
            have y4 : w39.cell? ⟨w.heap.size, 4, none⟩ = some (.int .i64 0) := hR39.cell (j := 4) (by simp)
            have yf : ∀ j, w39.frozen? ⟨w.heap.size, j, none⟩ = false := hR39.fz
            go_wp2
            obtain ⟨wq, hwq⟩ : ∃ wq, wq = (((((w39.setCell ⟨w.heap.size, 0, none⟩ (.int .i64 (year))).setCell ⟨w.heap.size, 1, none⟩ (.int .i64 (z2))).setCell ⟨w.heap.size, 2, none⟩ (.int .i64 (0))).setCell ⟨w.heap.size, 3, none⟩ (.int .i64 (z38))).setCell ⟨w.heap.size, 4, none⟩ (.int .i64 (z3))) := ⟨_, rfl⟩
            rw [← hwq]
            have q0 : wq.cell? ⟨w.heap.size, 0, none⟩ = some (.int .i64 (year)) := by rw [hwq]; go_simp
            have q1 : wq.cell? ⟨w.heap.size, 1, none⟩ = some (.int .i64 (z2)) := by rw [hwq]; go_simp
            have q2 : wq.cell? ⟨w.heap.size, 2, none⟩ = some (.int .i64 (0)) := by rw [hwq]; go_simp
            have q3 : wq.cell? ⟨w.heap.size, 3, none⟩ = some (.int .i64 (z38)) := by rw [hwq]; go_simp
            have q4 : wq.cell? ⟨w.heap.size, 4, none⟩ = some (.int .i64 (z3)) := by rw [hwq]; go_simp
            have hCq : Cur wq g A n c (p + 10) := by rw [hwq]; exact (((((hC39.setOwn (q := ⟨w.heap.size, 0, none⟩) hgR _).setOwn (q := ⟨w.heap.size, 1, none⟩) hgR _).setOwn (q := ⟨w.heap.size, 2, none⟩) hgR _).setOwn (q := ⟨w.heap.size, 3, none⟩) hgR _).setOwn (q := ⟨w.heap.size, 4, none⟩) hgR _)
            have hFq : Fr g (g + 1) w wq := by rw [hwq]; exact (((((hF39.setOwn (j := 0) (p := ⟨w.heap.size, 0, none⟩) HWR.out _).setOwn (j := 0) (p := ⟨w.heap.size, 1, none⟩) HWR.out _).setOwn (j := 0) (p := ⟨w.heap.size, 2, none⟩) HWR.out _).setOwn (j := 0) (p := ⟨w.heap.size, 3, none⟩) HWR.out _).setOwn (j := 0) (p := ⟨w.heap.size, 4, none⟩) HWR.out _)
            clear hwq hC39 hF39 hR39 hX39 x0 y0 x1 y1 x2 y2 x3 y3 x4 y4 xf yf
            refine bodyPost_ret (by simp [results, Tryd.results34, go_sem, q0, q1, q2, q3, q4]; try rfl) rfl ?_
            exact ⟨year, z2, 0, z38, z3, rfl, hCq.weaken (by omega), hFq⟩
          · have n3 : ((m28 : Int) == 3) = false := by simp; omega
            by_cases e4 : m28 = 4
            · subst e4
              have x0 : w28.cell? ⟨rb, 0, none⟩ = some (.int .i64 (year)) := hX28.cell (j := 0) (by simp)
              have x1 : w28.cell? ⟨rb, 1, none⟩ = some (.int .i64 (z2)) := hX28.cell (j := 1) (by simp)
              have x2 : w28.cell? ⟨rb, 2, none⟩ = some (.int .i64 (0)) := hX28.cell (j := 2) (by simp)
              have x3 : w28.cell? ⟨rb, 3, none⟩ = some (.int .i64 (z26)) := hX28.cell (j := 3) (by simp)
              have x4 : w28.cell? ⟨rb, 4, none⟩ = some (.int .i64 (z3)) := hX28.cell (j := 4) (by simp)
              have xf : ∀ j, w28.frozen? ⟨rb, j, none⟩ = false := hX28.fz
              go_wp2_with fail
              refine (among_lit g n c _ _ A _ [-1, 10000] _ _ _ rfl rfl (by simp) (by simp) hC28 hn (by omega)).mono ?_
              rintro e w41 ⟨z41, rfl, hC41, hf41⟩
              have hF41 := hF28.trans hf41
              have hR41 := hR28.fr hf41 hgR
              have hX41 := hX28.fr hf41 hgX
              clear x0 x1 x2 x3 x4 xf hX28
              clear hC28 hF28 hR28 hf41
              have x0 : w41.cell? ⟨rb, 0, none⟩ = some (.int .i64 (year)) := hX41.cell (j := 0) (by simp)
              have x1 : w41.cell? ⟨rb, 1, none⟩ = some (.int .i64 (z2)) := hX41.cell (j := 1) (by simp)
              have x2 : w41.cell? ⟨rb, 2, none⟩ = some (.int .i64 (0)) := hX41.cell (j := 2) (by simp)
              have x3 : w41.cell? ⟨rb, 3, none⟩ = some (.int .i64 (z26)) := hX41.cell (j := 3) (by simp)
              have x4 : w41.cell? ⟨rb, 4, none⟩ = some (.int .i64 (z3)) := hX41.cell (j := 4) (by simp)
              have xf : ∀ j, w41.frozen? ⟨rb, j, none⟩ = false := hX41.fz
              go_upto_region 16 with fail
              refine nameW0 ?_
              intro w42 hw42
              have hC42 : Cur w42 g A n c (p + 10) := by rw [hw42]; exact hC41.setOwn (q := ⟨rb, 4, none⟩) hgX _
              have hF42 : Fr g (g + 1) w w42 := by rw [hw42]; exact hF41.setOwn (j := 0) (p := ⟨rb, 4, none⟩) hwX _
              have hR42 : Blk w42 w.heap.size 36 [0, 0, 0, 0, 0] := by rw [hw42]; exact hR41.other (q := ⟨rb, 4, none⟩) hRX _
              have hX42 : Blk w42 rb 36 [year, z2, 0, z26, z41] := by rw [hw42]; exact hX41.set 4 _
              clear x0 x1 x2 x3 x4 xf hC41 hF41 hR41 hX41 hw42
              have x0 : w42.cell? ⟨rb, 0, none⟩ = some (.int .i64 (year)) := hX42.cell (j := 0) (by simp)
              have x1 : w42.cell? ⟨rb, 1, none⟩ = some (.int .i64 (z2)) := hX42.cell (j := 1) (by simp)
              have x2 : w42.cell? ⟨rb, 2, none⟩ = some (.int .i64 (0)) := hX42.cell (j := 2) (by simp)
              have x3 : w42.cell? ⟨rb, 3, none⟩ = some (.int .i64 (z26)) := hX42.cell (j := 3) (by simp)
              have x4 : w42.cell? ⟨rb, 4, none⟩ = some (.int .i64 (z41)) := hX42.cell (j := 4) (by simp)
              have xf : ∀ j, w42.frozen? ⟨rb, j, none⟩ = false := hX42.fz
              have y0 : w42.cell? ⟨w.heap.size, 0, none⟩ = some (.int .i64 0) := hR42.cell (j := 0) (by simp)
              have y1 : w42.cell? ⟨w.heap.size, 1, none⟩ = some (.int .i64 0) := hR42.cell (j := 1) (by simp)
              have y2 : w42.cell? ⟨w.heap.size, 2, none⟩ = some (.int .i64 0) := hR42.cell (j := 2) (by simp)
              have y3 : w42.cell? ⟨w.heap.size, 3, none⟩ = some (.int .i64 0) := hR42.cell (j := 3) (by simp)
              have y4 : w42.cell? ⟨w.heap.size, 4, none⟩ = some (.int .i64 0) := hR42.cell (j := 4) (by simp)
              have yf : ∀ j, w42.frozen? ⟨w.heap.size, j, none⟩ = false := hR42.fz
              go_wp2
              obtain ⟨wq, hwq⟩ : ∃ wq, wq = (((((w42.setCell ⟨w.heap.size, 0, none⟩ (.int .i64 (year))).setCell ⟨w.heap.size, 1, none⟩ (.int .i64 (z2))).setCell ⟨w.heap.size, 2, none⟩ (.int .i64 (0))).setCell ⟨w.heap.size, 3, none⟩ (.int .i64 (z26))).setCell ⟨w.heap.size, 4, none⟩ (.int .i64 (z41))) := ⟨_, rfl⟩
              rw [← hwq]
              have q0 : wq.cell? ⟨w.heap.size, 0, none⟩ = some (.int .i64 (year)) := by rw [hwq]; go_simp
              have q1 : wq.cell? ⟨w.heap.size, 1, none⟩ = some (.int .i64 (z2)) := by rw [hwq]; go_simp
              have q2 : wq.cell? ⟨w.heap.size, 2, none⟩ = some (.int .i64 (0)) := by rw [hwq]; go_simp
              have q3 : wq.cell? ⟨w.heap.size, 3, none⟩ = some (.int .i64 (z26)) := by rw [hwq]; go_simp
              have q4 : wq.cell? ⟨w.heap.size, 4, none⟩ = some (.int .i64 (z41)) := by rw [hwq]; go_simp
              have hCq : Cur wq g A n c (p + 10) := by rw [hwq]; exact (((((hC42.setOwn (q := ⟨w.heap.size, 0, none⟩) hgR _).setOwn (q := ⟨w.heap.size, 1, none⟩) hgR _).setOwn (q := ⟨w.heap.size, 2, none⟩) hgR _).setOwn (q := ⟨w.heap.size, 3, none⟩) hgR _).setOwn (q := ⟨w.heap.size, 4, none⟩) hgR _)
              have hFq : Fr g (g + 1) w wq := by rw [hwq]; exact (((((hF42.setOwn (j := 0) (p := ⟨w.heap.size, 0, none⟩) HWR.out _).setOwn (j := 0) (p := ⟨w.heap.size, 1, none⟩) HWR.out _).setOwn (j := 0) (p := ⟨w.heap.size, 2, none⟩) HWR.out _).setOwn (j := 0) (p := ⟨w.heap.size, 3, none⟩) HWR.out _).setOwn (j := 0) (p := ⟨w.heap.size, 4, none⟩) HWR.out _)
              clear hwq hC42 hF42 hR42 hX42 x0 y0 x1 y1 x2 y2 x3 y3 x4 y4 xf yf
              refine bodyPost_ret (by simp [results, Tryd.results34, go_sem, q0, q1, q2, q3, q4]; try rfl) rfl ?_
              exact ⟨year, z2, 0, z26, z41, rfl, hCq.weaken (by omega), hFq⟩
            · have n4 : ((m28 : Int) == 4) = false := by simp; omega
              go_upto_region 16 with fail
              have x0 : w28.cell? ⟨rb, 0, none⟩ = some (.int .i64 (year)) := hX28.cell (j := 0) (by simp)
              have x1 : w28.cell? ⟨rb, 1, none⟩ = some (.int .i64 (z2)) := hX28.cell (j := 1) (by simp)
              have x2 : w28.cell? ⟨rb, 2, none⟩ = some (.int .i64 (0)) := hX28.cell (j := 2) (by simp)
              have x3 : w28.cell? ⟨rb, 3, none⟩ = some (.int .i64 (z26)) := hX28.cell (j := 3) (by simp)
              have x4 : w28.cell? ⟨rb, 4, none⟩ = some (.int .i64 (z3)) := hX28.cell (j := 4) (by simp)
              have xf : ∀ j, w28.frozen? ⟨rb, j, none⟩ = false := hX28.fz
              have y0 : w28.cell? ⟨w.heap.size, 0, none⟩ = some (.int .i64 0) := hR28.cell (j := 0) (by simp)
              have y1 : w28.cell? ⟨w.heap.size, 1, none⟩ = some (.int .i64 0) := hR28.cell (j := 1) (by simp)
              have y2 : w28.cell? ⟨w.heap.size, 2, none⟩ = some (.int .i64 0) := hR28.cell (j := 2) (by simp)
              have y3 : w28.cell? ⟨w.heap.size, 3, none⟩ = some (.int .i64 0) := hR28.cell (j := 3) (by simp)
              have y4 : w28.cell? ⟨w.heap.size, 4, none⟩ = some (.int .i64 0) := hR28.cell (j := 4) (by simp)
              have yf : ∀ j, w28.frozen? ⟨w.heap.size, j, none⟩ = false := hR28.fz
              go_wp2
              obtain ⟨wq, hwq⟩ : ∃ wq, wq = (((((w28.setCell ⟨w.heap.size, 0, none⟩ (.int .i64 (year))).setCell ⟨w.heap.size, 1, none⟩ (.int .i64 (z2))).setCell ⟨w.heap.size, 2, none⟩ (.int .i64 (0))).setCell ⟨w.heap.size, 3, none⟩ (.int .i64 (z26))).setCell ⟨w.heap.size, 4, none⟩ (.int .i64 (z3))) := ⟨_, rfl⟩
              rw [← hwq]
              have q0 : wq.cell? ⟨w.heap.size, 0, none⟩ = some (.int .i64 (year)) := by rw [hwq]; go_simp
              have q1 : wq.cell? ⟨w.heap.size, 1, none⟩ = some (.int .i64 (z2)) := by rw [hwq]; go_simp
              have q2 : wq.cell? ⟨w.heap.size, 2, none⟩ = some (.int .i64 (0)) := by rw [hwq]; go_simp
              have q3 : wq.cell? ⟨w.heap.size, 3, none⟩ = some (.int .i64 (z26)) := by rw [hwq]; go_simp
              have q4 : wq.cell? ⟨w.heap.size, 4, none⟩ = some (.int .i64 (z3)) := by rw [hwq]; go_simp
              have hCq : Cur wq g A n c (p + 8) := by rw [hwq]; exact (((((hC28.setOwn (q := ⟨w.heap.size, 0, none⟩) hgR _).setOwn (q := ⟨w.heap.size, 1, none⟩) hgR _).setOwn (q := ⟨w.heap.size, 2, none⟩) hgR _).setOwn (q := ⟨w.heap.size, 3, none⟩) hgR _).setOwn (q := ⟨w.heap.size, 4, none⟩) hgR _)
              have hFq : Fr g (g + 1) w wq := by rw [hwq]; exact (((((hF28.setOwn (j := 0) (p := ⟨w.heap.size, 0, none⟩) HWR.out _).setOwn (j := 0) (p := ⟨w.heap.size, 1, none⟩) HWR.out _).setOwn (j := 0) (p := ⟨w.heap.size, 2, none⟩) HWR.out _).setOwn (j := 0) (p := ⟨w.heap.size, 3, none⟩) HWR.out _).setOwn (j := 0) (p := ⟨w.heap.size, 4, none⟩) HWR.out _)
              clear hwq hC28 hF28 hR28 hX28 x0 y0 x1 y1 x2 y2 x3 y3 x4 y4 xf yf
              refine bodyPost_ret (by simp [results, Tryd.results34, go_sem, q0, q1, q2, q3, q4]; try rfl) rfl ?_
              exact ⟨year, z2, 0, z26, z3, rfl, hCq.weaken (by omega), hFq⟩
end Go.Proofs.YtfejgoohefhjoaaDoor
