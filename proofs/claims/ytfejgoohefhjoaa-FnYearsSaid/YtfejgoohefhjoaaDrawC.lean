/-
  The draws of rows of crops: some rows, 13 at most.
-/
import Derived.Test.YtfejgoohefhjoaaDrawRows
import Derived.Test.YtfejgoohefhjoaaDrawR
namespace Go.Proofs.Ytfejgoohefhjoaa
open Go.RowKit
set_option linter.unusedVariables false
set_option linter.unusedSimpArgs false
theorem DrawAreCropRows_any (A : Option Addr) (n c : Nat) (w : World) (hc : Code w A n) (hn : n ≤ 65536) :
    Calls Try.prog 42 #[.slice A n c] w fun e w' => ∃ A' m c' g, e = .returned (.slice A' m c') ∧ m ≤ 13 ∧ Drawn w' w.heap.size 33 5 A' m c' g ∧ Below w.heap.size w w' := by
  go_enter Try.func42, Try.ntmps42
  go_wp2_with fail
  refine nameC ?_
  intro w1 hw1
  have hC1 : Cur w1 w.heap.size A n c 0 := by rw [hw1]; exact hc.cur
  have hB1 : Below w.heap.size w w1 := by rw [hw1]; exact (Below.refl _ w).alloc (Nat.le_refl _) _
  clear hw1 hc
  refine (cropRows_any w.heap.size n c 0 A w1 hC1 hn (by omega)).mono ?_
  rintro e w2 ⟨v, m, L, rfl, hm, hown, hC2, hF2⟩
  have hB2 : Below w.heap.size w w2 := hB1.trans (hF2.below (Nat.le_refl _) hB1.size)
  obtain ⟨A', c', rfl, hd⟩ := drawnRow_of 5 hown hC1.lt
  clear hown hC1 hF2 hB1
  go_wp2
  go_ret
  exact ⟨A', m, c', _, rfl, hm, hd.lo_le (Nat.le_succ _), hB2⟩
theorem DrawPriceRuns_any (A : Option Addr) (n c : Nat) (w : World) (hc : Code w A n) (hn : n ≤ 65536) :
    Calls Try.prog 16 #[.slice A n c] w fun e w' => ∃ A' m c' g, e = .returned (.slice A' m c') ∧ m ≤ 13 ∧ Drawn w' w.heap.size 33 5 A' m c' g ∧ Below w.heap.size w w' := by
  go_enter Try.func16, Try.ntmps16
  go_wp2_with fail
  refine (DrawAreCropRows_any A n c w hc hn).mono ?_
  rintro e w1 ⟨A', m, c', g, rfl, hm, hd, hb⟩
  go_wp2
  go_ret
  exact ⟨A', m, c', g, rfl, hm, hd, hb⟩
theorem DrawTonsForDay_any (A : Option Addr) (n c : Nat) (w : World) (hc : Code w A n) (hn : n ≤ 65536) :
    Calls Try.prog 20 #[.slice A n c] w fun e w' => ∃ A' m c' g, e = .returned (.slice A' m c') ∧ m ≤ 13 ∧ Drawn w' w.heap.size 33 5 A' m c' g ∧ Below w.heap.size w w' := by
  go_enter Try.func20, Try.ntmps20
  go_wp2_with fail
  refine (DrawAreCropRows_any A n c w hc hn).mono ?_
  rintro e w1 ⟨A', m, c', g, rfl, hm, hd, hb⟩
  go_wp2
  go_ret
  exact ⟨A', m, c', g, rfl, hm, hd, hb⟩
set_option maxHeartbeats 1000000 in
theorem DrawYearsAbove_any (A : Option Addr) (n c : Nat) (w : World) (hc : Code w A n) (hn : n ≤ 65536) :
    Calls Try.prog 6 #[.slice A n c] w fun e w' => ∃ A' m c' g z, e = .returned (.tuple #[.slice A' m c', .int .i64 z]) ∧ m ≤ 13 ∧ Drawn w' w.heap.size 33 5 A' m c' g ∧ Below w.heap.size w w' := by
  go_enter Try.func6, Try.ntmps6
  go_wp2_with fail
  refine nameC ?_
  intro w1 hw1
  have hC1 : Cur w1 w.heap.size A n c 0 := by rw [hw1]; exact hc.cur
  have hB1 : Below w.heap.size w w1 := by rw [hw1]; exact (Below.refl _ w).alloc (Nat.le_refl _) _
  clear hw1 hc
  refine (cropRows_any w.heap.size n c 0 A w1 hC1 hn (by omega)).mono ?_
  rintro e w2 ⟨v, m, L, rfl, hm, hown, hC2, hF2⟩
  have hB2 : Below w.heap.size w w2 := hB1.trans (hF2.below (Nat.le_refl _) hB1.size)
  obtain ⟨A', c', rfl, hd⟩ := drawnRow_of 5 hown hC1.lt
  clear hown hC1 hF2 hB1
  go_wp2_with fail
  refine (pick_any w.heap.size n c _ 24 A _ (hC2.alloc _) hn (by omega) (by omega) (by omega)).mono ?_
  rintro e w3 ⟨z, rfl, hz, hC3, hF3⟩
  have hs3 : Sl w3 w2.heap.size (w2.heap.size + 1) 1 (some ⟨w2.heap.size, 0, none⟩) 7 (fun j => [1, 50, 100, 101, 1000, 0, 1001].getD j 0) := (sl_lit [1, 50, 100, 101, 1000, 0, 1001] (w := w2) rfl).fr hF3 (Or.inr hC2.lt)
  have hB3 : Below w.heap.size w w3 := (hB2.alloc hB2.size _).trans (hF3.below (Nat.le_refl _) (by simp; have := hB2.size; omega))
  go_wp2_with fail
  refine (among_any w.heap.size n c _ (5 + z / 11) 7 _ _ A _ _ w3 hC3 hn (by omega) (by omega) (by omega) (hs3.shorter (by omega)) hC2.lt).mono ?_
  rintro e w4 ⟨k, hk, rfl, hC4, hF4⟩
  have hd4 := ((hd.below ((Below.refl _ _).alloc (Nat.le_refl _) _)).step hF3 (Nat.lt_succ_self _)).step hF4 (Nat.lt_succ_self _)
  have hB4 := hB3.trans (hF4.below (Nat.le_refl _) hB3.size)
  clear hd hF3 hF4 hC3 hC4 hs3 hC2 hB2 hB3
  go_wp2
  go_ret2
  exact ⟨A', m, c', _, _, rfl, hm, hd4.lo_le (Nat.le_succ _), hB4⟩
set_option maxRecDepth 100000 in
set_option maxHeartbeats 2000000 in
theorem DrawAddCrop_any (A : Option Addr) (n c : Nat) (w : World) (hc : Code w A n) (hn : n ≤ 65536) :
    Calls Try.prog 11 #[.slice A n c] w fun e w' => ∃ A' m c' g a0 a1 a2 a3 a4, e = .returned (.tuple #[.slice A' m c', .agg #[.int .i64 a0, .int .i64 a1, .int .i64 a2, .int .i64 a3, .int .i64 a4]]) ∧ m ≤ 13 ∧ Drawn w' w.heap.size 33 5 A' m c' g ∧ Below w.heap.size w w' := by
  go_enter Try.func11, Try.ntmps11
  go_upto_region 1 with fail
  refine nameW0 ?_
  intro w0 hw0
  have hR0 : Blk w0 w.heap.size 33 [0, 0, 0, 0, 0] := by rw [hw0]; exact Blk.new [0, 0, 0, 0, 0] rfl
  have hB0 : Below w.heap.size w w0 := by rw [hw0]; exact (Below.refl _ w).alloc (Nat.le_refl _) _
  have hc0 := hc.below hB0
  clear hw0 hc
  go_wp2_with fail
  refine nameC ?_
  intro w1 hw1
  have hC1 : Cur w1 w0.heap.size A n c 0 := by rw [hw1]; exact hc0.cur
  have hB1 : Below w.heap.size w w1 := by rw [hw1]; exact hB0.alloc hB0.size _
  have hR1 : Blk w1 w.heap.size 33 [0, 0, 0, 0, 0] := by rw [hw1]; exact hR0.alloc _
  have hz0 := hR0.lt
  clear hw1 hc0 hR0 hB0
  refine (cropRows_any w0.heap.size n c 0 A w1 hC1 hn (by omega)).mono ?_
  rintro e w2 ⟨v, m, L, rfl, hm, hown, hC2, hF2⟩
  have hB2 : Below w.heap.size w w2 := hB1.trans (hF2.below (by omega) hB1.size)
  have hR2 : Blk w2 w.heap.size 33 [0, 0, 0, 0, 0] := (hF2.block _ hR1.lt (Or.inl hz0)).trans hR1
  obtain ⟨A', c', rfl, hd⟩ := drawnRow_of 5 hown hC1.lt
  generalize (fun j => L.getD j 0) = f at hd
  clear hown hC1 hF2 hB1 hR1
  have hd2 := hd
  have hmc := hd2.le
  by_cases hm0 : 0 < m
  · have hmi : (0 : Int) < (m : Int) := by omega
    go_wp2_with fail
    refine (one_any w0.heap.size n c _ 2 A w2 hC2 hn (by omega) (by omega) (by omega)).mono ?_
    rintro e w3 ⟨b, rfl, hC3, hF3⟩
    have hd3 := hd2.step hF3 (Nat.lt_succ_self _)
    have hB3 := hB2.trans (hF3.below (by omega) hB2.size)
    have hR3 : Blk w3 w.heap.size 33 [0, 0, 0, 0, 0] := (hF3.block _ hR2.lt (Or.inl hz0)).trans hR2
    clear hd hd2 hC2 hF3 hB2 hR2
    cases b with
    | true =>
      go_wp2_with fail
      refine (pick_any w0.heap.size n c _ m A w3 hC3 hn (by omega) (by omega) (by omega)).mono ?_
      rintro e w4 ⟨z, rfl, hz, hC4, hF4⟩
      have hd4 := hd3.step hF4 (Nat.lt_succ_self _)
      have hB4 := hB3.trans (hF4.below (by omega) hB3.size)
      have hR4 : Blk w4 w.heap.size 33 [0, 0, 0, 0, 0] := (hF4.block _ hR3.lt (Or.inl hz0)).trans hR3
      clear hd3 hC3 hF4 hB3 hR3
      obtain ⟨b, off, eA, hbw, HC⟩ := hd4.own.sl.open_ (Below.refl _ _) (by omega)
      obtain ⟨c0, _, _, _, _⟩ := cell5 HC hz
      subst eA
      have hzi : (z : Int) < (m : Int) := by omega
      clear HC
      go_wp2_with fail
      refine (cropRow_any w0.heap.size n c _ A _ w4 hC4 hn (by omega)).mono ?_
      rintro e w5 ⟨a0, a1, a2, a3, a4, rfl, hC5, hF5⟩
      have hd5 := hd4.step hF5 (Nat.lt_succ_self _)
      have hB5 := hB4.trans (hF5.below (by omega) hB4.size)
      have hR5 : Blk w5 w.heap.size 33 [0, 0, 0, 0, 0] := (hF5.block _ hR4.lt (Or.inl hz0)).trans hR4
      clear hd4 hC4 hC5 hF5 hB4 hR4
      have y0 : w5.cell? ⟨w.heap.size, 0, none⟩ = some (.int .i64 0) := hR5.cell (j := 0) (by simp)
      have y1 : w5.cell? ⟨w.heap.size, 1, none⟩ = some (.int .i64 0) := hR5.cell (j := 1) (by simp)
      have y2 : w5.cell? ⟨w.heap.size, 2, none⟩ = some (.int .i64 0) := hR5.cell (j := 2) (by simp)
      have y3 : w5.cell? ⟨w.heap.size, 3, none⟩ = some (.int .i64 0) := hR5.cell (j := 3) (by simp)
      have y4 : w5.cell? ⟨w.heap.size, 4, none⟩ = some (.int .i64 0) := hR5.cell (j := 4) (by simp)
      have yf : ∀ j, w5.frozen? ⟨w.heap.size, j, none⟩ = false := hR5.fz
      go_wp2
      obtain ⟨wq, hwq⟩ : ∃ wq, wq = (((((w5.setCell ⟨w.heap.size, 0, none⟩ (.int .i64 a0)).setCell ⟨w.heap.size, 1, none⟩ (.int .i64 a1)).setCell ⟨w.heap.size, 2, none⟩ (.int .i64 a2)).setCell ⟨w.heap.size, 3, none⟩ (.int .i64 a3)).setCell ⟨w.heap.size, 4, none⟩ (.int .i64 a4)) := ⟨_, rfl⟩
      rw [← hwq]
      have q0 : wq.cell? ⟨w.heap.size, 0, none⟩ = some (.int .i64 a0) := by rw [hwq]; go_simp
      have q1 : wq.cell? ⟨w.heap.size, 1, none⟩ = some (.int .i64 a1) := by rw [hwq]; go_simp
      have q2 : wq.cell? ⟨w.heap.size, 2, none⟩ = some (.int .i64 a2) := by rw [hwq]; go_simp
      have q3 : wq.cell? ⟨w.heap.size, 3, none⟩ = some (.int .i64 a3) := by rw [hwq]; go_simp
      have q4 : wq.cell? ⟨w.heap.size, 4, none⟩ = some (.int .i64 a4) := by rw [hwq]; go_simp
      have hBq : Below w.heap.size w wq := by rw [hwq]; exact ((((hB5.setCell (Nat.le_refl _) _).setCell (Nat.le_refl _) _).setCell (Nat.le_refl _) _).setCell (Nat.le_refl _) _).setCell (Nat.le_refl _) _
      have hRw : Fr w.heap.size (w.heap.size + 1) w5 wq := by rw [hwq]; exact (((((Fr.refl _ _ w5).setCell (p := ⟨w.heap.size, 0, none⟩) (Nat.le_refl _) (Nat.lt_succ_self _) _).setCell (p := ⟨w.heap.size, 1, none⟩) (Nat.le_refl _) (Nat.lt_succ_self _) _).setCell (p := ⟨w.heap.size, 2, none⟩) (Nat.le_refl _) (Nat.lt_succ_self _) _).setCell (p := ⟨w.heap.size, 3, none⟩) (Nat.le_refl _) (Nat.lt_succ_self _) _).setCell (p := ⟨w.heap.size, 4, none⟩) (Nat.le_refl _) (Nat.lt_succ_self _) _
      have hdq := hd5.step hRw (by omega)
      clear hwq hd5 hB5 hR5 hRw y0 y1 y2 y3 y4 yf
      refine bodyPost_ret (by simp [results, Try.results11, go_sem, q0, q1, q2, q3, q4]; try rfl) rfl ?_
      exact ⟨_, m, c', _, a0, a1, a2, a3, a4, rfl, hm, hdq.lo_le (by omega), hBq⟩
    | false =>
      go_wp2_with fail
      refine (among_lit w0.heap.size n c _ _ A w3 [1800, 1803, 1905, 2099] _ _ _ rfl rfl (by simp) (by simp) hC3 hn (by omega)).mono ?_
      rintro e w4 ⟨z, rfl, hC4, hF4⟩
      have hd4 := hd3.step hF4 (Nat.lt_succ_self _)
      have hB4 := hB3.trans (hF4.below (by omega) hB3.size)
      have hR4 : Blk w4 w.heap.size 33 [0, 0, 0, 0, 0] := (hF4.block _ hR3.lt (Or.inl hz0)).trans hR3
      clear hd3 hC3 hF4 hB3 hR3
      go_wp2_with fail
      refine (cropRow_any w0.heap.size n c _ A _ w4 hC4 hn (by omega)).mono ?_
      rintro e w5 ⟨a0, a1, a2, a3, a4, rfl, hC5, hF5⟩
      have hd5 := hd4.step hF5 (Nat.lt_succ_self _)
      have hB5 := hB4.trans (hF5.below (by omega) hB4.size)
      have hR5 : Blk w5 w.heap.size 33 [0, 0, 0, 0, 0] := (hF5.block _ hR4.lt (Or.inl hz0)).trans hR4
      clear hd4 hC4 hC5 hF5 hB4 hR4
      have y0 : w5.cell? ⟨w.heap.size, 0, none⟩ = some (.int .i64 0) := hR5.cell (j := 0) (by simp)
      have y1 : w5.cell? ⟨w.heap.size, 1, none⟩ = some (.int .i64 0) := hR5.cell (j := 1) (by simp)
      have y2 : w5.cell? ⟨w.heap.size, 2, none⟩ = some (.int .i64 0) := hR5.cell (j := 2) (by simp)
      have y3 : w5.cell? ⟨w.heap.size, 3, none⟩ = some (.int .i64 0) := hR5.cell (j := 3) (by simp)
      have y4 : w5.cell? ⟨w.heap.size, 4, none⟩ = some (.int .i64 0) := hR5.cell (j := 4) (by simp)
      have yf : ∀ j, w5.frozen? ⟨w.heap.size, j, none⟩ = false := hR5.fz
      go_wp2
      obtain ⟨wq, hwq⟩ : ∃ wq, wq = (((((w5.setCell ⟨w.heap.size, 0, none⟩ (.int .i64 a0)).setCell ⟨w.heap.size, 1, none⟩ (.int .i64 a1)).setCell ⟨w.heap.size, 2, none⟩ (.int .i64 a2)).setCell ⟨w.heap.size, 3, none⟩ (.int .i64 a3)).setCell ⟨w.heap.size, 4, none⟩ (.int .i64 a4)) := ⟨_, rfl⟩
      rw [← hwq]
      have q0 : wq.cell? ⟨w.heap.size, 0, none⟩ = some (.int .i64 a0) := by rw [hwq]; go_simp
      have q1 : wq.cell? ⟨w.heap.size, 1, none⟩ = some (.int .i64 a1) := by rw [hwq]; go_simp
      have q2 : wq.cell? ⟨w.heap.size, 2, none⟩ = some (.int .i64 a2) := by rw [hwq]; go_simp
      have q3 : wq.cell? ⟨w.heap.size, 3, none⟩ = some (.int .i64 a3) := by rw [hwq]; go_simp
      have q4 : wq.cell? ⟨w.heap.size, 4, none⟩ = some (.int .i64 a4) := by rw [hwq]; go_simp
      have hBq : Below w.heap.size w wq := by rw [hwq]; exact ((((hB5.setCell (Nat.le_refl _) _).setCell (Nat.le_refl _) _).setCell (Nat.le_refl _) _).setCell (Nat.le_refl _) _).setCell (Nat.le_refl _) _
      have hRw : Fr w.heap.size (w.heap.size + 1) w5 wq := by rw [hwq]; exact (((((Fr.refl _ _ w5).setCell (p := ⟨w.heap.size, 0, none⟩) (Nat.le_refl _) (Nat.lt_succ_self _) _).setCell (p := ⟨w.heap.size, 1, none⟩) (Nat.le_refl _) (Nat.lt_succ_self _) _).setCell (p := ⟨w.heap.size, 2, none⟩) (Nat.le_refl _) (Nat.lt_succ_self _) _).setCell (p := ⟨w.heap.size, 3, none⟩) (Nat.le_refl _) (Nat.lt_succ_self _) _).setCell (p := ⟨w.heap.size, 4, none⟩) (Nat.le_refl _) (Nat.lt_succ_self _) _
      have hdq := hd5.step hRw (by omega)
      clear hwq hd5 hB5 hR5 hRw y0 y1 y2 y3 y4 yf
      refine bodyPost_ret (by simp [results, Try.results11, go_sem, q0, q1, q2, q3, q4]; try rfl) rfl ?_
      exact ⟨_, _, c', _, a0, a1, a2, a3, a4, rfl, hm, hdq.lo_le (by omega), hBq⟩
  · obtain rfl : m = 0 := by omega
    have hmi : ¬ ((0 : Int) < ((0 : Nat) : Int)) := by omega
    go_wp2_with fail
    refine (among_lit w0.heap.size n c _ _ A w2 [1800, 1803, 1905, 2099] _ _ _ rfl rfl (by simp) (by simp) hC2 hn (by omega)).mono ?_
    rintro e w4 ⟨z, rfl, hC4, hF4⟩
    have hd4 := hd2.step hF4 (Nat.lt_succ_self _)
    have hB4 := hB2.trans (hF4.below (by omega) hB2.size)
    have hR4 : Blk w4 w.heap.size 33 [0, 0, 0, 0, 0] := (hF4.block _ hR2.lt (Or.inl hz0)).trans hR2
    clear hd2 hC2 hF4 hB2 hR2
    go_wp2_with fail
    refine (cropRow_any w0.heap.size n c _ A _ w4 hC4 hn (by omega)).mono ?_
    rintro e w5 ⟨a0, a1, a2, a3, a4, rfl, hC5, hF5⟩
    have hd5 := hd4.step hF5 (Nat.lt_succ_self _)
    have hB5 := hB4.trans (hF5.below (by omega) hB4.size)
    have hR5 : Blk w5 w.heap.size 33 [0, 0, 0, 0, 0] := (hF5.block _ hR4.lt (Or.inl hz0)).trans hR4
    clear hd4 hC4 hC5 hF5 hB4 hR4
    have y0 : w5.cell? ⟨w.heap.size, 0, none⟩ = some (.int .i64 0) := hR5.cell (j := 0) (by simp)
    have y1 : w5.cell? ⟨w.heap.size, 1, none⟩ = some (.int .i64 0) := hR5.cell (j := 1) (by simp)
    have y2 : w5.cell? ⟨w.heap.size, 2, none⟩ = some (.int .i64 0) := hR5.cell (j := 2) (by simp)
    have y3 : w5.cell? ⟨w.heap.size, 3, none⟩ = some (.int .i64 0) := hR5.cell (j := 3) (by simp)
    have y4 : w5.cell? ⟨w.heap.size, 4, none⟩ = some (.int .i64 0) := hR5.cell (j := 4) (by simp)
    have yf : ∀ j, w5.frozen? ⟨w.heap.size, j, none⟩ = false := hR5.fz
    go_wp2
    obtain ⟨wq, hwq⟩ : ∃ wq, wq = (((((w5.setCell ⟨w.heap.size, 0, none⟩ (.int .i64 a0)).setCell ⟨w.heap.size, 1, none⟩ (.int .i64 a1)).setCell ⟨w.heap.size, 2, none⟩ (.int .i64 a2)).setCell ⟨w.heap.size, 3, none⟩ (.int .i64 a3)).setCell ⟨w.heap.size, 4, none⟩ (.int .i64 a4)) := ⟨_, rfl⟩
    rw [← hwq]
    have q0 : wq.cell? ⟨w.heap.size, 0, none⟩ = some (.int .i64 a0) := by rw [hwq]; go_simp
    have q1 : wq.cell? ⟨w.heap.size, 1, none⟩ = some (.int .i64 a1) := by rw [hwq]; go_simp
    have q2 : wq.cell? ⟨w.heap.size, 2, none⟩ = some (.int .i64 a2) := by rw [hwq]; go_simp
    have q3 : wq.cell? ⟨w.heap.size, 3, none⟩ = some (.int .i64 a3) := by rw [hwq]; go_simp
    have q4 : wq.cell? ⟨w.heap.size, 4, none⟩ = some (.int .i64 a4) := by rw [hwq]; go_simp
    have hBq : Below w.heap.size w wq := by rw [hwq]; exact ((((hB5.setCell (Nat.le_refl _) _).setCell (Nat.le_refl _) _).setCell (Nat.le_refl _) _).setCell (Nat.le_refl _) _).setCell (Nat.le_refl _) _
    have hRw : Fr w.heap.size (w.heap.size + 1) w5 wq := by rw [hwq]; exact (((((Fr.refl _ _ w5).setCell (p := ⟨w.heap.size, 0, none⟩) (Nat.le_refl _) (Nat.lt_succ_self _) _).setCell (p := ⟨w.heap.size, 1, none⟩) (Nat.le_refl _) (Nat.lt_succ_self _) _).setCell (p := ⟨w.heap.size, 2, none⟩) (Nat.le_refl _) (Nat.lt_succ_self _) _).setCell (p := ⟨w.heap.size, 3, none⟩) (Nat.le_refl _) (Nat.lt_succ_self _) _).setCell (p := ⟨w.heap.size, 4, none⟩) (Nat.le_refl _) (Nat.lt_succ_self _) _
    have hdq := hd5.step hRw (by omega)
    clear hwq hd5 hB5 hR5 hRw y0 y1 y2 y3 y4 yf
    refine bodyPost_ret (by simp [results, Try.results11, go_sem, q0, q1, q2, q3, q4]; try rfl) rfl ?_
    exact ⟨_, _, c', _, a0, a1, a2, a3, a4, rfl, hm, hdq.lo_le (by omega), hBq⟩
end Go.Proofs.Ytfejgoohefhjoaa
