/-
  The draws of nests: some rows, 13 at most, and numbers.
-/
import Derived.Test.YtcecpioiagfoiaaDoorDrawRows
import Derived.Test.YtcecpioiagfoiaaDoorDrawR
namespace Go.Proofs.YtcecpioiagfoiaaDoor
open Go.RowKit
set_option linter.unusedVariables false
set_option linter.unusedSimpArgs false
theorem day24_any (g n c p : Nat) (A : Option Addr) (w : World) (hC : Cur w g A n c p) (hn : n ≤ 65536) (hp : p ≤ 100000000) :
    Calls Tryd.prog 35 #[.pointer (some ⟨g, 0, none⟩)] w fun e w' => ∃ z : Int, e = .returned (.int .i64 z) ∧ Cur w' g A n c (p + 4) ∧ Fr g (g + 1) w w' := by
  go_enter Tryd.func35, Tryd.ntmps35
  go_wp2_with fail
  refine (pick_any g n c _ 24 A _ (hC.alloc _) hn (by omega) (by omega) (by omega)).mono ?_
  rintro e w3 ⟨z, rfl, hz, hC3, hF3⟩
  have hs3 : Sl w3 w.heap.size (w.heap.size + 1) 1 (some ⟨w.heap.size, 0, none⟩) 9 (fun j => [0, 5, 14, 15, 33, 60, 4000, -1, 4001].getD j 0) := (sl_lit [0, 5, 14, 15, 33, 60, 4000, -1, 4001] (w := w) rfl).fr hF3 (Or.inr hC.lt)
  have hG3 : Fr g (g + 1) w w3 := (Fr.of_below g (g + 1) ((Below.refl _ w).alloc (Nat.le_refl _) _)).trans hF3
  go_wp2_with fail
  refine (among_any g n c _ (7 + z / 11) 9 _ _ A _ _ w3 hC3 hn (by omega) (by omega) (by omega) (hs3.shorter (by omega)) hC.lt).mono ?_
  rintro e w4 ⟨k, hk, rfl, hC4, hF4⟩
  go_wp2
  go_ret
  exact ⟨_, rfl, hC4, hG3.trans hF4⟩
theorem pond24_any (g n c p : Nat) (A : Option Addr) (w : World) (hC : Cur w g A n c p) (hn : n ≤ 65536) (hp : p ≤ 100000000) :
    Calls Tryd.prog 45 #[.pointer (some ⟨g, 0, none⟩)] w fun e w' => ∃ z : Int, e = .returned (.int .i64 z) ∧ Cur w' g A n c (p + 4) ∧ Fr g (g + 1) w w' := by
  go_enter Tryd.func45, Tryd.ntmps45
  go_wp2_with fail
  refine (pick_any g n c _ 24 A _ (hC.alloc _) hn (by omega) (by omega) (by omega)).mono ?_
  rintro e w3 ⟨z, rfl, hz, hC3, hF3⟩
  have hs3 : Sl w3 w.heap.size (w.heap.size + 1) 1 (some ⟨w.heap.size, 0, none⟩) 7 (fun j => [1, 1, 2, 99, 50, 0, 100].getD j 0) := (sl_lit [1, 1, 2, 99, 50, 0, 100] (w := w) rfl).fr hF3 (Or.inr hC.lt)
  have hG3 : Fr g (g + 1) w w3 := (Fr.of_below g (g + 1) ((Below.refl _ w).alloc (Nat.le_refl _) _)).trans hF3
  go_wp2_with fail
  refine (among_any g n c _ (5 + z / 11) 7 _ _ A _ _ w3 hC3 hn (by omega) (by omega) (by omega) (hs3.shorter (by omega)) hC.lt).mono ?_
  rintro e w4 ⟨k, hk, rfl, hC4, hF4⟩
  go_wp2
  go_ret
  exact ⟨_, rfl, hC4, hG3.trans hF4⟩
set_option maxHeartbeats 1000000 in
theorem DrawNearestNest_any (A : Option Addr) (n c : Nat) (w : World) (hc : Code w A n) (hn : n ≤ 65536) :
    Calls Tryd.prog 10 #[.slice A n c] w fun e w' => ∃ A' m c' g z0 z1, e = .returned (.tuple #[.slice A' m c', .int .i64 z0, .int .i64 z1]) ∧ m ≤ 13 ∧ Drawn w' w.heap.size 36 7 A' m c' g ∧ Below w.heap.size w w' := by
  go_enter Tryd.func10, Tryd.ntmps10
  go_wp2_with fail
  refine nameC ?_
  intro w1 hw1
  have hC1 : Cur w1 w.heap.size A n c 0 := by rw [hw1]; exact hc.cur
  have hB1 : Below w.heap.size w w1 := by rw [hw1]; exact (Below.refl _ w).alloc (Nat.le_refl _) _
  clear hw1 hc
  refine (nests_any w.heap.size n c 0 A w1 hC1 hn (by omega)).mono ?_
  rintro e w2 ⟨v, m, L, rfl, hm, hown, hC, hF2⟩
  have hB : Below w.heap.size w w2 := hB1.trans (hF2.below (Nat.le_refl _) hB1.size)
  obtain ⟨A', c', rfl, hd⟩ := drawnRow_of 7 hown hC1.lt
  clear hown hC1 hF2 hB1
  obtain ⟨wx, hwx⟩ : ∃ wx, wx = w2 := ⟨_, rfl⟩
  rw [← hwx] at hC hd hB ⊢
  clear hwx
  go_wp2_with fail
  have hzz := hC.lt
  refine nameC ?_
  intro wl hwl
  have hs3 : Sl wl (wl.heap.size - 1) wl.heap.size 1 (some ⟨wl.heap.size - 1, 0, none⟩) 6 (fun j => [0, 105, 120, 999, -1, 1000].getD j 0) := by
    rw [hwl]
    have h := sl_lit [0, 105, 120, 999, -1, 1000] (w := wx) (T := 3) rfl
    simpa using h
  obtain ⟨q1, hq1, hCl⟩ : ∃ q, q ≤ 1000000 ∧ Cur wl w.heap.size A n c q := by rw [hwl]; exact ⟨_, by omega, hC.alloc _⟩
  have hxl : Below wx.heap.size wx wl := by rw [hwl]; exact (Below.refl _ _).alloc (Nat.le_refl _) _
  have hd := hd.below hxl
  have hB := hB.trans (hxl.mono hB.size)
  have hsz : wx.heap.size = wl.heap.size - 1 := by rw [hwl]; simp
  rw [hsz] at hzz ⊢
  clear hwl hC hxl hsz
  refine (pick_any w.heap.size n c _ 24 A _ hCl hn (by omega) (by omega) (by omega)).mono ?_
  rintro e wp ⟨z, rfl, hz, hC, hF⟩
  have hs3 := hs3.fr hF (Or.inr (by omega))
  have hd := hd.step hF (Nat.lt_succ_self _)
  have hB := hB.trans (hF.below (Nat.le_refl _) hB.size)
  clear hF
  go_wp2_with fail
  refine (among_any w.heap.size n c _ (4 + z / 11) 6 _ _ A _ _ wp hC hn (by omega) (by omega) (by omega) (hs3.shorter (by omega)) (by omega)).mono ?_
  clear hC
  rintro e wx ⟨k, hk, rfl, hC, hF⟩
  have hd := hd.step hF (Nat.lt_succ_self _)
  have hB := hB.trans (hF.below (Nat.le_refl _) hB.size)
  clear hF hs3 hz hk
  go_wp2_with fail
  have hzz := hC.lt
  refine nameC ?_
  intro wl hwl
  have hs3 : Sl wl (wl.heap.size - 1) wl.heap.size 1 (some ⟨wl.heap.size - 1, 0, none⟩) 6 (fun j => [0, 10, 500, 999, -1, 1000].getD j 0) := by
    rw [hwl]
    have h := sl_lit [0, 10, 500, 999, -1, 1000] (w := wx) (T := 3) rfl
    simpa using h
  obtain ⟨q2, hq2, hCl⟩ : ∃ q, q ≤ 2000000 ∧ Cur wl w.heap.size A n c q := by rw [hwl]; exact ⟨_, by omega, hC.alloc _⟩
  have hxl : Below wx.heap.size wx wl := by rw [hwl]; exact (Below.refl _ _).alloc (Nat.le_refl _) _
  have hd := hd.below hxl
  have hB := hB.trans (hxl.mono hB.size)
  have hsz : wx.heap.size = wl.heap.size - 1 := by rw [hwl]; simp
  rw [hsz] at hzz ⊢
  clear hwl hC hxl hsz
  refine (pick_any w.heap.size n c _ 24 A _ hCl hn (by omega) (by omega) (by omega)).mono ?_
  rintro e wp ⟨z, rfl, hz, hC, hF⟩
  have hs3 := hs3.fr hF (Or.inr (by omega))
  have hd := hd.step hF (Nat.lt_succ_self _)
  have hB := hB.trans (hF.below (Nat.le_refl _) hB.size)
  clear hF
  go_wp2_with fail
  refine (among_any w.heap.size n c _ (4 + z / 11) 6 _ _ A _ _ wp hC hn (by omega) (by omega) (by omega) (hs3.shorter (by omega)) (by omega)).mono ?_
  clear hC
  rintro e wx ⟨k, hk, rfl, hC, hF⟩
  have hd := hd.step hF (Nat.lt_succ_self _)
  have hB := hB.trans (hF.below (Nat.le_refl _) hB.size)
  clear hF hs3 hz hk
  go_wp2
  go_ret3
  exact ⟨A', m, c', _, _, _, rfl, hm, hd.lo_le (Nat.le_succ _), hB⟩
set_option maxHeartbeats 1000000 in
theorem DrawPathPast_any (A : Option Addr) (n c : Nat) (w : World) (hc : Code w A n) (hn : n ≤ 65536) :
    Calls Tryd.prog 13 #[.slice A n c] w fun e w' => ∃ A' m c' g z0 z1, e = .returned (.tuple #[.slice A' m c', .int .i64 z0, .int .i64 z1]) ∧ m ≤ 13 ∧ Drawn w' w.heap.size 36 7 A' m c' g ∧ Below w.heap.size w w' := by
  go_enter Tryd.func13, Tryd.ntmps13
  go_wp2_with fail
  refine nameC ?_
  intro w1 hw1
  have hC1 : Cur w1 w.heap.size A n c 0 := by rw [hw1]; exact hc.cur
  have hB1 : Below w.heap.size w w1 := by rw [hw1]; exact (Below.refl _ w).alloc (Nat.le_refl _) _
  clear hw1 hc
  refine (nests_any w.heap.size n c 0 A w1 hC1 hn (by omega)).mono ?_
  rintro e w2 ⟨v, m, L, rfl, hm, hown, hC, hF2⟩
  have hB : Below w.heap.size w w2 := hB1.trans (hF2.below (Nat.le_refl _) hB1.size)
  obtain ⟨A', c', rfl, hd⟩ := drawnRow_of 7 hown hC1.lt
  clear hown hC1 hF2 hB1
  obtain ⟨wx, hwx⟩ : ∃ wx, wx = w2 := ⟨_, rfl⟩
  rw [← hwx] at hC hd hB ⊢
  clear hwx
  go_wp2_with fail
  have hzz := hC.lt
  refine nameC ?_
  intro wl hwl
  have hs3 : Sl wl (wl.heap.size - 1) wl.heap.size 1 (some ⟨wl.heap.size - 1, 0, none⟩) 8 (fun j => [0, 61, 80, 150, 179, 999, -1, 1000].getD j 0) := by
    rw [hwl]
    have h := sl_lit [0, 61, 80, 150, 179, 999, -1, 1000] (w := wx) (T := 3) rfl
    simpa using h
  obtain ⟨q1, hq1, hCl⟩ : ∃ q, q ≤ 1000000 ∧ Cur wl w.heap.size A n c q := by rw [hwl]; exact ⟨_, by omega, hC.alloc _⟩
  have hxl : Below wx.heap.size wx wl := by rw [hwl]; exact (Below.refl _ _).alloc (Nat.le_refl _) _
  have hd := hd.below hxl
  have hB := hB.trans (hxl.mono hB.size)
  have hsz : wx.heap.size = wl.heap.size - 1 := by rw [hwl]; simp
  rw [hsz] at hzz ⊢
  clear hwl hC hxl hsz
  refine (pick_any w.heap.size n c _ 24 A _ hCl hn (by omega) (by omega) (by omega)).mono ?_
  rintro e wp ⟨z, rfl, hz, hC, hF⟩
  have hs3 := hs3.fr hF (Or.inr (by omega))
  have hd := hd.step hF (Nat.lt_succ_self _)
  have hB := hB.trans (hF.below (Nat.le_refl _) hB.size)
  clear hF
  go_wp2_with fail
  refine (among_any w.heap.size n c _ (6 + z / 11) 8 _ _ A _ _ wp hC hn (by omega) (by omega) (by omega) (hs3.shorter (by omega)) (by omega)).mono ?_
  clear hC
  rintro e wx ⟨k, hk, rfl, hC, hF⟩
  have hd := hd.step hF (Nat.lt_succ_self _)
  have hB := hB.trans (hF.below (Nat.le_refl _) hB.size)
  clear hF hs3 hz hk
  go_wp2_with fail
  refine (day24_any w.heap.size n c _ A _ hC hn (by omega)).mono ?_
  rintro e wx ⟨z, rfl, hC, hF⟩
  have hd := hd.step hF (Nat.lt_succ_self _)
  have hB := hB.trans (hF.below (Nat.le_refl _) hB.size)
  clear hF
  go_wp2
  go_ret3
  exact ⟨A', m, c', _, _, _, rfl, hm, hd.lo_le (Nat.le_succ _), hB⟩
set_option maxHeartbeats 1000000 in
theorem DrawAreNests_any (A : Option Addr) (n c : Nat) (w : World) (hc : Code w A n) (hn : n ≤ 65536) :
    Calls Tryd.prog 26 #[.slice A n c] w fun e w' => ∃ A' m c' g, e = .returned (.slice A' m c') ∧ m ≤ 13 ∧ Drawn w' w.heap.size 36 7 A' m c' g ∧ Below w.heap.size w w' := by
  go_enter Tryd.func26, Tryd.ntmps26
  go_wp2_with fail
  refine nameC ?_
  intro w1 hw1
  have hC1 : Cur w1 w.heap.size A n c 0 := by rw [hw1]; exact hc.cur
  have hB1 : Below w.heap.size w w1 := by rw [hw1]; exact (Below.refl _ w).alloc (Nat.le_refl _) _
  clear hw1 hc
  refine (nests_any w.heap.size n c 0 A w1 hC1 hn (by omega)).mono ?_
  rintro e w2 ⟨v, m, L, rfl, hm, hown, hC, hF2⟩
  have hB : Below w.heap.size w w2 := hB1.trans (hF2.below (Nat.le_refl _) hB1.size)
  obtain ⟨A', c', rfl, hd⟩ := drawnRow_of 7 hown hC1.lt
  clear hown hC1 hF2 hB1

  go_wp2
  go_ret
  exact ⟨A', m, c', _, rfl, hm, hd.lo_le (Nat.le_succ _), hB⟩
theorem DrawNearPairs_any (A : Option Addr) (n c : Nat) (w : World) (hc : Code w A n) (hn : n ≤ 65536) :
    Calls Tryd.prog 5 #[.slice A n c] w fun e w' => ∃ A' m c' g, e = .returned (.slice A' m c') ∧ m ≤ 13 ∧ Drawn w' w.heap.size 36 7 A' m c' g ∧ Below w.heap.size w w' := by
  go_enter Tryd.func5, Tryd.ntmps5
  go_wp2_with fail
  refine (DrawAreNests_any A n c w hc hn).mono ?_
  rintro e w1 ⟨A', m, c', g, rfl, hm, hd, hb⟩
  go_wp2
  go_ret
  exact ⟨A', m, c', g, rfl, hm, hd, hb⟩
set_option maxHeartbeats 1000000 in
theorem DrawKindsAt_any (A : Option Addr) (n c : Nat) (w : World) (hc : Code w A n) (hn : n ≤ 65536) :
    Calls Tryd.prog 19 #[.slice A n c] w fun e w' => ∃ A' m c' g z0, e = .returned (.tuple #[.slice A' m c', .int .i64 z0]) ∧ m ≤ 13 ∧ Drawn w' w.heap.size 36 7 A' m c' g ∧ Below w.heap.size w w' := by
  go_enter Tryd.func19, Tryd.ntmps19
  go_wp2_with fail
  refine nameC ?_
  intro w1 hw1
  have hC1 : Cur w1 w.heap.size A n c 0 := by rw [hw1]; exact hc.cur
  have hB1 : Below w.heap.size w w1 := by rw [hw1]; exact (Below.refl _ w).alloc (Nat.le_refl _) _
  clear hw1 hc
  refine (nests_any w.heap.size n c 0 A w1 hC1 hn (by omega)).mono ?_
  rintro e w2 ⟨v, m, L, rfl, hm, hown, hC, hF2⟩
  have hB : Below w.heap.size w w2 := hB1.trans (hF2.below (Nat.le_refl _) hB1.size)
  obtain ⟨A', c', rfl, hd⟩ := drawnRow_of 7 hown hC1.lt
  clear hown hC1 hF2 hB1
  go_wp2_with fail
  refine (pond24_any w.heap.size n c _ A _ hC hn (by omega)).mono ?_
  rintro e wx ⟨z, rfl, hC, hF⟩
  have hd := hd.step hF (Nat.lt_succ_self _)
  have hB := hB.trans (hF.below (Nat.le_refl _) hB.size)
  clear hF
  go_wp2
  go_ret2
  exact ⟨A', m, c', _, _, rfl, hm, hd.lo_le (Nat.le_succ _), hB⟩
end Go.Proofs.YtcecpioiagfoiaaDoor
