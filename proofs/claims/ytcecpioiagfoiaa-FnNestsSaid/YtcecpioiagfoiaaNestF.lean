/-
  Is a pond quiet on a day: the program's and the reference's return the same test; tests of ponds and days.
-/
import Derived.Test.YtcecpioiagfoiaaNestC
import Derived.BigGuardPart
namespace Go.Proofs.Ytcecpioiagfoiaa
open Go.RowKit
set_option linter.unusedVariables false
set_option linter.unusedSimpArgs false
attribute [local go_sem ↓] Go.wp_at_zero Go.wp_at_succ
/-- The first place from k on, of m, that p takes; -1 if there is none. -/
def findP (p : Nat → Bool) : Nat → Nat → Int
  | 0, _ => -1
  | m + 1, k => if p k then (k : Int) else findP p m (k + 1)
theorem findP_step {p : Nat → Bool} {n k : Nat} (hk : k < n) : findP p (n - k) k = if p k then (k : Int) else findP p (n - (k + 1)) (k + 1) := by
  obtain ⟨m, hm⟩ : ∃ m, n - k = m + 1 := ⟨n - k - 1, by omega⟩
  rw [hm, show n - (k + 1) = m by omega]; rfl
theorem findP_cases (p : Nat → Bool) : ∀ m k, (findP p m k = -1 ∧ ∀ j, k ≤ j → j < k + m → p j = false) ∨ ∃ j, k ≤ j ∧ j < k + m ∧ findP p m k = (j : Int) ∧ p j = true
  | 0, k => Or.inl ⟨rfl, fun j h1 h2 => absurd h2 (by omega)⟩
  | m + 1, k => by
    cases h : p k with
    | true => exact Or.inr ⟨k, Nat.le_refl _, by omega, by simp [findP, h], h⟩
    | false =>
      rcases findP_cases p m (k + 1) with ⟨h1, h2⟩ | ⟨j, h1, h2, h3, h4⟩
      · refine Or.inl ⟨by simp [findP, h, h1], fun j hj1 hj2 => ?_⟩
        by_cases hk : j = k
        · exact hk ▸ h
        · exact h2 j (by omega) (by omega)
      · exact Or.inr ⟨j, by omega, by omega, by simp [findP, h, h3], h4⟩
theorem findP_bd (p : Nat → Bool) (m k : Nat) : -1 ≤ findP p m k ∧ findP p m k < (k : Int) + m := by
  rcases findP_cases p m k with ⟨h, _⟩ | ⟨j, h1, h2, h3, _⟩ <;> omega
def quietV (p d b pond day : Int) : Bool := decide (p = pond) && aliveV d b day
def quietK (f : Nat → Int) (pond day : Int) (k : Nat) : Bool := quietV (f (k * 7 + 2)) (f (k * 7 + 3)) (f (k * 7 + 4)) pond day
def quietAt (f : Nat → Int) (n : Nat) (pond day : Int) : Bool := decide (0 ≤ findP (quietK f pond day) n 0)

theorem quietClo_any (i k p d b x y pond day : Int) (q r : Nat) (w : World) (hq : w.cell? ⟨q, 0, none⟩ = some (.int .i64 pond)) (hqb : q < w.heap.size) (hr : w.cell? ⟨r, 0, none⟩ = some (.int .i64 day)) (hrb : r < w.heap.size) :
    Calls Try.prog 42 #[.agg #[.int .i64 i, .int .i64 k, .int .i64 p, .int .i64 d, .int .i64 b, .int .i64 x, .int .i64 y], .pointer (some ⟨q, 0, none⟩), .pointer (some ⟨r, 0, none⟩)] w fun e w' => e = .returned (.bool (quietV p d b pond day)) ∧ Below w.heap.size w w' := by
  by_cases hp : p = pond
  · subst hp
    have hpb : (p == p) = true := by simp
    go_enter Try.func42, Try.ntmps42
    go_wp2_with (go_at_call 20; refine (alive_any _ _ _ _ _ _ _ _ _).mono ?_; rintro e w2 ⟨rfl, hb2⟩)
    go_ret
    exact ⟨ret_bool (by simp [quietV]), ((Below.refl _ w).alloc (Nat.le_refl _) _).trans (hb2.mono (by simp))⟩
  · have hpb : (p == pond) = false := by simp [hp]
    go_enter Try.func42, Try.ntmps42
    go_wp2_with (go_at_call 20; refine (alive_any _ _ _ _ _ _ _ _ _).mono ?_; rintro e w2 ⟨rfl, hb2⟩)
    go_ret
    exact ⟨ret_bool (by simp [quietV, hp]), by go_grown⟩
set_option maxHeartbeats 400000 in
theorem nestIndex_any (A : Option Addr) (n c lo hi : Nat) (f : Nat → Int) (pond day : Int) (q r : Nat) (w : World) (hs : Sl w lo hi 7 A n f) (hq : w.cell? ⟨q, 0, none⟩ = some (.int .i64 pond)) (hqb : q < w.heap.size) (hr : w.cell? ⟨r, 0, none⟩ = some (.int .i64 day)) (hrb : r < w.heap.size) (hn : n ≤ 1048576) (hnc : n ≤ c) :
    Calls Try.prog 53 #[.slice A n c, .func (.func 42) #[] #[.pointer (some ⟨q, 0, none⟩), .pointer (some ⟨r, 0, none⟩)]] w fun e w' => e = .returned (.int .i64 (findP (quietK f pond day) n 0)) ∧ Below w.heap.size w w' := by
  have HS : Hid (Sl w lo hi 7 A n f) := hs
  clear hs
  go_enter Try.func53, Try.ntmps53
  go_wp2
  go_loopw [8] (fun i wr => ∃ k : Nat, k ≤ n ∧ i = .int .i64 k ∧ findP (quietK f pond day) n 0 = findP (quietK f pond day) (n - k) k ∧ Below w.heap.size w wr) (fun i _ => n - (intOf i).toNat)
  case atStart => exact ⟨0, Nat.zero_le _, rfl, rfl, Below.refl _ _⟩
  case round =>
    obtain ⟨k, hk, rfl, hfd, hbel⟩ := hrel
    by_cases hlt : k < n
    · obtain ⟨b, off, rfl, hbw, HC⟩ := HS.out.open_ hbel (by omega)
      obtain ⟨c0, c1, c2, c3, c4, c5, c6⟩ := cell7 HC hlt
      have hqr : wr.cell? ⟨q, 0, none⟩ = some (.int .i64 pond) := (hbel.cell (p := ⟨q, 0, none⟩) hqb).trans hq
      have hrr : wr.cell? ⟨r, 0, none⟩ = some (.int .i64 day) := (hbel.cell (p := ⟨r, 0, none⟩) hrb).trans hr
      have hqw : q < wr.heap.size := Nat.lt_of_lt_of_le hqb hbel.size
      have hrw : r < wr.heap.size := Nat.lt_of_lt_of_le hrb hbel.size
      have hk0i : (0 : Int) ≤ (k : Int) := by omega
      have hkni : (k : Int) < (n : Int) := by omega
      have HH : Hid (findP (quietK f pond day) n 0 = if quietK f pond day k then (k : Int) else findP (quietK f pond day) (n - (k + 1)) (k + 1)) := hfd.trans (findP_step hlt)
      have HK : Hid (quietV (f (k * 7 + 2)) (f (k * 7 + 3)) (f (k * 7 + 4)) pond day = quietK f pond day k) := rfl
      clear HC HS hfd
      cases hz : quietV (f (k * 7 + 2)) (f (k * 7 + 3)) (f (k * 7 + 4)) pond day with
      | true =>
        go_wp2_with (go_at_call 42; refine (quietClo_any _ _ _ _ _ _ _ pond day q r _ hqr hqw hrr hrw).mono ?_; rintro e w2 ⟨rfl, hb2⟩)
        go_ret
        exact ⟨ret_int (by rw [HH.out, ← HK.out, hz]; rfl), below_of hbel hb2 hbel.size⟩
      | false =>
        go_wp2_with (go_at_call 42; refine (quietClo_any _ _ _ _ _ _ _ pond day q r _ hqr hqw hrr hrw).mono ?_; rintro e w2 ⟨rfl, hb2⟩)
        go_roundw
        case rel => exact ⟨k + 1, by omega, by go_num, by rw [HH.out, ← HK.out, hz]; rfl, below_of hbel hb2 hbel.size⟩
        case measure => simp [intOf]; omega
    · obtain rfl : n = k := by omega
      have HH : Hid (findP (quietK f pond day) n 0 = -1) := by rw [Hid, hfd, Nat.sub_self]; rfl
      clear HS hfd
      go_wp2
      go_ret
      exact ⟨ret_int (by rw [HH.out]), hbel⟩
theorem nestContains_any (A : Option Addr) (n c lo hi : Nat) (f : Nat → Int) (pond day : Int) (q r : Nat) (w : World) (hs : Sl w lo hi 7 A n f) (hq : w.cell? ⟨q, 0, none⟩ = some (.int .i64 pond)) (hqb : q < w.heap.size) (hr : w.cell? ⟨r, 0, none⟩ = some (.int .i64 day)) (hrb : r < w.heap.size) (hn : n ≤ 1048576) (hnc : n ≤ c) :
    Calls Try.prog 41 #[.slice A n c, .func (.func 42) #[] #[.pointer (some ⟨q, 0, none⟩), .pointer (some ⟨r, 0, none⟩)]] w fun e w' => e = .returned (.bool (quietAt f n pond day)) ∧ Below w.heap.size w w' := by
  have hcon := nestIndex_any A n c lo hi f pond day q r w hs hq hqb hr hrb hn hnc
  have hqa : quietAt f n pond day = decide (0 ≤ findP (quietK f pond day) n 0) := rfl
  rw [hqa]
  clear hqa hs hq hr
  generalize findP (quietK f pond day) n 0 = z at hcon ⊢
  go_enter Try.func41, Try.ntmps41
  go_wp2_with fail
  refine hcon.mono ?_
  rintro e w2 ⟨rfl, hb2⟩
  go_wp2
  go_ret
  exact ⟨rfl, hb2⟩
set_option maxHeartbeats 400000 in
theorem l24Quiet_any (A : Option Addr) (n c lo hi : Nat) (f : Nat → Int) (pond day : Int) (w : World) (hs : Sl w lo hi 7 A n f) (hn : n ≤ 1048576) (hnc : n ≤ c) :
    Calls Try.prog 31 #[.slice A n c, .int .i64 pond, .int .i64 day] w fun e w' => e = .returned (.bool (quietAt f n pond day)) ∧ Below w.heap.size w w' := by
  have HS : Hid (Sl w lo hi 7 A n f) := hs
  clear hs
  go_enter Try.func31, Try.ntmps31
  go_wp2
  go_loopw [7] (fun i wr => ∃ k : Nat, k ≤ n ∧ i = .int .i64 k ∧ findP (quietK f pond day) n 0 = findP (quietK f pond day) (n - k) k ∧ Below w.heap.size w wr) (fun i _ => n - (intOf i).toNat)
  case atStart => exact ⟨0, Nat.zero_le _, rfl, rfl, Below.refl _ _⟩
  case round =>
    obtain ⟨k, hk, rfl, hfd, hbel⟩ := hrel
    by_cases hlt : k < n
    · obtain ⟨b, off, rfl, hbw, HC⟩ := HS.out.open_ hbel (by omega)
      obtain ⟨c0, c1, c2, c3, c4, c5, c6⟩ := cell7 HC hlt
      have hk0i : (0 : Int) ≤ (k : Int) := by omega
      have hkni : (k : Int) < (n : Int) := by omega
      have HH : Hid (findP (quietK f pond day) n 0 = if quietK f pond day k then (k : Int) else findP (quietK f pond day) (n - (k + 1)) (k + 1)) := hfd.trans (findP_step hlt)
      clear HC HS hfd
      by_cases hp : f (k * 7 + 2) = pond
      · have hpb : (f (k * 7 + 2) == pond) = true := by simp [hp]
        have HK : Hid (quietK f pond day k = aliveV (f (k * 7 + 3)) (f (k * 7 + 4)) day) := by simp [Hid, quietK, quietV, hp]
        clear hp
        cases hz : aliveV (f (k * 7 + 3)) (f (k * 7 + 4)) day with
        | true =>
          go_wp2_with (go_at_call 24; refine (l24Alive_any _ _ _ _ _ _ _ _ _).mono ?_; rintro e w2 ⟨rfl, hb2⟩)
          go_ret
          exact ⟨ret_bool (by rw [quietAt, HH.out, HK.out, hz]; simp), below_of hbel hb2 hbel.size⟩
        | false =>
          go_wp2_with (go_at_call 24; refine (l24Alive_any _ _ _ _ _ _ _ _ _).mono ?_; rintro e w2 ⟨rfl, hb2⟩)
          go_roundw
          case rel => exact ⟨k + 1, by omega, by go_num, by rw [HH.out, HK.out, hz]; rfl, below_of hbel hb2 hbel.size⟩
          case measure => simp [intOf]; omega
      · have hpb : (f (k * 7 + 2) == pond) = false := by simp [hp]
        have HK : Hid (quietK f pond day k = false) := by simp [Hid, quietK, quietV, hp]
        clear hp
        go_wp2
        go_roundw
        case rel => exact ⟨k + 1, by omega, by go_num, by rw [HH.out, HK.out]; rfl, hbel⟩
        case measure => simp [intOf]; omega
    · obtain rfl : n = k := by omega
      have HH : Hid (findP (quietK f pond day) n 0 = -1) := by rw [Hid, hfd, Nat.sub_self]; rfl
      clear HS hfd
      go_wp2
      go_ret
      exact ⟨ret_bool (by rw [quietAt, HH.out]; rfl), hbel⟩
end Go.Proofs.Ytcecpioiagfoiaa
