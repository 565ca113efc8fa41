/-
  Sums, the greatest common divisor, TonsForDay.
-/
import Derived.Test.YtfejgoohefhjoaaCropA
import Derived.RegionTactic
namespace Go.Proofs.Ytfejgoohefhjoaa
open Go.RowKit
set_option linter.unusedVariables false
set_option linter.unusedSimpArgs false

theorem ret_two {k : IntKind} {a b a' b' : Int} (h1 : a = a') (h2 : b = b') : Ending.returned (.tuple #[.int k a, .int k b]) = Ending.returned (.tuple #[.int k a', .int k b']) := by rw [h1, h2]
theorem wrap_quo (x g : Nat) (hx : x ≤ 1000000000000) : wrap64 ((x : Int) / (g : Int)) = ((x / g : Nat) : Int) := by
  have h : x / g ≤ x := Nat.div_le_self x g
  have e : (x : Int) / (g : Int) = ((x / g : Nat) : Int) := rfl
  rw [e]
  clear e
  generalize x / g = q at h ⊢
  exact IntWalk.wrap64_in _ ⟨by omega, by omega⟩
def sumW (g : Nat → Int) : Nat → Int
  | 0 => 0
  | k + 1 => wrap64 (sumW g k + g k)
theorem sumW_bd {g : Nat → Int} {n : Nat} {M : Int} (hM : 0 ≤ M) (hM' : M ≤ 1000000000) (hn : n ≤ 1000) (h : ∀ j, j < n → 0 ≤ g j ∧ g j ≤ M) : ∀ k, k ≤ n → 0 ≤ sumW g k ∧ sumW g k ≤ k * M := by
  intro k
  induction k with
  | zero => intro _; simp [sumW]
  | succ k ih =>
    intro hk
    obtain ⟨a, b⟩ := ih (by omega)
    obtain ⟨c, d⟩ := h k (by omega)
    have hkM : (k : Int) * M ≤ 1000 * 1000000000 := Int.mul_le_mul (by omega) hM' hM (by omega)
    have e : ((k + 1 : Nat) : Int) * M = (k : Int) * M + M := by rw [Int.natCast_add, Int.add_mul]; simp
    unfold sumW
    rw [IntWalk.wrap64_in _ ⟨by omega, by omega⟩]
    omega
def tonsAt (f : Nat → Int) (k : Nat) : Int := f (k * 5 + 2)
def daysAt (f : Nat → Int) (k : Nat) : Int := f (k * 5 + 1)
theorem good_row {f : Nat → Int} {n k : Nat} (h : goodRows f n = true) (hk : k < n) : okAt f k = true := by
  simp only [goodRows, Bool.and_eq_true] at h
  have := allTo_at hk h.1
  simp only [stepOk, Bool.and_eq_true] at this
  exact this.1
theorem good_len {f : Nat → Int} {n : Nat} (h : goodRows f n = true) : n ≤ 12 := by
  simp only [goodRows, Bool.and_eq_true, decide_eq_true_eq] at h
  exact h.2
theorem good_row_facts {f : Nat → Int} {n k : Nat} (h : goodRows f n = true) (hk : k < n) : 1800 ≤ f (k * 5) ∧ f (k * 5) ≤ 2100 ∧ 0 ≤ f (k * 5 + 1) ∧ f (k * 5 + 1) ≤ 366 ∧ 0 ≤ f (k * 5 + 2) ∧ f (k * 5 + 2) ≤ 1000000 ∧ (0 < f (k * 5 + 1) ∨ f (k * 5 + 2) = 0) ∧ 0 ≤ f (k * 5 + 3) ∧ f (k * 5 + 3) ≤ f (k * 5 + 2) ∧ 0 ≤ f (k * 5 + 4) ∧ f (k * 5 + 4) ≤ 9999 := by
  have := good_row h hk
  simpa only [okAt, okRow, decide_eq_true_eq] using this
theorem good_tons {f : Nat → Int} {n : Nat} (h : goodRows f n = true) : 0 ≤ sumW (tonsAt f) n ∧ sumW (tonsAt f) n ≤ 12000000 := by
  have hl := good_len h
  have := sumW_bd (g := tonsAt f) (n := n) (M := 1000000) (by omega) (by omega) (by omega) (fun j hj => by have := good_row_facts h hj; unfold tonsAt; omega) n (Nat.le_refl _)
  omega
theorem good_days {f : Nat → Int} {n : Nat} (h : goodRows f n = true) : 0 ≤ sumW (daysAt f) n ∧ sumW (daysAt f) n ≤ 4392 := by
  have hl := good_len h
  have := sumW_bd (g := daysAt f) (n := n) (M := 366) (by omega) (by omega) (by omega) (fun j hj => by have := good_row_facts h hj; unfold daysAt; omega) n (Nat.le_refl _)
  omega

theorem sums_any (A : Option Addr) (n c lo hi : Nat) (f : Nat → Int) (w : World) (hs : Sl w lo hi 5 A n f) (hn : n ≤ 1048576) (hnc : n ≤ c) :
    Calls Try.prog 33 #[.slice A n c] w fun e w' => e = .returned (.tuple #[.int .i64 (sumW (tonsAt f) n), .int .i64 (sumW (daysAt f) n)]) ∧ Below w.heap.size w w' := by
  have HS : Hid (Sl w lo hi 5 A n f) := hs
  clear hs
  go_enter Try.func33, Try.ntmps33
  go_wp2
  go_loopw [4, 5, 10] (fun t d i wr => ∃ k : Nat, k ≤ n ∧ i = .int .i64 k ∧ t = .int .i64 (sumW (tonsAt f) k) ∧ d = .int .i64 (sumW (daysAt f) k) ∧ Below w.heap.size w wr) (fun _ _ i _ => n - (intOf i).toNat)
  case atStart => exact ⟨0, Nat.zero_le _, rfl, rfl, rfl, Below.refl _ _⟩
  case round =>
    obtain ⟨k, hk, rfl, rfl, rfl, hbel⟩ := hrel
    by_cases hlt : k < n
    · obtain ⟨b, off, rfl, hbw, HC⟩ := HS.out.open_ hbel (by omega)
      obtain ⟨c0, c1, c2, c3, c4⟩ := cell5 HC hlt
      clear HC HS
      go_wp2
      go_roundw
      case rel => exact ⟨k + 1, by omega, by go_num, rfl, rfl, hbel.alloc hbel.size _⟩
      case measure => simp [intOf]; omega
    · obtain rfl : k = n := by omega
      clear HS
      go_wp2
      go_ret2
      exact ⟨rfl, hbel⟩

theorem gcd_any (a b : Nat) (w : World) (ha : a ≤ 1000000000000) (hb : b ≤ 1000000000000) :
    Calls Try.prog 49 #[.int .i64 a, .int .i64 b] w fun e w' => e = .returned (.int .i64 (Nat.gcd a b)) ∧ Below w.heap.size w w' := by
  go_enter Try.func49, Try.ntmps49
  go_wp2
  go_loopw [0, 1] (fun x y wr => ∃ p q : Nat, x = .int .i64 p ∧ y = .int .i64 q ∧ Hid (Nat.gcd p q = Nat.gcd a b) ∧ p ≤ 1000000000000 ∧ q ≤ 1000000000000 ∧ Below w.heap.size w wr) (fun _ y _ => (intOf y).toNat)
  case atStart => exact ⟨a, b, rfl, rfl, rfl, ha, hb, Below.refl _ _⟩
  case round =>
    obtain ⟨p, q, rfl, rfl, hg, hp, hq, hbel⟩ := hrel
    by_cases hz : q = 0
    · subst hz
      go_wp2
      go_ret
      exact ⟨ret_int (by have := hg.out; rw [Nat.gcd_zero_right] at this; rw [this]), hbel⟩
    · have hz1 : ((q : Int) == 0) = false := by simp; omega
      have hz2 : ((q : Int) != 0) = true := by simp; omega
      have hz3 : (q : Int) ≠ 0 := by omega
      have hz4 : (0 : Int) < (q : Int) := by omega
      have ht : Hid (((p : Int)).tmod (q : Int) = ((p % q : Nat) : Int)) := by
        show Int.tmod _ _ = _
        rw [Int.tmod_eq_emod_of_nonneg (by omega)]; rfl
      have hl := Nat.mod_lt p (y := q) (by omega)
      go_wp2
      go_region
      all_goals
        go_wp2
        go_roundw
        case rel => exact ⟨q, p % q, rfl, by rw [← ht.out]; rfl, by show Nat.gcd q (p % q) = _; rw [← hg.out, Nat.gcd_comm p q, Nat.gcd_rec q p, Nat.gcd_comm (p % q) q], hq, by omega, hbel.drew⟩
        case measure => simp [intOf]; first | omega | (rw [ht.out]; simp; omega)
theorem reduced_any (a b : Nat) (w : World) (ha : a ≤ 1000000000000) (hb : b ≤ 1000000000000) (h0 : 0 < b) :
    Calls Try.prog 43 #[.int .i64 a, .int .i64 b] w fun e w' => e = .returned (.tuple #[.int .i64 ((a / Nat.gcd a b : Nat) : Int), .int .i64 ((b / Nat.gcd a b : Nat) : Int)]) ∧ Below w.heap.size w w' := by
  have hg0 : 0 < Nat.gcd a b := Nat.gcd_pos_of_pos_right _ h0
  have hgl : Nat.gcd a b ≤ b := Nat.le_of_dvd h0 (Nat.gcd_dvd_right _ _)
  go_enter Try.func43, Try.ntmps43
  go_wp2_with fail
  refine (gcd_any a b w ha hb).mono ?_
  rintro e w1 ⟨rfl, hb1⟩
  generalize hg : Nat.gcd a b = g at hg0 hgl
  have Hg : Hid (Nat.gcd a b = g) := hg
  clear hg
  have hz1 : ((g : Int) == 0) = false := by simp; omega
  have hz3 : (g : Int) ≠ 0 := by omega
  have hz4 : (0 : Int) < (g : Int) := by omega
  have hz5 : (1 : Int) ≤ (g : Int) := by omega
  go_wp2
  go_region
  all_goals
    go_wp2
    go_ret2
    exact ⟨ret_two (by rw [Hg.out]; exact wrap_quo a g ha) (by rw [Hg.out]; exact wrap_quo b g hb), hb1.drew⟩
theorem l2Reduce_any (a b : Nat) (w : World) (ha : a ≤ 1000000000000) (hb : b ≤ 1000000000000) (h0 : 0 < b) :
    Calls Try.prog 44 #[.int .i64 a, .int .i64 b] w fun e w' => e = .returned (.tuple #[.int .i64 ((a / Nat.gcd a b : Nat) : Int), .int .i64 ((b / Nat.gcd a b : Nat) : Int)]) ∧ Below w.heap.size w w' := by
  have hg0 : 0 < Nat.gcd a b := Nat.gcd_pos_of_pos_right _ h0
  have hgl : Nat.gcd a b ≤ b := Nat.le_of_dvd h0 (Nat.gcd_dvd_right _ _)
  by_cases ha0 : (a : Int) ≤ -(a : Int)
  all_goals
    have hmx : ¬ (a : Int) < -(a : Int) := by omega
    go_enter Try.func44, Try.ntmps44
    go_wp2
    go_loopw [6, 7, 8] (fun x y z wr => ∃ p q : Nat, x = .int .i64 p ∧ y = .int .i64 q ∧ Hid (Nat.gcd p q = Nat.gcd a b) ∧ p ≤ 1000000000000 ∧ q ≤ 1000000000000 ∧ Below w.heap.size w wr) (fun _ y _ _ => (intOf y).toNat)
    case atStart => exact ⟨a, b, by first | rfl | (simp; omega), rfl, rfl, ha, hb, Below.refl _ _⟩
    case round =>
      obtain ⟨p, q, rfl, rfl, hg, hp, hq, hbel⟩ := hrel
      by_cases hz : q = 0
      · subst hz
        have hgp : p = Nat.gcd a b := by have := hg.out; rw [Nat.gcd_zero_right] at this; exact this
        clear hg
        rw [← hgp] at hg0 hgl
        have Hg : Hid (Nat.gcd a b = p) := hgp.symm
        clear hgp
        have hz1 : ((p : Int) == 0) = false := by simp; omega
        have hz3 : (p : Int) ≠ 0 := by omega
        have hz4 : (0 : Int) < (p : Int) := by omega
        have hz5 : (1 : Int) ≤ (p : Int) := by omega
        go_wp2
        go_region
        all_goals
          go_wp2
          go_ret2
          exact ⟨ret_two (by rw [Hg.out]; exact wrap_quo a p ha) (by rw [Hg.out]; exact wrap_quo b p hb), hbel.drew⟩
      · have hz1 : ((q : Int) == 0) = false := by simp; omega
        have hz2 : ((q : Int) != 0) = true := by simp; omega
        have hz3 : (q : Int) ≠ 0 := by omega
        have hz4 : (0 : Int) < (q : Int) := by omega
        have hl := Nat.mod_lt p (y := q) (by omega)
        go_wp2
        go_roundw
        case rel => exact ⟨q, p % q, rfl, by first | rfl | (simp; rfl), by show Nat.gcd q (p % q) = _; rw [← hg.out, Nat.gcd_comm p q, Nat.gcd_rec q p, Nat.gcd_comm (p % q) q], hq, by omega, hbel⟩
        case measure => simp [intOf]; omega
/-- What TonsForDay returns for good rows with days. -/
def tfdNum (f : Nat → Int) (n : Nat) : Nat := (sumW (tonsAt f) n).toNat / Nat.gcd (sumW (tonsAt f) n).toNat (sumW (daysAt f) n).toNat
def tfdDen (f : Nat → Int) (n : Nat) : Nat := (sumW (daysAt f) n).toNat / Nat.gcd (sumW (tonsAt f) n).toNat (sumW (daysAt f) n).toNat
set_option maxHeartbeats 400000 in
theorem TonsForDay_yes (A : Option Addr) (n c lo hi : Nat) (f : Nat → Int) (w : World) (hs : Sl w lo hi 5 A n f) (hn : n ≤ 1048576) (hnc : n ≤ c) (h : goodRows f n = true) (h0 : sumW (daysAt f) n ≠ 0) :
    Calls Try.prog 21 #[.slice A n c] w fun e w' => e = .returned (.tuple #[.int .i64 (tfdNum f n : Int), .int .i64 (tfdDen f n : Int), .bool true]) ∧ Below w.heap.size w w' := by
  have HS : Hid (Sl w lo hi 5 A n f) := hs
  clear hs
  have ht := good_tons h
  have hd := good_days h
  have h0' : ((sumW (daysAt f) n) == 0) = false := by simpa using h0
  go_enter Try.func21, Try.ntmps21
  go_wp2_with fail
  refine (sums_any A n c lo hi f w HS.out hn hnc).mono ?_
  rintro e w1 ⟨rfl, hb1⟩
  go_wp2_with fail
  refine (AreCropRows_any A n c lo hi f w1 (HS.out.below hb1) hn hnc).mono ?_
  rintro e w2 ⟨rfl, hb2⟩
  obtain ⟨T, hT⟩ : ∃ T : Nat, sumW (tonsAt f) n = (T : Int) := ⟨_, (Int.toNat_of_nonneg ht.1).symm⟩
  obtain ⟨D, hD⟩ : ∃ D : Nat, sumW (daysAt f) n = (D : Int) := ⟨_, (Int.toNat_of_nonneg hd.1).symm⟩
  rw [hT] at ht ⊢
  rw [hD] at hd h0 h0' ⊢
  have HT : Hid (sumW (tonsAt f) n = (T : Int)) := hT
  have HD : Hid (sumW (daysAt f) n = (D : Int)) := hD
  clear hT hD
  go_wp2_with fail
  refine (reduced_any T D w2 (by omega) (by omega) (by omega)).mono ?_
  rintro e w3 ⟨rfl, hb3⟩
  clear HS
  go_wp2
  go_ret3
  exact ⟨by simp only [tfdNum, tfdDen, HT.out, HD.out, Int.toNat_natCast]; rfl, below_of (below_of hb1 hb2 hb1.size) hb3 (by have := hb1.size; have := hb2.size; omega)⟩
set_option maxHeartbeats 400000 in
theorem TonsForDay_no (A : Option Addr) (n c lo hi : Nat) (f : Nat → Int) (w : World) (hs : Sl w lo hi 5 A n f) (hn : n ≤ 1048576) (hnc : n ≤ c) (h : goodRows f n = false ∨ sumW (daysAt f) n = 0) :
    Calls Try.prog 21 #[.slice A n c] w fun e w' => e = .returned (.tuple #[.int .i64 0, .int .i64 0, .bool false]) ∧ Below w.heap.size w w' := by
  have HS : Hid (Sl w lo hi 5 A n f) := hs
  clear hs
  cases hg : goodRows f n with
  | false =>
    clear h
    go_enter Try.func21, Try.ntmps21
    go_wp2_with fail
    refine (sums_any A n c lo hi f w HS.out hn hnc).mono ?_
    rintro e w1 ⟨rfl, hb1⟩
    go_wp2_with fail
    refine (AreCropRows_any A n c lo hi f w1 (HS.out.below hb1) hn hnc).mono ?_
    rintro e w2 ⟨rfl, hb2⟩
    go_wp2
    go_ret3
    exact ⟨rfl, below_of hb1 hb2 hb1.size⟩
  | true =>
    have h0 : sumW (daysAt f) n = 0 := by simpa [hg] using h
    clear h
    go_enter Try.func21, Try.ntmps21
    go_wp2_with fail
    refine (sums_any A n c lo hi f w HS.out hn hnc).mono ?_
    rintro e w1 ⟨rfl, hb1⟩
    go_wp2_with fail
    refine (AreCropRows_any A n c lo hi f w1 (HS.out.below hb1) hn hnc).mono ?_
    rintro e w2 ⟨rfl, hb2⟩
    go_wp2
    go_ret3
    exact ⟨rfl, below_of hb1 hb2 hb1.size⟩
set_option maxHeartbeats 400000 in
theorem sTonsForDay_yes (A : Option Addr) (n c lo hi : Nat) (f : Nat → Int) (w : World) (hs : Sl w lo hi 5 A n f) (hn : n ≤ 1048576) (hnc : n ≤ c) (h : goodRows f n = true) (h0 : sumW (daysAt f) n ≠ 0) :
    Calls Try.prog 22 #[.slice A n c] w fun e w' => e = .returned (.tuple #[.int .i64 (tfdNum f n : Int), .int .i64 (tfdDen f n : Int), .bool true]) ∧ Below w.heap.size w w' := by
  have HS : Hid (Sl w lo hi 5 A n f) := hs
  clear hs
  have ht := good_tons h
  have hd := good_days h
  go_enter Try.func22, Try.ntmps22
  go_wp2_with fail
  refine (l26Good_any A n c lo hi f w HS.out hn hnc).mono ?_
  rintro e w1 ⟨rfl, hb1⟩
  have HS1 : Hid (Sl w1 lo hi 5 A n f) := HS.out.below hb1
  clear HS
  go_wp2
  go_loopw [5, 6, 7] (fun t d i wr => ∃ k : Nat, k ≤ n ∧ i = .int .i64 k ∧ t = .int .i64 (sumW (tonsAt f) k) ∧ d = .int .i64 (sumW (daysAt f) k) ∧ Below w1.heap.size w1 wr) (fun _ _ i _ => n - (intOf i).toNat)
  case atStart => exact ⟨0, Nat.zero_le _, rfl, rfl, rfl, Below.refl _ _⟩
  case round =>
    obtain ⟨k, hk, rfl, rfl, rfl, hbel⟩ := hrel
    by_cases hlt : k < n
    · obtain ⟨b, off, rfl, hbw, HC⟩ := HS1.out.open_ hbel (by omega)
      obtain ⟨c0, c1, c2, c3, c4⟩ := cell5 HC hlt
      clear HC HS1
      go_wp2
      go_roundw
      case rel => exact ⟨k + 1, by omega, by go_num, rfl, rfl, hbel⟩
      case measure => simp [intOf]; omega
    · obtain rfl : k = n := by omega
      clear HS1
      have h0' : ((sumW (daysAt f) k) == 0) = false := by simpa using h0
      obtain ⟨T, hT⟩ : ∃ T : Nat, sumW (tonsAt f) k = (T : Int) := ⟨_, (Int.toNat_of_nonneg ht.1).symm⟩
      obtain ⟨D, hD⟩ : ∃ D : Nat, sumW (daysAt f) k = (D : Int) := ⟨_, (Int.toNat_of_nonneg hd.1).symm⟩
      rw [hT] at ht ⊢
      rw [hD] at hd h0 h0' ⊢
      have HT : Hid (sumW (tonsAt f) k = (T : Int)) := hT
      have HD : Hid (sumW (daysAt f) k = (D : Int)) := hD
      clear hT hD
      go_wp2_with fail
      refine (l2Reduce_any T D wr (by omega) (by omega) (by omega)).mono ?_
      rintro e w3 ⟨rfl, hb3⟩
      go_wp2
      go_ret3
      exact ⟨by simp only [tfdNum, tfdDen, HT.out, HD.out, Int.toNat_natCast]; rfl, below_of (below_of hb1 hbel hb1.size) hb3 (by have := hb1.size; have := hbel.size; omega)⟩
set_option maxHeartbeats 400000 in
theorem sTonsForDay_no (A : Option Addr) (n c lo hi : Nat) (f : Nat → Int) (w : World) (hs : Sl w lo hi 5 A n f) (hn : n ≤ 1048576) (hnc : n ≤ c) (h : goodRows f n = false ∨ sumW (daysAt f) n = 0) :
    Calls Try.prog 22 #[.slice A n c] w fun e w' => e = .returned (.tuple #[.int .i64 0, .int .i64 0, .bool false]) ∧ Below w.heap.size w w' := by
  have HS : Hid (Sl w lo hi 5 A n f) := hs
  clear hs
  cases hg : goodRows f n with
  | false =>
    clear h
    go_enter Try.func22, Try.ntmps22
    go_wp2_with fail
    refine (l26Good_any A n c lo hi f w HS.out hn hnc).mono ?_
    rintro e w1 ⟨rfl, hb1⟩
    go_wp2
    go_ret3
    exact ⟨rfl, hb1⟩
  | true =>
    have h0 : Hid (sumW (daysAt f) n = 0) := by simpa [Hid, hg] using h
    clear h
    go_enter Try.func22, Try.ntmps22
    go_wp2_with fail
    refine (l26Good_any A n c lo hi f w HS.out hn hnc).mono ?_
    rintro e w1 ⟨rfl, hb1⟩
    have HS1 : Hid (Sl w1 lo hi 5 A n f) := HS.out.below hb1
    clear HS
    go_wp2
    go_loopw [5, 6, 7] (fun t d i wr => ∃ k : Nat, k ≤ n ∧ i = .int .i64 k ∧ t = .int .i64 (sumW (tonsAt f) k) ∧ d = .int .i64 (sumW (daysAt f) k) ∧ Below w1.heap.size w1 wr) (fun _ _ i _ => n - (intOf i).toNat)
    case atStart => exact ⟨0, Nat.zero_le _, rfl, rfl, rfl, Below.refl _ _⟩
    case round =>
      obtain ⟨k, hk, rfl, rfl, rfl, hbel⟩ := hrel
      by_cases hlt : k < n
      · obtain ⟨b, off, rfl, hbw, HC⟩ := HS1.out.open_ hbel (by omega)
        obtain ⟨c0, c1, c2, c3, c4⟩ := cell5 HC hlt
        clear HC HS1
        go_wp2
        go_roundw
        case rel => exact ⟨k + 1, by omega, by go_num, rfl, rfl, hbel⟩
        case measure => simp [intOf]; omega
      · obtain rfl : k = n := by omega
        clear HS1
        have h0' := h0.out
        clear h0
        go_wp2
        go_ret3
        exact ⟨rfl, below_of hb1 hbel hb1.size⟩
end Go.Proofs.Ytfejgoohefhjoaa
