/-
  The salt in pans, the finding of a pan, the room in a pan: the program's and the reference's return the same.
-/
import Derived.Test.YtjkockhldaacbaaDoorWorksB
namespace Go.Proofs.YtjkockhldaacbaaDoor
open Go.RowKit
set_option linter.unusedVariables false
set_option linter.unusedSimpArgs false
attribute [local go_sem ↓] Go.wp_at_zero Go.wp_at_succ
/-- The first place from k on, of m, where g is z; -1 if there is none. -/
def findV (g : Nat → Int) (z : Int) : Nat → Nat → Int
  | 0, _ => -1
  | m + 1, k => if g k = z then (k : Int) else findV g z m (k + 1)
theorem findV_cases (g : Nat → Int) (z : Int) : ∀ m k, (findV g z m k = -1 ∧ ∀ j, k ≤ j → j < k + m → g j ≠ z) ∨ ∃ j, k ≤ j ∧ j < k + m ∧ findV g z m k = (j : Int) ∧ g j = z
  | 0, k => Or.inl ⟨rfl, fun j h1 h2 => absurd h2 (by omega)⟩
  | m + 1, k => by
    by_cases h : g k = z
    · exact Or.inr ⟨k, Nat.le_refl _, by omega, by simp [findV, h], h⟩
    · rcases findV_cases g z m (k + 1) with ⟨h1, h2⟩ | ⟨j, h1, h2, h3, h4⟩
      · refine Or.inl ⟨by simp [findV, h, h1], fun j hj1 hj2 => ?_⟩
        by_cases hk : j = k
        · exact hk ▸ h
        · exact h2 j (by omega) (by omega)
      · exact Or.inr ⟨j, by omega, by omega, by simp [findV, h, h3], h4⟩
def pid (f : Nat → Int) (k : Nat) : Int := f (k * 4)
def satV (f : Nat → Int) (n : Nat) (b : Bool) : Int := if b then sumW (saltAt f) n else 0

theorem panAt1_any (i h wt s z : Int) (q : Nat) (w : World) (hq : w.cell? ⟨q, 0, none⟩ = some (.int .i64 z)) (hqb : q < w.heap.size) :
    Calls Tryd.prog 48 #[.agg #[.int .i64 i, .int .i64 h, .int .i64 wt, .int .i64 s], .pointer (some ⟨q, 0, none⟩)] w fun e w' => e = .returned (.bool (decide (i = z))) ∧ Below w.heap.size w w' := by
  go_enter Tryd.func48, Tryd.ntmps48
  go_wp2
  go_ret
  exact ⟨ret_bool (by rw [Bool.eq_iff_iff]; simp), by go_grown⟩
theorem panIndex_any (A : Option Addr) (n c lo hi : Nat) (f : Nat → Int) (z : Int) (q : Nat) (w : World) (hs : Sl w lo hi 4 A n f) (hq : w.cell? ⟨q, 0, none⟩ = some (.int .i64 z)) (hqb : q < w.heap.size) (hn : n ≤ 1048576) (hnc : n ≤ c) :
    Calls Tryd.prog 47 #[.slice A n c, .func (.func 48) #[] #[.pointer (some ⟨q, 0, none⟩)]] w fun e w' => e = .returned (.int .i64 (findV (pid f) z n 0)) ∧ Below w.heap.size w w' := by
  have HS : Hid (Sl w lo hi 4 A n f) := hs
  clear hs
  go_enter Tryd.func47, Tryd.ntmps47
  go_wp2
  go_loopw [8] (fun i wr => ∃ k : Nat, k ≤ n ∧ i = .int .i64 k ∧ findV (pid f) z n 0 = findV (pid f) z (n - k) k ∧ Below w.heap.size w wr) (fun i _ => n - (intOf i).toNat)
  case atStart => exact ⟨0, Nat.zero_le _, rfl, rfl, Below.refl _ _⟩
  case round =>
    obtain ⟨k, hk, rfl, hfd, hbel⟩ := hrel
    by_cases hlt : k < n
    · obtain ⟨b, off, rfl, hbw, HC⟩ := HS.out.open_ hbel (by omega)
      obtain ⟨c0, c1, c2, c3⟩ := cell4 HC hlt
      have hqr : wr.cell? ⟨q, 0, none⟩ = some (.int .i64 z) := (hbel.cell (p := ⟨q, 0, none⟩) hqb).trans hq
      have hqw : q < wr.heap.size := Nat.lt_of_lt_of_le hqb hbel.size
      have hk0i : (0 : Int) ≤ (k : Int) := by omega
      have hkni : (k : Int) < (n : Int) := by omega
      have hstep : findV (pid f) z (n - k) k = if f (k * 4) = z then (k : Int) else findV (pid f) z (n - (k + 1)) (k + 1) := by
        obtain ⟨m, hm⟩ : ∃ m, n - k = m + 1 := ⟨n - k - 1, by omega⟩
        rw [hm, show n - (k + 1) = m by omega]; rfl
      have HH : Hid (findV (pid f) z n 0 = if f (k * 4) = z then (k : Int) else findV (pid f) z (n - (k + 1)) (k + 1)) := hfd.trans hstep
      clear HC HS hfd hstep
      by_cases hz : f (k * 4) = z
      · go_wp2_with (go_at_call 48; refine (panAt1_any _ _ _ _ z q _ hqr hqw).mono ?_; rintro e w2 ⟨rfl, hb2⟩)
        go_ret
        exact ⟨ret_int (by rw [HH.out, if_pos hz]), below_of hbel hb2 hbel.size⟩
      · go_wp2_with (go_at_call 48; refine (panAt1_any _ _ _ _ z q _ hqr hqw).mono ?_; rintro e w2 ⟨rfl, hb2⟩)
        go_roundw
        case rel => exact ⟨k + 1, by omega, by go_num, by rw [HH.out, if_neg hz], below_of hbel hb2 hbel.size⟩
        case measure => simp [intOf]; omega
    · obtain rfl : n = k := by omega
      have HH : Hid (findV (pid f) z n 0 = -1) := by rw [Hid, hfd, Nat.sub_self]; rfl
      clear HS hfd
      go_wp2
      go_ret
      exact ⟨ret_int (by rw [HH.out]), hbel⟩
theorem panAt_any (A : Option Addr) (n c lo hi : Nat) (f : Nat → Int) (I H S P : Int) (z : Int) (w : World) (hs : Sl w lo hi 4 A n f) (hn : n ≤ 1048576) (hnc : n ≤ c) :
    Calls Tryd.prog 22 #[.agg #[.slice A n c, .int .i64 I, .int .i64 H, .int .i64 S, .int .i64 P], .int .i64 z] w fun e w' => e = .returned (.int .i64 (findV (pid f) z n 0)) ∧ Below w.heap.size w w' := by
  have HS : Hid (Sl ((w.alloc (.cells #[.slice A n c, .int .i64 I, .int .i64 H, .int .i64 S, .int .i64 P] 26)).alloc (.cells #[.int .i64 z] 3)) lo hi 4 A n f) := hs.below (by go_grown)
  have hmf : ∀ (fn : Fn) (first cap : Array Value) (w : World), (Instr.makeFunc fn first cap).run Tryd.prog w = .ok (.func fn first cap) w := fun _ _ _ _ => rfl
  clear hs
  go_enter Tryd.func22, Tryd.ntmps22
  go_wp2_with fail
  refine (panIndex_any A n c lo hi f z (w.heap.size + 1) _ HS.out (by go_simp) (by simp) hn hnc).mono ?_
  rintro e w2 ⟨rfl, hb2⟩
  go_wp2
  go_ret
  exact ⟨rfl, (((Below.refl _ w).alloc (Nat.le_refl _) _).alloc (by simp) _).trans (hb2.mono (by simp; omega))⟩
theorem l25Find_any (A : Option Addr) (n c lo hi : Nat) (f : Nat → Int) (I H S P : Int) (z : Int) (w : World) (hs : Sl w lo hi 4 A n f) (hn : n ≤ 1048576) (hnc : n ≤ c) :
    Calls Tryd.prog 25 #[.agg #[.slice A n c, .int .i64 I, .int .i64 H, .int .i64 S, .int .i64 P], .int .i64 z] w fun e w' => e = .returned (.int .i64 (findV (pid f) z n 0)) ∧ Below w.heap.size w w' := by
  have HS : Hid (Sl (w.alloc (.cells #[.slice A n c, .int .i64 I, .int .i64 H, .int .i64 S, .int .i64 P] 26)) lo hi 4 A n f) := hs.below ((Below.refl _ w).alloc (Nat.le_refl _) _)
  clear hs
  go_enter Tryd.func25, Tryd.ntmps25
  go_wp2
  go_loopw [5] (fun i wr => ∃ k : Nat, k ≤ n ∧ i = .int .i64 k ∧ findV (pid f) z n 0 = findV (pid f) z (n - k) k ∧ Below (w.alloc (.cells #[.slice A n c, .int .i64 I, .int .i64 H, .int .i64 S, .int .i64 P] 26)).heap.size (w.alloc (.cells #[.slice A n c, .int .i64 I, .int .i64 H, .int .i64 S, .int .i64 P] 26)) wr) (fun i _ => n - (intOf i).toNat)
  case atStart => exact ⟨0, Nat.zero_le _, rfl, rfl, Below.refl _ _⟩
  case round =>
    obtain ⟨k, hk, rfl, hfd, hbel⟩ := hrel
    have hbz : w.heap.size < wr.heap.size := by have := hbel.size; simp at this; omega
    have b0 : wr.cell? ⟨w.heap.size, 0, none⟩ = some (.slice A n c) := (hbel.cell (p := ⟨w.heap.size, 0, none⟩) (by simp)).trans (by simp)
    by_cases hlt : k < n
    · obtain ⟨b, off, rfl, hbw, HC⟩ := HS.out.open_ hbel (by omega)
      obtain ⟨c0, c1, c2, c3⟩ := cell4 HC hlt
      have hk0i : (0 : Int) ≤ (k : Int) := by omega
      have hkni : (k : Int) < (n : Int) := by omega
      have hstep : findV (pid f) z (n - k) k = if f (k * 4) = z then (k : Int) else findV (pid f) z (n - (k + 1)) (k + 1) := by
        obtain ⟨m, hm⟩ : ∃ m, n - k = m + 1 := ⟨n - k - 1, by omega⟩
        rw [hm, show n - (k + 1) = m by omega]; rfl
      have HH : Hid (findV (pid f) z n 0 = if f (k * 4) = z then (k : Int) else findV (pid f) z (n - (k + 1)) (k + 1)) := hfd.trans hstep
      clear HC HS hfd hstep
      by_cases hz : f (k * 4) = z
      · go_wp2
        go_ret
        exact ⟨ret_int (by rw [HH.out, if_pos hz]), ((Below.refl _ w).alloc (Nat.le_refl _) _).trans (hbel.mono (by simp))⟩
      · go_wp2
        go_roundw
        case rel => exact ⟨k + 1, by omega, by go_num, by rw [HH.out, if_neg hz], hbel⟩
        case measure => simp [intOf]; omega
    · obtain rfl : n = k := by omega
      have HH : Hid (findV (pid f) z n 0 = -1) := by rw [Hid, hfd, Nat.sub_self]; rfl
      clear HS hfd
      go_wp2
      go_ret
      exact ⟨ret_int (by rw [HH.out]), ((Below.refl _ w).alloc (Nat.le_refl _) _).trans (hbel.mono (by simp))⟩
end Go.Proofs.YtjkockhldaacbaaDoor
