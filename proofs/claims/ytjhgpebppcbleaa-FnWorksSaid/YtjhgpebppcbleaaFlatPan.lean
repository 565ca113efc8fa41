/-
  The helpers of the laws for the type Pan: copy, equality, size, marks; each returns what its name says.
-/
import Derived.Test.YtjhgpebppcbleaaProg
import Derived.Test.YtjhgpebppcbleaaMem
import Derived.BigGuardPart
import Derived.Handy
import Derived.Deep.RegionWith
import Derived.Deep.RegionHeld3
import Derived.Deep.DrawnRows
namespace Go.Proofs.Ytjhgpebppcbleaa
open Go.RowKit
set_option linter.unusedVariables false
set_option linter.unusedSimpArgs false
attribute [local go_sem ↓] Go.wp_at_zero Go.wp_at_succ
theorem toPan_any (z0 z1 z2 z3 : Int) (w : World) :
    Calls Try.prog 82 #[.agg #[.int .i64 z0, .int .i64 z1, .int .i64 z2, .int .i64 z3]] w fun e w' => e = .returned (.agg #[.int .i64 z0, .int .i64 z1, .int .i64 z2, .int .i64 z3]) ∧ Below w.heap.size w w' := by
  go_enter Try.func82, Try.ntmps82
  go_wp2
  go_returns
  exact ⟨rfl, by go_grown⟩
theorem infoPan : (Try.prog.info? 87).map (fun i => (i.zero, i.size, i.bytes)) = some (some (.agg #[.int .i64 0, .int .i64 0, .int .i64 0, .int .i64 0]), 4, 32) := by kernel_rfl
set_option maxHeartbeats 400000 in
/-- The copy of a slice: a new row of the same numbers. -/
theorem toPanS_any (A : Option Addr) (n c lo hi : Nat) (f : Nat → Int) (w : World) (hs : Sl w lo hi 4 A n f) (hn : n ≤ 1048576) (hnc : n ≤ c) :
    Calls Try.prog 60 #[.slice A n c] w fun e w' => e = .returned (.slice (some ⟨w.heap.size, 0, none⟩) n n) ∧ Own w' w.heap.size (w.heap.size + 1) 87 4 (some ⟨w.heap.size, 0, none⟩) n f ∧ Below w.heap.size w w' := by
  have HS : Hid (Sl w lo hi 4 A n f) := hs
  clear hs
  obtain ⟨i0, hi0, hz0, hz1, hz2⟩ := info_parts infoPan
  go_enter Try.func60, Try.ntmps60
  go_wp2_with (at_make; refine wpList_make_full _ rfl _ _ 24 rfl w.heap.size 87 i0 _ 4 Try.underlying24 hi0 hz0 hz1 _ _ _ _ n rfl rfl rfl rfl (by rw [hz2]; omega) (by unfold maxLen; omega) (Nat.le_refl _) ?_)
  intro w1 hown hgrow
  have hF0 : Fill w1 w.heap.size 87 (n * 4) 0 f := fill_of_row hown
  have hB0 : Below w.heap.size w w1 := (Below.refl _ _).grown hgrow (Nat.le_refl _) (by intro k hk; cases hk)
  clear hown hgrow
  go_wp2
  go_loopw [4] (fun i wr => ∃ k : Nat, k ≤ n ∧ i = .int .i64 k ∧ Fill wr w.heap.size 87 (n * 4) (k * 4) f ∧ Below w.heap.size w wr) (fun i _ => n - (intOf i).toNat)
  case atStart => exact ⟨0, Nat.zero_le _, rfl, by simpa using hF0, hB0⟩
  case round =>
    obtain ⟨k, hk, rfl, hF, hbel⟩ := hrel
    have hg := hF.lt
    by_cases hlt : k < n
    · obtain ⟨b, off, rfl, hb, HC⟩ := HS.out.open_ hbel (by omega)
      obtain ⟨c0, c1, c2, c3⟩ := cell4 HC hlt
      clear HC HS
      go_wp2_with (go_at_call 82; refine (toPan_any _ _ _ _ _).mono ?_; rintro e w2 ⟨rfl, hb2⟩; have hF2 := hF.below hb2 hg; obtain ⟨⟨x0, q0⟩, r0⟩ := hF2.cell_ (i := k * 4) (by omega); obtain ⟨⟨x1, q1⟩, r1⟩ := hF2.cell_ (i := k * 4 + 1) (by omega); obtain ⟨⟨x2, q2⟩, r2⟩ := hF2.cell_ (i := k * 4 + 2) (by omega); obtain ⟨⟨x3, q3⟩, r3⟩ := hF2.cell_ (i := k * 4 + 3) (by omega))
      go_roundw
      case rel => exact ⟨k + 1, by omega, by go_num, by rw [Nat.succ_mul]; exact ((((hF2.push (by omega) rfl).push (by omega) rfl).push (by omega) rfl).push (by omega) rfl), (((((hbel.trans (hb2.mono (Nat.le_of_lt hg))).setCell (Nat.le_refl _) _).setCell (Nat.le_refl _) _).setCell (Nat.le_refl _) _).setCell (Nat.le_refl _) _)⟩
      case measure => simp [intOf]; omega
    · have hkn : k = n := by omega
      clear HS
      go_wp2
      go_ret
      exact ⟨rfl, (hkn ▸ hF).own, hbel⟩
theorem eqPan_same (z0 z1 z2 z3 : Int) (w : World) :
    Calls Try.prog 83 #[.agg #[.int .i64 z0, .int .i64 z1, .int .i64 z2, .int .i64 z3], .agg #[.int .i64 z0, .int .i64 z1, .int .i64 z2, .int .i64 z3]] w fun e w' => e = .returned (.bool true) ∧ Below w.heap.size w w' := by
  go_enter Try.func83, Try.ntmps83
  go_wp2
  go_ret
  exact ⟨rfl, by go_grown⟩
set_option maxHeartbeats 800000 in
theorem eqPanS_same (A B : Option Addr) (n c d lo hi lo' hi' : Nat) (f : Nat → Int) (w : World) (hs : Sl w lo hi 4 A n f) (ht : Sl w lo' hi' 4 B n f) (hn : n ≤ 1048576) (hnc : n ≤ c) (hnd : n ≤ d) :
    Calls Try.prog 61 #[.slice A n c, .slice B n d] w fun e w' => e = .returned (.bool true) ∧ Below w.heap.size w w' := by
  have HS : Hid (Sl w lo hi 4 A n f) := hs
  have HT : Hid (Sl w lo' hi' 4 B n f) := ht
  clear hs ht
  go_enter Try.func61, Try.ntmps61
  go_wp2
  go_loopw [5] (fun i wr => ∃ k : Nat, k ≤ n ∧ i = .int .i64 k ∧ Below w.heap.size w wr) (fun i _ => n - (intOf i).toNat)
  case atStart => exact ⟨0, Nat.zero_le _, rfl, Below.refl _ _⟩
  case round =>
    obtain ⟨k, hk, rfl, hbel⟩ := hrel
    by_cases hlt : k < n
    · obtain ⟨b, off, rfl, hb, HC⟩ := HS.out.open_ hbel (by omega)
      obtain ⟨b', off', rfl, hb', HD⟩ := HT.out.open_ hbel (by omega)
      obtain ⟨c0, c1, c2, c3⟩ := cell4 HC hlt
      obtain ⟨d0, d1, d2, d3⟩ := cell4 HD hlt
      clear HC HD HS HT
      have hk0 : (0 : Int) ≤ (k : Int) := by omega
      have hk1 : (k : Int) < (n : Int) := by omega
      go_wp2
      go_region_held3 (fun w' => w'.cell? ⟨b, off + k * 4, none⟩ = some (.int .i64 (f (k * 4))) ∧ w'.cell? ⟨b, off + k * 4 + 1, none⟩ = some (.int .i64 (f (k * 4 + 1))) ∧ w'.cell? ⟨b, off + k * 4 + 2, none⟩ = some (.int .i64 (f (k * 4 + 2))) ∧ w'.cell? ⟨b, off + k * 4 + 3, none⟩ = some (.int .i64 (f (k * 4 + 3))) ∧ w'.cell? ⟨b', off' + k * 4, none⟩ = some (.int .i64 (f (k * 4))) ∧ w'.cell? ⟨b', off' + k * 4 + 1, none⟩ = some (.int .i64 (f (k * 4 + 1))) ∧ w'.cell? ⟨b', off' + k * 4 + 2, none⟩ = some (.int .i64 (f (k * 4 + 2))) ∧ w'.cell? ⟨b', off' + k * 4 + 3, none⟩ = some (.int .i64 (f (k * 4 + 3))))
        (first | go_keep | (go_split_ands; refine ⟨?_, ?_, ?_, ?_, ?_, ?_, ?_, ?_⟩ <;> (refine (hb2.cell (by first | exact hb | exact hb')).trans ?_; first | assumption | (simp [*]; done))))
        (first | (go_at_call 83; refine (eqPan_same _ _ _ _ _).mono ?_; rintro e w2 ⟨rfl, hb2⟩))
      go_wp2
      go_roundw
      case rel => exact ⟨k + 1, by omega, by go_num, below_of hbel (Below.drew (Below.refl _ _) |>.trans hb2) hbel.size⟩
      case measure => simp [intOf]; omega
    · clear HS HT
      go_wp2
      go_ret
      exact ⟨rfl, hbel⟩
theorem szPanS_big (A : Option Addr) (n c : Nat) (left : Int) (w : World) (hn : (n : Int) ≤ 9223372036854775807) (h0 : 0 ≤ left) (hl : left ≤ 1048576) (h : left < n) :
    Calls Try.prog 59 #[.slice A n c, .int .i64 left] w fun e w' => e = .returned (.int .i64 (-1)) ∧ w = w' := by
  go_enter Try.func59, Try.ntmps59
  go_wp2
  go_ret
  exact ⟨rfl, rfl⟩
theorem szPanS_ok (A : Option Addr) (n c : Nat) (left : Int) (w : World) (h0 : 0 ≤ left) (hl : left ≤ 1048576) (h : n ≤ left) :
    Calls Try.prog 59 #[.slice A n c, .int .i64 left] w fun e w' => e = .returned (.int .i64 (left - n)) ∧ w = w' := by
  go_enter Try.func59, Try.ntmps59
  go_wp2
  go_ret
  exact ⟨rfl, rfl⟩
set_option maxHeartbeats 800000 in
/-- Marks: the row's cells become k0, k0 + 1, ..; nothing else that was there is written. -/
theorem markPanS_any (A : Option Addr) (n c lo hi : Nat) (k0 : Int) (f : Nat → Int) (w : World) (hs : Own w lo hi 87 4 A n f) (hn : n ≤ 1048576) (hnc : n ≤ c) (h0 : 0 ≤ k0) (h1 : k0 ≤ 1000000000000) :
    Calls Try.prog 62 #[.slice A n c, .int .i64 k0] w fun e w' => e = .returned (.int .i64 (k0 + (n : Int) * 4)) ∧ Own w' lo hi 87 4 A n (fun j => k0 + j) ∧ Fr lo hi w w' := by
  have HS : Hid (Own w lo hi 87 4 A n f) := hs
  clear hs
  go_enter Try.func62, Try.ntmps62
  go_wp2
  go_loopw [1, 5] (fun kv i wr => ∃ m : Nat, m ≤ n ∧ i = .int .i64 m ∧ kv = .int .i64 (k0 + (m : Int) * 4) ∧ Own wr lo hi 87 4 A n (marked k0 (m * 4) f) ∧ Fr lo hi w wr) (fun _ i _ => n - (intOf i).toNat)
  case atStart => exact ⟨0, Nat.zero_le _, rfl, by simp, HS.out.congr (fun j _ => by simp [marked]), Fr.refl _ _ _⟩
  case round =>
    obtain ⟨m, hm, rfl, rfl, hO, hfr⟩ := hrel
    clear HS
    by_cases hlt : m < n
    · obtain ⟨g, rfl⟩ := hO.addr (by omega)
      obtain ⟨_, _, hlo, hhi⟩ := hO.cell_ (i := m * 4) (by omega)
      obtain ⟨q0, r0, _, _⟩ := hO.cell_ (i := m * 4) (by omega)
      obtain ⟨q1, r1, _, _⟩ := hO.cell_ (i := m * 4 + 1) (by omega)
      obtain ⟨q2, r2, _, _⟩ := hO.cell_ (i := m * 4 + 2) (by omega)
      obtain ⟨q3, r3, _, _⟩ := hO.cell_ (i := m * 4 + 3) (by omega)
      go_wp2
      go_roundw
      case rel => exact ⟨m + 1, by omega, by go_num, by go_num, ((((hO.set_ (i := m * 4) (by omega) _).set_ (i := m * 4 + 1) (by omega) _).set_ (i := m * 4 + 2) (by omega) _).set_ (i := m * 4 + 3) (by omega) _).congr (fun j _ => by simp only [upd, marked]; (repeat' split) <;> omega), ((((hfr.setCell hlo hhi _).setCell hlo hhi _).setCell hlo hhi _).setCell hlo hhi _)⟩
      case measure => simp [intOf]; omega
    · have hmn : m = n := by omega
      go_wp2
      go_ret
      subst hmn
      exact ⟨rfl, hO.congr (fun j hj => by simp only [marked]; rw [if_pos (by omega)]), hfr⟩
set_option maxHeartbeats 800000 in
/-- A row that holds the marks k0, k0 + 1, .. is told so. -/
theorem heldPanS_any (A : Option Addr) (n c lo hi : Nat) (k0 : Int) (w : World) (hs : Sl w lo hi 4 A n (fun j => k0 + j)) (hn : n ≤ 1048576) (hnc : n ≤ c) (h0 : 0 ≤ k0) (h1 : k0 ≤ 1000000000000) :
    Calls Try.prog 63 #[.slice A n c, .int .i64 k0] w fun e w' => e = .returned (.int .i64 (k0 + (n : Int) * 4)) ∧ w = w' := by
  have HS : Hid (Sl w lo hi 4 A n (fun j => k0 + j)) := hs
  clear hs
  go_enter Try.func63, Try.ntmps63
  go_wp2
  go_loop [1, 5] (fun kv i => ∃ m : Nat, m ≤ n ∧ i = .int .i64 m ∧ kv = .int .i64 (k0 + (m : Int) * 4)) (fun _ i => n - (intOf i).toNat)
  case atStart => exact ⟨0, Nat.zero_le _, rfl, by simp⟩
  case round =>
    obtain ⟨m, hm, rfl, rfl⟩ := hrel
    by_cases hlt : m < n
    · obtain ⟨b, off, rfl, hb, HC⟩ := HS.out.open_ (Below.refl _ _) (by omega)
      obtain ⟨c0, c1, c2, c3⟩ := cell4 HC hlt
      clear HC HS
      go_wp2
      go_round
      case rel => exact ⟨m + 1, by omega, by go_num, by go_num⟩
      case measure => simp [intOf]; omega
    · have hmn : m = n := by omega
      clear HS
      go_wp2
      go_ret
      subst hmn
      exact ⟨rfl, rfl⟩
end Go.Proofs.Ytjhgpebppcbleaa
