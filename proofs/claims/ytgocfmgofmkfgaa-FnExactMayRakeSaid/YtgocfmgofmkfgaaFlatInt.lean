/-
  The helpers of the laws for the type Int: copy, equality, size, marks; each returns what its name says.
-/
import Derived.Test.YtgocfmgofmkfgaaProg
import Derived.Test.YtgocfmgofmkfgaaMem
import Derived.BigGuardPart
import Derived.Handy
import Derived.Deep.RegionWith
import Derived.Deep.RegionHeld3
import Derived.Deep.DrawnRows
namespace Go.Proofs.Ytgocfmgofmkfgaa
open Go.RowKit
set_option linter.unusedVariables false
set_option linter.unusedSimpArgs false
attribute [local go_sem ↓] Go.wp_at_zero Go.wp_at_succ
set_option maxHeartbeats 400000 in
theorem eqIntS_same (A B : Option Addr) (n c d lo hi lo' hi' : Nat) (f : Nat → Int) (w : World) (hs : Sl w lo hi 1 A n f) (ht : Sl w lo' hi' 1 B n f) (hn : n ≤ 1048576) (hnc : n ≤ c) (hnd : n ≤ d) :
    Calls Try.prog 25 #[.slice A n c, .slice B n d] w fun e w' => e = .returned (.bool true) ∧ Below w.heap.size w w' := by
  have HS : Hid (Sl w lo hi 1 A n f) := hs
  have HT : Hid (Sl w lo' hi' 1 B n f) := ht
  clear hs ht
  go_enter Try.func25, Try.ntmps25
  go_wp2
  go_loopw [5] (fun i wr => ∃ k : Nat, k ≤ n ∧ i = .int .i64 k ∧ Below w.heap.size w wr) (fun i _ => n - (intOf i).toNat)
  case atStart => exact ⟨0, Nat.zero_le _, rfl, Below.refl _ _⟩
  case round =>
    obtain ⟨k, hk, rfl, hbel⟩ := hrel
    by_cases hlt : k < n
    · obtain ⟨b, off, rfl, hb, HC⟩ := HS.out.open_ hbel (by omega)
      obtain ⟨b', off', rfl, hb', HD⟩ := HT.out.open_ hbel (by omega)
      have c0 : wr.cell? ⟨b, off + k, none⟩ = some (.int .i64 (f k)) := HC.out k (by omega)
      have d0 : wr.cell? ⟨b', off' + k, none⟩ = some (.int .i64 (f k)) := HD.out k (by omega)
      clear HC HD HS HT
      have hk0 : (0 : Int) ≤ (k : Int) := by omega
      have hk1 : (k : Int) < (n : Int) := by omega
      go_wp2
      go_region
      all_goals
        go_wp2
        go_roundw
        case rel => exact ⟨k + 1, by omega, by go_num, hbel.drew⟩
        case measure => simp [intOf]; omega
    · clear HS HT
      go_wp2
      go_ret
      exact ⟨rfl, hbel⟩
set_option maxHeartbeats 800000 in
/-- Marks: the row's cells become k0, k0 + 1, ..; nothing else that was there is written. -/
theorem markIntS_any (A : Option Addr) (n c lo hi : Nat) (k0 : Int) (f : Nat → Int) (w : World) (hs : Own w lo hi 3 1 A n f) (hn : n ≤ 1048576) (hnc : n ≤ c) (h0 : 0 ≤ k0) (h1 : k0 ≤ 1000000000000) :
    Calls Try.prog 27 #[.slice A n c, .int .i64 k0] w fun e w' => e = .returned (.int .i64 (k0 + (n : Int))) ∧ Own w' lo hi 3 1 A n (fun j => k0 + j) ∧ Fr lo hi w w' := by
  have HS : Hid (Own w lo hi 3 1 A n f) := hs
  clear hs
  go_enter Try.func27, Try.ntmps27
  go_wp2
  go_loopw [1, 5] (fun kv i wr => ∃ m : Nat, m ≤ n ∧ i = .int .i64 m ∧ kv = .int .i64 (k0 + (m : Int)) ∧ Own wr lo hi 3 1 A n (marked k0 (m) f) ∧ Fr lo hi w wr) (fun _ i _ => n - (intOf i).toNat)
  case atStart => exact ⟨0, Nat.zero_le _, rfl, by simp, HS.out.congr (fun j _ => by simp [marked]), Fr.refl _ _ _⟩
  case round =>
    obtain ⟨m, hm, rfl, rfl, hO, hfr⟩ := hrel
    clear HS
    by_cases hlt : m < n
    · obtain ⟨g, rfl⟩ := hO.addr (by omega)
      obtain ⟨_, _, hlo, hhi⟩ := hO.cell_ (i := m) (by omega)
      obtain ⟨q0, r0, _, _⟩ := hO.cell_ (i := m) (by omega)
      go_wp2
      go_roundw
      case rel => exact ⟨m + 1, by omega, by go_num, by go_num, (hO.set_ (i := m) (by omega) _).congr (fun j _ => by simp only [upd, marked]; (repeat' split) <;> omega), (hfr.setCell hlo hhi _)⟩
      case measure => simp [intOf]; omega
    · have hmn : m = n := by omega
      go_wp2
      go_ret
      subst hmn
      exact ⟨rfl, hO.congr (fun j hj => by simp only [marked]; rw [if_pos (by omega)]), hfr⟩
set_option maxHeartbeats 800000 in
/-- A row that holds the marks k0, k0 + 1, .. is told so. -/
theorem heldIntS_any (A : Option Addr) (n c lo hi : Nat) (k0 : Int) (w : World) (hs : Sl w lo hi 1 A n (fun j => k0 + j)) (hn : n ≤ 1048576) (hnc : n ≤ c) (h0 : 0 ≤ k0) (h1 : k0 ≤ 1000000000000) :
    Calls Try.prog 28 #[.slice A n c, .int .i64 k0] w fun e w' => e = .returned (.int .i64 (k0 + (n : Int))) ∧ w = w' := by
  have HS : Hid (Sl w lo hi 1 A n (fun j => k0 + j)) := hs
  clear hs
  go_enter Try.func28, Try.ntmps28
  go_wp2
  go_loop [1, 5] (fun kv i => ∃ m : Nat, m ≤ n ∧ i = .int .i64 m ∧ kv = .int .i64 (k0 + (m : Int))) (fun _ i => n - (intOf i).toNat)
  case atStart => exact ⟨0, Nat.zero_le _, rfl, by simp⟩
  case round =>
    obtain ⟨m, hm, rfl, rfl⟩ := hrel
    by_cases hlt : m < n
    · obtain ⟨b, off, rfl, hb, HC⟩ := HS.out.open_ (Below.refl _ _) (by omega)
      have c0 : w.cell? ⟨b, off + m, none⟩ = some (.int .i64 (k0 + m)) := HC.out m (by omega)
      clear HC HS
      go_wp2
      go_round
      case rel => exact ⟨m + 1, by omega, by go_num, by go_num⟩
      case measure => simp [intOf]; omega
    · have hmn : m = n := by omega
      clear HS
      go_wp2
      go_ret
      subst hmn
      exact ⟨rfl, rfl⟩
end Go.Proofs.Ytgocfmgofmkfgaa
