/-
  The small relations of the laws: too long; the same ints; has.
-/
import Derived.Test.YtcecpioiagfoiaaProg
import Derived.Test.YtcecpioiagfoiaaMem


import Derived.Deep.QuietTactic
import Derived.BigQuiet
import Derived.Handy
import Derived.Lib.Hide
namespace Go.Proofs.Ytcecpioiagfoiaa
open Go.RowKit
set_option linter.unusedVariables false
set_option linter.unusedSimpArgs false
def hasB (f : Nat → Int) (n : Nat) (x : Int) : Bool := (List.range n).any fun j => f j == x
theorem hasB_iff (f : Nat → Int) (n : Nat) (x : Int) : hasB f n x = true ↔ ∃ j, j < n ∧ f j = x := by simp [hasB]
theorem hasB_yes {f : Nat → Int} {n k : Nat} {x : Int} (hk : k < n) (h : f k = x) : hasB f n x = true := (hasB_iff f n x).2 ⟨k, hk, h⟩
theorem hasB_no {f : Nat → Int} {n : Nat} {x : Int} (h : ∀ j, j < n → f j ≠ x) : hasB f n x = false := by
  cases hb : hasB f n x with
  | false => rfl
  | true => obtain ⟨j, h1, h2⟩ := (hasB_iff f n x).1 hb; exact absurd h2 (h j h1)
theorem hasB_list (L : List Int) (x : Int) : hasB (fun j => L.getD j 0) L.length x = true ↔ x ∈ L := by
  rw [hasB_iff]
  constructor
  · rintro ⟨j, hj, rfl⟩
    simp only [List.getD, List.getElem?_eq_getElem hj, Option.getD_some]
    exact List.getElem_mem hj
  · intro h
    obtain ⟨j, hj, he⟩ := List.getElem_of_mem h
    exact ⟨j, hj, by simp [List.getD, hj, he]⟩
theorem rBig_any (A : Option Addr) (n c : Nat) (w : World) :
    Calls Try.prog 4 #[.slice A n c] w fun e w' => e = .returned (.bool (decide (65536 < n))) ∧ w' = w := by
  by_cases h : 65536 < n
  · have hi : (65536 : Int) < (n : Int) := by omega
    go_enter Try.func4, Try.ntmps4
    go_wp2
    go_ret
    exact ⟨by simp [h], rfl⟩
  · have hi : ¬ ((65536 : Int) < (n : Int)) := by omega
    go_enter Try.func4, Try.ntmps4
    go_wp2
    go_ret
    exact ⟨by simp [h], rfl⟩
theorem rInts_same (A B : Option Addr) (n c d lo hi lo' hi' : Nat) (f : Nat → Int) (w : World) (hs : Sl w lo hi 1 A n f) (ht : Sl w lo' hi' 1 B n f) (hn : n ≤ 1048576) :
    Calls Try.prog 8 #[.slice A n c, .slice B n d] w fun e w' => e = .returned (.bool true) ∧ Below w.heap.size w w' := by
  have HS : Hid (Sl w lo hi 1 A n f) := hs
  have HT : Hid (Sl w lo' hi' 1 B n f) := ht
  clear hs ht
  go_enter Try.func8, Try.ntmps8
  go_wp2
  go_loopw [5] (fun i wr => ∃ k : Nat, k ≤ n ∧ i = .int .i64 k ∧ Below w.heap.size w wr) (fun i _ => n - (intOf i).toNat)
  case atStart => exact ⟨0, Nat.zero_le _, rfl, Below.refl _ _⟩
  case round =>
    obtain ⟨k, hk, rfl, hbel⟩ := hrel
    by_cases hlt : k < n
    · obtain ⟨b, off, rfl, hb, HC⟩ := HS.out.open_ hbel (by omega)
      obtain ⟨b', off', rfl, hb', HD⟩ := HT.out.open_ hbel (by omega)
      have c0 : wr.cell? ⟨b, off + k, none⟩ = some (.int .i64 (f k)) := HC.out k (by omega)
      have d0 : wr.cell? ⟨b', off' + k, none⟩ = some (.int .i64 (f k)) := HD.out k (by omega)
      clear HC HD HS HT
      have hk0 : (0 : Int) ≤ (k : Int) := by omega
      have hk1 : (k : Int) < (n : Int) := by omega
      go_wp2
      go_quiet (fail)
      go_wp2
      go_roundw
      case rel => exact ⟨k + 1, by omega, by go_num, below_drewN hbel _⟩
      case measure => simp [intOf]; omega
    · clear HS HT
      go_wp2
      go_ret
      exact ⟨rfl, hbel⟩
theorem rHas_any (A : Option Addr) (n c lo hi : Nat) (f : Nat → Int) (x : Int) (w : World) (hs : Sl w lo hi 1 A n f) (hn : n ≤ 1048576) :
    Calls Try.prog 11 #[.slice A n c, .int .i64 x] w fun e w' => e = .returned (.bool (hasB f n x)) ∧ w' = w := by
  have HS : Hid (Sl w lo hi 1 A n f) := hs
  clear hs
  go_enter Try.func11, Try.ntmps11
  go_wp2
  go_loop [5] (fun i => ∃ k : Nat, k ≤ n ∧ i = .int .i64 k ∧ Hid (∀ j, j < k → f j ≠ x)) (fun i => n - (intOf i).toNat)
  case atStart => exact ⟨0, Nat.zero_le _, rfl, fun j hj => absurd hj (by omega)⟩
  case round =>
    obtain ⟨k, hk, rfl, hall⟩ := hrel
    by_cases hlt : k < n
    · obtain ⟨b, off, rfl, hb, HC⟩ := HS.out.open_ (Below.refl _ _) (by omega)
      have c0 : w.cell? ⟨b, off + k, none⟩ = some (.int .i64 (f k)) := HC.out k (by omega)
      clear HC HS
      have hk0 : (0 : Int) ≤ (k : Int) := by omega
      have hk1 : (k : Int) < (n : Int) := by omega
      by_cases he : f k = x
      · have heb : (f k == x) = true := by simp [he]
        have HY := Lib.hid (hasB_yes hlt he)
        clear he
        go_wp2
        go_ret
        exact ⟨by rw [HY.out]; rfl, rfl⟩
      · have heb : (f k == x) = false := by simp [he]
        have HN := Lib.hid he
        clear he
        go_wp2
        go_round
        case rel => exact ⟨k + 1, by omega, by go_num, fun j hj => by
          rcases Nat.lt_or_eq_of_le (Nat.le_of_lt_succ hj) with h | h
          · exact hall.out j h
          · subst h; exact HN.out⟩
        case measure => simp [intOf]; omega
    · obtain rfl : k = n := by omega
      have HY := Lib.hid (hasB_no hall.out)
      clear HS hall
      go_wp2
      go_ret
      exact ⟨by rw [HY.out]; rfl, rfl⟩
end Go.Proofs.Ytcecpioiagfoiaa
