/-
  The small relations of the laws: too long; the same ints; has.
-/
import Derived.Test.YtbhhlnciojcgbaaDoorProg
import Derived.Test.YtbhhlnciojcgbaaDoorMem


import Derived.Deep.QuietTactic
import Derived.BigQuiet
import Derived.Handy
import Derived.Lib.Hide
namespace Go.Proofs.YtbhhlnciojcgbaaDoor
open Go.RowKit
set_option linter.unusedVariables false
set_option linter.unusedSimpArgs false
def hasB (f : Nat → Int) (n : Nat) (x : Int) : Bool := (List.range n).any fun j => f j == x
theorem hasB_iff (f : Nat → Int) (n : Nat) (x : Int) : hasB f n x = true ↔ ∃ j, j < n ∧ f j = x := by simp [hasB]
theorem hasB_yes {f : Nat → Int} {n k : Nat} {x : Int} (hk : k < n) (h : f k = x) : hasB f n x = true := (hasB_iff f n x).2 ⟨k, hk, h⟩
theorem hasB_no {f : Nat → Int} {n : Nat} {x : Int} (h : ∀ j, j < n → f j ≠ x) : hasB f n x = false := by
  cases hb : hasB f n x with
  | false => rfl
  | true => obtain ⟨j, h1, h2⟩ := (hasB_iff f n x).1 hb; exact absurd h2 (h j h1)
theorem hasB_list (L : List Int) (x : Int) : hasB (fun j => L.getD j 0) L.length x = true ↔ x ∈ L := by
  rw [hasB_iff]
  constructor
  · rintro ⟨j, hj, rfl⟩
    simp only [List.getD, List.getElem?_eq_getElem hj, Option.getD_some]
    exact List.getElem_mem hj
  · intro h
    obtain ⟨j, hj, he⟩ := List.getElem_of_mem h
    exact ⟨j, hj, by simp [List.getD, hj, he]⟩
theorem vBig_any (A : Option Addr) (n c : Nat) (w : World) :
    Calls Tryd.prog 6 #[.slice A n c] w fun e w' => e = .returned (.bool (decide (65536 < n))) ∧ w' = w := by
  by_cases h : 65536 < n
  · have hi : (65536 : Int) < (n : Int) := by omega
    go_enter Tryd.func6, Tryd.ntmps6
    go_wp2
    go_ret
    exact ⟨by simp [h], rfl⟩
  · have hi : ¬ ((65536 : Int) < (n : Int)) := by omega
    go_enter Tryd.func6, Tryd.ntmps6
    go_wp2
    go_ret
    exact ⟨by simp [h], rfl⟩
end Go.Proofs.YtbhhlnciojcgbaaDoor
