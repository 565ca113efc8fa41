/-
  The draws of rows of crops: some rows, 13 at most.
-/
import Derived.Test.YtfejgoohefhjoaaDoorDrawRows
import Derived.Test.YtfejgoohefhjoaaDoorDrawR
namespace Go.Proofs.YtfejgoohefhjoaaDoor
open Go.RowKit
set_option linter.unusedVariables false
set_option linter.unusedSimpArgs false
theorem DrawAreCropRows_any (A : Option Addr) (n c : Nat) (w : World) (hc : Code w A n) (hn : n ≤ 65536) :
    Calls Tryd.prog 20 #[.slice A n c] w fun e w' => ∃ A' m c' g, e = .returned (.slice A' m c') ∧ m ≤ 13 ∧ Drawn w' w.heap.size 36 5 A' m c' g ∧ Below w.heap.size w w' := by
  go_enter Tryd.func20, Tryd.ntmps20
  go_wp2_with fail
  refine nameC ?_
  intro w1 hw1
  have hC1 : Cur w1 w.heap.size A n c 0 := by rw [hw1]; exact hc.cur
  have hB1 : Below w.heap.size w w1 := by rw [hw1]; exact (Below.refl _ w).alloc (Nat.le_refl _) _
  clear hw1 hc
  refine (cropRows_any w.heap.size n c 0 A w1 hC1 hn (by omega)).mono ?_
  rintro e w2 ⟨v, m, L, rfl, hm, hown, hC2, hF2⟩
  have hB2 : Below w.heap.size w w2 := hB1.trans (hF2.below (Nat.le_refl _) hB1.size)
  obtain ⟨A', c', rfl, hd⟩ := drawnRow_of 5 hown hC1.lt
  clear hown hC1 hF2 hB1
  go_wp2
  go_ret
  exact ⟨A', m, c', _, rfl, hm, hd.lo_le (Nat.le_succ _), hB2⟩
theorem DrawWorthOf_any (A : Option Addr) (n c : Nat) (w : World) (hc : Code w A n) (hn : n ≤ 65536) :
    Calls Tryd.prog 5 #[.slice A n c] w fun e w' => ∃ A' m c' g, e = .returned (.slice A' m c') ∧ m ≤ 13 ∧ Drawn w' w.heap.size 36 5 A' m c' g ∧ Below w.heap.size w w' := by
  go_enter Tryd.func5, Tryd.ntmps5
  go_wp2_with fail
  refine (DrawAreCropRows_any A n c w hc hn).mono ?_
  rintro e w1 ⟨A', m, c', g, rfl, hm, hd, hb⟩
  go_wp2
  go_ret
  exact ⟨A', m, c', g, rfl, hm, hd, hb⟩
end Go.Proofs.YtfejgoohefhjoaaDoor
