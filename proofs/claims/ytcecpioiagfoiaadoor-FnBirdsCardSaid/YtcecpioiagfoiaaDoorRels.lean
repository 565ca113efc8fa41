/-
  The small relations of the laws: too long; the same ints; has.
-/
import Derived.Test.YtcecpioiagfoiaaDoorProg
import Derived.Test.YtcecpioiagfoiaaDoorMem
import Derived.Test.YtcecpioiagfoiaaDoorPairs
import Derived.Test.YtcecpioiagfoiaaDoorRegionQ
import Derived.Deep.QuietTactic
import Derived.BigQuiet
import Derived.Handy
import Derived.Lib.Hide
namespace Go.Proofs.YtcecpioiagfoiaaDoor
open Go.RowKit
set_option linter.unusedVariables false
set_option linter.unusedSimpArgs false
def hasB (f : Nat → Int) (n : Nat) (x : Int) : Bool := (List.range n).any fun j => f j == x
theorem hasB_iff (f : Nat → Int) (n : Nat) (x : Int) : hasB f n x = true ↔ ∃ j, j < n ∧ f j = x := by simp [hasB]
theorem hasB_yes {f : Nat → Int} {n k : Nat} {x : Int} (hk : k < n) (h : f k = x) : hasB f n x = true := (hasB_iff f n x).2 ⟨k, hk, h⟩
theorem hasB_no {f : Nat → Int} {n : Nat} {x : Int} (h : ∀ j, j < n → f j ≠ x) : hasB f n x = false := by
  cases hb : hasB f n x with
  | false => rfl
  | true => obtain ⟨j, h1, h2⟩ := (hasB_iff f n x).1 hb; exact absurd h2 (h j h1)
theorem hasB_list (L : List Int) (x : Int) : hasB (fun j => L.getD j 0) L.length x = true ↔ x ∈ L := by
  rw [hasB_iff]
  constructor
  · rintro ⟨j, hj, rfl⟩
    simp only [List.getD, List.getElem?_eq_getElem hj, Option.getD_some]
    exact List.getElem_mem hj
  · intro h
    obtain ⟨j, hj, he⟩ := List.getElem_of_mem h
    exact ⟨j, hj, by simp [List.getD, hj, he]⟩
theorem rBig_any (A : Option Addr) (n c : Nat) (w : World) :
    Calls Tryd.prog 4 #[.slice A n c] w fun e w' => e = .returned (.bool (decide (65536 < n))) ∧ w' = w := by
  by_cases h : 65536 < n
  · have hi : (65536 : Int) < (n : Int) := by omega
    go_enter Tryd.func4, Tryd.ntmps4
    go_wp2
    go_ret
    exact ⟨by simp [h], rfl⟩
  · have hi : ¬ ((65536 : Int) < (n : Int)) := by omega
    go_enter Tryd.func4, Tryd.ntmps4
    go_wp2
    go_ret
    exact ⟨by simp [h], rfl⟩
theorem rInts_same (A B : Option Addr) (n c d lo hi lo' hi' : Nat) (f : Nat → Int) (w : World) (hs : Sl w lo hi 1 A n f) (ht : Sl w lo' hi' 1 B n f) (hn : n ≤ 1048576) :
    Calls Tryd.prog 16 #[.slice A n c, .slice B n d] w fun e w' => e = .returned (.bool true) ∧ Below w.heap.size w w' := by
  have HS : Hid (Sl w lo hi 1 A n f) := hs
  have HT : Hid (Sl w lo' hi' 1 B n f) := ht
  clear hs ht
  go_enter Tryd.func16, Tryd.ntmps16
  go_wp2
  go_loopw [5] (fun i wr => ∃ k : Nat, k ≤ n ∧ i = .int .i64 k ∧ Below w.heap.size w wr) (fun i _ => n - (intOf i).toNat)
  case atStart => exact ⟨0, Nat.zero_le _, rfl, Below.refl _ _⟩
  case round =>
    obtain ⟨k, hk, rfl, hbel⟩ := hrel
    by_cases hlt : k < n
    · obtain ⟨b, off, rfl, hb, HC⟩ := HS.out.open_ hbel (by omega)
      obtain ⟨b', off', rfl, hb', HD⟩ := HT.out.open_ hbel (by omega)
      have c0 : wr.cell? ⟨b, off + k, none⟩ = some (.int .i64 (f k)) := HC.out k (by omega)
      have d0 : wr.cell? ⟨b', off' + k, none⟩ = some (.int .i64 (f k)) := HD.out k (by omega)
      clear HC HD HS HT
      have hk0 : (0 : Int) ≤ (k : Int) := by omega
      have hk1 : (k : Int) < (n : Int) := by omega
      go_wp2
      go_quiet (fail)
      go_wp2
      go_roundw
      case rel => exact ⟨k + 1, by omega, by go_num, below_drewN hbel _⟩
      case measure => simp [intOf]; omega
    · clear HS HT
      go_wp2
      go_ret
      exact ⟨rfl, hbel⟩
theorem rHas_any (A : Option Addr) (n c lo hi : Nat) (f : Nat → Int) (x : Int) (w : World) (hs : Sl w lo hi 1 A n f) (hn : n ≤ 1048576) :
    Calls Tryd.prog 18 #[.slice A n c, .int .i64 x] w fun e w' => e = .returned (.bool (hasB f n x)) ∧ w' = w := by
  have HS : Hid (Sl w lo hi 1 A n f) := hs
  clear hs
  go_enter Tryd.func18, Tryd.ntmps18
  go_wp2
  go_loop [5] (fun i => ∃ k : Nat, k ≤ n ∧ i = .int .i64 k ∧ Hid (∀ j, j < k → f j ≠ x)) (fun i => n - (intOf i).toNat)
  case atStart => exact ⟨0, Nat.zero_le _, rfl, fun j hj => absurd hj (by omega)⟩
  case round =>
    obtain ⟨k, hk, rfl, hall⟩ := hrel
    by_cases hlt : k < n
    · obtain ⟨b, off, rfl, hb, HC⟩ := HS.out.open_ (Below.refl _ _) (by omega)
      have c0 : w.cell? ⟨b, off + k, none⟩ = some (.int .i64 (f k)) := HC.out k (by omega)
      clear HC HS
      have hk0 : (0 : Int) ≤ (k : Int) := by omega
      have hk1 : (k : Int) < (n : Int) := by omega
      by_cases he : f k = x
      · have heb : (f k == x) = true := by simp [he]
        have HY := Lib.hid (hasB_yes hlt he)
        clear he
        go_wp2
        go_ret
        exact ⟨by rw [HY.out]; rfl, rfl⟩
      · have heb : (f k == x) = false := by simp [he]
        have HN := Lib.hid he
        clear he
        go_wp2
        go_round
        case rel => exact ⟨k + 1, by omega, by go_num, fun j hj => by
          rcases Nat.lt_or_eq_of_le (Nat.le_of_lt_succ hj) with h | h
          · exact hall.out j h
          · subst h; exact HN.out⟩
        case measure => simp [intOf]; omega
    · obtain rfl : k = n := by omega
      have HY := Lib.hid (hasB_no hall.out)
      clear HS hall
      go_wp2
      go_ret
      exact ⟨by rw [HY.out]; rfl, rfl⟩
theorem Rws.openR {w wr : World} {lo hi n : Nat} {A : Option Addr} {f : Nat → Int} (h : Rws w lo hi A n f) (hb : Below w.heap.size w wr) {k : Nat} (hk : k < n) :
    ∃ g q, A = some ⟨g, 0, none⟩ ∧ g < wr.heap.size ∧ wr.cell? ⟨g, k, none⟩ = some (.slice (some ⟨q, 0, none⟩) 2 2) ∧ Sl wr q (q + 1) 1 (some ⟨q, 0, none⟩) 2 (fun i => f (k * 2 + i)) := by
  obtain ⟨gs, h1, h2, h3, h4⟩ := h.below hb
  obtain ⟨g, cur, rfl, a1, a2, a3, a4⟩ := h2 (by omega)
  exact ⟨g, gs k, rfl, by omega, by rw [cell_of_row wr g k cur _ (0, 0) a3]; exact a4 k hk, (h3 k hk).2.2.sl⟩
set_option maxHeartbeats 1000000 in
theorem rTable_same (A B : Option Addr) (n c d lo hi lo' hi' : Nat) (f : Nat → Int) (w : World) (hs : Rws w lo hi A n f) (ht : Rws w lo' hi' B n f) (hn : n ≤ 1048576) :
    Calls Tryd.prog 8 #[.slice A n c, .slice B n d] w fun e w' => e = .returned (.bool true) ∧ Below w.heap.size w w' := by
  have HS : Hid (Rws w lo hi A n f) := hs
  have HT : Hid (Rws w lo' hi' B n f) := ht
  clear hs ht
  go_enter Tryd.func8, Tryd.ntmps8
  go_wp2
  go_loopw [5] (fun i wr => ∃ k : Nat, k ≤ n ∧ i = .int .i64 k ∧ Below w.heap.size w wr) (fun i _ => n - (intOf i).toNat)
  case atStart => exact ⟨0, Nat.zero_le _, rfl, Below.refl _ _⟩
  case round =>
    obtain ⟨k, hk, rfl, hbel⟩ := hrel
    by_cases hlt : k < n
    · obtain ⟨g, q, rfl, hg, c0, hS0⟩ := HS.out.openR hbel hlt
      obtain ⟨g', q', rfl, hg', d0, hT0⟩ := HT.out.openR hbel hlt
      have HF : Hid (∀ w', Below wr.heap.size wr w' → w'.cell? ⟨g, k, none⟩ = some (.slice (some ⟨q, 0, none⟩) 2 2) ∧ w'.cell? ⟨g', k, none⟩ = some (.slice (some ⟨q', 0, none⟩) 2 2)) := fun w' hq => ⟨(hq.cell (p := ⟨g, k, none⟩) hg).trans c0, (hq.cell (p := ⟨g', k, none⟩) hg').trans d0⟩
      have HS2 : Hid (Sl wr q (q + 1) 1 (some ⟨q, 0, none⟩) 2 (fun i => f (k * 2 + i))) := hS0
      have HT2 : Hid (Sl wr q' (q' + 1) 1 (some ⟨q', 0, none⟩) 2 (fun i => f (k * 2 + i))) := hT0
      clear HS HT c0 d0 hS0 hT0
      have hk0 : (0 : Int) ≤ (k : Int) := by omega
      have hk1 : (k : Int) < (n : Int) := by omega
      go_wp2
      refine wp_region_class (C := fun w' => Below (wr).heap.size (wr) w') (by kernel_rfl) (by kernel_rfl) ((Below.refl _ _).drew) ?_
      refine wpQuiet_take (d := 17) (v := ?_) (by rfl) ?_ ?_
      rotate_left
      · intro wS hS
        have eF := HF.out wS hS
        go_simp
        try with_reducible rfl
      simp only [Act.put, List.setIfInBounds_toArray, List.set_cons_zero, List.set_cons_succ]
      refine wpQuiet_take (d := 18) (v := ?_) (by rfl) ?_ ?_
      rotate_left
      · intro wS hS
        have eF := HF.out wS hS
        go_simp
        try with_reducible rfl
      simp only [Act.put, List.setIfInBounds_toArray, List.set_cons_zero, List.set_cons_succ]
      refine wpQuiet_take (d := 19) (v := ?_) (by rfl) ?_ ?_
      rotate_left
      · intro wS hS
        have eF := HF.out wS hS
        go_simp
        try with_reducible rfl
      simp only [Act.put, List.setIfInBounds_toArray, List.set_cons_zero, List.set_cons_succ]
      refine wpQuiet_take (d := 20) (v := ?_) (by rfl) ?_ ?_
      rotate_left
      · intro wS hS
        have eF := HF.out wS hS
        go_simp
        try with_reducible rfl
      simp only [Act.put, List.setIfInBounds_toArray, List.set_cons_zero, List.set_cons_succ]
      refine wpQuiet_take (d := 21) (v := ?_) (by rfl) ?_ ?_
      rotate_left
      · intro wS hS
        have eF := HF.out wS hS
        go_simp
        try with_reducible rfl
      simp only [Act.put, List.setIfInBounds_toArray, List.set_cons_zero, List.set_cons_succ]
      refine wpQuiet_take (d := 22) (v := ?_) (by rfl) ?_ ?_
      rotate_left
      · intro wS hS
        have eF := HF.out wS hS
        go_simp
        try with_reducible rfl
      simp only [Act.put, List.setIfInBounds_toArray, List.set_cons_zero, List.set_cons_succ]
      refine wpQuiet_take (d := 23) (v := ?_) (by rfl) ?_ ?_
      rotate_left
      · intro wS hS
        have eF := HF.out wS hS
        go_simp
        try with_reducible rfl
      simp only [Act.put, List.setIfInBounds_toArray, List.set_cons_zero, List.set_cons_succ]
      refine wpQuiet_take (d := 24) (v := ?_) (by rfl) ?_ ?_
      rotate_left
      · intro wS hS
        have eF := HF.out wS hS
        go_simp
        try with_reducible rfl
      simp only [Act.put, List.setIfInBounds_toArray, List.set_cons_zero, List.set_cons_succ]
      refine wpQuiet_meet (d := 25) (v := ?_) ?_ ?_ (by rfl) ?_ ?_ ?_
      rotate_left
      rotate_left
      rotate_left
      · intro wS hS
        have eF := HF.out wS hS
        go_simp
        first | with_reducible rfl | (refine ⟨?_, ?_⟩ <;> with_reducible rfl)
      · intro wS hS
        refine (rInts_same _ _ 2 2 2 _ _ _ _ _ wS (HS2.out.below hS) (HT2.out.below hS) (by omega)).mono ?_
        rintro e w2 ⟨rfl, hb2⟩
        refine ⟨?_, hS.trans (hb2.mono hS.size)⟩
        with_reducible rfl
      simp only [Act.put, List.setIfInBounds_toArray, List.set_cons_zero, List.set_cons_succ]
      refine wpQuiet_take (d := 26) (v := ?_) (by rfl) ?_ ?_
      rotate_left
      · intro wS hS
        have eF := HF.out wS hS
        go_simp
        try with_reducible rfl
      simp only [Act.put, List.setIfInBounds_toArray, List.set_cons_zero, List.set_cons_succ]
      refine wpQuiet_nil (fun wq hHeld => ?_)
      go_wp2
      go_roundw
      case rel => exact ⟨k + 1, by omega, by go_num, below_of hbel hHeld hbel.size⟩
      case measure => simp [intOf]; omega
    · clear HS HT
      go_wp2
      go_ret
      exact ⟨rfl, hbel⟩
end Go.Proofs.YtcecpioiagfoiaaDoor
