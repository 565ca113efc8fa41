/-
  The helpers of the laws for the type Pan: copy, equality, size, marks; each returns what its name says.
-/
import Derived.Test.YtegklcapfjigaaaDoorProg
import Derived.Test.YtegklcapfjigaaaDoorMem
import Derived.BigGuardPart
import Derived.Handy
import Derived.Deep.RegionWith
import Derived.Deep.RegionHeld3
import Derived.Deep.DrawnRows
namespace Go.Proofs.YtegklcapfjigaaaDoor
open Go.RowKit
set_option linter.unusedVariables false
set_option linter.unusedSimpArgs false
attribute [local go_sem ↓] Go.wp_at_zero Go.wp_at_succ
theorem toPan_any (z0 z1 z2 z3 : Int) (w : World) :
    Calls Tryd.prog 45 #[.agg #[.int .i64 z0, .int .i64 z1, .int .i64 z2, .int .i64 z3]] w fun e w' => e = .returned (.agg #[.int .i64 z0, .int .i64 z1, .int .i64 z2, .int .i64 z3]) ∧ Below w.heap.size w w' := by
  go_enter Tryd.func45, Tryd.ntmps45
  go_wp2
  go_returns
  exact ⟨rfl, by go_grown⟩
theorem infoPan : (Tryd.prog.info? 54).map (fun i => (i.zero, i.size, i.bytes)) = some (some (.agg #[.int .i64 0, .int .i64 0, .int .i64 0, .int .i64 0]), 4, 32) := by kernel_rfl
set_option maxHeartbeats 400000 in
/-- The copy of a slice: a new row of the same numbers. -/
theorem toPanS_any (A : Option Addr) (n c lo hi : Nat) (f : Nat → Int) (w : World) (hs : Sl w lo hi 4 A n f) (hn : n ≤ 1048576) (hnc : n ≤ c) :
    Calls Tryd.prog 28 #[.slice A n c] w fun e w' => e = .returned (.slice (some ⟨w.heap.size, 0, none⟩) n n) ∧ Own w' w.heap.size (w.heap.size + 1) 54 4 (some ⟨w.heap.size, 0, none⟩) n f ∧ Below w.heap.size w w' := by
  have HS : Hid (Sl w lo hi 4 A n f) := hs
  clear hs
  obtain ⟨i0, hi0, hz0, hz1, hz2⟩ := info_parts infoPan
  go_enter Tryd.func28, Tryd.ntmps28
  go_wp2_with (at_make; refine wpList_make_full _ rfl _ _ 31 rfl w.heap.size 54 i0 _ 4 Tryd.underlying31 hi0 hz0 hz1 _ _ _ _ n rfl rfl rfl rfl (by rw [hz2]; omega) (by unfold maxLen; omega) (Nat.le_refl _) ?_)
  intro w1 hown hgrow
  have hF0 : Fill w1 w.heap.size 54 (n * 4) 0 f := fill_of_row hown
  have hB0 : Below w.heap.size w w1 := (Below.refl _ _).grown hgrow (Nat.le_refl _) (by intro k hk; cases hk)
  clear hown hgrow
  go_wp2
  go_loopw [4] (fun i wr => ∃ k : Nat, k ≤ n ∧ i = .int .i64 k ∧ Fill wr w.heap.size 54 (n * 4) (k * 4) f ∧ Below w.heap.size w wr) (fun i _ => n - (intOf i).toNat)
  case atStart => exact ⟨0, Nat.zero_le _, rfl, by simpa using hF0, hB0⟩
  case round =>
    obtain ⟨k, hk, rfl, hF, hbel⟩ := hrel
    have hg := hF.lt
    by_cases hlt : k < n
    · obtain ⟨b, off, rfl, hb, HC⟩ := HS.out.open_ hbel (by omega)
      obtain ⟨c0, c1, c2, c3⟩ := cell4 HC hlt
      clear HC HS
      go_wp2_with (go_at_call 45; refine (toPan_any _ _ _ _ _).mono ?_; rintro e w2 ⟨rfl, hb2⟩; have hF2 := hF.below hb2 hg; obtain ⟨⟨x0, q0⟩, r0⟩ := hF2.cell_ (i := k * 4) (by omega); obtain ⟨⟨x1, q1⟩, r1⟩ := hF2.cell_ (i := k * 4 + 1) (by omega); obtain ⟨⟨x2, q2⟩, r2⟩ := hF2.cell_ (i := k * 4 + 2) (by omega); obtain ⟨⟨x3, q3⟩, r3⟩ := hF2.cell_ (i := k * 4 + 3) (by omega))
      go_roundw
      case rel => exact ⟨k + 1, by omega, by go_num, by rw [Nat.succ_mul]; exact ((((hF2.push (by omega) rfl).push (by omega) rfl).push (by omega) rfl).push (by omega) rfl), (((((hbel.trans (hb2.mono (Nat.le_of_lt hg))).setCell (Nat.le_refl _) _).setCell (Nat.le_refl _) _).setCell (Nat.le_refl _) _).setCell (Nat.le_refl _) _)⟩
      case measure => simp [intOf]; omega
    · have hkn : k = n := by omega
      clear HS
      go_wp2
      go_ret
      exact ⟨rfl, (hkn ▸ hF).own, hbel⟩
theorem eqPan_same (z0 z1 z2 z3 : Int) (w : World) :
    Calls Tryd.prog 47 #[.agg #[.int .i64 z0, .int .i64 z1, .int .i64 z2, .int .i64 z3], .agg #[.int .i64 z0, .int .i64 z1, .int .i64 z2, .int .i64 z3]] w fun e w' => e = .returned (.bool true) ∧ Below w.heap.size w w' := by
  go_enter Tryd.func47, Tryd.ntmps47
  go_wp2
  go_ret
  exact ⟨rfl, by go_grown⟩
set_option maxHeartbeats 800000 in
theorem eqPanS_same (A B : Option Addr) (n c d lo hi lo' hi' : Nat) (f : Nat → Int) (w : World) (hs : Sl w lo hi 4 A n f) (ht : Sl w lo' hi' 4 B n f) (hn : n ≤ 1048576) (hnc : n ≤ c) (hnd : n ≤ d) :
    Calls Tryd.prog 36 #[.slice A n c, .slice B n d] w fun e w' => e = .returned (.bool true) ∧ Below w.heap.size w w' := by
  have HS : Hid (Sl w lo hi 4 A n f) := hs
  have HT : Hid (Sl w lo' hi' 4 B n f) := ht
  clear hs ht
  go_enter Tryd.func36, Tryd.ntmps36
  go_wp2
  go_loopw [5] (fun i wr => ∃ k : Nat, k ≤ n ∧ i = .int .i64 k ∧ Below w.heap.size w wr) (fun i _ => n - (intOf i).toNat)
  case atStart => exact ⟨0, Nat.zero_le _, rfl, Below.refl _ _⟩
  case round =>
    obtain ⟨k, hk, rfl, hbel⟩ := hrel
    by_cases hlt : k < n
    · obtain ⟨b, off, rfl, hb, HC⟩ := HS.out.open_ hbel (by omega)
      obtain ⟨b', off', rfl, hb', HD⟩ := HT.out.open_ hbel (by omega)
      obtain ⟨c0, c1, c2, c3⟩ := cell4 HC hlt
      obtain ⟨d0, d1, d2, d3⟩ := cell4 HD hlt
      clear HC HD HS HT
      have hk0 : (0 : Int) ≤ (k : Int) := by omega
      have hk1 : (k : Int) < (n : Int) := by omega
      go_wp2
      go_region_held3 (fun w' => w'.cell? ⟨b, off + k * 4, none⟩ = some (.int .i64 (f (k * 4))) ∧ w'.cell? ⟨b, off + k * 4 + 1, none⟩ = some (.int .i64 (f (k * 4 + 1))) ∧ w'.cell? ⟨b, off + k * 4 + 2, none⟩ = some (.int .i64 (f (k * 4 + 2))) ∧ w'.cell? ⟨b, off + k * 4 + 3, none⟩ = some (.int .i64 (f (k * 4 + 3))) ∧ w'.cell? ⟨b', off' + k * 4, none⟩ = some (.int .i64 (f (k * 4))) ∧ w'.cell? ⟨b', off' + k * 4 + 1, none⟩ = some (.int .i64 (f (k * 4 + 1))) ∧ w'.cell? ⟨b', off' + k * 4 + 2, none⟩ = some (.int .i64 (f (k * 4 + 2))) ∧ w'.cell? ⟨b', off' + k * 4 + 3, none⟩ = some (.int .i64 (f (k * 4 + 3))))
        (first | go_keep | (go_split_ands; refine ⟨?_, ?_, ?_, ?_, ?_, ?_, ?_, ?_⟩ <;> (refine (hb2.cell (by first | exact hb | exact hb')).trans ?_; first | assumption | (simp [*]; done))))
        (first | (go_at_call 47; refine (eqPan_same _ _ _ _ _).mono ?_; rintro e w2 ⟨rfl, hb2⟩))
      go_wp2
      go_roundw
      case rel => exact ⟨k + 1, by omega, by go_num, below_of hbel (Below.drew (Below.refl _ _) |>.trans hb2) hbel.size⟩
      case measure => simp [intOf]; omega
    · clear HS HT
      go_wp2
      go_ret
      exact ⟨rfl, hbel⟩
theorem szPanS_big (A : Option Addr) (n c : Nat) (left : Int) (w : World) (hn : (n : Int) ≤ 9223372036854775807) (h0 : 0 ≤ left) (hl : left ≤ 1048576) (h : left < n) :
    Calls Tryd.prog 25 #[.slice A n c, .int .i64 left] w fun e w' => e = .returned (.int .i64 (-1)) ∧ w = w' := by
  go_enter Tryd.func25, Tryd.ntmps25
  go_wp2
  go_ret
  exact ⟨rfl, rfl⟩
theorem szPanS_ok (A : Option Addr) (n c : Nat) (left : Int) (w : World) (h0 : 0 ≤ left) (hl : left ≤ 1048576) (h : n ≤ left) :
    Calls Tryd.prog 25 #[.slice A n c, .int .i64 left] w fun e w' => e = .returned (.int .i64 (left - n)) ∧ w = w' := by
  go_enter Tryd.func25, Tryd.ntmps25
  go_wp2
  go_ret
  exact ⟨rfl, rfl⟩
end Go.Proofs.YtegklcapfjigaaaDoor
