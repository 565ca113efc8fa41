/-
  The helpers of the laws for the type CropRow: copy, equality, size, marks; each returns what its name says.
-/
import Derived.Test.YtmllpjgoeajmnaaDoorProg
import Derived.Test.YtmllpjgoeajmnaaDoorMem
import Derived.BigGuardPart
import Derived.Handy
import Derived.Deep.RegionWith
import Derived.Deep.RegionHeld3
import Derived.Deep.DrawnRows
namespace Go.Proofs.YtmllpjgoeajmnaaDoor
open Go.RowKit
set_option linter.unusedVariables false
set_option linter.unusedSimpArgs false
attribute [local go_sem ↓] Go.wp_at_zero Go.wp_at_succ
theorem toCropRow_any (z0 z1 z2 z3 z4 : Int) (w : World) :
    Calls Tryd.prog 6 #[.agg #[.int .i64 z0, .int .i64 z1, .int .i64 z2, .int .i64 z3, .int .i64 z4]] w fun e w' => e = .returned (.agg #[.int .i64 z0, .int .i64 z1, .int .i64 z2, .int .i64 z3, .int .i64 z4]) ∧ Below w.heap.size w w' := by
  go_enter Tryd.func6, Tryd.ntmps6
  go_wp2
  go_returns
  exact ⟨rfl, by go_grown⟩
theorem infoCropRow : (Tryd.prog.info? 26).map (fun i => (i.zero, i.size, i.bytes)) = some (some (.agg #[.int .i64 0, .int .i64 0, .int .i64 0, .int .i64 0, .int .i64 0]), 5, 40) := by kernel_rfl
set_option maxHeartbeats 400000 in
/-- The copy of a slice: a new row of the same numbers. -/
theorem toCropRowS_any (A : Option Addr) (n c lo hi : Nat) (f : Nat → Int) (w : World) (hs : Sl w lo hi 5 A n f) (hn : n ≤ 1048576) (hnc : n ≤ c) :
    Calls Tryd.prog 10 #[.slice A n c] w fun e w' => e = .returned (.slice (some ⟨w.heap.size, 0, none⟩) n n) ∧ Own w' w.heap.size (w.heap.size + 1) 26 5 (some ⟨w.heap.size, 0, none⟩) n f ∧ Below w.heap.size w w' := by
  have HS : Hid (Sl w lo hi 5 A n f) := hs
  clear hs
  obtain ⟨i0, hi0, hz0, hz1, hz2⟩ := info_parts infoCropRow
  go_enter Tryd.func10, Tryd.ntmps10
  go_wp2_with (at_make; refine wpList_make_full _ rfl _ _ 32 rfl w.heap.size 26 i0 _ 5 Tryd.underlying32 hi0 hz0 hz1 _ _ _ _ n rfl rfl rfl rfl (by rw [hz2]; omega) (by unfold maxLen; omega) (Nat.le_refl _) ?_)
  intro w1 hown hgrow
  have hF0 : Fill w1 w.heap.size 26 (n * 5) 0 f := fill_of_row hown
  have hB0 : Below w.heap.size w w1 := (Below.refl _ _).grown hgrow (Nat.le_refl _) (by intro k hk; cases hk)
  clear hown hgrow
  go_wp2
  go_loopw [4] (fun i wr => ∃ k : Nat, k ≤ n ∧ i = .int .i64 k ∧ Fill wr w.heap.size 26 (n * 5) (k * 5) f ∧ Below w.heap.size w wr) (fun i _ => n - (intOf i).toNat)
  case atStart => exact ⟨0, Nat.zero_le _, rfl, by simpa using hF0, hB0⟩
  case round =>
    obtain ⟨k, hk, rfl, hF, hbel⟩ := hrel
    have hg := hF.lt
    by_cases hlt : k < n
    · obtain ⟨b, off, rfl, hb, HC⟩ := HS.out.open_ hbel (by omega)
      obtain ⟨c0, c1, c2, c3, c4⟩ := cell5 HC hlt
      clear HC HS
      go_wp2_with (go_at_call 6; refine (toCropRow_any _ _ _ _ _ _).mono ?_; rintro e w2 ⟨rfl, hb2⟩; have hF2 := hF.below hb2 hg; obtain ⟨⟨x0, q0⟩, r0⟩ := hF2.cell_ (i := k * 5) (by omega); obtain ⟨⟨x1, q1⟩, r1⟩ := hF2.cell_ (i := k * 5 + 1) (by omega); obtain ⟨⟨x2, q2⟩, r2⟩ := hF2.cell_ (i := k * 5 + 2) (by omega); obtain ⟨⟨x3, q3⟩, r3⟩ := hF2.cell_ (i := k * 5 + 3) (by omega); obtain ⟨⟨x4, q4⟩, r4⟩ := hF2.cell_ (i := k * 5 + 4) (by omega))
      go_roundw
      case rel => exact ⟨k + 1, by omega, by go_num, by rw [Nat.succ_mul]; exact (((((hF2.push (by omega) rfl).push (by omega) rfl).push (by omega) rfl).push (by omega) rfl).push (by omega) rfl), ((((((hbel.trans (hb2.mono (Nat.le_of_lt hg))).setCell (Nat.le_refl _) _).setCell (Nat.le_refl _) _).setCell (Nat.le_refl _) _).setCell (Nat.le_refl _) _).setCell (Nat.le_refl _) _)⟩
      case measure => simp [intOf]; omega
    · have hkn : k = n := by omega
      clear HS
      go_wp2
      go_ret
      exact ⟨rfl, (hkn ▸ hF).own, hbel⟩
theorem eqCropRow_same (z0 z1 z2 z3 z4 : Int) (w : World) :
    Calls Tryd.prog 23 #[.agg #[.int .i64 z0, .int .i64 z1, .int .i64 z2, .int .i64 z3, .int .i64 z4], .agg #[.int .i64 z0, .int .i64 z1, .int .i64 z2, .int .i64 z3, .int .i64 z4]] w fun e w' => e = .returned (.bool true) ∧ Below w.heap.size w w' := by
  go_enter Tryd.func23, Tryd.ntmps23
  go_wp2
  go_ret
  exact ⟨rfl, by go_grown⟩
set_option maxHeartbeats 800000 in
theorem eqCropRowS_same (A B : Option Addr) (n c d lo hi lo' hi' : Nat) (f : Nat → Int) (w : World) (hs : Sl w lo hi 5 A n f) (ht : Sl w lo' hi' 5 B n f) (hn : n ≤ 1048576) (hnc : n ≤ c) (hnd : n ≤ d) :
    Calls Tryd.prog 12 #[.slice A n c, .slice B n d] w fun e w' => e = .returned (.bool true) ∧ Below w.heap.size w w' := by
  have HS : Hid (Sl w lo hi 5 A n f) := hs
  have HT : Hid (Sl w lo' hi' 5 B n f) := ht
  clear hs ht
  go_enter Tryd.func12, Tryd.ntmps12
  go_wp2
  go_loopw [5] (fun i wr => ∃ k : Nat, k ≤ n ∧ i = .int .i64 k ∧ Below w.heap.size w wr) (fun i _ => n - (intOf i).toNat)
  case atStart => exact ⟨0, Nat.zero_le _, rfl, Below.refl _ _⟩
  case round =>
    obtain ⟨k, hk, rfl, hbel⟩ := hrel
    by_cases hlt : k < n
    · obtain ⟨b, off, rfl, hb, HC⟩ := HS.out.open_ hbel (by omega)
      obtain ⟨b', off', rfl, hb', HD⟩ := HT.out.open_ hbel (by omega)
      obtain ⟨c0, c1, c2, c3, c4⟩ := cell5 HC hlt
      obtain ⟨d0, d1, d2, d3, d4⟩ := cell5 HD hlt
      clear HC HD HS HT
      have hk0 : (0 : Int) ≤ (k : Int) := by omega
      have hk1 : (k : Int) < (n : Int) := by omega
      go_wp2
      go_region_held3 (fun w' => w'.cell? ⟨b, off + k * 5, none⟩ = some (.int .i64 (f (k * 5))) ∧ w'.cell? ⟨b, off + k * 5 + 1, none⟩ = some (.int .i64 (f (k * 5 + 1))) ∧ w'.cell? ⟨b, off + k * 5 + 2, none⟩ = some (.int .i64 (f (k * 5 + 2))) ∧ w'.cell? ⟨b, off + k * 5 + 3, none⟩ = some (.int .i64 (f (k * 5 + 3))) ∧ w'.cell? ⟨b, off + k * 5 + 4, none⟩ = some (.int .i64 (f (k * 5 + 4))) ∧ w'.cell? ⟨b', off' + k * 5, none⟩ = some (.int .i64 (f (k * 5))) ∧ w'.cell? ⟨b', off' + k * 5 + 1, none⟩ = some (.int .i64 (f (k * 5 + 1))) ∧ w'.cell? ⟨b', off' + k * 5 + 2, none⟩ = some (.int .i64 (f (k * 5 + 2))) ∧ w'.cell? ⟨b', off' + k * 5 + 3, none⟩ = some (.int .i64 (f (k * 5 + 3))) ∧ w'.cell? ⟨b', off' + k * 5 + 4, none⟩ = some (.int .i64 (f (k * 5 + 4))))
        (first | go_keep | (go_split_ands; refine ⟨?_, ?_, ?_, ?_, ?_, ?_, ?_, ?_, ?_, ?_⟩ <;> (refine (hb2.cell (by first | exact hb | exact hb')).trans ?_; first | assumption | (simp [*]; done))))
        (first | (go_at_call 23; refine (eqCropRow_same _ _ _ _ _ _).mono ?_; rintro e w2 ⟨rfl, hb2⟩))
      go_wp2
      go_roundw
      case rel => exact ⟨k + 1, by omega, by go_num, below_of hbel (Below.drew (Below.refl _ _) |>.trans hb2) hbel.size⟩
      case measure => simp [intOf]; omega
    · clear HS HT
      go_wp2
      go_ret
      exact ⟨rfl, hbel⟩
theorem szCropRowS_big (A : Option Addr) (n c : Nat) (left : Int) (w : World) (hn : (n : Int) ≤ 9223372036854775807) (h0 : 0 ≤ left) (hl : left ≤ 1048576) (h : left < n) :
    Calls Tryd.prog 8 #[.slice A n c, .int .i64 left] w fun e w' => e = .returned (.int .i64 (-1)) ∧ w = w' := by
  go_enter Tryd.func8, Tryd.ntmps8
  go_wp2
  go_ret
  exact ⟨rfl, rfl⟩
theorem szCropRowS_ok (A : Option Addr) (n c : Nat) (left : Int) (w : World) (h0 : 0 ≤ left) (hl : left ≤ 1048576) (h : n ≤ left) :
    Calls Tryd.prog 8 #[.slice A n c, .int .i64 left] w fun e w' => e = .returned (.int .i64 (left - n)) ∧ w = w' := by
  go_enter Tryd.func8, Tryd.ntmps8
  go_wp2
  go_ret
  exact ⟨rfl, rfl⟩
end Go.Proofs.YtmllpjgoeajmnaaDoor
