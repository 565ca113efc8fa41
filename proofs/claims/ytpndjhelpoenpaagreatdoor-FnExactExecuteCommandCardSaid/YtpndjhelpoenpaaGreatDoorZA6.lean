/-
  Texts of this claim, merged.
-/
import Derived.Test.YtpndjhelpoenpaaGreatDoorZA5
import Derived.Sort.Defs
import Derived.Shelf.SlGeneric
import Derived.Shelf.SlSortCmp.InsertionK
import Derived.Ground.SlsfProg
import Derived.Lib.OwnBridge
set_option linter.unusedVariables false
set_option linter.unusedSimpArgs false
set_option maxRecDepth 100000
set_option maxHeartbeats 8000000
namespace Go.Proofs.YtpndjhelpoenpaaGreatDoor
open Go.RowKit
attribute [local go_sem ↓] Go.wp_at_zero Go.wp_at_succ
def mayV (wt s : Int) : Bool := decide (wrap64 (260 * massV wt s) < wrap64 (1000 * s))
def dryN (wt s : Int) : Nat := (wt + s - (1000 * s - 1) / 260).toNat
theorem mayV_iff {wt s : Int} (h1 : -1000000 ≤ wt) (h2 : wt ≤ 1000000) (h3 : 0 ≤ s) (h4 : s ≤ 1000000) : mayV wt s = true ↔ 260 * (wt + s) < 1000 * s := by
 unfold mayV massV
 rw [IntWalk.wrap64_in (wt + s) ⟨by omega, by omega⟩, IntWalk.wrap64_in (260 * (wt + s)) ⟨by omega, by omega⟩, IntWalk.wrap64_in (1000 * s) ⟨by omega, by omega⟩]
 simp
theorem dry_le {wt s : Int} (h1 : 0 ≤ wt) (h2 : wt ≤ 1000000) (h3 : 0 < s) (h4 : s ≤ 1000000) : (dryN wt s : Int) ≤ wt + s := by unfold dryN; omega
theorem dry_step {wt s : Int} (h1 : 0 ≤ wt) (h2 : wt ≤ 1000000) (h3 : 0 < s) (h4 : s ≤ 1000000) {k : Nat} (hk : k ≤ dryN wt s) (hm : mayV (wt - k) s = false) : k < dryN wt s := by
 have hd := dry_le h1 h2 h3 h4
 have := mt (mayV_iff (wt := wt - k) (s := s) (by omega) (by omega) (by omega) h4).2 (by simp [hm])
 unfold dryN at *
 omega
theorem dry_done {wt s : Int} (h1 : 0 ≤ wt) (h2 : wt ≤ 1000000) (h3 : 0 < s) (h4 : s ≤ 1000000) {k : Nat} (hk : k ≤ dryN wt s) (hm : mayV (wt - k) s = true) : k = dryN wt s := by
 have hd := dry_le h1 h2 h3 h4
 have := (mayV_iff (wt := wt - k) (s := s) (by omega) (by omega) (by omega) h4).1 hm
 unfold dryN at *
 omega
def mostV (a b : Int) : Int := if b < a then a else b
theorem good_brine {f : Nat → Int} {n : Nat} {I H S P : Int} (hg : goodWorks f n I H S P = true) {j : Nat} (hj : j < n) : 0 ≤ f (j * 4 + 2) ∧ f (j * 4 + 2) ≤ 1000000 ∧ 0 ≤ f (j * 4 + 3) ∧ f (j * 4 + 3) ≤ 1000000 ∧ n ≤ 6 := by
 simp only [goodWorks, pansOk, Bool.and_eq_true, decide_eq_true_eq] at hg
 have h := allTo_at hj hg.1.1.1
 simp only [panStep, okPanAt, okPan, okBrine, inR, Bool.and_eq_true, decide_eq_true_eq] at h
 omega
theorem l1Most_any (a b : Int) (w : World) :
  Calls Tryz.prog 106 #[.int .i64 a, .int .i64 b] w fun e w' => e = .returned (.int .i64 (mostV a b)) ∧ w = w' := by
 by_cases h : b < a
 ·go_enter Tryz.func106, Tryz.ntmps106
  go_wp2
  go_ret
  exact ⟨ret_int (by unfold mostV; rw [if_pos (by omega)]), rfl⟩
 ·go_enter Tryz.func106, Tryz.ntmps106
  go_wp2
  go_ret
  exact ⟨ret_int (by unfold mostV; rw [if_neg (by omega)]), rfl⟩
theorem mayRake_any (wt s : Int) (w : World) :
  Calls Tryz.prog 170 #[.agg #[.int .i64 wt, .int .i64 s]] w fun e w' => e = .returned (.bool (mayV wt s)) ∧ Below w.heap.size w w' := by
 have HF : Hid (∀ w', Below (w.alloc (.cells #[.int .i64 wt, .int .i64 s] 95)).heap.size (w.alloc (.cells #[.int .i64 wt, .int .i64 s] 95)) w' → w'.cell? ⟨w.heap.size, 0, none⟩ = some (.int .i64 wt) ∧ w'.cell? ⟨w.heap.size, 1, none⟩ = some (.int .i64 s)) := fun w' hq => (cells2 (bx (g := w.heap.size) hq))
 go_enter Tryz.func170, Tryz.ntmps170
 go_wp2
 refine wp_region_held_drew (S := fun w' => Below ((w.alloc (.cells #[.int .i64 wt, .int .i64 s] 95))).heap.size ((w.alloc (.cells #[.int .i64 wt, .int .i64 s] 95))) w') (by kernel_rfl) ((Below.refl _ _).drew) (fun jd => ?_)
 refine tj4 0 3 1 4 2 5 3 6 HF jd ?_
 refine wpAnyH_ready (rs := [4]) (by kernel_rfl) (by simp) ?_
 refine AllReadyH.cons rfl (fun K hK => ?_) AllReadyH.nil
 go_simp
 (go_at_call 121; refine (mass_any _ _ _).mono ?_; rintro e w2 ⟨rfl, hb2⟩)
 refine hK.out _ _ (jd.trans (hb2.mono jd.size)) (fun jd => ?_)
 clear hK K hb2
 refine tj3 5 8 6 9 7 2 HF jd ?_
 refine wpAnyH_done (by kernel_rfl) ?_ _
 go_wp2
 go_ret
 exact ⟨ret_bool (by simp only [mayV, ← IntWalk.i64_left]), ((Below.refl _ w).alloc (Nat.le_refl _) _).trans (jd.mono (by simp))⟩
theorem l25May_any (wt s : Int) (w : World) :
  Calls Tryz.prog 185 #[.agg #[.int .i64 wt, .int .i64 s]] w fun e w' => e = .returned (.bool (mayV wt s)) ∧ Below w.heap.size w w' := by
 have HF : Hid (∀ w', Below (w.alloc (.cells #[.int .i64 wt, .int .i64 s] 95)).heap.size (w.alloc (.cells #[.int .i64 wt, .int .i64 s] 95)) w' → w'.cell? ⟨w.heap.size, 0, none⟩ = some (.int .i64 wt) ∧ w'.cell? ⟨w.heap.size, 1, none⟩ = some (.int .i64 s)) := fun w' hq => (cells2 (bx (g := w.heap.size) hq))
 go_enter Tryz.func185, Tryz.ntmps185
 go_wp2
 refine wp_region_held_drew (S := fun w' => Below ((w.alloc (.cells #[.int .i64 wt, .int .i64 s] 95))).heap.size ((w.alloc (.cells #[.int .i64 wt, .int .i64 s] 95))) w') (by kernel_rfl) ((Below.refl _ _).drew) (fun jd => ?_)
 refine tj4 0 3 1 4 2 5 3 6 HF jd ?_
 refine wpAnyH_ready (rs := [4]) (by kernel_rfl) (by simp) ?_
 refine AllReadyH.cons rfl (fun K hK => ?_) AllReadyH.nil
 go_simp
 (go_at_call 150; refine (l2Mass_any _ _ _).mono ?_; rintro e w2 ⟨rfl, hb2⟩)
 refine hK.out _ _ (jd.trans (hb2.mono jd.size)) (fun jd => ?_)
 clear hK K hb2
 refine tj3 5 8 6 9 7 2 HF jd ?_
 refine wpAnyH_done (by kernel_rfl) ?_ _
 go_wp2
 go_ret
 exact ⟨ret_bool (by simp only [mayV, ← IntWalk.i64_left]), ((Below.refl _ w).alloc (Nat.le_refl _) _).trans (jd.mono (by simp))⟩
theorem DryToRake_no (A : Option Addr) (n c lo hi : Nat) (f : Nat → Int) (I H S P : Int) (z : Int) (w : World) (hs : Sl w lo hi 4 A n f) (hn : n ≤ 1048576) (hnc : n ≤ c) (h : goodWorks f n I H S P = false ∨ findV (pid f) z n 0 = -1) :
  Calls Tryz.prog 143 #[.agg #[.slice A n c, .int .i64 I, .int .i64 H, .int .i64 S, .int .i64 P], .int .i64 z] w fun e w' => e = .returned (.tuple #[.int .i64 0, .bool false]) ∧ Below w.heap.size w w' := by
 have HS : Hid (Sl (w.alloc (.cells #[.slice A n c, .int .i64 I, .int .i64 H, .int .i64 S, .int .i64 P] 32)) lo hi 4 A n f) := hs.below ((Below.refl _ w).alloc (Nat.le_refl _) _)
 clear hs
 cases hg : goodWorks f n I H S P with
 | false =>
  clear h
  generalize hfd : findV (pid f) z n 0 = r
  go_enter Tryz.func143, Tryz.ntmps143
  go_wp2_with fail
  refine (panAt_any A n c lo hi f I H S P z _ HS.out hn hnc).mono ?_
  rw [hfd]
  rintro e w2 ⟨rfl, hb2⟩
  obtain ⟨b0, b1, b2, b3, b4⟩ := cells5 (bx (g := w.heap.size) hb2)
  have HS2 := HS.out.below hb2
  go_wp2_with fail
  refine (isWorks_any A n c lo hi f I H S P _ HS2 hn hnc).mono ?_
  rw [hg]
  rintro e w3 ⟨rfl, hb3⟩
  have B3 := below_of hb2 hb3 hb2.size
  clear b0 b1 b2 b3 b4 HS2 hb2 hb3
  go_wp2
  go_ret2
  exact ⟨rfl, ((Below.refl _ w).alloc (Nat.le_refl _) _).trans (B3.mono (by simp))⟩
 | true =>
  have hfd : findV (pid f) z n 0 = -1 := by simpa [hg] using h
  clear h
  go_enter Tryz.func143, Tryz.ntmps143
  go_wp2_with fail
  refine (panAt_any A n c lo hi f I H S P z _ HS.out hn hnc).mono ?_
  rw [hfd]
  rintro e w2 ⟨rfl, hb2⟩
  obtain ⟨b0, b1, b2, b3, b4⟩ := cells5 (bx (g := w.heap.size) hb2)
  have HS2 := HS.out.below hb2
  go_wp2_with fail
  refine (isWorks_any A n c lo hi f I H S P _ HS2 hn hnc).mono ?_
  rw [hg]
  rintro e w3 ⟨rfl, hb3⟩
  have B3 := below_of hb2 hb3 hb2.size
  clear b0 b1 b2 b3 b4 HS2 hb2 hb3
  go_wp2
  go_ret2
  exact ⟨rfl, ((Below.refl _ w).alloc (Nat.le_refl _) _).trans (B3.mono (by simp))⟩
theorem DryToRake_zero (A : Option Addr) (n c lo hi : Nat) (f : Nat → Int) (I H S P : Int) (z : Int) (w : World) (hs : Sl w lo hi 4 A n f) (hn : n ≤ 1048576) (hnc : n ≤ c) (hg : goodWorks f n I H S P = true) (j : Nat) (hj : j < n) (hfd : findV (pid f) z n 0 = (j : Int)) (hz : f (j * 4 + 3) = 0) :
  Calls Tryz.prog 143 #[.agg #[.slice A n c, .int .i64 I, .int .i64 H, .int .i64 S, .int .i64 P], .int .i64 z] w fun e w' => e = .returned (.tuple #[.int .i64 0, .bool false]) ∧ Below w.heap.size w w' := by
 have HS : Hid (Sl (w.alloc (.cells #[.slice A n c, .int .i64 I, .int .i64 H, .int .i64 S, .int .i64 P] 32)) lo hi 4 A n f) := hs.below ((Below.refl _ w).alloc (Nat.le_refl _) _)
 clear hs
 have hj0 : ¬ ((j : Int) < 0) := by omega
 have hk0i : (0 : Int) ≤ (j : Int) := by omega
 have hkni : (j : Int) < (n : Int) := by omega
 ·skip
  go_enter Tryz.func143, Tryz.ntmps143
  go_wp2_with fail
  refine (panAt_any A n c lo hi f I H S P z _ HS.out hn hnc).mono ?_
  rw [hfd]
  rintro e w2 ⟨rfl, hb2⟩
  obtain ⟨b0, b1, b2, b3, b4⟩ := cells5 (bx (g := w.heap.size) hb2)
  have HS2 := HS.out.below hb2
  go_wp2_with fail
  refine (isWorks_any A n c lo hi f I H S P _ HS2 hn hnc).mono ?_
  rw [hg]
  rintro e w3 ⟨rfl, hb3⟩
  have B3 := below_of hb2 hb3 hb2.size
  clear b0 b1 b2 b3 b4 HS2 hb2 hb3
  have b0 : w3.cell? ⟨w.heap.size, 0, none⟩ = some (.slice A n c) := (B3.cell (p := ⟨w.heap.size, 0, none⟩) (by simp)).trans (by simp)
  obtain ⟨b, off, rfl, hbw, HC⟩ := HS.out.open_ B3 (by omega)
  obtain ⟨c0, c1, c2, c3⟩ := cell4 HC hj
  clear HC HS
  rw [hz] at c3
  go_wp2
  go_ret2
  exact ⟨rfl, ((Below.refl _ w).alloc (Nat.le_refl _) _).trans (B3.mono (by simp))⟩
theorem DryToRake_yes (A : Option Addr) (n c lo hi : Nat) (f : Nat → Int) (I H S P : Int) (z : Int) (w : World) (hs : Sl w lo hi 4 A n f) (hn : n ≤ 1048576) (hnc : n ≤ c) (hg : goodWorks f n I H S P = true) (j : Nat) (hj : j < n) (hfd : findV (pid f) z n 0 = (j : Int)) (hz : f (j * 4 + 3) ≠ 0) :
  Calls Tryz.prog 143 #[.agg #[.slice A n c, .int .i64 I, .int .i64 H, .int .i64 S, .int .i64 P], .int .i64 z] w fun e w' => e = .returned (.tuple #[.int .i64 (dryN (f (j * 4 + 2)) (f (j * 4 + 3)) : Int), .bool true]) ∧ Below w.heap.size w w' := by
 have HS : Hid (Sl (w.alloc (.cells #[.slice A n c, .int .i64 I, .int .i64 H, .int .i64 S, .int .i64 P] 32)) lo hi 4 A n f) := hs.below ((Below.refl _ w).alloc (Nat.le_refl _) _)
 clear hs
 have hj0 : ¬ ((j : Int) < 0) := by omega
 have hk0i : (0 : Int) ≤ (j : Int) := by omega
 have hkni : (j : Int) < (n : Int) := by omega
 have hzb : (f (j * 4 + 3) == 0) = false := by simpa using hz
 obtain ⟨g1, g2, g3, g4, _⟩ := good_brine hg hj
 ·skip
  go_enter Tryz.func143, Tryz.ntmps143
  go_wp2_with fail
  refine (panAt_any A n c lo hi f I H S P z _ HS.out hn hnc).mono ?_
  rw [hfd]
  rintro e w2 ⟨rfl, hb2⟩
  obtain ⟨b0, b1, b2, b3, b4⟩ := cells5 (bx (g := w.heap.size) hb2)
  have HS2 := HS.out.below hb2
  go_wp2_with fail
  refine (isWorks_any A n c lo hi f I H S P _ HS2 hn hnc).mono ?_
  rw [hg]
  rintro e w3 ⟨rfl, hb3⟩
  have B3 := below_of hb2 hb3 hb2.size
  clear b0 b1 b2 b3 b4 HS2 hb2 hb3
  have b0 : w3.cell? ⟨w.heap.size, 0, none⟩ = some (.slice A n c) := (B3.cell (p := ⟨w.heap.size, 0, none⟩) (by simp)).trans (by simp)
  obtain ⟨b, off, rfl, hbw, HC⟩ := HS.out.open_ B3 (by omega)
  obtain ⟨c0, c1, c2, c3⟩ := cell4 HC hj
  clear HC HS
  go_wp2
  go_loopw [8] (fun i wr => ∃ k : Nat, k ≤ dryN (f (j * 4 + 2)) (f (j * 4 + 3)) ∧ i = .int .i64 k ∧ Below (w3.alloc (.cells #[.int .i64 (f (j * 4 + 2)), .int .i64 (f (j * 4 + 3))] 95)).heap.size (w3.alloc (.cells #[.int .i64 (f (j * 4 + 2)), .int .i64 (f (j * 4 + 3))] 95)) wr) (fun i _ => dryN (f (j * 4 + 2)) (f (j * 4 + 3)) - (intOf i).toNat)
  case atStart => exact ⟨0, Nat.zero_le _, rfl, Below.refl _ _⟩
  case round =>
   obtain ⟨k, hk, rfl, hbel⟩ := hrel
   obtain ⟨d0, d1⟩ := cells2 (bx (g := w3.heap.size) hbel)
   have hdl := dry_le g1 g2 (by omega : 0 < (f (j * 4 + 3))) g4
   have hwk : IntKind.i64.wrap ((f (j * 4 + 2)) - k) = (f (j * 4 + 2)) - k := IntWalk.i64_in _ (by omega)
   have hwk2 : wrap64 ((f (j * 4 + 2)) - k) = (f (j * 4 + 2)) - k := IntWalk.wrap64_in _ (by omega)
   have BR : Below w3.heap.size w3 wr := ((Below.refl _ w3).alloc (Nat.le_refl _) _).trans (hbel.mono (by simp))
   cases hm : mayV ((f (j * 4 + 2)) - k) (f (j * 4 + 3)) with
   | false =>
    have hlt := dry_step g1 g2 (by omega : 0 < (f (j * 4 + 3))) g4 hk hm
    go_wp2_with (go_at_call 170; refine (mayRake_any _ _ _).mono ?_; rintro e w2 ⟨rfl, hb2⟩)
    go_roundw
    case rel => exact ⟨k + 1, by omega, by go_num, below_of hbel hb2 hbel.size⟩
    case measure => simp [intOf]; omega
   | true =>
    have hlt : Hid (k = dryN (f (j * 4 + 2)) (f (j * 4 + 3))) := dry_done g1 g2 (by omega : 0 < (f (j * 4 + 3))) g4 hk hm
    go_wp2_with (go_at_call 170; refine (mayRake_any _ _ _).mono ?_; rintro e w2 ⟨rfl, hb2⟩)
    go_returns
    exact ⟨by rw [← hlt.out]; rfl, ((Below.refl _ w).alloc (Nat.le_refl _) _).trans ((below_of B3 (below_of BR hb2 BR.size) B3.size).mono (by simp))⟩
theorem specDryToRake_no (A : Option Addr) (n c lo hi : Nat) (f : Nat → Int) (I H S P : Int) (z : Int) (w : World) (hs : Sl w lo hi 4 A n f) (hn : n ≤ 1048576) (hnc : n ≤ c) (h : goodWorks f n I H S P = false ∨ findV (pid f) z n 0 = -1) :
  Calls Tryz.prog 131 #[.agg #[.slice A n c, .int .i64 I, .int .i64 H, .int .i64 S, .int .i64 P], .int .i64 z] w fun e w' => e = .returned (.tuple #[.int .i64 0, .bool false]) ∧ Below w.heap.size w w' := by
 have HS : Hid (Sl (w.alloc (.cells #[.slice A n c, .int .i64 I, .int .i64 H, .int .i64 S, .int .i64 P] 32)) lo hi 4 A n f) := hs.below ((Below.refl _ w).alloc (Nat.le_refl _) _)
 clear hs
 cases hg : goodWorks f n I H S P with
 | false =>
  clear h
  generalize hfd : findV (pid f) z n 0 = r
  go_enter Tryz.func131, Tryz.ntmps131
  go_wp2_with fail
  refine (l25Find_any A n c lo hi f I H S P z _ HS.out hn hnc).mono ?_
  rw [hfd]
  rintro e w2 ⟨rfl, hb2⟩
  obtain ⟨b0, b1, b2, b3, b4⟩ := cells5 (bx (g := w.heap.size) hb2)
  have HS2 := HS.out.below hb2
  go_wp2_with fail
  refine (l25Good_any A n c lo hi f I H S P _ HS2 hn hnc).mono ?_
  rw [hg]
  rintro e w3 ⟨rfl, hb3⟩
  have B3 := below_of hb2 hb3 hb2.size
  clear b0 b1 b2 b3 b4 HS2 hb2 hb3
  go_wp2
  go_ret2
  exact ⟨rfl, ((Below.refl _ w).alloc (Nat.le_refl _) _).trans (B3.mono (by simp))⟩
 | true =>
  have hfd : findV (pid f) z n 0 = -1 := by simpa [hg] using h
  clear h
  go_enter Tryz.func131, Tryz.ntmps131
  go_wp2_with fail
  refine (l25Find_any A n c lo hi f I H S P z _ HS.out hn hnc).mono ?_
  rw [hfd]
  rintro e w2 ⟨rfl, hb2⟩
  obtain ⟨b0, b1, b2, b3, b4⟩ := cells5 (bx (g := w.heap.size) hb2)
  have HS2 := HS.out.below hb2
  go_wp2_with fail
  refine (l25Good_any A n c lo hi f I H S P _ HS2 hn hnc).mono ?_
  rw [hg]
  rintro e w3 ⟨rfl, hb3⟩
  have B3 := below_of hb2 hb3 hb2.size
  clear b0 b1 b2 b3 b4 HS2 hb2 hb3
  go_wp2
  go_ret2
  exact ⟨rfl, ((Below.refl _ w).alloc (Nat.le_refl _) _).trans (B3.mono (by simp))⟩
theorem specDryToRake_zero (A : Option Addr) (n c lo hi : Nat) (f : Nat → Int) (I H S P : Int) (z : Int) (w : World) (hs : Sl w lo hi 4 A n f) (hn : n ≤ 1048576) (hnc : n ≤ c) (hg : goodWorks f n I H S P = true) (j : Nat) (hj : j < n) (hfd : findV (pid f) z n 0 = (j : Int)) (hz : f (j * 4 + 3) = 0) :
  Calls Tryz.prog 131 #[.agg #[.slice A n c, .int .i64 I, .int .i64 H, .int .i64 S, .int .i64 P], .int .i64 z] w fun e w' => e = .returned (.tuple #[.int .i64 0, .bool false]) ∧ Below w.heap.size w w' := by
 have HS : Hid (Sl (w.alloc (.cells #[.slice A n c, .int .i64 I, .int .i64 H, .int .i64 S, .int .i64 P] 32)) lo hi 4 A n f) := hs.below ((Below.refl _ w).alloc (Nat.le_refl _) _)
 clear hs
 have hj0 : ¬ ((j : Int) < 0) := by omega
 have hk0i : (0 : Int) ≤ (j : Int) := by omega
 have hkni : (j : Int) < (n : Int) := by omega
 ·skip
  go_enter Tryz.func131, Tryz.ntmps131
  go_wp2_with fail
  refine (l25Find_any A n c lo hi f I H S P z _ HS.out hn hnc).mono ?_
  rw [hfd]
  rintro e w2 ⟨rfl, hb2⟩
  obtain ⟨b0, b1, b2, b3, b4⟩ := cells5 (bx (g := w.heap.size) hb2)
  have HS2 := HS.out.below hb2
  go_wp2_with fail
  refine (l25Good_any A n c lo hi f I H S P _ HS2 hn hnc).mono ?_
  rw [hg]
  rintro e w3 ⟨rfl, hb3⟩
  have B3 := below_of hb2 hb3 hb2.size
  clear b0 b1 b2 b3 b4 HS2 hb2 hb3
  have b0 : w3.cell? ⟨w.heap.size, 0, none⟩ = some (.slice A n c) := (B3.cell (p := ⟨w.heap.size, 0, none⟩) (by simp)).trans (by simp)
  obtain ⟨b, off, rfl, hbw, HC⟩ := HS.out.open_ B3 (by omega)
  obtain ⟨c0, c1, c2, c3⟩ := cell4 HC hj
  clear HC HS
  rw [hz] at c3
  go_wp2
  go_ret2
  exact ⟨rfl, ((Below.refl _ w).alloc (Nat.le_refl _) _).trans (B3.mono (by simp))⟩
theorem specDryToRake_yes (A : Option Addr) (n c lo hi : Nat) (f : Nat → Int) (I H S P : Int) (z : Int) (w : World) (hs : Sl w lo hi 4 A n f) (hn : n ≤ 1048576) (hnc : n ≤ c) (hg : goodWorks f n I H S P = true) (j : Nat) (hj : j < n) (hfd : findV (pid f) z n 0 = (j : Int)) (hz : f (j * 4 + 3) ≠ 0) :
  Calls Tryz.prog 131 #[.agg #[.slice A n c, .int .i64 I, .int .i64 H, .int .i64 S, .int .i64 P], .int .i64 z] w fun e w' => e = .returned (.tuple #[.int .i64 (dryN (f (j * 4 + 2)) (f (j * 4 + 3)) : Int), .bool true]) ∧ Below w.heap.size w w' := by
 have HS : Hid (Sl (w.alloc (.cells #[.slice A n c, .int .i64 I, .int .i64 H, .int .i64 S, .int .i64 P] 32)) lo hi 4 A n f) := hs.below ((Below.refl _ w).alloc (Nat.le_refl _) _)
 clear hs
 have hj0 : ¬ ((j : Int) < 0) := by omega
 have hk0i : (0 : Int) ≤ (j : Int) := by omega
 have hkni : (j : Int) < (n : Int) := by omega
 have hzb : (f (j * 4 + 3) == 0) = false := by simpa using hz
 obtain ⟨g1, g2, g3, g4, _⟩ := good_brine hg hj
 have hv : Hid (mostV 0 (IntKind.i64.wrap (massV (f (j * 4 + 2)) (f (j * 4 + 3)) - IntKind.i64.wrap ((IntKind.i64.wrap (IntKind.i64.wrap (1000 * f (j * 4 + 3)) - 1)).tdiv 260))) = (dryN (f (j * 4 + 2)) (f (j * 4 + 3)) : Int)) := by
  unfold massV dryN
  simp only [IntWalk.i64_left]
  rw [IntWalk.wrap64_in (1000 * f (j * 4 + 3)) ⟨by omega, by omega⟩, IntWalk.wrap64_in (f (j * 4 + 2) + f (j * 4 + 3)) ⟨by omega, by omega⟩, IntWalk.wrap64_in (1000 * f (j * 4 + 3) - 1) ⟨by omega, by omega⟩]
  rw [Int.tdiv_eq_ediv_of_nonneg (by omega)]
  rw [IntWalk.wrap64_in ((1000 * f (j * 4 + 3) - 1) / 260) ⟨by omega, by omega⟩]
  rw [IntWalk.wrap64_in _ ⟨by omega, by omega⟩]
  unfold mostV Hid
  split <;> omega
 ·skip
  go_enter Tryz.func131, Tryz.ntmps131
  go_wp2_with fail
  refine (l25Find_any A n c lo hi f I H S P z _ HS.out hn hnc).mono ?_
  rw [hfd]
  rintro e w2 ⟨rfl, hb2⟩
  obtain ⟨b0, b1, b2, b3, b4⟩ := cells5 (bx (g := w.heap.size) hb2)
  have HS2 := HS.out.below hb2
  go_wp2_with fail
  refine (l25Good_any A n c lo hi f I H S P _ HS2 hn hnc).mono ?_
  rw [hg]
  rintro e w3 ⟨rfl, hb3⟩
  have B3 := below_of hb2 hb3 hb2.size
  clear b0 b1 b2 b3 b4 HS2 hb2 hb3
  have b0 : w3.cell? ⟨w.heap.size, 0, none⟩ = some (.slice A n c) := (B3.cell (p := ⟨w.heap.size, 0, none⟩) (by simp)).trans (by simp)
  obtain ⟨b, off, rfl, hbw, HC⟩ := HS.out.open_ B3 (by omega)
  obtain ⟨c0, c1, c2, c3⟩ := cell4 HC hj
  clear HC HS
  have HF : Hid (∀ w', Below (w3.alloc (.cells #[.int .i64 (f (j * 4 + 2)), .int .i64 (f (j * 4 + 3))] 95)).heap.size (w3.alloc (.cells #[.int .i64 (f (j * 4 + 2)), .int .i64 (f (j * 4 + 3))] 95)) w' → w'.cell? ⟨w3.heap.size, 0, none⟩ = some (.int .i64 (f (j * 4 + 2))) ∧ w'.cell? ⟨w3.heap.size, 1, none⟩ = some (.int .i64 (f (j * 4 + 3)))) := fun w' hq => (cells2 (bx (g := w3.heap.size) hq))
  go_wp2
  refine wp_region_held_drew (S := fun w' => Below ((w3.alloc (.cells #[.int .i64 (f (j * 4 + 2)), .int .i64 (f (j * 4 + 3))] 95))).heap.size ((w3.alloc (.cells #[.int .i64 (f (j * 4 + 2)), .int .i64 (f (j * 4 + 3))] 95))) w') (by kernel_rfl) ((Below.refl _ _).drew) (fun jd => ?_)
  refine tj4 0 34 2 36 3 37 4 38 HF jd ?_
  refine tj2 5 39 6 40 HF jd ?_
  refine wpAnyH_ready (rs := [1]) (by kernel_rfl) (by simp) ?_
  refine AllReadyH.cons rfl (fun K hK => ?_) AllReadyH.nil
  go_simp
  (go_at_call 150; refine (l2Mass_any _ _ _).mono ?_; rintro e w2 ⟨rfl, hb2⟩)
  refine hK.out _ _ (jd.trans (hb2.mono jd.size)) (fun jd => ?_)
  clear hK K hb2
  refine tj 7 41 HF rfl jd ?_
  refine wpAnyH_ready (rs := [8]) (by kernel_rfl) (by simp) ?_
  refine AllReadyH.cons rfl (fun K hK => ?_) AllReadyH.nil
  go_simp
  (go_at_call 106; refine (quiet_below (l1Most_any _ _ _)).mono ?_; rintro e w2 ⟨rfl, hb2⟩)
  refine hK.out _ _ (jd.trans (hb2.mono jd.size)) (fun jd => ?_)
  clear hK K hb2
  refine tj2 9 4 10 5 HF jd ?_
  refine wpAnyH_done (by kernel_rfl) ?_ _
  go_wp2
  go_ret2
  exact ⟨by rw [← hv.out]; rfl, ((Below.refl _ w).alloc (Nat.le_refl _) _).trans ((below_of B3 (((Below.refl _ w3).alloc (Nat.le_refl _) _).trans (jd.mono (by simp))) B3.size).mono (by simp))⟩
end Go.Proofs.YtpndjhelpoenpaaGreatDoor
namespace Go.Proofs.YtpndjhelpoenpaaGreatDoor
variable {α : Type}
def stopI [Inhabited α] (mv : α → α → Bool) (L : List α) (n : α) : Nat → Nat
 | 0 => 0
 | k + 1 => if mv (L[k]?.getD default) n then stopI mv L n k else k + 1
def insI [Inhabited α] (mv : α → α → Bool) (L : List α) (n : α) : List α := L.take (stopI mv L n L.length) ++ n :: L.drop (stopI mv L n L.length)
theorem stopI_le [Inhabited α] (mv : α → α → Bool) (L : List α) (n : α) : ∀ k, stopI mv L n k ≤ k
 | 0 => Nat.le_refl _
 | k + 1 => by
  have := stopI_le mv L n k
  unfold stopI; split <;> omega
theorem insI_length [Inhabited α] (mv : α → α → Bool) (L : List α) (n : α) : (insI mv L n).length = L.length + 1 := by
 have := stopI_le mv L n L.length
 simp [insI]; omega
theorem insI_mem [Inhabited α] (mv : α → α → Bool) (L : List α) (n z : α) : z ∈ insI mv L n ↔ z ∈ L ∨ z = n := by
 unfold insI
 rw [List.mem_append, List.mem_cons]
 conv => rhs; rw [← List.take_append_drop (stopI mv L n L.length) L, List.mem_append]
 constructor
 ·rintro (h | h | h) <;> simp [h]
 ·rintro ((h | h) | h) <;> simp [h]
def isortL [Inhabited α] (mv : α → α → Bool) (L : List α) : List α := L.foldl (insI mv) []
theorem foldIns_length [Inhabited α] (mv : α → α → Bool) (L : List α) : ∀ S : List α, (L.foldl (insI mv) S).length = S.length + L.length := by
 induction L with
 | nil => intro S; rfl
 | cons x t ih => intro S; rw [List.foldl_cons, ih, insI_length, List.length_cons]; omega
theorem foldIns_mem [Inhabited α] (mv : α → α → Bool) (L : List α) : ∀ (S : List α) (z : α), z ∈ L.foldl (insI mv) S ↔ z ∈ S ∨ z ∈ L := by
 induction L with
 | nil => simp
 | cons x t ih => intro S z; rw [List.foldl_cons, ih, insI_mem]; simp [or_assoc]
theorem isortL_mem [Inhabited α] (mv : α → α → Bool) (L : List α) (z : α) : z ∈ isortL mv L ↔ z ∈ L := by simp [isortL, foldIns_mem]
theorem isortL_length [Inhabited α] (mv : α → α → Bool) (L : List α) : (isortL mv L).length = L.length := by simp [isortL, foldIns_length]
theorem swp_list [Inhabited α] {d : Array α} {A B : List α} {x y : α} (h : d.toList = A ++ x :: y :: B) : (Sort.swp d (A.length + 1) A.length).toList = A ++ y :: x :: B := by
 have hs : d.size = A.length + (B.length + 2) := by rw [← Array.length_toList, h]; simp
 have h0 : d[A.length]! = x := by
  rw [getElem!_pos d _ (by omega), ← Array.getElem_toList, List.getElem_of_eq h]; simp
 have h1 : d[A.length + 1]! = y := by
  rw [getElem!_pos d _ (by omega), ← Array.getElem_toList, List.getElem_of_eq h]
  rw [List.getElem_append_right (by omega)]; simp
 unfold Sort.swp
 rw [h0, h1]
 simp only [Array.toList_setIfInBounds, h]
 rw [List.set_append_right _ _ (by omega), List.set_append_right _ _ (by omega)]
 simp
theorem inner_list [Inhabited α] (lt : α → α → Bool) (S R : List α) (n : α) : ∀ (j : Nat) (d : Array α), j ≤ S.length → d.toList = S.take j ++ n :: (S.drop j ++ R) →
  (Sort.insInner lt 0 j d).toList = S.take (stopI (fun p n => lt n p) S n j) ++ n :: (S.drop (stopI (fun p n => lt n p) S n j) ++ R)
 | 0, d, _, h => by simpa [Sort.insInner, stopI] using h
 | j + 1, d, hj, h => by
  have hjl : j < S.length := by omega
  have htk : S.take (j + 1) = S.take j ++ [S[j]] := by rw [List.take_succ_eq_append_getElem hjl]
  have hl : (S.take j).length = j := by simp; omega
  rw [htk, List.append_assoc, List.singleton_append] at h
  have hs : d.size = j + (S.drop (j + 1) ++ R).length + 2 := by rw [← Array.length_toList, h]; simp; omega
  have h0 : d[j]! = S[j] := by
   rw [getElem!_pos d _ (by omega), ← Array.getElem_toList, List.getElem_of_eq h, List.getElem_append_right (by omega)]
   simp [hl]
  have h1 : d[j + 1]! = n := by
   rw [getElem!_pos d _ (by omega), ← Array.getElem_toList, List.getElem_of_eq h, List.getElem_append_right (by omega)]
   simp [hl]
  have hsj : S[j]?.getD default = S[j] := by simp [hjl]
  unfold Sort.insInner stopI
  rw [h0, h1, hsj]
  by_cases hc : lt n S[j] = true
  ·rw [if_pos (by simp [hc]), if_pos hc]
   have hw := swp_list h
   rw [hl] at hw
   refine inner_list lt S R n j _ (by omega) ?_
   rw [hw]
   congr 2
   rw [← List.cons_append, List.drop_eq_getElem_cons hjl]
  ·rw [if_neg (by simp [hc]), if_neg hc, h, htk, List.append_assoc, List.singleton_append]
theorem outer_list [Inhabited α] (lt : α → α → Bool) (b : Nat) : ∀ (m i : Nat) (d : Array α) (S R : List α), m = b - i → S.length = i → d.toList = S ++ R → R.length = b - i → i ≤ b →
  (Sort.insOuter lt 0 b i d).toList = R.foldl (insI fun p n => lt n p) S := by
 intro m
 induction m with
 | zero =>
  intro i d S R hm hS hd hR hib
  have : R = [] := List.length_eq_zero_iff.1 (by omega)
  subst this
  unfold Sort.insOuter
  rw [if_neg (by omega), hd]
  simp
 | succ m ih =>
  intro i d S R hm hS hd hR hib
  cases R with
  | nil => simp at hR; omega
  | cons n R =>
   unfold Sort.insOuter
   rw [if_pos (by omega), List.foldl_cons]
   simp only [List.length_cons] at hR
   have hin := inner_list lt S R n i d (by omega) (by rw [← hS, List.take_length, List.drop_length]; simpa using hd)
   refine ih (i + 1) _ _ R (by omega) (by rw [insI_length, hS]) ?_ (by omega) (by omega)
   rw [hin, ← hS]
   unfold insI
   simp
theorem sort_list [Inhabited α] (lt : α → α → Bool) (d : Array α) : (Sort.insertionSort lt d 0 d.size).toList = isortL (fun p n => lt n p) d.toList := by
 unfold Sort.insertionSort isortL
 cases hd : d.toList with
 | nil =>
  have : d.size = 0 := by rw [← Array.length_toList, hd]; rfl
  unfold Sort.insOuter
  rw [if_neg (by omega), hd]
  rfl
 | cons x R =>
  have hs : d.size = R.length + 1 := by rw [← Array.length_toList, hd]; rfl
  rw [List.foldl_cons]
  exact outer_list lt d.size (d.size - 1) 1 d [x] R rfl rfl hd (by omega) (by omega)
end Go.Proofs.YtpndjhelpoenpaaGreatDoor
namespace Go.Proofs.YtpndjhelpoenpaaGreatDoor
open Go.RowKit
theorem rowsOf_drop (f : Nat → Int) (k : Nat) (L : List Nat) (m : Nat) (hm : m ≤ L.length) (j : Nat) : (rowsOf f k (L.drop m))[j]? = (rowsOf f k L)[m * k + j]? := by
 have h : rowsOf f k L = rowsOf f k (L.take m) ++ rowsOf f k (L.drop m) := by rw [← rowsOf_append, List.take_append_drop]
 have hl : (rowsOf f k (L.take m)).length = m * k := by rw [rowsOf_length, List.length_take, Nat.min_eq_left hm]
 rw [h, List.getElem?_append_right (by rw [hl]; omega), hl, Nat.add_sub_cancel_left]
theorem rowsOf_take (f : Nat → Int) (k : Nat) (L : List Nat) (m : Nat) (hm : m ≤ L.length) (j : Nat) (u : Int) (hu : (rowsOf f k (L.take m))[j]? = some u) : (rowsOf f k L)[j]? = some u := by
 have h : rowsOf f k L = rowsOf f k (L.take m) ++ rowsOf f k (L.drop m) := by rw [← rowsOf_append, List.take_append_drop]
 rw [h, List.getElem?_append_left (List.getElem?_eq_some_iff.1 hu).1]
 exact hu
theorem rowsOf_at (f : Nat → Int) (k : Nat) (L : List Nat) (i j : Nat) (hi : i < L.length) (hj : j < k) : (rowsOf f k L)[i * k + j]? = some (f (L.getD i 0 * k + j)) := by
 have hlt : i * k + j < (rowsOf f k L).length := by
  rw [rowsOf_length]
  have : (i + 1) * k ≤ L.length * k := Nat.mul_le_mul_right k hi
  rw [Nat.succ_mul] at this
  omega
 have h := rowsOf_get f k L i j hi hj
 rw [List.getD_eq_getElem?_getD, List.getElem?_eq_getElem hlt] at h
 rw [List.getElem?_eq_getElem hlt]
 simpa using h
def RRow (f : Nat → Int) (k : Nat) (e : TypeId) (w : World) (lo : Nat) (v : Value) (L : List Nat) : Prop :=
 (∃ g c, v = .slice (some ⟨g, 0, none⟩) L.length c ∧ L.length ≤ c ∧ c ≤ maxLen ∧ g < w.heap.size ∧ lo ≤ g) ∧ w.ownsRow lo e k v L.length ((rowsOf f k L).map (Value.int .i64))
section
variable {f : Nat → Int} {k : Nat} {e : TypeId}
theorem RRow.below {w w' : World} {lo : Nat} {v : Value} {L : List Nat} (h : RRow f k e w lo v L) (hb : Below w.heap.size w w') : RRow f k e w' lo v L := by
 obtain ⟨⟨g, c, e1, h1, h2, h3, h5⟩, h4⟩ := h
 exact ⟨⟨g, c, e1, h1, h2, Nat.lt_of_lt_of_le h3 hb.size, h5⟩, ownsRow_below h4 hb⟩
theorem RRow.of {w : World} {lo g c : Nat} {L : List Nat} {n : Nat} (hn : n = L.length) (h : w.ownsRow lo e k (.slice (some ⟨g, 0, none⟩) n c) n ((rowsOf f k L).map (Value.int .i64))) : RRow f k e w lo (.slice (some ⟨g, 0, none⟩) n c) L := by
 subst hn
 refine ⟨?_, h⟩
 have hlt := World.ownsRow.lt h g rfl
 rcases h.2 with ⟨h0, _⟩ | ⟨g', cap, cur, hv, hb, hg, hnc, hcm, _⟩
 ·cases h0
 ·cases hv
  exact ⟨g, c, rfl, hnc, hcm, hlt.2, hb⟩
theorem RRow.cellAt {w : World} {lo g c : Nat} {L : List Nat} {n : Nat} (h : w.ownsRow lo e k (.slice (some ⟨g, 0, none⟩) n c) n ((rowsOf f k L).map (Value.int .i64))) (hn : n = L.length) (i j : Nat) (hi : i < n) (hj : j < k) :
  w.cell? ⟨g, i * k + j, none⟩ = some (.int .i64 (f (L.getD i 0 * k + j))) := by
 subst hn
 rw [World.ownsRow.cellAt h (i * k + j) (by
  have : (i + 1) * k ≤ L.length * k := Nat.mul_le_mul_right k hi
  rw [Nat.succ_mul] at this
  omega), List.getElem?_map, rowsOf_at f k L i j hi hj]
 rfl
theorem RRow.cellR {w : World} {lo g c : Nat} {L : List Nat} {n : Nat} (h : RRow f k e w lo (.slice (some ⟨g, 0, none⟩) n c) L) (hn : n = L.length) (i j : Nat) (hi : i < n) (hj : j < k) :
  w.cell? ⟨g, i * k + j, none⟩ = some (.int .i64 (f (L.getD i 0 * k + j))) := by
 subst hn
 exact RRow.cellAt h.2 rfl i j hi hj
theorem RRow.srcTake {w : World} {lo g c : Nat} {L : List Nat} {n : Nat} (h : w.ownsRow lo e k (.slice (some ⟨g, 0, none⟩) n c) n ((rowsOf f k L).map (Value.int .i64))) (hn : n = L.length) (m c' : Nat) (hm : m ≤ n) :
  Src w k (some ⟨g, 0, none⟩) m c' (rowsOf f k (L.take m)) := by
 subst hn
 refine ⟨by rw [rowsOf_length, List.length_take, Nat.min_eq_left hm], (by intro h; cases h), fun ad had j u hu => ?_⟩
 cases had
 have hl := (List.getElem?_eq_some_iff.1 hu).1
 rw [rowsOf_length, List.length_take, Nat.min_eq_left hm] at hl
 rw [Addr.add_lit, Nat.zero_add, World.ownsRow.cellAt h j (Nat.lt_of_lt_of_le hl (Nat.mul_le_mul_right k hm)), List.getElem?_map, rowsOf_take f k L m hm j u hu]
 rfl
theorem RRow.srcDrop {w : World} {lo g c : Nat} {L : List Nat} {n : Nat} (h : w.ownsRow lo e k (.slice (some ⟨g, 0, none⟩) n c) n ((rowsOf f k L).map (Value.int .i64))) (hn : n = L.length) (m c' : Nat) (hm : m ≤ n) :
  Src w k (some ⟨g, m * k, none⟩) (n - m) c' (rowsOf f k (L.drop m)) := by
 subst hn
 refine ⟨by rw [rowsOf_length, List.length_drop], (by intro h; cases h), fun ad had j u hu => ?_⟩
 cases had
 have hl := (List.getElem?_eq_some_iff.1 hu).1
 rw [rowsOf_length, List.length_drop, Nat.sub_mul] at hl
 have hmk : m * k ≤ L.length * k := Nat.mul_le_mul_right k hm
 rw [rowsOf_drop f k L m hm] at hu
 rw [Addr.add_lit, World.ownsRow.cellAt h (m * k + j) (by omega), List.getElem?_map, hu]
 rfl
theorem RRow.grown_other {w w' : World} {lo lo' : Nat} {ov v : Value} {L : List Nat} {e' : TypeId} {k' n : Nat} {xs : List Value} (h : RRow f k e w lo ov L) (hown : w.ownsRow lo' e' k' v n xs) (hne : e ≠ e') (hg : w.grownBy w' v.ownBlock) : RRow f k e w' lo ov L := by
 obtain ⟨⟨g, c, rfl, h1, h2, h3, h5⟩, h4⟩ := h
 refine ⟨⟨g, c, rfl, h1, h2, Nat.lt_of_lt_of_le h3 hg.size, h5⟩, World.ownsRow.kept h4 hg (Or.inr ?_)⟩
 intro he
 rcases hown.2 with ⟨rfl, _⟩ | ⟨g', c', cur, rfl, _, hG, _⟩
 ·simp [Value.ownBlock] at he
 ·simp [Value.ownBlock] at he
  subst he
  rcases h4.2 with ⟨h0, _⟩ | ⟨g2, c2, cur2, hv, _, hG2, _⟩
  ·cases h0
  ·cases hv
   rw [hG] at hG2
   simp at hG2
   exact hne hG2.2.symm
theorem Src.none_of {w : World} {A : Option Addr} {c : Nat} {zs : List Int} (hz : zs = []) (hA : A ≠ none) : Src w k A 0 c zs := by
 subst hz
 exact ⟨by simp, fun h => absurd h hA, fun ad had j u hu => by simp at hu⟩
end
def pickN (t : Nat → Bool) : Nat → List Nat
 | 0 => []
 | k + 1 => if t k then pickN t k ++ [k] else pickN t k
theorem pickN_yes {t : Nat → Bool} {k : Nat} (h : t k = true) : pickN t (k + 1) = pickN t k ++ [k] := by simp [pickN, h]
theorem pickN_no {t : Nat → Bool} {k : Nat} (h : t k = false) : pickN t (k + 1) = pickN t k := by simp [pickN, h]
theorem pickN_len (t : Nat → Bool) : ∀ k, (pickN t k).length ≤ k
 | 0 => Nat.le_refl _
 | k + 1 => by
  have := pickN_len t k
  unfold pickN
  split <;> simp <;> omega
theorem pickN_lt (t : Nat → Bool) : ∀ k, ∀ j ∈ pickN t k, j < k ∧ t j = true
 | 0 => by simp [pickN]
 | k + 1 => by
  intro j hj
  unfold pickN at hj
  split at hj
  ·rename_i ht
   rcases List.mem_append.1 hj with h | h
   ·have := pickN_lt t k j h; exact ⟨by omega, this.2⟩
   ·simp at h; subst h; exact ⟨by omega, ht⟩
  ·have := pickN_lt t k j hj; exact ⟨by omega, this.2⟩
theorem isortL_snoc {α : Type} [Inhabited α] (mv : α → α → Bool) (L : List α) (x : α) : isortL mv (L ++ [x]) = insI mv (isortL mv L) x := by simp [isortL, List.foldl_append]
theorem stop_step {mv : Nat → Nat → Bool} {L : List Nat} {n k : Nat} (h : mv (L.getD k 0) n = true) : stopI mv L n (k + 1) = stopI mv L n k := by
 show (if mv (L[k]?.getD default) n then stopI mv L n k else k + 1) = _
 rw [if_pos (by simpa [List.getD_eq_getElem?_getD] using h)]
theorem stop_here {mv : Nat → Nat → Bool} {L : List Nat} {n k : Nat} (h : mv (L.getD k 0) n = false) : stopI mv L n (k + 1) = k + 1 := by
 show (if mv (L[k]?.getD default) n then stopI mv L n k else k + 1) = _
 rw [if_neg (by simpa [List.getD_eq_getElem?_getD] using h)]
end Go.Proofs.YtpndjhelpoenpaaGreatDoor
namespace Go.Proofs
open Go.Shelf
def Tryz.insS_ren : Go.Shelf.Ren := ⟨fun | 20 => 217 | n => n, fun | 24 => 97 | 22 => 30 | 3 => 3 | 25 => 187 | 4 => 4 | 0 => 0 | n => n, fun | n => n⟩
theorem Tryz.insS : Go.Proofs.SlLaysF0.n20 Tryz.prog Tryz.insS_ren := {
  mixed := by kernel_rfl
  f20 := ⟨Tryz.f217.name, by decide, Tryz.func217.trans (congrArg some (by kernel_rfl))⟩
  t0 := Tryz.underlying0
  a0 := Tryz.isAgg0
  z0 := Tryz.sizeOf0
  v0 := Tryz.zeroValue0
  t3 := Tryz.underlying3
  a3 := Tryz.isAgg3
  z3 := Tryz.sizeOf3
  v3 := Tryz.zeroValue3
  t4 := Tryz.underlying4
  a4 := Tryz.isAgg4
  z4 := Tryz.sizeOf4
  v4 := Tryz.zeroValue4
  t22 := Tryz.underlying30
  a22 := Tryz.isAgg30
  z22 := Tryz.sizeOf30
  v22 := Tryz.zeroValue30
  t25 := Tryz.underlying187
  a25 := Tryz.isAgg187
  z25 := Tryz.sizeOf187
  v25 := Tryz.zeroValue187 }
end Go.Proofs
namespace Go.Proofs.YtpndjhelpoenpaaGreatDoor
open Go.RowKit Go.Sort
def encS (f : Nat → Int) (i : Nat) : List Value := [.int .i64 (f (i * 4)), .int .i64 (f (i * 4 + 1)), .int .i64 (f (i * 4 + 2)), .int .i64 (f (i * 4 + 3))]
theorem encS_get (f : Nat → Int) (i j : Nat) (hj : j < 4) : (encS f i)[j]! = .int .i64 (f (i * 4 + j)) := by
 match j, hj with
 | 0, _ => rfl
 | 1, _ => rfl
 | 2, _ => rfl
 | 3, _ => rfl
theorem flatK_get (f : Nat → Int) (L : List Nat) (t : Nat) (ht : t < L.length * 4) : (flatK (encS f) 4 L.toArray)[t]! = .int .i64 (f (L.getD (t / 4) 0 * 4 + t % 4)) := by
 have h1 : t / 4 < L.length := by omega
 rw [get_flatK _ _ _ _ (by simpa using ht), encS_get _ _ _ (Nat.mod_lt _ (by decide))]
 simp [List.getD_eq_getElem?_getD, h1]
theorem flatK_rows (f : Nat → Int) (L : List Nat) : (flatK (encS f) 4 L.toArray).toList = (rowsOf f 4 L).map (Value.int .i64) := by
 apply List.ext_getElem?
 intro t
 by_cases ht : t < L.length * 4
 ·have hs : t < (flatK (encS f) 4 L.toArray).size := by rw [size_flatK]; simpa using ht
  have hr := rowsOf_at f 4 L (t / 4) (t % 4) (by omega) (Nat.mod_lt _ (by decide))
  rw [show t / 4 * 4 + t % 4 = t by omega] at hr
  rw [List.getElem?_map, hr, Array.getElem?_toList, Array.getElem?_eq_getElem hs, ← getElem!_pos, flatK_get f L t ht]
  rfl
 ·rw [List.getElem?_eq_none (by rw [Array.length_toList, size_flatK]; simpa using ht), List.getElem?_eq_none (by rw [List.length_map, rowsOf_length]; omega)]
theorem holdsK_of_row {f : Nat → Int} {w : World} {lo g c n : Nat} {L : List Nat} (h : w.ownsRow lo 97 4 (.slice (some ⟨g, 0, none⟩) n c) n ((rowsOf f 4 L).map (Value.int .i64))) (hn : n = L.length) : HoldsK (encS f) 4 w g 0 L.toArray := by
 intro t ht
 rw [size_flatK] at ht
 have ht' : t < L.length * 4 := by simpa using ht
 have hc := RRow.cellAt h hn (t / 4) (t % 4) (by omega) (Nat.mod_lt _ (by decide))
 rw [show t / 4 * 4 + t % 4 = t by omega] at hc
 refine ⟨by rw [Nat.zero_add, hc, flatK_get f L t ht']; rfl, by rw [Nat.zero_add]; exact World.ownsRow.frozenAt h t⟩
theorem row_of_sortK {f : Nat → Int} {w : World} {lo g c n m : Nat} {os : Array Obj} {L L' : List Nat} (h : w.ownsRow lo 97 4 (.slice (some ⟨g, 0, none⟩) n c) n ((rowsOf f 4 L).map (Value.int .i64))) (hn : n = L'.length) :
  (sortWorldK (encS f) 4 w g 0 m L'.toArray os).ownsRow lo 97 4 (.slice (some ⟨g, 0, none⟩) n c) n ((rowsOf f 4 L').map (Value.int .i64)) := by
 have hlt := (World.ownsRow.lt h g rfl).2
 rcases h.2 with ⟨h0, _⟩ | ⟨g', cap, cur, hv, hb, hg, hnc, hcm, hcs, htake⟩
 ·cases h0
 cases hv
 refine ⟨by rw [List.length_map, rowsOf_length, hn], .inr ⟨g, c, putCells id 0 (flatK (encS f) 4 L'.toArray) cur, rfl, hb, ?_, hnc, hcm, by simpa [putCells] using hcs, ?_⟩⟩
 ·unfold sortWorldK putRowK
  rw [heap_grow_old _ _ (by simpa [Go.Sort.putRow, mapBlock, Sort.ahead] using hlt)]
  simp [Go.Sort.putRow, mapBlock, Sort.ahead, Array.getElem?_modify, hg, onCells]
 ·rw [← flatK_rows]
  apply List.ext_getElem?
  intro t
  rw [List.getElem?_take, Array.getElem?_toList, Array.getElem?_toList]
  by_cases ht : t < n * 4
  ·have hs : t < (flatK (encS f) 4 L'.toArray).size := by rw [size_flatK]; simpa [← hn] using ht
   have htc : t < cur.size := by rw [hcs]; exact Nat.lt_of_lt_of_le ht (Nat.mul_le_mul_right _ hnc)
   rw [if_pos ht, putCells, Array.getElem?_mapIdx, Array.getElem?_eq_getElem htc, Option.map_some, if_pos ⟨Nat.zero_le _, by omega⟩, Nat.sub_zero, getElem!_pos _ t hs, Array.getElem?_eq_getElem hs]
   rfl
  ·rw [if_neg ht, Array.getElem?_eq_none (by rw [size_flatK]; simpa [← hn] using ht)]
theorem grownBy_sortK {f : Nat → Int} {w : World} {g m : Nat} {os : Array Obj} (d : Array Nat) : w.grownBy (sortWorldK (encS f) 4 w g 0 m d os) (some g) := by
 unfold sortWorldK putRowK
 refine ⟨rfl, rfl, rfl, by simp [Go.Sort.putRow, mapBlock, Sort.ahead], fun j hj hne => ?_⟩
 rw [heap_grow_old _ _ (by simpa [Go.Sort.putRow, mapBlock, Sort.ahead] using hj)]
 have : g ≠ j := fun e => hne (by rw [e])
 simp [Go.Sort.putRow, mapBlock, Sort.ahead, Array.getElem?_modify, this]
theorem insNone_any (A : Option Addr) (c clo : Nat) (w : World) :
  Calls Tryz.prog 217 #[.slice A 0 c, .int .i64 0, .int .i64 0, .func (.func clo) #[] #[]] w fun e w' => e = .returned (.tuple #[]) ∧ w = w' := by
 go_enter Tryz.func217, Tryz.ntmps217
 go_wp2_with fail
 go_loop [8] (fun i => i = .int .i64 1) (fun _ => 0)
 case atStart => rfl
 case round =>
  subst hrel
  go_wp2
  go_end0
  exact ⟨rfl, rfl⟩
theorem stableNone_any (A : Option Addr) (c clo : Nat) (w : World) :
  Calls Tryz.prog 201 #[.slice A 0 c, .int .i64 0, .func (.func clo) #[] #[]] w fun e w' => e = .returned (.tuple #[]) ∧ w = w' := by
 go_enter Tryz.func201, Tryz.ntmps201
 go_wp2_with fail
 go_loop [7, 8] (fun a b => a = .int .i64 0 ∧ b = .int .i64 20) (fun _ _ => 0)
 case atStart => exact ⟨rfl, rfl⟩
 case round =>
  obtain ⟨rfl, rfl⟩ := hrel
  go_wp2_with fail
  refine (insNone_any A c clo w).mono ?_
  rintro e w1 ⟨rfl, rfl⟩
  go_wp2_with fail
  go_loop [6, 7, 8, 9] (fun s a b m => s = .int .i64 20) (fun _ _ _ _ => 0)
  case atStart => rfl
  case round =>
   subst hrel
   go_wp2
   go_end0
   exact ⟨rfl, rfl⟩
theorem sortStableNone_any (A : Option Addr) (c clo : Nat) (w : World) :
  Calls Tryz.prog 172 #[.slice A 0 c, .func (.func clo) #[] #[]] w fun e w' => e = .returned (.tuple #[]) ∧ w = w' := by
 go_enter Tryz.func172, Tryz.ntmps172
 go_wp2_with fail
 refine (stableNone_any A c clo w).mono ?_
 rintro e w1 ⟨rfl, rfl⟩
 go_wp2
 go_end0
 exact ⟨rfl, rfl⟩
def SPost (f : Nat → Int) (lo g c n : Nat) (L : List Nat) (w : World) (e : Ending) (w' : World) : Prop :=
 e = .returned (.tuple #[]) ∧ w'.ownsRow lo 97 4 (.slice (some ⟨g, 0, none⟩) n c) n ((rowsOf f 4 L).map (Value.int .i64)) ∧ w.grownBy w' (some g)
theorem ins_any (f : Nat → Int) (cf : Nat → Nat → Int) (lo g c n clo : Nat) (L : List Nat) (w : World) (hown : w.ownsRow lo 97 4 (.slice (some ⟨g, 0, none⟩) n c) n ((rowsOf f 4 L).map (Value.int .i64))) (hn : n = L.length) (hn12 : n ≤ 12)
  (eg : ∀ args w, (callFunc clo args).run Tryz.prog w = .ok (.enter clo args) w) (hcmp : CmpLays Tryz.prog clo #[] (encS f) 4 cf g 0 n w) :
  Calls Tryz.prog 217 #[.slice (some ⟨g, 0, none⟩) n c, .int .i64 0, .int .i64 n, .func (.func clo) #[] #[]] w (SPost f lo g c n (isortL (fun p q => ltOf cf q p) L) w) := by
 have hs : L.toArray.size = n := by simp [hn]
 have h := AnyQ.insertionSortCmpFunc Tryz.insS 4 Tryz.isAgg97 Tryz.sizeOf97 (encS f) (fun _ => rfl) (fun x v hv => by simp [encS] at hv; rcases hv with rfl | rfl | rfl | rfl <;> rfl) cf clo #[] g 0 c 0 n L.toArray w eg (by rw [hs]; exact hcmp) (holdsK_of_row hown hn) (World.ownsRow.lt hown g rfl).2 (Nat.zero_le _) (by omega) (by rw [hs]; omega)
 rw [hs] at h
 refine h.mono ?_
 rintro e w' ⟨rfl, m, os, rfl⟩
 have e1 : Sort.insertionSort (ltOf cf) L.toArray 0 n = (isortL (fun p q => ltOf cf q p) L).toArray := by
  have := sort_list (ltOf cf) L.toArray
  rw [hs] at this
  rw [← this]
 rw [e1]
 exact ⟨rfl, row_of_sortK hown (by rw [isortL_length]; exact hn), grownBy_sortK _⟩
theorem stable_any (f : Nat → Int) (lo g c n clo : Nat) (L' : List Nat) (w : World) (hn12 : n ≤ 12)
  (hins : Calls Tryz.prog 217 #[.slice (some ⟨g, 0, none⟩) n c, .int .i64 0, .int .i64 n, .func (.func clo) #[] #[]] w (SPost f lo g c n L' w)) :
  Calls Tryz.prog 201 #[.slice (some ⟨g, 0, none⟩) n c, .int .i64 n, .func (.func clo) #[] #[]] w (SPost f lo g c n L' w) := by
 have h20 : ¬ ((20 : Int) ≤ (n : Int)) := by omega
 have h21 : ¬ ((20 : Int) < (n : Int)) := by omega
 go_enter Tryz.func201, Tryz.ntmps201
 go_wp2_with fail
 go_loop [7, 8] (fun a b => a = .int .i64 0 ∧ b = .int .i64 20) (fun _ _ => 0)
 case atStart => exact ⟨rfl, rfl⟩
 case round =>
  obtain ⟨rfl, rfl⟩ := hrel
  go_wp2_with fail
  refine hins.mono ?_
  rintro e w1 ⟨rfl, ho, hg⟩
  have HO := lh ho
  have HG := lh hg
  clear ho hg
  go_wp2_with fail
  go_loop [6, 7, 8, 9] (fun s a b m => s = .int .i64 20) (fun _ _ _ _ => 0)
  case atStart => rfl
  case round =>
   subst hrel
   go_wp2
   go_end0
   exact ⟨rfl, HO.out, HG.out⟩
theorem sortStable_any (f : Nat → Int) (lo g c n clo : Nat) (L' : List Nat) (w : World) (hn12 : n ≤ 12)
  (hins : Calls Tryz.prog 217 #[.slice (some ⟨g, 0, none⟩) n c, .int .i64 0, .int .i64 n, .func (.func clo) #[] #[]] w (SPost f lo g c n L' w)) :
  Calls Tryz.prog 172 #[.slice (some ⟨g, 0, none⟩) n c, .func (.func clo) #[] #[]] w (SPost f lo g c n L' w) := by
 have hst := stable_any f lo g c n clo L' w hn12 hins
 go_enter Tryz.func172, Tryz.ntmps172
 go_wp2_with fail
 refine hst.mono ?_
 rintro e w1 ⟨rfl, ho, hg⟩
 have HO := lh ho
 have HG := lh hg
 clear ho hg
 go_wp2
 go_end0
 exact ⟨rfl, HO.out, HG.out⟩
end Go.Proofs.YtpndjhelpoenpaaGreatDoor
