/-
  How much water must evaporate: the program's and the reference's return the same.
-/
import Derived.Test.YtjkockhldaacbaaDoorPk1
import Derived.Test.YtjkockhldaacbaaDoorWorksC
namespace Go.Proofs.YtjkockhldaacbaaDoor
open Go.RowKit
set_option linter.unusedVariables false
set_option linter.unusedSimpArgs false
attribute [local go_sem ↓] Go.wp_at_zero Go.wp_at_succ
def mayV (wt s : Int) : Bool := decide (wrap64 (260 * massV wt s) < wrap64 (1000 * s))
def dryN (wt s : Int) : Nat := (wt + s - (1000 * s - 1) / 260).toNat
theorem mayV_iff {wt s : Int} (h1 : -1000000 ≤ wt) (h2 : wt ≤ 1000000) (h3 : 0 ≤ s) (h4 : s ≤ 1000000) : mayV wt s = true ↔ 260 * (wt + s) < 1000 * s := by
  unfold mayV massV
  rw [IntWalk.wrap64_in (wt + s) ⟨by omega, by omega⟩, IntWalk.wrap64_in (260 * (wt + s)) ⟨by omega, by omega⟩, IntWalk.wrap64_in (1000 * s) ⟨by omega, by omega⟩]
  simp
theorem dry_le {wt s : Int} (h1 : 0 ≤ wt) (h2 : wt ≤ 1000000) (h3 : 0 < s) (h4 : s ≤ 1000000) : (dryN wt s : Int) ≤ wt + s := by unfold dryN; omega
theorem dry_step {wt s : Int} (h1 : 0 ≤ wt) (h2 : wt ≤ 1000000) (h3 : 0 < s) (h4 : s ≤ 1000000) {k : Nat} (hk : k ≤ dryN wt s) (hm : mayV (wt - k) s = false) : k < dryN wt s := by
  have hd := dry_le h1 h2 h3 h4
  have := mt (mayV_iff (wt := wt - k) (s := s) (by omega) (by omega) (by omega) h4).2 (by simp [hm])
  unfold dryN at *
  omega
theorem dry_done {wt s : Int} (h1 : 0 ≤ wt) (h2 : wt ≤ 1000000) (h3 : 0 < s) (h4 : s ≤ 1000000) {k : Nat} (hk : k ≤ dryN wt s) (hm : mayV (wt - k) s = true) : k = dryN wt s := by
  have hd := dry_le h1 h2 h3 h4
  have := (mayV_iff (wt := wt - k) (s := s) (by omega) (by omega) (by omega) h4).1 hm
  unfold dryN at *
  omega
def mostV (a b : Int) : Int := if b < a then a else b
theorem good_brine {f : Nat → Int} {n : Nat} {I H S P : Int} (hg : goodWorks f n I H S P = true) {j : Nat} (hj : j < n) : 0 ≤ f (j * 4 + 2) ∧ f (j * 4 + 2) ≤ 1000000 ∧ 0 ≤ f (j * 4 + 3) ∧ f (j * 4 + 3) ≤ 1000000 ∧ n ≤ 6 := by
  simp only [goodWorks, pansOk, Bool.and_eq_true, decide_eq_true_eq] at hg
  have h := allTo_at hj hg.1.1.1
  simp only [panStep, okPanAt, okPan, okBrine, inR, Bool.and_eq_true, decide_eq_true_eq] at h
  omega

theorem l1Most_any (a b : Int) (w : World) :
    Calls Tryd.prog 27 #[.int .i64 a, .int .i64 b] w fun e w' => e = .returned (.int .i64 (mostV a b)) ∧ w = w' := by
  by_cases h : b < a
  · go_enter Tryd.func27, Tryd.ntmps27
    go_wp2
    go_ret
    exact ⟨ret_int (by unfold mostV; rw [if_pos (by omega)]), rfl⟩
  · go_enter Tryd.func27, Tryd.ntmps27
    go_wp2
    go_ret
    exact ⟨ret_int (by unfold mostV; rw [if_neg (by omega)]), rfl⟩
set_option maxRecDepth 100000 in
theorem mayRake_any (wt s : Int) (w : World) :
    Calls Tryd.prog 24 #[.agg #[.int .i64 wt, .int .i64 s]] w fun e w' => e = .returned (.bool (mayV wt s)) ∧ Below w.heap.size w w' := by
  have HF : Hid (∀ w', Below (w.alloc (.cells #[.int .i64 wt, .int .i64 s] 46)).heap.size (w.alloc (.cells #[.int .i64 wt, .int .i64 s] 46)) w' → w'.cell? ⟨w.heap.size, 0, none⟩ = some (.int .i64 wt) ∧ w'.cell? ⟨w.heap.size, 1, none⟩ = some (.int .i64 s)) := fun w' hq => ⟨(hq.cell (p := ⟨w.heap.size, 0, none⟩) (by simp)).trans (by simp), (hq.cell (p := ⟨w.heap.size, 1, none⟩) (by simp)).trans (by simp)⟩
  go_enter Tryd.func24, Tryd.ntmps24
  go_wp2
  refine wp_region_held_drew (S := fun w' => Below ((w.alloc (.cells #[.int .i64 wt, .int .i64 s] 46))).heap.size ((w.alloc (.cells #[.int .i64 wt, .int .i64 s] 46))) w') (by kernel_rfl) ((Below.refl _ _).drew) (fun hHeld => ?_)
  refine tk (v := ?_) 0 3 HF rfl ?_ hHeld ?_
  rotate_left; · (intro _ _ _; go_simp; try with_reducible rfl)
  simp only [Act.put, p1, p2, p3]
  refine tk (v := ?_) 1 4 HF rfl ?_ hHeld ?_
  rotate_left; · (intro _ _ _; go_simp; try with_reducible rfl)
  simp only [Act.put, p1, p2, p3]
  refine tk (v := ?_) 2 5 HF rfl ?_ hHeld ?_
  rotate_left; · (intro _ _ _; go_simp; try with_reducible rfl)
  simp only [Act.put, p1, p2, p3]
  refine tk (v := ?_) 3 6 HF rfl ?_ hHeld ?_
  rotate_left; · (intro _ _ _; go_simp; try with_reducible rfl)
  simp only [Act.put, p1, p2, p3]
  refine wpAnyH_ready (rs := [4]) (by kernel_rfl) (by simp) ?_
  refine AllReadyH.cons rfl (fun K hK => ?_) AllReadyH.nil
  go_simp
  (go_at_call 33; refine (mass_any _ _ _).mono ?_; rintro e w2 ⟨rfl, hb2⟩)
  refine hK.out _ _ (hHeld.trans (hb2.mono hHeld.size)) (fun hHeld => ?_)
  clear hK K hb2
  refine tk (v := ?_) 5 8 HF rfl ?_ hHeld ?_
  rotate_left; · (intro _ _ _; go_simp; try with_reducible rfl)
  simp only [Act.put, p1, p2, p3]
  refine tk (v := ?_) 6 9 HF rfl ?_ hHeld ?_
  rotate_left; · (intro _ _ _; go_simp; try with_reducible rfl)
  simp only [Act.put, p1, p2, p3]
  refine tk (v := ?_) 7 2 HF rfl ?_ hHeld ?_
  rotate_left; · (intro _ _ _; go_simp; try with_reducible rfl)
  simp only [Act.put, p1, p2, p3]
  refine wpAnyH_done (by kernel_rfl) ?_ _
  go_wp2
  go_ret
  exact ⟨ret_bool (by simp only [mayV, ← IntWalk.i64_left]), ((Below.refl _ w).alloc (Nat.le_refl _) _).trans (hHeld.mono (by simp))⟩
set_option maxRecDepth 100000 in
theorem l25May_any (wt s : Int) (w : World) :
    Calls Tryd.prog 83 #[.agg #[.int .i64 wt, .int .i64 s]] w fun e w' => e = .returned (.bool (mayV wt s)) ∧ Below w.heap.size w w' := by
  have HF : Hid (∀ w', Below (w.alloc (.cells #[.int .i64 wt, .int .i64 s] 46)).heap.size (w.alloc (.cells #[.int .i64 wt, .int .i64 s] 46)) w' → w'.cell? ⟨w.heap.size, 0, none⟩ = some (.int .i64 wt) ∧ w'.cell? ⟨w.heap.size, 1, none⟩ = some (.int .i64 s)) := fun w' hq => ⟨(hq.cell (p := ⟨w.heap.size, 0, none⟩) (by simp)).trans (by simp), (hq.cell (p := ⟨w.heap.size, 1, none⟩) (by simp)).trans (by simp)⟩
  go_enter Tryd.func83, Tryd.ntmps83
  go_wp2
  refine wp_region_held_drew (S := fun w' => Below ((w.alloc (.cells #[.int .i64 wt, .int .i64 s] 46))).heap.size ((w.alloc (.cells #[.int .i64 wt, .int .i64 s] 46))) w') (by kernel_rfl) ((Below.refl _ _).drew) (fun hHeld => ?_)
  refine tk (v := ?_) 0 3 HF rfl ?_ hHeld ?_
  rotate_left; · (intro _ _ _; go_simp; try with_reducible rfl)
  simp only [Act.put, p1, p2, p3]
  refine tk (v := ?_) 1 4 HF rfl ?_ hHeld ?_
  rotate_left; · (intro _ _ _; go_simp; try with_reducible rfl)
  simp only [Act.put, p1, p2, p3]
  refine tk (v := ?_) 2 5 HF rfl ?_ hHeld ?_
  rotate_left; · (intro _ _ _; go_simp; try with_reducible rfl)
  simp only [Act.put, p1, p2, p3]
  refine tk (v := ?_) 3 6 HF rfl ?_ hHeld ?_
  rotate_left; · (intro _ _ _; go_simp; try with_reducible rfl)
  simp only [Act.put, p1, p2, p3]
  refine wpAnyH_ready (rs := [4]) (by kernel_rfl) (by simp) ?_
  refine AllReadyH.cons rfl (fun K hK => ?_) AllReadyH.nil
  go_simp
  (go_at_call 28; refine (l2Mass_any _ _ _).mono ?_; rintro e w2 ⟨rfl, hb2⟩)
  refine hK.out _ _ (hHeld.trans (hb2.mono hHeld.size)) (fun hHeld => ?_)
  clear hK K hb2
  refine tk (v := ?_) 5 8 HF rfl ?_ hHeld ?_
  rotate_left; · (intro _ _ _; go_simp; try with_reducible rfl)
  simp only [Act.put, p1, p2, p3]
  refine tk (v := ?_) 6 9 HF rfl ?_ hHeld ?_
  rotate_left; · (intro _ _ _; go_simp; try with_reducible rfl)
  simp only [Act.put, p1, p2, p3]
  refine tk (v := ?_) 7 2 HF rfl ?_ hHeld ?_
  rotate_left; · (intro _ _ _; go_simp; try with_reducible rfl)
  simp only [Act.put, p1, p2, p3]
  refine wpAnyH_done (by kernel_rfl) ?_ _
  go_wp2
  go_ret
  exact ⟨ret_bool (by simp only [mayV, ← IntWalk.i64_left]), ((Below.refl _ w).alloc (Nat.le_refl _) _).trans (hHeld.mono (by simp))⟩
theorem DryToRake_no (A : Option Addr) (n c lo hi : Nat) (f : Nat → Int) (I H S P : Int) (z : Int) (w : World) (hs : Sl w lo hi 4 A n f) (hn : n ≤ 1048576) (hnc : n ≤ c) (h : goodWorks f n I H S P = false ∨ findV (pid f) z n 0 = -1) :
    Calls Tryd.prog 6 #[.agg #[.slice A n c, .int .i64 I, .int .i64 H, .int .i64 S, .int .i64 P], .int .i64 z] w fun e w' => e = .returned (.tuple #[.int .i64 0, .bool false]) ∧ Below w.heap.size w w' := by
  have HS : Hid (Sl (w.alloc (.cells #[.slice A n c, .int .i64 I, .int .i64 H, .int .i64 S, .int .i64 P] 26)) lo hi 4 A n f) := hs.below ((Below.refl _ w).alloc (Nat.le_refl _) _)
  clear hs
  cases hg : goodWorks f n I H S P with
  | false =>
    clear h
    generalize hfd : findV (pid f) z n 0 = r
    go_enter Tryd.func6, Tryd.ntmps6
    go_wp2_with fail
    refine (panAt_any A n c lo hi f I H S P z _ HS.out hn hnc).mono ?_
    rw [hfd]
    rintro e w2 ⟨rfl, hb2⟩
    have b0 : w2.cell? ⟨w.heap.size, 0, none⟩ = some (.slice A n c) := (hb2.cell (p := ⟨w.heap.size, 0, none⟩) (by simp)).trans (by simp); have b1 : w2.cell? ⟨w.heap.size, 1, none⟩ = some (.int .i64 I) := (hb2.cell (p := ⟨w.heap.size, 1, none⟩) (by simp)).trans (by simp); have b2 : w2.cell? ⟨w.heap.size, 2, none⟩ = some (.int .i64 H) := (hb2.cell (p := ⟨w.heap.size, 2, none⟩) (by simp)).trans (by simp); have b3 : w2.cell? ⟨w.heap.size, 3, none⟩ = some (.int .i64 S) := (hb2.cell (p := ⟨w.heap.size, 3, none⟩) (by simp)).trans (by simp); have b4 : w2.cell? ⟨w.heap.size, 4, none⟩ = some (.int .i64 P) := (hb2.cell (p := ⟨w.heap.size, 4, none⟩) (by simp)).trans (by simp)
    have HS2 := HS.out.below hb2
    go_wp2_with fail
    refine (isWorks_any A n c lo hi f I H S P _ HS2 hn hnc).mono ?_
    rw [hg]
    rintro e w3 ⟨rfl, hb3⟩
    have B3 := below_of hb2 hb3 hb2.size
    clear b0 b1 b2 b3 b4 HS2 hb2 hb3
    go_wp2
    go_ret2
    exact ⟨rfl, ((Below.refl _ w).alloc (Nat.le_refl _) _).trans (B3.mono (by simp))⟩
  | true =>
    have hfd : findV (pid f) z n 0 = -1 := by simpa [hg] using h
    clear h
    go_enter Tryd.func6, Tryd.ntmps6
    go_wp2_with fail
    refine (panAt_any A n c lo hi f I H S P z _ HS.out hn hnc).mono ?_
    rw [hfd]
    rintro e w2 ⟨rfl, hb2⟩
    have b0 : w2.cell? ⟨w.heap.size, 0, none⟩ = some (.slice A n c) := (hb2.cell (p := ⟨w.heap.size, 0, none⟩) (by simp)).trans (by simp); have b1 : w2.cell? ⟨w.heap.size, 1, none⟩ = some (.int .i64 I) := (hb2.cell (p := ⟨w.heap.size, 1, none⟩) (by simp)).trans (by simp); have b2 : w2.cell? ⟨w.heap.size, 2, none⟩ = some (.int .i64 H) := (hb2.cell (p := ⟨w.heap.size, 2, none⟩) (by simp)).trans (by simp); have b3 : w2.cell? ⟨w.heap.size, 3, none⟩ = some (.int .i64 S) := (hb2.cell (p := ⟨w.heap.size, 3, none⟩) (by simp)).trans (by simp); have b4 : w2.cell? ⟨w.heap.size, 4, none⟩ = some (.int .i64 P) := (hb2.cell (p := ⟨w.heap.size, 4, none⟩) (by simp)).trans (by simp)
    have HS2 := HS.out.below hb2
    go_wp2_with fail
    refine (isWorks_any A n c lo hi f I H S P _ HS2 hn hnc).mono ?_
    rw [hg]
    rintro e w3 ⟨rfl, hb3⟩
    have B3 := below_of hb2 hb3 hb2.size
    clear b0 b1 b2 b3 b4 HS2 hb2 hb3
    go_wp2
    go_ret2
    exact ⟨rfl, ((Below.refl _ w).alloc (Nat.le_refl _) _).trans (B3.mono (by simp))⟩
theorem DryToRake_zero (A : Option Addr) (n c lo hi : Nat) (f : Nat → Int) (I H S P : Int) (z : Int) (w : World) (hs : Sl w lo hi 4 A n f) (hn : n ≤ 1048576) (hnc : n ≤ c) (hg : goodWorks f n I H S P = true) (j : Nat) (hj : j < n) (hfd : findV (pid f) z n 0 = (j : Int)) (hz : f (j * 4 + 3) = 0) :
    Calls Tryd.prog 6 #[.agg #[.slice A n c, .int .i64 I, .int .i64 H, .int .i64 S, .int .i64 P], .int .i64 z] w fun e w' => e = .returned (.tuple #[.int .i64 0, .bool false]) ∧ Below w.heap.size w w' := by
  have HS : Hid (Sl (w.alloc (.cells #[.slice A n c, .int .i64 I, .int .i64 H, .int .i64 S, .int .i64 P] 26)) lo hi 4 A n f) := hs.below ((Below.refl _ w).alloc (Nat.le_refl _) _)
  clear hs
  have hj0 : ¬ ((j : Int) < 0) := by omega
  have hk0i : (0 : Int) ≤ (j : Int) := by omega
  have hkni : (j : Int) < (n : Int) := by omega
  · skip
    go_enter Tryd.func6, Tryd.ntmps6
    go_wp2_with fail
    refine (panAt_any A n c lo hi f I H S P z _ HS.out hn hnc).mono ?_
    rw [hfd]
    rintro e w2 ⟨rfl, hb2⟩
    have b0 : w2.cell? ⟨w.heap.size, 0, none⟩ = some (.slice A n c) := (hb2.cell (p := ⟨w.heap.size, 0, none⟩) (by simp)).trans (by simp); have b1 : w2.cell? ⟨w.heap.size, 1, none⟩ = some (.int .i64 I) := (hb2.cell (p := ⟨w.heap.size, 1, none⟩) (by simp)).trans (by simp); have b2 : w2.cell? ⟨w.heap.size, 2, none⟩ = some (.int .i64 H) := (hb2.cell (p := ⟨w.heap.size, 2, none⟩) (by simp)).trans (by simp); have b3 : w2.cell? ⟨w.heap.size, 3, none⟩ = some (.int .i64 S) := (hb2.cell (p := ⟨w.heap.size, 3, none⟩) (by simp)).trans (by simp); have b4 : w2.cell? ⟨w.heap.size, 4, none⟩ = some (.int .i64 P) := (hb2.cell (p := ⟨w.heap.size, 4, none⟩) (by simp)).trans (by simp)
    have HS2 := HS.out.below hb2
    go_wp2_with fail
    refine (isWorks_any A n c lo hi f I H S P _ HS2 hn hnc).mono ?_
    rw [hg]
    rintro e w3 ⟨rfl, hb3⟩
    have B3 := below_of hb2 hb3 hb2.size
    clear b0 b1 b2 b3 b4 HS2 hb2 hb3
    have b0 : w3.cell? ⟨w.heap.size, 0, none⟩ = some (.slice A n c) := (B3.cell (p := ⟨w.heap.size, 0, none⟩) (by simp)).trans (by simp)
    obtain ⟨b, off, rfl, hbw, HC⟩ := HS.out.open_ B3 (by omega)
    obtain ⟨c0, c1, c2, c3⟩ := cell4 HC hj
    clear HC HS
    rw [hz] at c3
    go_wp2
    go_ret2
    exact ⟨rfl, ((Below.refl _ w).alloc (Nat.le_refl _) _).trans (B3.mono (by simp))⟩
set_option maxRecDepth 100000 in
set_option maxHeartbeats 1000000 in
theorem DryToRake_yes (A : Option Addr) (n c lo hi : Nat) (f : Nat → Int) (I H S P : Int) (z : Int) (w : World) (hs : Sl w lo hi 4 A n f) (hn : n ≤ 1048576) (hnc : n ≤ c) (hg : goodWorks f n I H S P = true) (j : Nat) (hj : j < n) (hfd : findV (pid f) z n 0 = (j : Int)) (hz : f (j * 4 + 3) ≠ 0) :
    Calls Tryd.prog 6 #[.agg #[.slice A n c, .int .i64 I, .int .i64 H, .int .i64 S, .int .i64 P], .int .i64 z] w fun e w' => e = .returned (.tuple #[.int .i64 (dryN (f (j * 4 + 2)) (f (j * 4 + 3)) : Int), .bool true]) ∧ Below w.heap.size w w' := by
  have HS : Hid (Sl (w.alloc (.cells #[.slice A n c, .int .i64 I, .int .i64 H, .int .i64 S, .int .i64 P] 26)) lo hi 4 A n f) := hs.below ((Below.refl _ w).alloc (Nat.le_refl _) _)
  clear hs
  have hj0 : ¬ ((j : Int) < 0) := by omega
  have hk0i : (0 : Int) ≤ (j : Int) := by omega
  have hkni : (j : Int) < (n : Int) := by omega
  have hzb : (f (j * 4 + 3) == 0) = false := by simpa using hz
  obtain ⟨g1, g2, g3, g4, _⟩ := good_brine hg hj
  · skip
    go_enter Tryd.func6, Tryd.ntmps6
    go_wp2_with fail
    refine (panAt_any A n c lo hi f I H S P z _ HS.out hn hnc).mono ?_
    rw [hfd]
    rintro e w2 ⟨rfl, hb2⟩
    have b0 : w2.cell? ⟨w.heap.size, 0, none⟩ = some (.slice A n c) := (hb2.cell (p := ⟨w.heap.size, 0, none⟩) (by simp)).trans (by simp); have b1 : w2.cell? ⟨w.heap.size, 1, none⟩ = some (.int .i64 I) := (hb2.cell (p := ⟨w.heap.size, 1, none⟩) (by simp)).trans (by simp); have b2 : w2.cell? ⟨w.heap.size, 2, none⟩ = some (.int .i64 H) := (hb2.cell (p := ⟨w.heap.size, 2, none⟩) (by simp)).trans (by simp); have b3 : w2.cell? ⟨w.heap.size, 3, none⟩ = some (.int .i64 S) := (hb2.cell (p := ⟨w.heap.size, 3, none⟩) (by simp)).trans (by simp); have b4 : w2.cell? ⟨w.heap.size, 4, none⟩ = some (.int .i64 P) := (hb2.cell (p := ⟨w.heap.size, 4, none⟩) (by simp)).trans (by simp)
    have HS2 := HS.out.below hb2
    go_wp2_with fail
    refine (isWorks_any A n c lo hi f I H S P _ HS2 hn hnc).mono ?_
    rw [hg]
    rintro e w3 ⟨rfl, hb3⟩
    have B3 := below_of hb2 hb3 hb2.size
    clear b0 b1 b2 b3 b4 HS2 hb2 hb3
    have b0 : w3.cell? ⟨w.heap.size, 0, none⟩ = some (.slice A n c) := (B3.cell (p := ⟨w.heap.size, 0, none⟩) (by simp)).trans (by simp)
    obtain ⟨b, off, rfl, hbw, HC⟩ := HS.out.open_ B3 (by omega)
    obtain ⟨c0, c1, c2, c3⟩ := cell4 HC hj
    clear HC HS
    go_wp2
    go_loopw [8] (fun i wr => ∃ k : Nat, k ≤ dryN (f (j * 4 + 2)) (f (j * 4 + 3)) ∧ i = .int .i64 k ∧ Below (w3.alloc (.cells #[.int .i64 (f (j * 4 + 2)), .int .i64 (f (j * 4 + 3))] 46)).heap.size (w3.alloc (.cells #[.int .i64 (f (j * 4 + 2)), .int .i64 (f (j * 4 + 3))] 46)) wr) (fun i _ => dryN (f (j * 4 + 2)) (f (j * 4 + 3)) - (intOf i).toNat)
    case atStart => exact ⟨0, Nat.zero_le _, rfl, Below.refl _ _⟩
    case round =>
      obtain ⟨k, hk, rfl, hbel⟩ := hrel
      have d0 : wr.cell? ⟨w3.heap.size, 0, none⟩ = some (.int .i64 (f (j * 4 + 2))) := (hbel.cell (p := ⟨w3.heap.size, 0, none⟩) (by simp)).trans (by simp)
      have d1 : wr.cell? ⟨w3.heap.size, 1, none⟩ = some (.int .i64 (f (j * 4 + 3))) := (hbel.cell (p := ⟨w3.heap.size, 1, none⟩) (by simp)).trans (by simp)
      have hdl := dry_le g1 g2 (by omega : 0 < (f (j * 4 + 3))) g4
      have hwk : IntKind.i64.wrap ((f (j * 4 + 2)) - k) = (f (j * 4 + 2)) - k := IntWalk.i64_in _ (by omega)
      have hwk2 : wrap64 ((f (j * 4 + 2)) - k) = (f (j * 4 + 2)) - k := IntWalk.wrap64_in _ (by omega)
      have BR : Below w3.heap.size w3 wr := ((Below.refl _ w3).alloc (Nat.le_refl _) _).trans (hbel.mono (by simp))
      cases hm : mayV ((f (j * 4 + 2)) - k) (f (j * 4 + 3)) with
      | false =>
        have hlt := dry_step g1 g2 (by omega : 0 < (f (j * 4 + 3))) g4 hk hm
        go_wp2_with (go_at_call 24; refine (mayRake_any _ _ _).mono ?_; rintro e w2 ⟨rfl, hb2⟩)
        go_roundw
        case rel => exact ⟨k + 1, by omega, by go_num, below_of hbel hb2 hbel.size⟩
        case measure => simp [intOf]; omega
      | true =>
        have hlt : Hid (k = dryN (f (j * 4 + 2)) (f (j * 4 + 3))) := dry_done g1 g2 (by omega : 0 < (f (j * 4 + 3))) g4 hk hm
        go_wp2_with (go_at_call 24; refine (mayRake_any _ _ _).mono ?_; rintro e w2 ⟨rfl, hb2⟩)
        go_returns
        exact ⟨by rw [← hlt.out]; rfl, ((Below.refl _ w).alloc (Nat.le_refl _) _).trans ((below_of B3 (below_of BR hb2 BR.size) B3.size).mono (by simp))⟩
theorem specDryToRake_no (A : Option Addr) (n c lo hi : Nat) (f : Nat → Int) (I H S P : Int) (z : Int) (w : World) (hs : Sl w lo hi 4 A n f) (hn : n ≤ 1048576) (hnc : n ≤ c) (h : goodWorks f n I H S P = false ∨ findV (pid f) z n 0 = -1) :
    Calls Tryd.prog 7 #[.agg #[.slice A n c, .int .i64 I, .int .i64 H, .int .i64 S, .int .i64 P], .int .i64 z] w fun e w' => e = .returned (.tuple #[.int .i64 0, .bool false]) ∧ Below w.heap.size w w' := by
  have HS : Hid (Sl (w.alloc (.cells #[.slice A n c, .int .i64 I, .int .i64 H, .int .i64 S, .int .i64 P] 26)) lo hi 4 A n f) := hs.below ((Below.refl _ w).alloc (Nat.le_refl _) _)
  clear hs
  cases hg : goodWorks f n I H S P with
  | false =>
    clear h
    generalize hfd : findV (pid f) z n 0 = r
    go_enter Tryd.func7, Tryd.ntmps7
    go_wp2_with fail
    refine (l25Find_any A n c lo hi f I H S P z _ HS.out hn hnc).mono ?_
    rw [hfd]
    rintro e w2 ⟨rfl, hb2⟩
    have b0 : w2.cell? ⟨w.heap.size, 0, none⟩ = some (.slice A n c) := (hb2.cell (p := ⟨w.heap.size, 0, none⟩) (by simp)).trans (by simp); have b1 : w2.cell? ⟨w.heap.size, 1, none⟩ = some (.int .i64 I) := (hb2.cell (p := ⟨w.heap.size, 1, none⟩) (by simp)).trans (by simp); have b2 : w2.cell? ⟨w.heap.size, 2, none⟩ = some (.int .i64 H) := (hb2.cell (p := ⟨w.heap.size, 2, none⟩) (by simp)).trans (by simp); have b3 : w2.cell? ⟨w.heap.size, 3, none⟩ = some (.int .i64 S) := (hb2.cell (p := ⟨w.heap.size, 3, none⟩) (by simp)).trans (by simp); have b4 : w2.cell? ⟨w.heap.size, 4, none⟩ = some (.int .i64 P) := (hb2.cell (p := ⟨w.heap.size, 4, none⟩) (by simp)).trans (by simp)
    have HS2 := HS.out.below hb2
    go_wp2_with fail
    refine (l25Good_any A n c lo hi f I H S P _ HS2 hn hnc).mono ?_
    rw [hg]
    rintro e w3 ⟨rfl, hb3⟩
    have B3 := below_of hb2 hb3 hb2.size
    clear b0 b1 b2 b3 b4 HS2 hb2 hb3
    go_wp2
    go_ret2
    exact ⟨rfl, ((Below.refl _ w).alloc (Nat.le_refl _) _).trans (B3.mono (by simp))⟩
  | true =>
    have hfd : findV (pid f) z n 0 = -1 := by simpa [hg] using h
    clear h
    go_enter Tryd.func7, Tryd.ntmps7
    go_wp2_with fail
    refine (l25Find_any A n c lo hi f I H S P z _ HS.out hn hnc).mono ?_
    rw [hfd]
    rintro e w2 ⟨rfl, hb2⟩
    have b0 : w2.cell? ⟨w.heap.size, 0, none⟩ = some (.slice A n c) := (hb2.cell (p := ⟨w.heap.size, 0, none⟩) (by simp)).trans (by simp); have b1 : w2.cell? ⟨w.heap.size, 1, none⟩ = some (.int .i64 I) := (hb2.cell (p := ⟨w.heap.size, 1, none⟩) (by simp)).trans (by simp); have b2 : w2.cell? ⟨w.heap.size, 2, none⟩ = some (.int .i64 H) := (hb2.cell (p := ⟨w.heap.size, 2, none⟩) (by simp)).trans (by simp); have b3 : w2.cell? ⟨w.heap.size, 3, none⟩ = some (.int .i64 S) := (hb2.cell (p := ⟨w.heap.size, 3, none⟩) (by simp)).trans (by simp); have b4 : w2.cell? ⟨w.heap.size, 4, none⟩ = some (.int .i64 P) := (hb2.cell (p := ⟨w.heap.size, 4, none⟩) (by simp)).trans (by simp)
    have HS2 := HS.out.below hb2
    go_wp2_with fail
    refine (l25Good_any A n c lo hi f I H S P _ HS2 hn hnc).mono ?_
    rw [hg]
    rintro e w3 ⟨rfl, hb3⟩
    have B3 := below_of hb2 hb3 hb2.size
    clear b0 b1 b2 b3 b4 HS2 hb2 hb3
    go_wp2
    go_ret2
    exact ⟨rfl, ((Below.refl _ w).alloc (Nat.le_refl _) _).trans (B3.mono (by simp))⟩
theorem specDryToRake_zero (A : Option Addr) (n c lo hi : Nat) (f : Nat → Int) (I H S P : Int) (z : Int) (w : World) (hs : Sl w lo hi 4 A n f) (hn : n ≤ 1048576) (hnc : n ≤ c) (hg : goodWorks f n I H S P = true) (j : Nat) (hj : j < n) (hfd : findV (pid f) z n 0 = (j : Int)) (hz : f (j * 4 + 3) = 0) :
    Calls Tryd.prog 7 #[.agg #[.slice A n c, .int .i64 I, .int .i64 H, .int .i64 S, .int .i64 P], .int .i64 z] w fun e w' => e = .returned (.tuple #[.int .i64 0, .bool false]) ∧ Below w.heap.size w w' := by
  have HS : Hid (Sl (w.alloc (.cells #[.slice A n c, .int .i64 I, .int .i64 H, .int .i64 S, .int .i64 P] 26)) lo hi 4 A n f) := hs.below ((Below.refl _ w).alloc (Nat.le_refl _) _)
  clear hs
  have hj0 : ¬ ((j : Int) < 0) := by omega
  have hk0i : (0 : Int) ≤ (j : Int) := by omega
  have hkni : (j : Int) < (n : Int) := by omega
  · skip
    go_enter Tryd.func7, Tryd.ntmps7
    go_wp2_with fail
    refine (l25Find_any A n c lo hi f I H S P z _ HS.out hn hnc).mono ?_
    rw [hfd]
    rintro e w2 ⟨rfl, hb2⟩
    have b0 : w2.cell? ⟨w.heap.size, 0, none⟩ = some (.slice A n c) := (hb2.cell (p := ⟨w.heap.size, 0, none⟩) (by simp)).trans (by simp); have b1 : w2.cell? ⟨w.heap.size, 1, none⟩ = some (.int .i64 I) := (hb2.cell (p := ⟨w.heap.size, 1, none⟩) (by simp)).trans (by simp); have b2 : w2.cell? ⟨w.heap.size, 2, none⟩ = some (.int .i64 H) := (hb2.cell (p := ⟨w.heap.size, 2, none⟩) (by simp)).trans (by simp); have b3 : w2.cell? ⟨w.heap.size, 3, none⟩ = some (.int .i64 S) := (hb2.cell (p := ⟨w.heap.size, 3, none⟩) (by simp)).trans (by simp); have b4 : w2.cell? ⟨w.heap.size, 4, none⟩ = some (.int .i64 P) := (hb2.cell (p := ⟨w.heap.size, 4, none⟩) (by simp)).trans (by simp)
    have HS2 := HS.out.below hb2
    go_wp2_with fail
    refine (l25Good_any A n c lo hi f I H S P _ HS2 hn hnc).mono ?_
    rw [hg]
    rintro e w3 ⟨rfl, hb3⟩
    have B3 := below_of hb2 hb3 hb2.size
    clear b0 b1 b2 b3 b4 HS2 hb2 hb3
    have b0 : w3.cell? ⟨w.heap.size, 0, none⟩ = some (.slice A n c) := (B3.cell (p := ⟨w.heap.size, 0, none⟩) (by simp)).trans (by simp)
    obtain ⟨b, off, rfl, hbw, HC⟩ := HS.out.open_ B3 (by omega)
    obtain ⟨c0, c1, c2, c3⟩ := cell4 HC hj
    clear HC HS
    rw [hz] at c3
    go_wp2
    go_ret2
    exact ⟨rfl, ((Below.refl _ w).alloc (Nat.le_refl _) _).trans (B3.mono (by simp))⟩
set_option maxRecDepth 100000 in
set_option maxHeartbeats 1000000 in
theorem specDryToRake_yes (A : Option Addr) (n c lo hi : Nat) (f : Nat → Int) (I H S P : Int) (z : Int) (w : World) (hs : Sl w lo hi 4 A n f) (hn : n ≤ 1048576) (hnc : n ≤ c) (hg : goodWorks f n I H S P = true) (j : Nat) (hj : j < n) (hfd : findV (pid f) z n 0 = (j : Int)) (hz : f (j * 4 + 3) ≠ 0) :
    Calls Tryd.prog 7 #[.agg #[.slice A n c, .int .i64 I, .int .i64 H, .int .i64 S, .int .i64 P], .int .i64 z] w fun e w' => e = .returned (.tuple #[.int .i64 (dryN (f (j * 4 + 2)) (f (j * 4 + 3)) : Int), .bool true]) ∧ Below w.heap.size w w' := by
  have HS : Hid (Sl (w.alloc (.cells #[.slice A n c, .int .i64 I, .int .i64 H, .int .i64 S, .int .i64 P] 26)) lo hi 4 A n f) := hs.below ((Below.refl _ w).alloc (Nat.le_refl _) _)
  clear hs
  have hj0 : ¬ ((j : Int) < 0) := by omega
  have hk0i : (0 : Int) ≤ (j : Int) := by omega
  have hkni : (j : Int) < (n : Int) := by omega
  have hzb : (f (j * 4 + 3) == 0) = false := by simpa using hz
  obtain ⟨g1, g2, g3, g4, _⟩ := good_brine hg hj
  have hv : Hid (mostV 0 (IntKind.i64.wrap (massV (f (j * 4 + 2)) (f (j * 4 + 3)) - IntKind.i64.wrap ((IntKind.i64.wrap (IntKind.i64.wrap (1000 * f (j * 4 + 3)) - 1)).tdiv 260))) = (dryN (f (j * 4 + 2)) (f (j * 4 + 3)) : Int)) := by
    unfold massV dryN
    simp only [IntWalk.i64_left]
    rw [IntWalk.wrap64_in (1000 * f (j * 4 + 3)) ⟨by omega, by omega⟩, IntWalk.wrap64_in (f (j * 4 + 2) + f (j * 4 + 3)) ⟨by omega, by omega⟩, IntWalk.wrap64_in (1000 * f (j * 4 + 3) - 1) ⟨by omega, by omega⟩]
    rw [Int.tdiv_eq_ediv_of_nonneg (by omega)]
    rw [IntWalk.wrap64_in ((1000 * f (j * 4 + 3) - 1) / 260) ⟨by omega, by omega⟩]
    rw [IntWalk.wrap64_in _ ⟨by omega, by omega⟩]
    unfold mostV Hid
    split <;> omega
  · skip
    go_enter Tryd.func7, Tryd.ntmps7
    go_wp2_with fail
    refine (l25Find_any A n c lo hi f I H S P z _ HS.out hn hnc).mono ?_
    rw [hfd]
    rintro e w2 ⟨rfl, hb2⟩
    have b0 : w2.cell? ⟨w.heap.size, 0, none⟩ = some (.slice A n c) := (hb2.cell (p := ⟨w.heap.size, 0, none⟩) (by simp)).trans (by simp); have b1 : w2.cell? ⟨w.heap.size, 1, none⟩ = some (.int .i64 I) := (hb2.cell (p := ⟨w.heap.size, 1, none⟩) (by simp)).trans (by simp); have b2 : w2.cell? ⟨w.heap.size, 2, none⟩ = some (.int .i64 H) := (hb2.cell (p := ⟨w.heap.size, 2, none⟩) (by simp)).trans (by simp); have b3 : w2.cell? ⟨w.heap.size, 3, none⟩ = some (.int .i64 S) := (hb2.cell (p := ⟨w.heap.size, 3, none⟩) (by simp)).trans (by simp); have b4 : w2.cell? ⟨w.heap.size, 4, none⟩ = some (.int .i64 P) := (hb2.cell (p := ⟨w.heap.size, 4, none⟩) (by simp)).trans (by simp)
    have HS2 := HS.out.below hb2
    go_wp2_with fail
    refine (l25Good_any A n c lo hi f I H S P _ HS2 hn hnc).mono ?_
    rw [hg]
    rintro e w3 ⟨rfl, hb3⟩
    have B3 := below_of hb2 hb3 hb2.size
    clear b0 b1 b2 b3 b4 HS2 hb2 hb3
    have b0 : w3.cell? ⟨w.heap.size, 0, none⟩ = some (.slice A n c) := (B3.cell (p := ⟨w.heap.size, 0, none⟩) (by simp)).trans (by simp)
    obtain ⟨b, off, rfl, hbw, HC⟩ := HS.out.open_ B3 (by omega)
    obtain ⟨c0, c1, c2, c3⟩ := cell4 HC hj
    clear HC HS
    have HF : Hid (∀ w', Below (w3.alloc (.cells #[.int .i64 (f (j * 4 + 2)), .int .i64 (f (j * 4 + 3))] 46)).heap.size (w3.alloc (.cells #[.int .i64 (f (j * 4 + 2)), .int .i64 (f (j * 4 + 3))] 46)) w' → w'.cell? ⟨w3.heap.size, 0, none⟩ = some (.int .i64 (f (j * 4 + 2))) ∧ w'.cell? ⟨w3.heap.size, 1, none⟩ = some (.int .i64 (f (j * 4 + 3)))) := fun w' hq => ⟨(hq.cell (p := ⟨w3.heap.size, 0, none⟩) (by simp)).trans (by simp), (hq.cell (p := ⟨w3.heap.size, 1, none⟩) (by simp)).trans (by simp)⟩
    go_wp2
    refine wp_region_held_drew (S := fun w' => Below ((w3.alloc (.cells #[.int .i64 (f (j * 4 + 2)), .int .i64 (f (j * 4 + 3))] 46))).heap.size ((w3.alloc (.cells #[.int .i64 (f (j * 4 + 2)), .int .i64 (f (j * 4 + 3))] 46))) w') (by kernel_rfl) ((Below.refl _ _).drew) (fun hHeld => ?_)
    refine tk (v := ?_) 0 34 HF rfl ?_ hHeld ?_
    rotate_left; · (intro _ _ _; go_simp; try with_reducible rfl)
    simp only [Act.put, p1, p2, p3]
    refine tk (v := ?_) 2 36 HF rfl ?_ hHeld ?_
    rotate_left; · (intro _ _ _; go_simp; try with_reducible rfl)
    simp only [Act.put, p1, p2, p3]
    refine tk (v := ?_) 3 37 HF rfl ?_ hHeld ?_
    rotate_left; · (intro _ _ _; go_simp; try with_reducible rfl)
    simp only [Act.put, p1, p2, p3]
    refine tk (v := ?_) 4 38 HF rfl ?_ hHeld ?_
    rotate_left; · (intro _ _ _; go_simp; try with_reducible rfl)
    simp only [Act.put, p1, p2, p3]
    refine tk (v := ?_) 5 39 HF rfl ?_ hHeld ?_
    rotate_left; · (intro _ _ _; go_simp; try with_reducible rfl)
    simp only [Act.put, p1, p2, p3]
    refine tk (v := ?_) 6 40 HF rfl ?_ hHeld ?_
    rotate_left; · (intro _ _ _; go_simp; try with_reducible rfl)
    simp only [Act.put, p1, p2, p3]
    refine wpAnyH_ready (rs := [1]) (by kernel_rfl) (by simp) ?_
    refine AllReadyH.cons rfl (fun K hK => ?_) AllReadyH.nil
    go_simp
    (go_at_call 28; refine (l2Mass_any _ _ _).mono ?_; rintro e w2 ⟨rfl, hb2⟩)
    refine hK.out _ _ (hHeld.trans (hb2.mono hHeld.size)) (fun hHeld => ?_)
    clear hK K hb2
    refine tk (v := ?_) 7 41 HF rfl ?_ hHeld ?_
    rotate_left; · (intro _ _ _; go_simp; try with_reducible rfl)
    simp only [Act.put, p1, p2, p3]
    refine wpAnyH_ready (rs := [8]) (by kernel_rfl) (by simp) ?_
    refine AllReadyH.cons rfl (fun K hK => ?_) AllReadyH.nil
    go_simp
    (go_at_call 27; refine (quiet_below (l1Most_any _ _ _)).mono ?_; rintro e w2 ⟨rfl, hb2⟩)
    refine hK.out _ _ (hHeld.trans (hb2.mono hHeld.size)) (fun hHeld => ?_)
    clear hK K hb2
    refine tk (v := ?_) 9 4 HF rfl ?_ hHeld ?_
    rotate_left; · (intro _ _ _; go_simp; try with_reducible rfl)
    simp only [Act.put, p1, p2, p3]
    refine tk (v := ?_) 10 5 HF rfl ?_ hHeld ?_
    rotate_left; · (intro _ _ _; go_simp; try with_reducible rfl)
    simp only [Act.put, p1, p2, p3]
    refine wpAnyH_done (by kernel_rfl) ?_ _
    go_wp2
    go_ret2
    exact ⟨by rw [← hv.out]; rfl, ((Below.refl _ w).alloc (Nat.le_refl _) _).trans ((below_of B3 (((Below.refl _ w3).alloc (Nat.le_refl _) _).trans (hHeld.mono (by simp))) B3.size).mono (by simp))⟩
end Go.Proofs.YtjkockhldaacbaaDoor
