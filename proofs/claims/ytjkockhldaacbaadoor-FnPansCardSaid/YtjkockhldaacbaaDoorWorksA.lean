/-
  The tests of works and the salt in all pans: the program's and the reference's return the same.
-/
import Derived.Test.YtjkockhldaacbaaDoorPk1
import Derived.Test.YtjkockhldaacbaaDoorProg
import Derived.Test.YtjkockhldaacbaaDoorMem
import Derived.Test.YtjkockhldaacbaaDoorPk2
import Derived.BigGuardPart
import Derived.Handy
import Derived.Deep.RegionWith
import Derived.Deep.RegionHeld3
import Derived.Deep.DrawnRows
namespace Go.Proofs.YtjkockhldaacbaaDoor
open Go.RowKit
set_option linter.unusedVariables false
set_option linter.unusedSimpArgs false
attribute [local go_sem ↓] Go.wp_at_zero Go.wp_at_succ

theorem quiet_below {P : Program} {g : FuncId} {args : Array Value} {w : World} {v : Value} (h : Calls P g args w fun e w' => e = .returned v ∧ w = w') :
    Calls P g args w fun e w' => e = .returned v ∧ Below w.heap.size w w' := h.mono fun e w' ⟨he, hw⟩ => ⟨he, hw ▸ Below.refl _ _⟩
theorem Hid.and_ {α : Type} {Q R S : α → Prop} (h : Hid (∀ x, Q x → R x)) (h2 : ∀ x, Q x → S x) : Hid (∀ x, Q x → S x ∧ R x) := fun x hx => ⟨h2 x hx, h.out x hx⟩
def massV (wt s : Int) : Int := wrap64 (wt + s)
def okBrine (wt s : Int) : Bool := inR wt 0 1000000 && inR s 0 1000000
def okPan (i h wt s : Int) : Bool := inR i 1 99 && inR h 1 100000 && okBrine wt s && decide (massV wt s ≤ h)
def okPanAt (f : Nat → Int) (k : Nat) : Bool := okPan (f (k * 4)) (f (k * 4 + 1)) (f (k * 4 + 2)) (f (k * 4 + 3))
def panStep (f : Nat → Int) (k : Nat) : Bool := okPanAt f k && (decide (k = 0) || decide (f ((k - 1) * 4) < f (k * 4)))
def pansOk (f : Nat → Int) (n : Nat) : Bool := allTo (panStep f) n && decide (n ≤ 6)
theorem pansOk_no {f : Nat → Int} {n k : Nat} (hk : k < n) (h : panStep f k = false) : pansOk f n = false := by simp [pansOk, allTo_false hk h]
def sumW (g : Nat → Int) : Nat → Int
  | 0 => 0
  | k + 1 => wrap64 (sumW g k + g k)
def saltAt (f : Nat → Int) (k : Nat) : Int := f (k * 4 + 3)
def totalV (f : Nat → Int) (n : Nat) (H S P : Int) : Int := wrap64 (wrap64 (wrap64 (sumW (saltAt f) n + H) + S) + P)
def kilosOk (I H S P : Int) : Bool := inR I 0 1000000 && inR H 0 1000000 && inR S 0 1000000 && inR P 0 1000000
def goodWorks (f : Nat → Int) (n : Nat) (I H S P : Int) : Bool := pansOk f n && kilosOk I H S P && decide (I = totalV f n H S P)

theorem IsBrine_any (wt s : Int) (w : World) :
    Calls Tryd.prog 51 #[.agg #[.int .i64 wt, .int .i64 s]] w fun e w' => e = .returned (.bool (okBrine wt s)) ∧ Below w.heap.size w w' := by
  cases h1 : inR wt 0 1000000 <;> cases h2 : inR s 0 1000000
  all_goals
    go_enter Tryd.func51, Tryd.ntmps51
    go_wp2_with (go_at_call 29; refine (within_any _ _ _ _).mono ?_; rintro e w2 ⟨rfl, rfl⟩)
    go_ret
    exact ⟨ret_bool (by simp [okBrine, h1, h2]), by go_grown⟩
theorem l2Brine_any (wt s : Int) (w : World) :
    Calls Tryd.prog 72 #[.agg #[.int .i64 wt, .int .i64 s]] w fun e w' => e = .returned (.bool (okBrine wt s)) ∧ Below w.heap.size w w' := by
  cases h1 : inR wt 0 1000000 <;> cases h2 : inR s 0 1000000
  all_goals
    go_enter Tryd.func72, Tryd.ntmps72
    go_wp2_with (go_at_call 71; refine (l1In_any _ _ _ _).mono ?_; rintro e w2 ⟨rfl, rfl⟩)
    go_ret
    exact ⟨ret_bool (by simp [okBrine, h1, h2]), by go_grown⟩
theorem mass_any (wt s : Int) (w : World) :
    Calls Tryd.prog 33 #[.agg #[.int .i64 wt, .int .i64 s]] w fun e w' => e = .returned (.int .i64 (massV wt s)) ∧ Below w.heap.size w w' := by
  go_enter Tryd.func33, Tryd.ntmps33
  go_wp2
  go_ret
  exact ⟨rfl, by go_grown⟩
theorem l2Mass_any (wt s : Int) (w : World) :
    Calls Tryd.prog 28 #[.agg #[.int .i64 wt, .int .i64 s]] w fun e w' => e = .returned (.int .i64 (massV wt s)) ∧ Below w.heap.size w w' := by
  go_enter Tryd.func28, Tryd.ntmps28
  go_wp2
  go_ret
  exact ⟨rfl, by go_grown⟩
theorem saltInPans_any (A : Option Addr) (n c lo hi : Nat) (f : Nat → Int) (I H S P : Int) (w : World) (hs : Sl w lo hi 4 A n f) (hn : n ≤ 1048576) (hnc : n ≤ c) :
    Calls Tryd.prog 52 #[.agg #[.slice A n c, .int .i64 I, .int .i64 H, .int .i64 S, .int .i64 P]] w fun e w' => e = .returned (.int .i64 (sumW (saltAt f) n)) ∧ Below w.heap.size w w' := by
  have HS : Hid (Sl (w.alloc (.cells #[.slice A n c, .int .i64 I, .int .i64 H, .int .i64 S, .int .i64 P] 26)) lo hi 4 A n f) := hs.below ((Below.refl _ w).alloc (Nat.le_refl _) _)
  clear hs
  go_enter Tryd.func52, Tryd.ntmps52
  go_wp2
  go_loopw [3, 9] (fun t i wr => ∃ k : Nat, k ≤ n ∧ i = .int .i64 k ∧ t = .int .i64 (sumW (saltAt f) k) ∧ Below (w.alloc (.cells #[.slice A n c, .int .i64 I, .int .i64 H, .int .i64 S, .int .i64 P] 26)).heap.size (w.alloc (.cells #[.slice A n c, .int .i64 I, .int .i64 H, .int .i64 S, .int .i64 P] 26)) wr) (fun _ i _ => n - (intOf i).toNat)
  case atStart => exact ⟨0, Nat.zero_le _, rfl, rfl, Below.refl _ _⟩
  case round =>
    obtain ⟨k, hk, rfl, rfl, hbel⟩ := hrel
    have hbz : w.heap.size < wr.heap.size := by have := hbel.size; simp at this; omega
    have b0 : wr.cell? ⟨w.heap.size, 0, none⟩ = some (.slice A n c) := (hbel.cell (p := ⟨w.heap.size, 0, none⟩) (by simp)).trans (by simp)
    by_cases hlt : k < n
    · obtain ⟨b, off, rfl, hbw, HC⟩ := HS.out.open_ hbel (by omega)
      obtain ⟨c0, c1, c2, c3⟩ := cell4 HC hlt
      clear HC HS
      go_wp2
      go_roundw
      case rel => exact ⟨k + 1, by omega, by go_num, rfl, hbel.alloc hbel.size _⟩
      case measure => simp [intOf]; omega
    · obtain rfl : n = k := by omega
      clear HS
      go_wp2
      go_ret
      exact ⟨rfl, ((Below.refl _ w).alloc (Nat.le_refl _) _).trans (hbel.mono (by simp))⟩
theorem l25Salt_any (A : Option Addr) (n c lo hi : Nat) (f : Nat → Int) (I H S P : Int) (w : World) (hs : Sl w lo hi 4 A n f) (hn : n ≤ 1048576) (hnc : n ≤ c) :
    Calls Tryd.prog 55 #[.agg #[.slice A n c, .int .i64 I, .int .i64 H, .int .i64 S, .int .i64 P]] w fun e w' => e = .returned (.int .i64 (sumW (saltAt f) n)) ∧ Below w.heap.size w w' := by
  have HS : Hid (Sl (w.alloc (.cells #[.slice A n c, .int .i64 I, .int .i64 H, .int .i64 S, .int .i64 P] 26)) lo hi 4 A n f) := hs.below ((Below.refl _ w).alloc (Nat.le_refl _) _)
  clear hs
  go_enter Tryd.func55, Tryd.ntmps55
  go_wp2
  go_loopw [3, 4] (fun t i wr => ∃ k : Nat, k ≤ n ∧ i = .int .i64 k ∧ t = .int .i64 (sumW (saltAt f) k) ∧ Below (w.alloc (.cells #[.slice A n c, .int .i64 I, .int .i64 H, .int .i64 S, .int .i64 P] 26)).heap.size (w.alloc (.cells #[.slice A n c, .int .i64 I, .int .i64 H, .int .i64 S, .int .i64 P] 26)) wr) (fun _ i _ => n - (intOf i).toNat)
  case atStart => exact ⟨0, Nat.zero_le _, rfl, rfl, Below.refl _ _⟩
  case round =>
    obtain ⟨k, hk, rfl, rfl, hbel⟩ := hrel
    have hbz : w.heap.size < wr.heap.size := by have := hbel.size; simp at this; omega
    have b0 : wr.cell? ⟨w.heap.size, 0, none⟩ = some (.slice A n c) := (hbel.cell (p := ⟨w.heap.size, 0, none⟩) (by simp)).trans (by simp)
    by_cases hlt : k < n
    · obtain ⟨b, off, rfl, hbw, HC⟩ := HS.out.open_ hbel (by omega)
      obtain ⟨c0, c1, c2, c3⟩ := cell4 HC hlt
      clear HC HS
      go_wp2
      go_roundw
      case rel => exact ⟨k + 1, by omega, by go_num, rfl, hbel⟩
      case measure => simp [intOf]; omega
    · obtain rfl : n = k := by omega
      clear HS
      go_wp2
      go_ret
      exact ⟨rfl, ((Below.refl _ w).alloc (Nat.le_refl _) _).trans (hbel.mono (by simp))⟩
set_option maxRecDepth 100000 in
set_option maxHeartbeats 4000000 in
theorem l25Pans_any (A : Option Addr) (n c lo hi : Nat) (f : Nat → Int) (I H S P : Int) (w : World) (hs : Sl w lo hi 4 A n f) (hn : n ≤ 1048576) (hnc : n ≤ c) :
    Calls Tryd.prog 53 #[.agg #[.slice A n c, .int .i64 I, .int .i64 H, .int .i64 S, .int .i64 P]] w fun e w' => e = .returned (.bool (pansOk f n)) ∧ Below w.heap.size w w' := by
  have HS : Hid (Sl (w.alloc (.cells #[.slice A n c, .int .i64 I, .int .i64 H, .int .i64 S, .int .i64 P] 26)) lo hi 4 A n f) := hs.below ((Below.refl _ w).alloc (Nat.le_refl _) _)
  clear hs
  go_enter Tryd.func53, Tryd.ntmps53
  go_wp2
  go_loopw [3] (fun i wr => ∃ k : Nat, k ≤ n ∧ i = .int .i64 k ∧ Hid (allTo (panStep f) k = true) ∧ Below (w.alloc (.cells #[.slice A n c, .int .i64 I, .int .i64 H, .int .i64 S, .int .i64 P] 26)).heap.size (w.alloc (.cells #[.slice A n c, .int .i64 I, .int .i64 H, .int .i64 S, .int .i64 P] 26)) wr) (fun i _ => n - (intOf i).toNat)
  case atStart => exact ⟨0, Nat.zero_le _, rfl, rfl, Below.refl _ _⟩
  case round =>
    obtain ⟨k, hk, rfl, hall, hbel⟩ := hrel
    have hbz : w.heap.size < wr.heap.size := by have := hbel.size; simp at this; omega
    have b0 : wr.cell? ⟨w.heap.size, 0, none⟩ = some (.slice A n c) := (hbel.cell (p := ⟨w.heap.size, 0, none⟩) (by simp)).trans (by simp)
    by_cases hlt : k < n
    · obtain ⟨b, off, rfl, hbw, HC⟩ := HS.out.open_ hbel (by omega)
      obtain ⟨c0, c1, c2, c3⟩ := cell4 HC hlt
      have hk0i : (0 : Int) ≤ (k : Int) := by omega
      have hkni : (k : Int) < (n : Int) := by omega
      have HF : Hid (∀ w', Below (wr.alloc (.cells #[.int .i64 (f (k * 4)), .int .i64 (f (k * 4 + 1)), .int .i64 (f (k * 4 + 2)), .int .i64 (f (k * 4 + 3))] 48)).heap.size (wr.alloc (.cells #[.int .i64 (f (k * 4)), .int .i64 (f (k * 4 + 1)), .int .i64 (f (k * 4 + 2)), .int .i64 (f (k * 4 + 3))] 48)) w' → w'.cell? ⟨wr.heap.size, 0, none⟩ = some (.int .i64 (f (k * 4))) ∧ w'.cell? ⟨wr.heap.size, 1, none⟩ = some (.int .i64 (f (k * 4 + 1))) ∧ w'.cell? ⟨wr.heap.size, 2, none⟩ = some (.int .i64 (f (k * 4 + 2))) ∧ w'.cell? ⟨wr.heap.size, 3, none⟩ = some (.int .i64 (f (k * 4 + 3))) ∧ w'.cell? ⟨w.heap.size, 0, none⟩ = some (.slice (some ⟨b, off, none⟩) n c)) := fun w' hq => ⟨(hq.cell (p := ⟨wr.heap.size, 0, none⟩) (by simp)).trans (by simp), (hq.cell (p := ⟨wr.heap.size, 1, none⟩) (by simp)).trans (by simp), (hq.cell (p := ⟨wr.heap.size, 2, none⟩) (by simp)).trans (by simp), (hq.cell (p := ⟨wr.heap.size, 3, none⟩) (by simp)).trans (by simp), (hq.cell (p := ⟨w.heap.size, 0, none⟩) (by simp; omega)).trans ((World.cell?_alloc_lt _ _ _ hbz).trans b0)⟩
      have HP : Hid (0 < k → ∀ w', Below (wr.alloc (.cells #[.int .i64 (f (k * 4)), .int .i64 (f (k * 4 + 1)), .int .i64 (f (k * 4 + 2)), .int .i64 (f (k * 4 + 3))] 48)).heap.size (wr.alloc (.cells #[.int .i64 (f (k * 4)), .int .i64 (f (k * 4 + 1)), .int .i64 (f (k * 4 + 2)), .int .i64 (f (k * 4 + 3))] 48)) w' → w'.cell? ⟨b, off + (k - 1) * 4, none⟩ = some (.int .i64 (f ((k - 1) * 4)))) := fun hk0 w' hq => (hq.cell (p := ⟨b, off + (k - 1) * 4, none⟩) (by simp; omega)).trans ((World.cell?_alloc_lt _ _ _ hbw).trans (HC.out _ (by omega)))
      clear HC HS
      go_wp2
      refine wp_region_held_drew (S := fun w' => Below ((wr.alloc (.cells #[.int .i64 (f (k * 4)), .int .i64 (f (k * 4 + 1)), .int .i64 (f (k * 4 + 2)), .int .i64 (f (k * 4 + 3))] 48))).heap.size ((wr.alloc (.cells #[.int .i64 (f (k * 4)), .int .i64 (f (k * 4 + 1)), .int .i64 (f (k * 4 + 2)), .int .i64 (f (k * 4 + 3))] 48))) w') (by kernel_rfl) ((Below.refl _ _).drew) (fun hHeld => ?_)
      refine tk (v := ?_) 0 17 HF rfl ?_ hHeld ?_
      rotate_left; · (intro _ _ _; go_simp; try with_reducible rfl)
      simp only [Act.put, p1, p2, p3]
      refine tk (v := ?_) 1 18 HF rfl ?_ hHeld ?_
      rotate_left; · (intro _ _ _; go_simp; try with_reducible rfl)
      simp only [Act.put, p1, p2, p3]
      refine wpAnyH_ready (rs := [2]) (by kernel_rfl) (by simp) ?_
      refine AllReadyH.cons rfl (fun K hK => ?_) AllReadyH.nil
      go_simp
      (go_at_call 71; refine (quiet_below (l1In_any _ _ _ _)).mono ?_; rintro e w2 ⟨rfl, hb2⟩)
      refine hK.out _ _ (hHeld.trans (hb2.mono hHeld.size)) (fun hHeld => ?_)
      clear hK K hb2
      refine tk (v := ?_) 3 20 HF rfl ?_ hHeld ?_
      rotate_left; · (intro _ _ _; go_simp; try with_reducible rfl)
      simp only [Act.put, p1, p2, p3]
      refine tk (v := ?_) 4 21 HF rfl ?_ hHeld ?_
      rotate_left; · (intro _ _ _; go_simp; try with_reducible rfl)
      simp only [Act.put, p1, p2, p3]
      cases h1 : inR (f (k * 4)) 1 99 with
      | false =>
        have h2 : True := trivial
        have h3 : True := trivial
        have hm : True := trivial
        have hno : Hid (pansOk f n = false) := pansOk_no hlt (by simp [panStep, okPanAt, okPan, h1, h2, h3, hm])
        refine wpAnyH_skips (by kernel_rfl) (fun _ _ _ _ _ h => h) hHeld [(5, 22), (6, 23), (7, 24), (8, 25)] 31 4 _ _ rfl (by kernel_rfl) ?_
        simp only [skipL, skipA, Act.put, List.setIfInBounds_toArray, List.set_cons_zero, List.set_cons_succ]
        refine tk (v := ?_) 9 26 HF rfl ?_ hHeld ?_
        rotate_left; · (intro _ _ _; go_simp; try with_reducible rfl)
        simp only [Act.put, p1, p2, p3]
        refine tk (v := ?_) 10 27 HF rfl ?_ hHeld ?_
        rotate_left; · (intro _ _ _; go_simp; try with_reducible rfl)
        simp only [Act.put, p1, p2, p3]
        refine wpAnyH_skips (by kernel_rfl) (fun _ _ _ _ _ h => h) hHeld [(11, 28), (12, 29), (13, 30), (14, 31)] 25 4 _ _ rfl (by kernel_rfl) ?_
        simp only [skipL, skipA, Act.put, List.setIfInBounds_toArray, List.set_cons_zero, List.set_cons_succ]
        refine tk (v := ?_) 15 32 HF rfl ?_ hHeld ?_
        rotate_left; · (intro _ _ _; go_simp; try with_reducible rfl)
        simp only [Act.put, p1, p2, p3]
        refine tk (v := ?_) 16 33 HF rfl ?_ hHeld ?_
        rotate_left; · (intro _ _ _; go_simp; try with_reducible rfl)
        simp only [Act.put, p1, p2, p3]
        refine wpAnyH_skips (by kernel_rfl) (fun _ _ _ _ _ h => h) hHeld [(17, 34), (18, 35), (19, 36), (20, 37), (21, 38), (22, 39)] 17 6 _ _ rfl (by kernel_rfl) ?_
        simp only [skipL, skipA, Act.put, List.setIfInBounds_toArray, List.set_cons_zero, List.set_cons_succ]
        refine tk (v := ?_) 23 40 HF rfl ?_ hHeld ?_
        rotate_left; · (intro _ _ _; go_simp; try with_reducible rfl)
        simp only [Act.put, p1, p2, p3]
        refine tk (v := ?_) 24 41 HF rfl ?_ hHeld ?_
        rotate_left; · (intro _ _ _; go_simp; try with_reducible rfl)
        simp only [Act.put, p1, p2, p3]
        refine wpAnyH_skips (by kernel_rfl) (fun _ _ _ _ _ h => h) hHeld [(25, 42), (26, 43), (27, 44), (28, 45), (29, 46), (30, 47), (31, 48), (32, 49), (33, 50), (34, 51), (35, 52), (36, 53), (37, 54), (38, 55)] 1 14 _ _ rfl (by kernel_rfl) ?_
        simp only [skipL, skipA, Act.put, List.setIfInBounds_toArray, List.set_cons_zero, List.set_cons_succ]
        refine tk (v := ?_) 39 56 HF rfl ?_ hHeld ?_
        rotate_left; · (intro _ _ _; go_simp; try with_reducible rfl)
        simp only [Act.put, p1, p2, p3]
        refine wpAnyH_done (by kernel_rfl) ?_ _
        go_wp2
        go_ret
        exact ⟨ret_bool hno.out.symm, ((Below.refl _ w).alloc (Nat.le_refl _) _).trans ((below_of hbel (((Below.refl _ wr).alloc (Nat.le_refl _) _).trans (hHeld.mono (by simp))) hbel.size).mono (by simp))⟩
      | true =>
        refine tk (v := ?_) 5 22 HF rfl ?_ hHeld ?_
        rotate_left; · (intro _ _ _; go_simp; try with_reducible rfl)
        simp only [Act.put, p1, p2, p3]
        refine tk (v := ?_) 6 23 HF rfl ?_ hHeld ?_
        rotate_left; · (intro _ _ _; go_simp; try with_reducible rfl)
        simp only [Act.put, p1, p2, p3]
        refine wpAnyH_ready (rs := [7]) (by kernel_rfl) (by simp) ?_
        refine AllReadyH.cons rfl (fun K hK => ?_) AllReadyH.nil
        go_simp
        (go_at_call 71; refine (quiet_below (l1In_any _ _ _ _)).mono ?_; rintro e w2 ⟨rfl, hb2⟩)
        refine hK.out _ _ (hHeld.trans (hb2.mono hHeld.size)) (fun hHeld => ?_)
        clear hK K hb2
        refine tk (v := ?_) 8 25 HF rfl ?_ hHeld ?_
        rotate_left; · (intro _ _ _; go_simp; try with_reducible rfl)
        simp only [Act.put, p1, p2, p3]
        refine tk (v := ?_) 9 26 HF rfl ?_ hHeld ?_
        rotate_left; · (intro _ _ _; go_simp; try with_reducible rfl)
        simp only [Act.put, p1, p2, p3]
        refine tk (v := ?_) 10 27 HF rfl ?_ hHeld ?_
        rotate_left; · (intro _ _ _; go_simp; try with_reducible rfl)
        simp only [Act.put, p1, p2, p3]
        cases h2 : inR (f (k * 4 + 1)) 1 100000 with
        | false =>
          have h3 : True := trivial
          have hm : True := trivial
          have hno : Hid (pansOk f n = false) := pansOk_no hlt (by simp [panStep, okPanAt, okPan, h1, h2, h3, hm])
          refine wpAnyH_skips (by kernel_rfl) (fun _ _ _ _ _ h => h) hHeld [(11, 28), (12, 29), (13, 30), (14, 31)] 25 4 _ _ rfl (by kernel_rfl) ?_
          simp only [skipL, skipA, Act.put, List.setIfInBounds_toArray, List.set_cons_zero, List.set_cons_succ]
          refine tk (v := ?_) 15 32 HF rfl ?_ hHeld ?_
          rotate_left; · (intro _ _ _; go_simp; try with_reducible rfl)
          simp only [Act.put, p1, p2, p3]
          refine tk (v := ?_) 16 33 HF rfl ?_ hHeld ?_
          rotate_left; · (intro _ _ _; go_simp; try with_reducible rfl)
          simp only [Act.put, p1, p2, p3]
          refine wpAnyH_skips (by kernel_rfl) (fun _ _ _ _ _ h => h) hHeld [(17, 34), (18, 35), (19, 36), (20, 37), (21, 38), (22, 39)] 17 6 _ _ rfl (by kernel_rfl) ?_
          simp only [skipL, skipA, Act.put, List.setIfInBounds_toArray, List.set_cons_zero, List.set_cons_succ]
          refine tk (v := ?_) 23 40 HF rfl ?_ hHeld ?_
          rotate_left; · (intro _ _ _; go_simp; try with_reducible rfl)
          simp only [Act.put, p1, p2, p3]
          refine tk (v := ?_) 24 41 HF rfl ?_ hHeld ?_
          rotate_left; · (intro _ _ _; go_simp; try with_reducible rfl)
          simp only [Act.put, p1, p2, p3]
          refine wpAnyH_skips (by kernel_rfl) (fun _ _ _ _ _ h => h) hHeld [(25, 42), (26, 43), (27, 44), (28, 45), (29, 46), (30, 47), (31, 48), (32, 49), (33, 50), (34, 51), (35, 52), (36, 53), (37, 54), (38, 55)] 1 14 _ _ rfl (by kernel_rfl) ?_
          simp only [skipL, skipA, Act.put, List.setIfInBounds_toArray, List.set_cons_zero, List.set_cons_succ]
          refine tk (v := ?_) 39 56 HF rfl ?_ hHeld ?_
          rotate_left; · (intro _ _ _; go_simp; try with_reducible rfl)
          simp only [Act.put, p1, p2, p3]
          refine wpAnyH_done (by kernel_rfl) ?_ _
          go_wp2
          go_ret
          exact ⟨ret_bool hno.out.symm, ((Below.refl _ w).alloc (Nat.le_refl _) _).trans ((below_of hbel (((Below.refl _ wr).alloc (Nat.le_refl _) _).trans (hHeld.mono (by simp))) hbel.size).mono (by simp))⟩
        | true =>
          refine tk (v := ?_) 11 28 HF rfl ?_ hHeld ?_
          rotate_left; · (intro _ _ _; go_simp; try with_reducible rfl)
          simp only [Act.put, p1, p2, p3]
          refine tk (v := ?_) 12 29 HF rfl ?_ hHeld ?_
          rotate_left; · (intro _ _ _; go_simp; try with_reducible rfl)
          simp only [Act.put, p1, p2, p3]
          refine wpAnyH_ready (rs := [13]) (by kernel_rfl) (by simp) ?_
          refine AllReadyH.cons rfl (fun K hK => ?_) AllReadyH.nil
          go_simp
          (go_at_call 72; refine (l2Brine_any _ _ _).mono ?_; rintro e w2 ⟨rfl, hb2⟩)
          refine hK.out _ _ (hHeld.trans (hb2.mono hHeld.size)) (fun hHeld => ?_)
          clear hK K hb2
          refine tk (v := ?_) 14 31 HF rfl ?_ hHeld ?_
          rotate_left; · (intro _ _ _; go_simp; try with_reducible rfl)
          simp only [Act.put, p1, p2, p3]
          refine tk (v := ?_) 15 32 HF rfl ?_ hHeld ?_
          rotate_left; · (intro _ _ _; go_simp; try with_reducible rfl)
          simp only [Act.put, p1, p2, p3]
          refine tk (v := ?_) 16 33 HF rfl ?_ hHeld ?_
          rotate_left; · (intro _ _ _; go_simp; try with_reducible rfl)
          simp only [Act.put, p1, p2, p3]
          cases h3 : okBrine (f (k * 4 + 2)) (f (k * 4 + 3)) with
          | false =>
            have hm : True := trivial
            have hno : Hid (pansOk f n = false) := pansOk_no hlt (by simp [panStep, okPanAt, okPan, h1, h2, h3, hm])
            refine wpAnyH_skips (by kernel_rfl) (fun _ _ _ _ _ h => h) hHeld [(17, 34), (18, 35), (19, 36), (20, 37), (21, 38), (22, 39)] 17 6 _ _ rfl (by kernel_rfl) ?_
            simp only [skipL, skipA, Act.put, List.setIfInBounds_toArray, List.set_cons_zero, List.set_cons_succ]
            refine tk (v := ?_) 23 40 HF rfl ?_ hHeld ?_
            rotate_left; · (intro _ _ _; go_simp; try with_reducible rfl)
            simp only [Act.put, p1, p2, p3]
            refine tk (v := ?_) 24 41 HF rfl ?_ hHeld ?_
            rotate_left; · (intro _ _ _; go_simp; try with_reducible rfl)
            simp only [Act.put, p1, p2, p3]
            refine wpAnyH_skips (by kernel_rfl) (fun _ _ _ _ _ h => h) hHeld [(25, 42), (26, 43), (27, 44), (28, 45), (29, 46), (30, 47), (31, 48), (32, 49), (33, 50), (34, 51), (35, 52), (36, 53), (37, 54), (38, 55)] 1 14 _ _ rfl (by kernel_rfl) ?_
            simp only [skipL, skipA, Act.put, List.setIfInBounds_toArray, List.set_cons_zero, List.set_cons_succ]
            refine tk (v := ?_) 39 56 HF rfl ?_ hHeld ?_
            rotate_left; · (intro _ _ _; go_simp; try with_reducible rfl)
            simp only [Act.put, p1, p2, p3]
            refine wpAnyH_done (by kernel_rfl) ?_ _
            go_wp2
            go_ret
            exact ⟨ret_bool hno.out.symm, ((Below.refl _ w).alloc (Nat.le_refl _) _).trans ((below_of hbel (((Below.refl _ wr).alloc (Nat.le_refl _) _).trans (hHeld.mono (by simp))) hbel.size).mono (by simp))⟩
          | true =>
            by_cases hm : massV (f (k * 4 + 2)) (f (k * 4 + 3)) ≤ f (k * 4 + 1)
            · have hmd : ¬ (f (k * 4 + 1) < massV (f (k * 4 + 2)) (f (k * 4 + 3))) := by omega
              refine tk (v := ?_) 17 34 HF rfl ?_ hHeld ?_
              rotate_left; · (intro _ _ _; go_simp; try with_reducible rfl)
              simp only [Act.put, p1, p2, p3]
              refine tk (v := ?_) 18 35 HF rfl ?_ hHeld ?_
              rotate_left; · (intro _ _ _; go_simp; try with_reducible rfl)
              simp only [Act.put, p1, p2, p3]
              refine tk (v := ?_) 20 37 HF rfl ?_ hHeld ?_
              rotate_left; · (intro _ _ _; go_simp; try with_reducible rfl)
              simp only [Act.put, p1, p2, p3]
              refine tk (v := ?_) 21 38 HF rfl ?_ hHeld ?_
              rotate_left; · (intro _ _ _; go_simp; try with_reducible rfl)
              simp only [Act.put, p1, p2, p3]
              refine wpAnyH_ready (rs := [19]) (by kernel_rfl) (by simp) ?_
              refine AllReadyH.cons rfl (fun K hK => ?_) AllReadyH.nil
              go_simp
              (go_at_call 28; refine (l2Mass_any _ _ _).mono ?_; rintro e w2 ⟨rfl, hb2⟩)
              refine hK.out _ _ (hHeld.trans (hb2.mono hHeld.size)) (fun hHeld => ?_)
              clear hK K hb2
              refine tk (v := ?_) 22 39 HF rfl ?_ hHeld ?_
              rotate_left; · (intro _ _ _; go_simp; try with_reducible rfl)
              simp only [Act.put, p1, p2, p3]
              refine tk (v := ?_) 23 40 HF rfl ?_ hHeld ?_
              rotate_left; · (intro _ _ _; go_simp; try with_reducible rfl)
              simp only [Act.put, p1, p2, p3]
              refine tk (v := ?_) 24 41 HF rfl ?_ hHeld ?_
              rotate_left; · (intro _ _ _; go_simp; try with_reducible rfl)
              simp only [Act.put, p1, p2, p3]
              refine tk (v := ?_) 25 42 HF rfl ?_ hHeld ?_
              rotate_left; · (intro _ _ _; go_simp; try with_reducible rfl)
              simp only [Act.put, p1, p2, p3]
              refine tk (v := ?_) 26 43 HF rfl ?_ hHeld ?_
              rotate_left; · (intro _ _ _; go_simp; try with_reducible rfl)
              simp only [Act.put, p1, p2, p3]
              refine tk (v := ?_) 27 44 HF rfl ?_ hHeld ?_
              rotate_left; · (intro _ _ _; go_simp; try with_reducible rfl)
              simp only [Act.put, p1, p2, p3]
              by_cases h0 : k = 0
              · have hok1 : Hid (panStep f k = true) := by simp only [Hid, panStep, okPanAt, okPan, h1, h2, h3, hm, Bool.true_and, Bool.or_eq_true, decide_eq_true_eq, decide_true]; exact Or.inl h0
                have hk0b : decide ((0 : Int) < (k : Int)) = false := by simp; omega
                have hk0c : decide (0 < k) = false := by simp; omega
                clear h0 HP
                try simp only [hk0b, hk0c]
                refine wpAnyH_skips (by kernel_rfl) (fun _ _ _ _ _ h => h) hHeld [(28, 45), (29, 46), (30, 47), (31, 48), (32, 49), (33, 50), (34, 51), (35, 52), (36, 53), (37, 54)] 2 10 _ _ rfl (by kernel_rfl) ?_
                simp only [skipL, skipA, Act.put, List.setIfInBounds_toArray, List.set_cons_zero, List.set_cons_succ]
                refine tk (v := ?_) 38 55 HF rfl ?_ hHeld ?_
                rotate_left; · (intro _ _ _; go_simp; try with_reducible rfl)
                simp only [Act.put, p1, p2, p3]
                refine tk (v := ?_) 39 56 HF rfl ?_ hHeld ?_
                rotate_left; · (intro _ _ _; go_simp; try with_reducible rfl)
                simp only [Act.put, p1, p2, p3]
                refine wpAnyH_done (by kernel_rfl) ?_ _
                go_wp2
                go_roundw
                case rel => exact ⟨k + 1, by omega, by go_num, allTo_succ hall.out hok1.out, below_of hbel (((Below.refl _ wr).alloc (Nat.le_refl _) _).trans (hHeld.mono (by simp))) hbel.size⟩
                case measure => simp [intOf]; omega
              · have hk0 : 0 < k := by omega
                have hkk : ((k : Int) - 1).toNat = k - 1 := by omega
                have hb0 : (0 : Int) ≤ (k : Int) - 1 := by omega
                have hb1x : (1 : Int) ≤ (k : Int) := by omega
                have hb3 : (k : Int) - 1 < (n : Int) := by omega
                have hwk : IntKind.i64.wrap ((k : Int) - 1) = (k : Int) - 1 := IntWalk.i64_in _ (by omega)
                have hk0b : decide ((0 : Int) < (k : Int)) = true := by simp; omega
                have hk0c : decide (0 < k) = true := by simp; omega
                replace HF := Hid.and_ HF (HP.out hk0)
                clear HP
                try simp only [hk0b, hk0c]
                by_cases hlt2 : f ((k - 1) * 4) < f (k * 4)
                · have hok1 : Hid (panStep f k = true) := by simp [Hid, panStep, okPanAt, okPan, h1, h2, h3, hm, hlt2]
                  refine tk (v := ?_) 28 45 HF rfl ?_ hHeld ?_
                  rotate_left; · (intro _ _ _; go_simp; try with_reducible rfl)
                  simp only [Act.put, p1, p2, p3]
                  refine tk (v := ?_) 29 46 HF rfl ?_ hHeld ?_
                  rotate_left; · (intro _ _ _; go_simp; try with_reducible rfl)
                  simp only [Act.put, p1, p2, p3]
                  refine tk (v := ?_) 30 47 HF rfl ?_ hHeld ?_
                  rotate_left; · (intro _ _ _; go_simp; try with_reducible rfl)
                  simp only [Act.put, p1, p2, p3]
                  refine tk (v := ?_) 31 48 HF rfl ?_ hHeld ?_
                  rotate_left; · (intro _ _ _; go_simp; try with_reducible rfl)
                  simp only [Act.put, p1, p2, p3]
                  refine tk (v := ?_) 32 49 HF rfl ?_ hHeld ?_
                  rotate_left; · (intro _ _ _; go_simp; try with_reducible rfl)
                  simp only [Act.put, p1, p2, p3]
                  refine tk (v := ?_) 33 50 HF rfl ?_ hHeld ?_
                  rotate_left; · (intro _ _ _; go_simp; try with_reducible rfl)
                  simp only [Act.put, p1, p2, p3]
                  refine tk (v := ?_) 34 51 HF rfl ?_ hHeld ?_
                  rotate_left; · (intro _ _ _; go_simp; try with_reducible rfl)
                  simp only [Act.put, p1, p2, p3]
                  refine tk (v := ?_) 35 52 HF rfl ?_ hHeld ?_
                  rotate_left; · (intro _ _ _; go_simp; try with_reducible rfl)
                  simp only [Act.put, p1, p2, p3]
                  refine tk (v := ?_) 36 53 HF rfl ?_ hHeld ?_
                  rotate_left; · (intro _ _ _; go_simp; try with_reducible rfl)
                  simp only [Act.put, p1, p2, p3]
                  refine tk (v := ?_) 37 54 HF rfl ?_ hHeld ?_
                  rotate_left; · (intro _ _ _; go_simp; try with_reducible rfl)
                  simp only [Act.put, p1, p2, p3]
                  refine tk (v := ?_) 38 55 HF rfl ?_ hHeld ?_
                  rotate_left; · (intro _ _ _; go_simp; try with_reducible rfl)
                  simp only [Act.put, p1, p2, p3]
                  refine tk (v := ?_) 39 56 HF rfl ?_ hHeld ?_
                  rotate_left; · (intro _ _ _; go_simp; try with_reducible rfl)
                  simp only [Act.put, p1, p2, p3]
                  refine wpAnyH_done (by kernel_rfl) ?_ _
                  go_wp2
                  go_roundw
                  case rel => exact ⟨k + 1, by omega, by go_num, allTo_succ hall.out hok1.out, below_of hbel (((Below.refl _ wr).alloc (Nat.le_refl _) _).trans (hHeld.mono (by simp))) hbel.size⟩
                  case measure => simp [intOf]; omega
                · have hno : Hid (pansOk f n = false) := pansOk_no hlt (by simp [panStep, okPanAt, okPan, h1, h2, h3, hm, hlt2]; omega)
                  refine tk (v := ?_) 28 45 HF rfl ?_ hHeld ?_
                  rotate_left; · (intro _ _ _; go_simp; try with_reducible rfl)
                  simp only [Act.put, p1, p2, p3]
                  refine tk (v := ?_) 29 46 HF rfl ?_ hHeld ?_
                  rotate_left; · (intro _ _ _; go_simp; try with_reducible rfl)
                  simp only [Act.put, p1, p2, p3]
                  refine tk (v := ?_) 30 47 HF rfl ?_ hHeld ?_
                  rotate_left; · (intro _ _ _; go_simp; try with_reducible rfl)
                  simp only [Act.put, p1, p2, p3]
                  refine tk (v := ?_) 31 48 HF rfl ?_ hHeld ?_
                  rotate_left; · (intro _ _ _; go_simp; try with_reducible rfl)
                  simp only [Act.put, p1, p2, p3]
                  refine tk (v := ?_) 32 49 HF rfl ?_ hHeld ?_
                  rotate_left; · (intro _ _ _; go_simp; try with_reducible rfl)
                  simp only [Act.put, p1, p2, p3]
                  refine tk (v := ?_) 33 50 HF rfl ?_ hHeld ?_
                  rotate_left; · (intro _ _ _; go_simp; try with_reducible rfl)
                  simp only [Act.put, p1, p2, p3]
                  refine tk (v := ?_) 34 51 HF rfl ?_ hHeld ?_
                  rotate_left; · (intro _ _ _; go_simp; try with_reducible rfl)
                  simp only [Act.put, p1, p2, p3]
                  refine tk (v := ?_) 35 52 HF rfl ?_ hHeld ?_
                  rotate_left; · (intro _ _ _; go_simp; try with_reducible rfl)
                  simp only [Act.put, p1, p2, p3]
                  refine tk (v := ?_) 36 53 HF rfl ?_ hHeld ?_
                  rotate_left; · (intro _ _ _; go_simp; try with_reducible rfl)
                  simp only [Act.put, p1, p2, p3]
                  refine tk (v := ?_) 37 54 HF rfl ?_ hHeld ?_
                  rotate_left; · (intro _ _ _; go_simp; try with_reducible rfl)
                  simp only [Act.put, p1, p2, p3]
                  refine tk (v := ?_) 38 55 HF rfl ?_ hHeld ?_
                  rotate_left; · (intro _ _ _; go_simp; try with_reducible rfl)
                  simp only [Act.put, p1, p2, p3]
                  refine tk (v := ?_) 39 56 HF rfl ?_ hHeld ?_
                  rotate_left; · (intro _ _ _; go_simp; try with_reducible rfl)
                  simp only [Act.put, p1, p2, p3]
                  refine wpAnyH_done (by kernel_rfl) ?_ _
                  go_wp2
                  go_ret
                  exact ⟨ret_bool hno.out.symm, ((Below.refl _ w).alloc (Nat.le_refl _) _).trans ((below_of hbel (((Below.refl _ wr).alloc (Nat.le_refl _) _).trans (hHeld.mono (by simp))) hbel.size).mono (by simp))⟩
            · have hmd : f (k * 4 + 1) < massV (f (k * 4 + 2)) (f (k * 4 + 3)) := by omega
              have hno : Hid (pansOk f n = false) := pansOk_no hlt (by simp [panStep, okPanAt, okPan, h1, h2, h3, hm])
              refine tk (v := ?_) 17 34 HF rfl ?_ hHeld ?_
              rotate_left; · (intro _ _ _; go_simp; try with_reducible rfl)
              simp only [Act.put, p1, p2, p3]
              refine tk (v := ?_) 18 35 HF rfl ?_ hHeld ?_
              rotate_left; · (intro _ _ _; go_simp; try with_reducible rfl)
              simp only [Act.put, p1, p2, p3]
              refine tk (v := ?_) 20 37 HF rfl ?_ hHeld ?_
              rotate_left; · (intro _ _ _; go_simp; try with_reducible rfl)
              simp only [Act.put, p1, p2, p3]
              refine tk (v := ?_) 21 38 HF rfl ?_ hHeld ?_
              rotate_left; · (intro _ _ _; go_simp; try with_reducible rfl)
              simp only [Act.put, p1, p2, p3]
              refine wpAnyH_ready (rs := [19]) (by kernel_rfl) (by simp) ?_
              refine AllReadyH.cons rfl (fun K hK => ?_) AllReadyH.nil
              go_simp
              (go_at_call 28; refine (l2Mass_any _ _ _).mono ?_; rintro e w2 ⟨rfl, hb2⟩)
              refine hK.out _ _ (hHeld.trans (hb2.mono hHeld.size)) (fun hHeld => ?_)
              clear hK K hb2
              refine tk (v := ?_) 22 39 HF rfl ?_ hHeld ?_
              rotate_left; · (intro _ _ _; go_simp; try with_reducible rfl)
              simp only [Act.put, p1, p2, p3]
              refine tk (v := ?_) 23 40 HF rfl ?_ hHeld ?_
              rotate_left; · (intro _ _ _; go_simp; try with_reducible rfl)
              simp only [Act.put, p1, p2, p3]
              refine tk (v := ?_) 24 41 HF rfl ?_ hHeld ?_
              rotate_left; · (intro _ _ _; go_simp; try with_reducible rfl)
              simp only [Act.put, p1, p2, p3]
              refine wpAnyH_skips (by kernel_rfl) (fun _ _ _ _ _ h => h) hHeld [(25, 42), (26, 43), (27, 44), (28, 45), (29, 46), (30, 47), (31, 48), (32, 49), (33, 50), (34, 51), (35, 52), (36, 53), (37, 54), (38, 55)] 1 14 _ _ rfl (by kernel_rfl) ?_
              simp only [skipL, skipA, Act.put, List.setIfInBounds_toArray, List.set_cons_zero, List.set_cons_succ]
              refine tk (v := ?_) 39 56 HF rfl ?_ hHeld ?_
              rotate_left; · (intro _ _ _; go_simp; try with_reducible rfl)
              simp only [Act.put, p1, p2, p3]
              refine wpAnyH_done (by kernel_rfl) ?_ _
              go_wp2
              go_ret
              exact ⟨ret_bool hno.out.symm, ((Below.refl _ w).alloc (Nat.le_refl _) _).trans ((below_of hbel (((Below.refl _ wr).alloc (Nat.le_refl _) _).trans (hHeld.mono (by simp))) hbel.size).mono (by simp))⟩
    · obtain rfl : n = k := by omega
      clear HS
      go_wp2
      go_ret
      exact ⟨ret_bool (by rw [Bool.eq_iff_iff]; simp [pansOk, hall.out]; omega), ((Below.refl _ w).alloc (Nat.le_refl _) _).trans ((hbel).mono (by simp))⟩
end Go.Proofs.YtjkockhldaacbaaDoor
