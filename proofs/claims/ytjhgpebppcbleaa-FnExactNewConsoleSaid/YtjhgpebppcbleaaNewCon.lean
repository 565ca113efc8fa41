/-
  NewConsole: the same on both sides; the laws' helpers for consoles.
-/
import Derived.Test.YtjhgpebppcbleaaResW
import Derived.Deep.Cut
namespace Go.Proofs.Ytjhgpebppcbleaa
open Go.RowKit
set_option linter.unusedVariables false
set_option linter.unusedSimpArgs false
def newM (z : Int) : Nat := if inR z 1 100000 then 1 else 0
def newL (z : Int) : List Int := if inR z 1 100000 then [1, z, 0, 0] else []
def newPost (w : World) (z : Int) (e : Ending) (w' : World) : Prop :=
  ∃ A' c', e = .returned (.tuple #[.agg #[.slice A' (newM z) c', .int .i64 0, .int .i64 0, .int .i64 0, .int .i64 0, .string ⟨#[]⟩, .string ⟨#[]⟩, .int .i64 0], .bool (inR z 1 100000)]) ∧ newM z ≤ c' ∧ c' ≤ maxLen ∧ w'.ownsRow w.heap.size 87 4 (.slice A' (newM z) c') (newM z) ((newL z).map (Value.int .i64)) ∧ Below w.heap.size w w'
theorem nameL {P : Program} {ops : Array Oper} {Q : Exit → Act → World → Prop} {l : List Oper} {a : Act} {W : World} (h : ∀ w2, w2 = W → wpList P ops Q l a w2) : wpList P ops Q l a W := h W rfl
theorem newPost_no {w w' : World} {z : Int} (hk : inR z 1 100000 = false) (hb : Below w.heap.size w w') : newPost w z (.returned (.tuple #[.agg #[.slice none 0 0, .int .i64 0, .int .i64 0, .int .i64 0, .int .i64 0, .string ⟨#[]⟩, .string ⟨#[]⟩, .int .i64 0], .bool false])) w' := by
  have hm : newM z = 0 := by simp [newM, hk]
  have hl : newL z = [] := by simp [newL, hk]
  exact ⟨none, 0, by rw [hk, hm], by rw [hm]; exact Nat.le_refl _, by unfold maxLen; omega, by rw [hm, hl]; simpa using World.ownsRow_nil w' w.heap.size 87 4, hb⟩
theorem new_ok (z : Int) : stOk (fun _ => 0) 0 0 0 0 0 1 1 0 z = inR z 1 100000 := by
  cases hk : inR z 1 100000 with
  | false =>
    have hv : stV (fun _ => 0) 0 1 1 0 z = false := by simp [stV, hk]
    simp [stOk, hv]
  | true =>
    have h : 1 ≤ z ∧ z ≤ 100000 := by simpa [inR] using hk
    have hz : z ≤ 1000000 := by omega
    have hw : wrap64 0 = 0 := by rw [← IntWalk.i64_left]; exact IntWalk.i64_in 0 (by omega)
    have hg : goodWorks (fun _ => 0) 0 0 0 0 0 = true := by simp [goodWorks, pansOk, allTo, kilosOk, totalV, sumW, inR, hw]
    have hv : stV (fun _ => 0) 0 1 1 0 z = true := by simp [stV, findV, inR, h.1, h.2]
    have hG : stG (fun _ => 0) 0 0 0 0 0 1 1 0 z = true := by
      have hl : stL (fun _ => 0) 0 1 1 0 z = [1, z, 0, 0] := by simp [stL, buildL, cellsL]
      have hz0 : (0 : Int) ≤ z := by omega
      simp only [stG, hl, stN, stI, stH, stS, stP]
      simp [goodWorks, pansOk, allTo, panStep, okPanAt, okPan, okBrine, massV, kilosOk, totalV, sumW, saltAt, lf, inR, hw, h.1, h.2, hz0]
    simp [stOk, mkOk, stM, hg, hv, hG, hz]
theorem new_step {w w' : World} {e : Ending} (z : Int) (h : stepPost w (fun _ => 0) 0 0 0 0 0 1 1 0 z (stOk (fun _ => 0) 0 0 0 0 0 1 1 0 z) e w') :
    ∃ A' c', e = .returned (.tuple #[.agg #[.slice A' (newM z) c', .int .i64 0, .int .i64 0, .int .i64 0, .int .i64 0], .bool (inR z 1 100000)]) ∧ newM z ≤ c' ∧ c' ≤ maxLen ∧ w'.ownsRow w.heap.size 87 4 (.slice A' (newM z) c') (newM z) ((newL z).map (Value.int .i64)) ∧ Below w.heap.size w w' := by
  rw [new_ok] at h
  have hl : stL (fun _ => 0) 0 1 1 0 z = [1, z, 0, 0] := by simp [stL, buildL, cellsL]
  unfold stepPost at h
  rw [hl] at h
  have e1 : (if inR z 1 100000 = true then ([1, z, 0, 0] : List Int) else []) = newL z := rfl
  have e2 : (if inR z 1 100000 = true then stN 0 1 else 0) = newM z := rfl
  have e3 : (if inR z 1 100000 = true then stI 0 1 z else 0) = 0 := by simp [stI]
  have e4 : (if inR z 1 100000 = true then stH 0 1 z else 0) = 0 := by simp [stH]
  have e5 : (if inR z 1 100000 = true then stS 0 1 z else 0) = 0 := by simp [stS]
  have e6 : (if inR z 1 100000 = true then stP (fun _ => 0) 0 0 1 1 else 0) = 0 := by simp [stP]
  rw [e1, e2, e3, e4, e5, e6] at h
  exact h
set_option maxRecDepth 100000 in
set_option maxHeartbeats 2000000 in
theorem sNewConsole_any (z : Int) (w : World) : Calls Try.prog 33 #[.int .i64 z] w (newPost w z) := by
  have hR0 : (w.alloc (.cells #[.slice none 0 0, .int .i64 0, .int .i64 0, .int .i64 0, .int .i64 0, .string ⟨#[]⟩, .string ⟨#[]⟩, .int .i64 0] 66)).heap[w.heap.size]? = some (.cells #[.slice none 0 0, .int .i64 0, .int .i64 0, .int .i64 0, .int .i64 0, .string ⟨#[]⟩, .string ⟨#[]⟩, .int .i64 0] 66 (0, 0)) := heap_alloc_new w _
  have hb0 : Below w.heap.size w (w.alloc (.cells #[.slice none 0 0, .int .i64 0, .int .i64 0, .int .i64 0, .int .i64 0, .string ⟨#[]⟩, .string ⟨#[]⟩, .int .i64 0] 66)) := (Below.refl _ w).alloc (Nat.le_refl _) _
  go_enter Try.func33, Try.ntmps33
  go_wp2_with fail
  refine (sStepWorks_any none 0 0 0 0 (fun _ => 0) 0 0 0 0 1 1 0 z _ ⟨Nat.zero_le _, fun h => absurd h (by omega)⟩ (by omega) (Nat.le_refl _) (fun _ => ⟨rfl, rfl⟩) (fun ad h => by cases h)).mono ?_
  rintro e w1 hp
  obtain ⟨A', c', rfl, hmc, hcm, ho, hb1⟩ := new_step z hp
  have hr1 := (hb1.block (w.heap.size) (by simp)).trans hR0
  have B1 := hb0.trans (hb1.mono hb0.size)
  have l1 : w.heap.size < w1.heap.size := (Array.getElem?_eq_some_iff.1 hr1).1
  have ho := ownsRow_monoP ho hb0.size
  clear hp hR0 hb0 hb1
  go_upto_region 2 with fail
  refine name_wp ?_
  intro w2 hw2
  have b12 : Below w1.heap.size w1 w2 := by rw [hw2]; exact (Below.refl _ _).alloc (Nat.le_refl _) _
  have h4 : w2.heap[w1.heap.size]? = some (.cells #[.slice A' (newM z) c', .int .i64 0, .int .i64 0, .int .i64 0, .int .i64 0] 26 (0, 0)) := by rw [hw2]; exact heap_alloc_new w1 _
  have hr2 := (b12.block (w.heap.size) l1).trans hr1
  have B2 := below_of B1 b12 B1.size
  have ho2 := ownsRow_below ho b12
  clear hw2 hr1 B1 ho b12
  generalize w1.heap.size = g4 at *
  have n1 : g4 ≠ w.heap.size := by omega
  have n2 : w.heap.size ≠ g4 := by omega
  cases hk : inR z 1 100000 with
  | false =>
    have r0 : w2.cell? ⟨w.heap.size, 0, none⟩ = some (.slice none 0 0) := by rw [cell_of_row w2 (w.heap.size) 0 _ _ (0, 0) hr2]; rfl
    have r1 : w2.cell? ⟨w.heap.size, 1, none⟩ = some (.int .i64 0) := by rw [cell_of_row w2 (w.heap.size) 1 _ _ (0, 0) hr2]; rfl
    have r2 : w2.cell? ⟨w.heap.size, 2, none⟩ = some (.int .i64 0) := by rw [cell_of_row w2 (w.heap.size) 2 _ _ (0, 0) hr2]; rfl
    have r3 : w2.cell? ⟨w.heap.size, 3, none⟩ = some (.int .i64 0) := by rw [cell_of_row w2 (w.heap.size) 3 _ _ (0, 0) hr2]; rfl
    have r4 : w2.cell? ⟨w.heap.size, 4, none⟩ = some (.int .i64 0) := by rw [cell_of_row w2 (w.heap.size) 4 _ _ (0, 0) hr2]; rfl
    have r5 : w2.cell? ⟨w.heap.size, 5, none⟩ = some (.string ⟨#[]⟩) := by rw [cell_of_row w2 (w.heap.size) 5 _ _ (0, 0) hr2]; rfl
    have r6 : w2.cell? ⟨w.heap.size, 6, none⟩ = some (.string ⟨#[]⟩) := by rw [cell_of_row w2 (w.heap.size) 6 _ _ (0, 0) hr2]; rfl
    have r7 : w2.cell? ⟨w.heap.size, 7, none⟩ = some (.int .i64 0) := by rw [cell_of_row w2 (w.heap.size) 7 _ _ (0, 0) hr2]; rfl
    have rf : ∀ j, w2.frozen? ⟨w.heap.size, j, none⟩ = false := fun j => frozen_of_row w2 (w.heap.size) j _ _ hr2
    have HBW := Lib.hid B2
    clear hr2
    go_wp2
    obtain ⟨wq, hwq⟩ : ∃ wq, wq = ((((((((w2.setCell ⟨w.heap.size, 0, none⟩ (.slice none 0 0)).setCell ⟨w.heap.size, 1, none⟩ (.int .i64 0)).setCell ⟨w.heap.size, 2, none⟩ (.int .i64 0)).setCell ⟨w.heap.size, 3, none⟩ (.int .i64 0)).setCell ⟨w.heap.size, 4, none⟩ (.int .i64 0)).setCell ⟨w.heap.size, 5, none⟩ (.string ⟨#[]⟩)).setCell ⟨w.heap.size, 6, none⟩ (.string ⟨#[]⟩)).setCell ⟨w.heap.size, 7, none⟩ (.int .i64 0)) := ⟨_, rfl⟩
    rw [← hwq]
    have u0 : wq.cell? ⟨w.heap.size, 0, none⟩ = some (.slice none 0 0) := by rw [hwq]; go_simp
    have u1 : wq.cell? ⟨w.heap.size, 1, none⟩ = some (.int .i64 0) := by rw [hwq]; go_simp
    have u2 : wq.cell? ⟨w.heap.size, 2, none⟩ = some (.int .i64 0) := by rw [hwq]; go_simp
    have u3 : wq.cell? ⟨w.heap.size, 3, none⟩ = some (.int .i64 0) := by rw [hwq]; go_simp
    have u4 : wq.cell? ⟨w.heap.size, 4, none⟩ = some (.int .i64 0) := by rw [hwq]; go_simp
    have u5 : wq.cell? ⟨w.heap.size, 5, none⟩ = some (.string ⟨#[]⟩) := by rw [hwq]; go_simp
    have u6 : wq.cell? ⟨w.heap.size, 6, none⟩ = some (.string ⟨#[]⟩) := by rw [hwq]; go_simp
    have u7 : wq.cell? ⟨w.heap.size, 7, none⟩ = some (.int .i64 0) := by rw [hwq]; go_simp
    have hBq : Below w.heap.size w wq := by
      rw [hwq]
      exact ((((((((HBW.out.setCell (show w.heap.size ≤ w.heap.size from Nat.le_refl _) _).setCell (show w.heap.size ≤ w.heap.size from Nat.le_refl _) _).setCell (show w.heap.size ≤ w.heap.size from Nat.le_refl _) _).setCell (show w.heap.size ≤ w.heap.size from Nat.le_refl _) _).setCell (show w.heap.size ≤ w.heap.size from Nat.le_refl _) _).setCell (show w.heap.size ≤ w.heap.size from Nat.le_refl _) _).setCell (show w.heap.size ≤ w.heap.size from Nat.le_refl _) _).setCell (show w.heap.size ≤ w.heap.size from Nat.le_refl _) _)
    clear hwq
    try simp only [Exit.inBlock, Exit.then]
    refine bodyPost_ret (by simp [results, Try.results33, go_sem, u0, u1, u2, u3, u4, u5, u6, u7]; try rfl) rfl ?_
    exact newPost_no hk hBq
  | true =>
    have nor : ∀ k : Nat, (Value.slice A' (newM z) c').ownBlock = some k → k ≠ w.heap.size := fun k e hk => by
      subst hk
      exact row_none_ne ho2 hr2 (by decide) e
    have e0 : w2.cell? ⟨g4, 0, none⟩ = some (.slice A' (newM z) c') := by rw [cell_of_row w2 (g4) 0 _ _ (0, 0) h4]; rfl
    have e1 : w2.cell? ⟨g4, 1, none⟩ = some (.int .i64 0) := by rw [cell_of_row w2 (g4) 1 _ _ (0, 0) h4]; rfl
    have e2 : w2.cell? ⟨g4, 2, none⟩ = some (.int .i64 0) := by rw [cell_of_row w2 (g4) 2 _ _ (0, 0) h4]; rfl
    have e3 : w2.cell? ⟨g4, 3, none⟩ = some (.int .i64 0) := by rw [cell_of_row w2 (g4) 3 _ _ (0, 0) h4]; rfl
    have e4 : w2.cell? ⟨g4, 4, none⟩ = some (.int .i64 0) := by rw [cell_of_row w2 (g4) 4 _ _ (0, 0) h4]; rfl
    have r0 : w2.cell? ⟨w.heap.size, 0, none⟩ = some (.slice none 0 0) := by rw [cell_of_row w2 (w.heap.size) 0 _ _ (0, 0) hr2]; rfl
    have r1 : w2.cell? ⟨w.heap.size, 1, none⟩ = some (.int .i64 0) := by rw [cell_of_row w2 (w.heap.size) 1 _ _ (0, 0) hr2]; rfl
    have r2 : w2.cell? ⟨w.heap.size, 2, none⟩ = some (.int .i64 0) := by rw [cell_of_row w2 (w.heap.size) 2 _ _ (0, 0) hr2]; rfl
    have r3 : w2.cell? ⟨w.heap.size, 3, none⟩ = some (.int .i64 0) := by rw [cell_of_row w2 (w.heap.size) 3 _ _ (0, 0) hr2]; rfl
    have r4 : w2.cell? ⟨w.heap.size, 4, none⟩ = some (.int .i64 0) := by rw [cell_of_row w2 (w.heap.size) 4 _ _ (0, 0) hr2]; rfl
    have r5 : w2.cell? ⟨w.heap.size, 5, none⟩ = some (.string ⟨#[]⟩) := by rw [cell_of_row w2 (w.heap.size) 5 _ _ (0, 0) hr2]; rfl
    have r6 : w2.cell? ⟨w.heap.size, 6, none⟩ = some (.string ⟨#[]⟩) := by rw [cell_of_row w2 (w.heap.size) 6 _ _ (0, 0) hr2]; rfl
    have r7 : w2.cell? ⟨w.heap.size, 7, none⟩ = some (.int .i64 0) := by rw [cell_of_row w2 (w.heap.size) 7 _ _ (0, 0) hr2]; rfl
    have rf : ∀ j, w2.frozen? ⟨w.heap.size, j, none⟩ = false := fun j => frozen_of_row w2 (w.heap.size) j _ _ hr2
    have HBW := Lib.hid B2
    have HOW := Lib.hid ho2
    have NOR := Lib.hid nor
    clear h4 hr2 B2 ho2 nor
    go_wp2
    obtain ⟨wq, hwq⟩ : ∃ wq, wq = ((((((((w2.setCell ⟨w.heap.size, 0, none⟩ (.slice A' (newM z) c')).setCell ⟨w.heap.size, 1, none⟩ (.int .i64 0)).setCell ⟨w.heap.size, 2, none⟩ (.int .i64 0)).setCell ⟨w.heap.size, 3, none⟩ (.int .i64 0)).setCell ⟨w.heap.size, 4, none⟩ (.int .i64 0)).setCell ⟨w.heap.size, 5, none⟩ (.string ⟨#[]⟩)).setCell ⟨w.heap.size, 6, none⟩ (.string ⟨#[]⟩)).setCell ⟨w.heap.size, 7, none⟩ (.int .i64 0)) := ⟨_, rfl⟩
    rw [← hwq]
    have u0 : wq.cell? ⟨w.heap.size, 0, none⟩ = some (.slice A' (newM z) c') := by rw [hwq]; go_simp
    have u1 : wq.cell? ⟨w.heap.size, 1, none⟩ = some (.int .i64 0) := by rw [hwq]; go_simp
    have u2 : wq.cell? ⟨w.heap.size, 2, none⟩ = some (.int .i64 0) := by rw [hwq]; go_simp
    have u3 : wq.cell? ⟨w.heap.size, 3, none⟩ = some (.int .i64 0) := by rw [hwq]; go_simp
    have u4 : wq.cell? ⟨w.heap.size, 4, none⟩ = some (.int .i64 0) := by rw [hwq]; go_simp
    have u5 : wq.cell? ⟨w.heap.size, 5, none⟩ = some (.string ⟨#[]⟩) := by rw [hwq]; go_simp
    have u6 : wq.cell? ⟨w.heap.size, 6, none⟩ = some (.string ⟨#[]⟩) := by rw [hwq]; go_simp
    have u7 : wq.cell? ⟨w.heap.size, 7, none⟩ = some (.int .i64 0) := by rw [hwq]; go_simp
    have hBq : Below w.heap.size w wq := by
      rw [hwq]
      exact ((((((((HBW.out.setCell (show w.heap.size ≤ w.heap.size from Nat.le_refl _) _).setCell (show w.heap.size ≤ w.heap.size from Nat.le_refl _) _).setCell (show w.heap.size ≤ w.heap.size from Nat.le_refl _) _).setCell (show w.heap.size ≤ w.heap.size from Nat.le_refl _) _).setCell (show w.heap.size ≤ w.heap.size from Nat.le_refl _) _).setCell (show w.heap.size ≤ w.heap.size from Nat.le_refl _) _).setCell (show w.heap.size ≤ w.heap.size from Nat.le_refl _) _).setCell (show w.heap.size ≤ w.heap.size from Nat.le_refl _) _)
    have no : ∀ j : Nat, (Value.slice A' (newM z) c').ownBlock ≠ some (⟨w.heap.size, j, none⟩ : Addr).block := fun j e => NOR.out _ e rfl
    have hOq := (ownsRow_setCell_other (ownsRow_setCell_other (ownsRow_setCell_other (ownsRow_setCell_other (ownsRow_setCell_other (ownsRow_setCell_other (ownsRow_setCell_other (ownsRow_setCell_other HOW.out (no 0) (.slice A' (newM z) c')) (no 1) (.int .i64 0)) (no 2) (.int .i64 0)) (no 3) (.int .i64 0)) (no 4) (.int .i64 0)) (no 5) (.string ⟨#[]⟩)) (no 6) (.string ⟨#[]⟩)) (no 7) (.int .i64 0))
    rw [← hwq] at hOq
    clear hwq HOW HBW
    try simp only [Exit.inBlock, Exit.then]
    refine bodyPost_ret (by simp [results, Try.results33, go_sem, u0, u1, u2, u3, u4, u5, u6, u7]; try rfl) rfl ?_
    exact ⟨A', c', by rw [hk], hmc, hcm, hOq, hBq⟩
set_option maxRecDepth 100000 in
set_option maxHeartbeats 2000000 in
theorem NewConsole_any (z : Int) (w : World) : Calls Try.prog 34 #[.int .i64 z] w (newPost w z) := by
  have hR0 : (w.alloc (.cells #[.slice none 0 0, .int .i64 0, .int .i64 0, .int .i64 0, .int .i64 0, .string ⟨#[]⟩, .string ⟨#[]⟩, .int .i64 0] 66)).heap[w.heap.size]? = some (.cells #[.slice none 0 0, .int .i64 0, .int .i64 0, .int .i64 0, .int .i64 0, .string ⟨#[]⟩, .string ⟨#[]⟩, .int .i64 0] 66 (0, 0)) := heap_alloc_new w _
  have hb0 : Below w.heap.size w (w.alloc (.cells #[.slice none 0 0, .int .i64 0, .int .i64 0, .int .i64 0, .int .i64 0, .string ⟨#[]⟩, .string ⟨#[]⟩, .int .i64 0] 66)) := (Below.refl _ w).alloc (Nat.le_refl _) _
  cases hk : inR z 1 100000 with
  | false =>
    go_enter Try.func34, Try.ntmps34
    go_upto_region 1 with fail
    refine name_wp ?_
    intro w1 hw1
    rw [← hw1] at hR0 hb0
    clear hw1
    go_wp2_with fail
    refine (within_any _ _ _ _).mono ?_
    rw [hk]
    rintro e w2 ⟨rfl, rfl⟩
    have r0 : w1.cell? ⟨w.heap.size, 0, none⟩ = some (.slice none 0 0) := by rw [cell_of_row w1 (w.heap.size) 0 _ _ (0, 0) hR0]; rfl
    have r1 : w1.cell? ⟨w.heap.size, 1, none⟩ = some (.int .i64 0) := by rw [cell_of_row w1 (w.heap.size) 1 _ _ (0, 0) hR0]; rfl
    have r2 : w1.cell? ⟨w.heap.size, 2, none⟩ = some (.int .i64 0) := by rw [cell_of_row w1 (w.heap.size) 2 _ _ (0, 0) hR0]; rfl
    have r3 : w1.cell? ⟨w.heap.size, 3, none⟩ = some (.int .i64 0) := by rw [cell_of_row w1 (w.heap.size) 3 _ _ (0, 0) hR0]; rfl
    have r4 : w1.cell? ⟨w.heap.size, 4, none⟩ = some (.int .i64 0) := by rw [cell_of_row w1 (w.heap.size) 4 _ _ (0, 0) hR0]; rfl
    have r5 : w1.cell? ⟨w.heap.size, 5, none⟩ = some (.string ⟨#[]⟩) := by rw [cell_of_row w1 (w.heap.size) 5 _ _ (0, 0) hR0]; rfl
    have r6 : w1.cell? ⟨w.heap.size, 6, none⟩ = some (.string ⟨#[]⟩) := by rw [cell_of_row w1 (w.heap.size) 6 _ _ (0, 0) hR0]; rfl
    have r7 : w1.cell? ⟨w.heap.size, 7, none⟩ = some (.int .i64 0) := by rw [cell_of_row w1 (w.heap.size) 7 _ _ (0, 0) hR0]; rfl
    have rf : ∀ j, w1.frozen? ⟨w.heap.size, j, none⟩ = false := fun j => frozen_of_row w1 (w.heap.size) j _ _ hR0
    have HBW := Lib.hid hb0
    clear hR0
    go_wp2
    obtain ⟨wq, hwq⟩ : ∃ wq, wq = ((((((((w1.setCell ⟨w.heap.size, 0, none⟩ (.slice none 0 0)).setCell ⟨w.heap.size, 1, none⟩ (.int .i64 0)).setCell ⟨w.heap.size, 2, none⟩ (.int .i64 0)).setCell ⟨w.heap.size, 3, none⟩ (.int .i64 0)).setCell ⟨w.heap.size, 4, none⟩ (.int .i64 0)).setCell ⟨w.heap.size, 5, none⟩ (.string ⟨#[]⟩)).setCell ⟨w.heap.size, 6, none⟩ (.string ⟨#[]⟩)).setCell ⟨w.heap.size, 7, none⟩ (.int .i64 0)) := ⟨_, rfl⟩
    rw [← hwq]
    have u0 : wq.cell? ⟨w.heap.size, 0, none⟩ = some (.slice none 0 0) := by rw [hwq]; go_simp
    have u1 : wq.cell? ⟨w.heap.size, 1, none⟩ = some (.int .i64 0) := by rw [hwq]; go_simp
    have u2 : wq.cell? ⟨w.heap.size, 2, none⟩ = some (.int .i64 0) := by rw [hwq]; go_simp
    have u3 : wq.cell? ⟨w.heap.size, 3, none⟩ = some (.int .i64 0) := by rw [hwq]; go_simp
    have u4 : wq.cell? ⟨w.heap.size, 4, none⟩ = some (.int .i64 0) := by rw [hwq]; go_simp
    have u5 : wq.cell? ⟨w.heap.size, 5, none⟩ = some (.string ⟨#[]⟩) := by rw [hwq]; go_simp
    have u6 : wq.cell? ⟨w.heap.size, 6, none⟩ = some (.string ⟨#[]⟩) := by rw [hwq]; go_simp
    have u7 : wq.cell? ⟨w.heap.size, 7, none⟩ = some (.int .i64 0) := by rw [hwq]; go_simp
    have hBq : Below w.heap.size w wq := by
      rw [hwq]
      exact ((((((((HBW.out.setCell (show w.heap.size ≤ w.heap.size from Nat.le_refl _) _).setCell (show w.heap.size ≤ w.heap.size from Nat.le_refl _) _).setCell (show w.heap.size ≤ w.heap.size from Nat.le_refl _) _).setCell (show w.heap.size ≤ w.heap.size from Nat.le_refl _) _).setCell (show w.heap.size ≤ w.heap.size from Nat.le_refl _) _).setCell (show w.heap.size ≤ w.heap.size from Nat.le_refl _) _).setCell (show w.heap.size ≤ w.heap.size from Nat.le_refl _) _).setCell (show w.heap.size ≤ w.heap.size from Nat.le_refl _) _)
    clear hwq
    try simp only [Exit.inBlock, Exit.then]
    refine bodyPost_ret (by simp [results, Try.results34, go_sem, u0, u1, u2, u3, u4, u5, u6, u7]; try rfl) rfl ?_
    exact newPost_no hk hBq
  | true =>
    go_enter Try.func34, Try.ntmps34
    go_upto_region 1 with fail
    refine name_wp ?_
    intro w1 hw1
    rw [← hw1] at hR0 hb0
    clear hw1
    go_wp2_with fail
    refine (within_any _ _ _ _).mono ?_
    rw [hk]
    rintro e w2 ⟨rfl, rfl⟩
    have l1 : w.heap.size < w1.heap.size := (Array.getElem?_eq_some_iff.1 hR0).1
    go_upto_region 3 with fail
    iterate 10 (first | go_skip | go_guarded | go_step | go_upon)
    refine nameL ?_
    intro wq hwq
    have hrow : wq.heap[w1.heap.size]? = some (.cells #[.int .i64 1, .int .i64 z, .int .i64 0, .int .i64 0] 87 (0, 0)) := by
      rw [hwq]
      exact heap_alloc_new w1 _
    have hq0 : wq.heap[w.heap.size]? = some (.cells #[.slice none 0 0, .int .i64 0, .int .i64 0, .int .i64 0, .int .i64 0, .string ⟨#[]⟩, .string ⟨#[]⟩, .int .i64 0] 66 (0, 0)) := by
      rw [hwq, heap_alloc_old _ _ l1]
      exact hR0
    have hBQ : Below w.heap.size w wq := by
      rw [hwq]
      exact hb0.alloc hb0.size _
    have hOw : wq.ownsRow w.heap.size 87 4 (.slice (some ⟨w1.heap.size, 0, none⟩) 1 1) 1 (([1, z, 0, 0] : List Int).map (Value.int .i64)) :=
      ⟨rfl, .inr ⟨w1.heap.size, 1, _, rfl, by omega, hrow, Nat.le_refl _, by unfold maxLen; omega, rfl, rfl⟩⟩
    clear hwq hR0 hb0
    generalize w1.heap.size = g4 at *
    have n1 : g4 ≠ w.heap.size := by omega
    have n2 : w.heap.size ≠ g4 := by omega
    have r0 : wq.cell? ⟨w.heap.size, 0, none⟩ = some (.slice none 0 0) := by rw [cell_of_row wq (w.heap.size) 0 _ _ (0, 0) hq0]; rfl
    have r1 : wq.cell? ⟨w.heap.size, 1, none⟩ = some (.int .i64 0) := by rw [cell_of_row wq (w.heap.size) 1 _ _ (0, 0) hq0]; rfl
    have r2 : wq.cell? ⟨w.heap.size, 2, none⟩ = some (.int .i64 0) := by rw [cell_of_row wq (w.heap.size) 2 _ _ (0, 0) hq0]; rfl
    have r3 : wq.cell? ⟨w.heap.size, 3, none⟩ = some (.int .i64 0) := by rw [cell_of_row wq (w.heap.size) 3 _ _ (0, 0) hq0]; rfl
    have r4 : wq.cell? ⟨w.heap.size, 4, none⟩ = some (.int .i64 0) := by rw [cell_of_row wq (w.heap.size) 4 _ _ (0, 0) hq0]; rfl
    have r5 : wq.cell? ⟨w.heap.size, 5, none⟩ = some (.string ⟨#[]⟩) := by rw [cell_of_row wq (w.heap.size) 5 _ _ (0, 0) hq0]; rfl
    have r6 : wq.cell? ⟨w.heap.size, 6, none⟩ = some (.string ⟨#[]⟩) := by rw [cell_of_row wq (w.heap.size) 6 _ _ (0, 0) hq0]; rfl
    have r7 : wq.cell? ⟨w.heap.size, 7, none⟩ = some (.int .i64 0) := by rw [cell_of_row wq (w.heap.size) 7 _ _ (0, 0) hq0]; rfl
    have rf : ∀ j, wq.frozen? ⟨w.heap.size, j, none⟩ = false := fun j => frozen_of_row wq (w.heap.size) j _ _ hq0
    have HBW := Lib.hid hBQ
    have HOW := Lib.hid hOw
    clear hrow hq0 hBQ hOw l1
    go_wp2
    obtain ⟨wz, hwz⟩ : ∃ wz, wz = ((((((((wq.setCell ⟨w.heap.size, 0, none⟩ (.slice (some ⟨g4, 0, none⟩) 1 1)).setCell ⟨w.heap.size, 1, none⟩ (.int .i64 0)).setCell ⟨w.heap.size, 2, none⟩ (.int .i64 0)).setCell ⟨w.heap.size, 3, none⟩ (.int .i64 0)).setCell ⟨w.heap.size, 4, none⟩ (.int .i64 0)).setCell ⟨w.heap.size, 5, none⟩ (.string ⟨#[]⟩)).setCell ⟨w.heap.size, 6, none⟩ (.string ⟨#[]⟩)).setCell ⟨w.heap.size, 7, none⟩ (.int .i64 0)) := ⟨_, rfl⟩
    rw [← hwz]
    have u0 : wz.cell? ⟨w.heap.size, 0, none⟩ = some (.slice (some ⟨g4, 0, none⟩) 1 1) := by rw [hwz]; go_simp
    have u1 : wz.cell? ⟨w.heap.size, 1, none⟩ = some (.int .i64 0) := by rw [hwz]; go_simp
    have u2 : wz.cell? ⟨w.heap.size, 2, none⟩ = some (.int .i64 0) := by rw [hwz]; go_simp
    have u3 : wz.cell? ⟨w.heap.size, 3, none⟩ = some (.int .i64 0) := by rw [hwz]; go_simp
    have u4 : wz.cell? ⟨w.heap.size, 4, none⟩ = some (.int .i64 0) := by rw [hwz]; go_simp
    have u5 : wz.cell? ⟨w.heap.size, 5, none⟩ = some (.string ⟨#[]⟩) := by rw [hwz]; go_simp
    have u6 : wz.cell? ⟨w.heap.size, 6, none⟩ = some (.string ⟨#[]⟩) := by rw [hwz]; go_simp
    have u7 : wz.cell? ⟨w.heap.size, 7, none⟩ = some (.int .i64 0) := by rw [hwz]; go_simp
    have hBq : Below w.heap.size w wz := by
      rw [hwz]
      exact ((((((((HBW.out.setCell (show w.heap.size ≤ w.heap.size from Nat.le_refl _) _).setCell (show w.heap.size ≤ w.heap.size from Nat.le_refl _) _).setCell (show w.heap.size ≤ w.heap.size from Nat.le_refl _) _).setCell (show w.heap.size ≤ w.heap.size from Nat.le_refl _) _).setCell (show w.heap.size ≤ w.heap.size from Nat.le_refl _) _).setCell (show w.heap.size ≤ w.heap.size from Nat.le_refl _) _).setCell (show w.heap.size ≤ w.heap.size from Nat.le_refl _) _).setCell (show w.heap.size ≤ w.heap.size from Nat.le_refl _) _)
    have no : ∀ j : Nat, (Value.slice (some ⟨g4, 0, none⟩) 1 1).ownBlock ≠ some (⟨w.heap.size, j, none⟩ : Addr).block := fun j e => n1 (Option.some.inj e)
    have hOq := (ownsRow_setCell_other (ownsRow_setCell_other (ownsRow_setCell_other (ownsRow_setCell_other (ownsRow_setCell_other (ownsRow_setCell_other (ownsRow_setCell_other (ownsRow_setCell_other HOW.out (no 0) (.slice (some ⟨g4, 0, none⟩) 1 1)) (no 1) (.int .i64 0)) (no 2) (.int .i64 0)) (no 3) (.int .i64 0)) (no 4) (.int .i64 0)) (no 5) (.string ⟨#[]⟩)) (no 6) (.string ⟨#[]⟩)) (no 7) (.int .i64 0))
    rw [← hwz] at hOq
    clear hwz HOW HBW
    try simp only [Exit.inBlock, Exit.then]
    refine bodyPost_ret (by simp [results, Try.results34, go_sem, u0, u1, u2, u3, u4, u5, u6, u7]; try rfl) rfl ?_
    have hm : newM z = 1 := by simp [newM, hk]
    have hl : newL z = [1, z, 0, 0] := by simp [newL, hk]
    exact ⟨some ⟨g4, 0, none⟩, 1, by rw [hk, hm], by rw [hm]; exact Nat.le_refl _, by unfold maxLen; omega, by rw [hm, hl]; exact hOq, hBq⟩
theorem eqLogC_same (D Q : ByteArray) (z : Int) (w : World) :
    Calls Try.prog 65 #[.agg #[.string D, .string Q, .int .i64 z], .agg #[.string D, .string Q, .int .i64 z]] w fun e w' => e = .returned (.bool true) ∧ Below w.heap.size w w' := by
  go_enter Try.func65, Try.ntmps65
  go_wp2
  go_ret
  exact ⟨rfl, by go_grown⟩
set_option maxRecDepth 100000 in
set_option maxHeartbeats 2000000 in
theorem eqConsole_same (A1 A2 : Option Addr) (n c d lo hi lo' hi' : Nat) (f : Nat → Int) (I H S P : Int) (D Q : ByteArray) (z : Int) (w : World) (hs : Sl w lo hi 4 A1 n f) (ht : Sl w lo' hi' 4 A2 n f) (hn : n ≤ 1048576) (hnc : n ≤ c) (hnd : n ≤ d) :
    Calls Try.prog 35 #[.agg #[.slice A1 n c, .int .i64 I, .int .i64 H, .int .i64 S, .int .i64 P, .string D, .string Q, .int .i64 z], .agg #[.slice A2 n d, .int .i64 I, .int .i64 H, .int .i64 S, .int .i64 P, .string D, .string Q, .int .i64 z]] w fun e w' => e = .returned (.bool true) ∧ Below w.heap.size w w' := by
  have hX : Below w.heap.size w ((w.alloc (.cells #[.slice A1 n c, .int .i64 I, .int .i64 H, .int .i64 S, .int .i64 P, .string D, .string Q, .int .i64 z] 66)).alloc (.cells #[.slice A2 n d, .int .i64 I, .int .i64 H, .int .i64 S, .int .i64 P, .string D, .string Q, .int .i64 z] 66)) := ((Below.refl _ w).alloc (Nat.le_refl _) _).alloc (by simp) _
  have HS := Lib.hid (hs.below hX)
  have HT := Lib.hid (ht.below hX)
  have HX := Lib.hid hX
  have h1 : ((w.alloc (.cells #[.slice A1 n c, .int .i64 I, .int .i64 H, .int .i64 S, .int .i64 P, .string D, .string Q, .int .i64 z] 66)).alloc (.cells #[.slice A2 n d, .int .i64 I, .int .i64 H, .int .i64 S, .int .i64 P, .string D, .string Q, .int .i64 z] 66)).heap[w.heap.size]? = some (.cells #[.slice A1 n c, .int .i64 I, .int .i64 H, .int .i64 S, .int .i64 P, .string D, .string Q, .int .i64 z] 66 (0, 0)) := by
    rw [heap_alloc_old _ _ (by simp)]
    exact heap_alloc_new w _
  have h2 : ((w.alloc (.cells #[.slice A1 n c, .int .i64 I, .int .i64 H, .int .i64 S, .int .i64 P, .string D, .string Q, .int .i64 z] 66)).alloc (.cells #[.slice A2 n d, .int .i64 I, .int .i64 H, .int .i64 S, .int .i64 P, .string D, .string Q, .int .i64 z] 66)).heap[w.heap.size + 1]? = some (.cells #[.slice A2 n d, .int .i64 I, .int .i64 H, .int .i64 S, .int .i64 P, .string D, .string Q, .int .i64 z] 66 (0, 0)) := by
    have h := heap_alloc_new (w.alloc (.cells #[.slice A1 n c, .int .i64 I, .int .i64 H, .int .i64 S, .int .i64 P, .string D, .string Q, .int .i64 z] 66)) (.cells #[.slice A2 n d, .int .i64 I, .int .i64 H, .int .i64 S, .int .i64 P, .string D, .string Q, .int .i64 z] 66)
    simpa using h
  clear hs ht hX
  go_enter Try.func35, Try.ntmps35
  go_upto_region 1 with fail
  refine name_wp ?_
  intro w1 hw1
  rw [← hw1] at HS HT HX h1 h2
  clear hw1
  have e0 : w1.cell? ⟨w.heap.size, 0, none⟩ = some (.slice A1 n c) := by rw [cell_of_row w1 (w.heap.size) 0 _ _ (0, 0) h1]; rfl
  have e1 : w1.cell? ⟨w.heap.size, 1, none⟩ = some (.int .i64 I) := by rw [cell_of_row w1 (w.heap.size) 1 _ _ (0, 0) h1]; rfl
  have e2 : w1.cell? ⟨w.heap.size, 2, none⟩ = some (.int .i64 H) := by rw [cell_of_row w1 (w.heap.size) 2 _ _ (0, 0) h1]; rfl
  have e3 : w1.cell? ⟨w.heap.size, 3, none⟩ = some (.int .i64 S) := by rw [cell_of_row w1 (w.heap.size) 3 _ _ (0, 0) h1]; rfl
  have e4 : w1.cell? ⟨w.heap.size, 4, none⟩ = some (.int .i64 P) := by rw [cell_of_row w1 (w.heap.size) 4 _ _ (0, 0) h1]; rfl
  have e5 : w1.cell? ⟨w.heap.size, 5, none⟩ = some (.string D) := by rw [cell_of_row w1 (w.heap.size) 5 _ _ (0, 0) h1]; rfl
  have e6 : w1.cell? ⟨w.heap.size, 6, none⟩ = some (.string Q) := by rw [cell_of_row w1 (w.heap.size) 6 _ _ (0, 0) h1]; rfl
  have e7 : w1.cell? ⟨w.heap.size, 7, none⟩ = some (.int .i64 z) := by rw [cell_of_row w1 (w.heap.size) 7 _ _ (0, 0) h1]; rfl
  have y0 : w1.cell? ⟨w.heap.size + 1, 0, none⟩ = some (.slice A2 n d) := by rw [cell_of_row w1 (w.heap.size + 1) 0 _ _ (0, 0) h2]; rfl
  have y1 : w1.cell? ⟨w.heap.size + 1, 1, none⟩ = some (.int .i64 I) := by rw [cell_of_row w1 (w.heap.size + 1) 1 _ _ (0, 0) h2]; rfl
  have y2 : w1.cell? ⟨w.heap.size + 1, 2, none⟩ = some (.int .i64 H) := by rw [cell_of_row w1 (w.heap.size + 1) 2 _ _ (0, 0) h2]; rfl
  have y3 : w1.cell? ⟨w.heap.size + 1, 3, none⟩ = some (.int .i64 S) := by rw [cell_of_row w1 (w.heap.size + 1) 3 _ _ (0, 0) h2]; rfl
  have y4 : w1.cell? ⟨w.heap.size + 1, 4, none⟩ = some (.int .i64 P) := by rw [cell_of_row w1 (w.heap.size + 1) 4 _ _ (0, 0) h2]; rfl
  have y5 : w1.cell? ⟨w.heap.size + 1, 5, none⟩ = some (.string D) := by rw [cell_of_row w1 (w.heap.size + 1) 5 _ _ (0, 0) h2]; rfl
  have y6 : w1.cell? ⟨w.heap.size + 1, 6, none⟩ = some (.string Q) := by rw [cell_of_row w1 (w.heap.size + 1) 6 _ _ (0, 0) h2]; rfl
  have y7 : w1.cell? ⟨w.heap.size + 1, 7, none⟩ = some (.int .i64 z) := by rw [cell_of_row w1 (w.heap.size + 1) 7 _ _ (0, 0) h2]; rfl
  go_wp2_with fail
  refine (eqWorks_same A1 A2 n c d lo hi lo' hi' f I H S P w1 HS.out HT.out hn hnc hnd).mono ?_
  rintro e w2 ⟨rfl, hb⟩
  have h1 := rowB h1 hb
  have h2 := rowB h2 hb
  have B2 := below_of HX.out hb HX.out.size
  clear hb e0 e1 e2 e3 e4 e5 e6 e7 y0 y1 y2 y3 y4 y5 y6 y7
  have e0 : w2.cell? ⟨w.heap.size, 0, none⟩ = some (.slice A1 n c) := by rw [cell_of_row w2 (w.heap.size) 0 _ _ (0, 0) h1]; rfl
  have e1 : w2.cell? ⟨w.heap.size, 1, none⟩ = some (.int .i64 I) := by rw [cell_of_row w2 (w.heap.size) 1 _ _ (0, 0) h1]; rfl
  have e2 : w2.cell? ⟨w.heap.size, 2, none⟩ = some (.int .i64 H) := by rw [cell_of_row w2 (w.heap.size) 2 _ _ (0, 0) h1]; rfl
  have e3 : w2.cell? ⟨w.heap.size, 3, none⟩ = some (.int .i64 S) := by rw [cell_of_row w2 (w.heap.size) 3 _ _ (0, 0) h1]; rfl
  have e4 : w2.cell? ⟨w.heap.size, 4, none⟩ = some (.int .i64 P) := by rw [cell_of_row w2 (w.heap.size) 4 _ _ (0, 0) h1]; rfl
  have e5 : w2.cell? ⟨w.heap.size, 5, none⟩ = some (.string D) := by rw [cell_of_row w2 (w.heap.size) 5 _ _ (0, 0) h1]; rfl
  have e6 : w2.cell? ⟨w.heap.size, 6, none⟩ = some (.string Q) := by rw [cell_of_row w2 (w.heap.size) 6 _ _ (0, 0) h1]; rfl
  have e7 : w2.cell? ⟨w.heap.size, 7, none⟩ = some (.int .i64 z) := by rw [cell_of_row w2 (w.heap.size) 7 _ _ (0, 0) h1]; rfl
  have y0 : w2.cell? ⟨w.heap.size + 1, 0, none⟩ = some (.slice A2 n d) := by rw [cell_of_row w2 (w.heap.size + 1) 0 _ _ (0, 0) h2]; rfl
  have y1 : w2.cell? ⟨w.heap.size + 1, 1, none⟩ = some (.int .i64 I) := by rw [cell_of_row w2 (w.heap.size + 1) 1 _ _ (0, 0) h2]; rfl
  have y2 : w2.cell? ⟨w.heap.size + 1, 2, none⟩ = some (.int .i64 H) := by rw [cell_of_row w2 (w.heap.size + 1) 2 _ _ (0, 0) h2]; rfl
  have y3 : w2.cell? ⟨w.heap.size + 1, 3, none⟩ = some (.int .i64 S) := by rw [cell_of_row w2 (w.heap.size + 1) 3 _ _ (0, 0) h2]; rfl
  have y4 : w2.cell? ⟨w.heap.size + 1, 4, none⟩ = some (.int .i64 P) := by rw [cell_of_row w2 (w.heap.size + 1) 4 _ _ (0, 0) h2]; rfl
  have y5 : w2.cell? ⟨w.heap.size + 1, 5, none⟩ = some (.string D) := by rw [cell_of_row w2 (w.heap.size + 1) 5 _ _ (0, 0) h2]; rfl
  have y6 : w2.cell? ⟨w.heap.size + 1, 6, none⟩ = some (.string Q) := by rw [cell_of_row w2 (w.heap.size + 1) 6 _ _ (0, 0) h2]; rfl
  have y7 : w2.cell? ⟨w.heap.size + 1, 7, none⟩ = some (.int .i64 z) := by rw [cell_of_row w2 (w.heap.size + 1) 7 _ _ (0, 0) h2]; rfl
  have HB := Lib.hid B2
  clear h1 h2 B2
  go_wp2_with fail
  refine (eqLogC_same D Q z w2).mono ?_
  rintro e w3 ⟨rfl, hb⟩
  have B3 := below_of HB.out hb HB.out.size
  go_wp2
  go_ret
  exact ⟨rfl, B3⟩
set_option maxHeartbeats 2000000 in
theorem markConsole_any (A1 : Option Addr) (n c lo hi : Nat) (k0 : Int) (f : Nat → Int) (I H S P : Int) (D Q : ByteArray) (z : Int) (w : World) (hs : Own w lo hi 87 4 A1 n f) (hn : n ≤ 1048576) (hnc : n ≤ c) (h0 : 0 ≤ k0) (h1' : k0 ≤ 1000000) :
    Calls Try.prog 36 #[.agg #[.slice A1 n c, .int .i64 I, .int .i64 H, .int .i64 S, .int .i64 P, .string D, .string Q, .int .i64 z], .int .i64 k0] w fun e w' => e = .returned (.int .i64 (k0 + (n : Int) * 4)) ∧ Own w' lo hi 87 4 A1 n (fun j => k0 + j) ∧ Fr lo hi w w' := by
  have hX : Below w.heap.size w (w.alloc (.cells #[.slice A1 n c, .int .i64 I, .int .i64 H, .int .i64 S, .int .i64 P, .string D, .string Q, .int .i64 z] 66)) := (Below.refl _ w).alloc (Nat.le_refl _) _
  have HS := Lib.hid (hs.below hX)
  have HX := Lib.hid hX
  have h1 : (w.alloc (.cells #[.slice A1 n c, .int .i64 I, .int .i64 H, .int .i64 S, .int .i64 P, .string D, .string Q, .int .i64 z] 66)).heap[w.heap.size]? = some (.cells #[.slice A1 n c, .int .i64 I, .int .i64 H, .int .i64 S, .int .i64 P, .string D, .string Q, .int .i64 z] 66 (0, 0)) := heap_alloc_new w _
  clear hs hX
  go_enter Try.func36, Try.ntmps36
  go_upto_region 1 with fail
  refine name_wp ?_
  intro w1 hw1
  rw [← hw1] at HS HX h1
  clear hw1
  have e0 : w1.cell? ⟨w.heap.size, 0, none⟩ = some (.slice A1 n c) := by rw [cell_of_row w1 (w.heap.size) 0 _ _ (0, 0) h1]; rfl
  have e1 : w1.cell? ⟨w.heap.size, 1, none⟩ = some (.int .i64 I) := by rw [cell_of_row w1 (w.heap.size) 1 _ _ (0, 0) h1]; rfl
  have e2 : w1.cell? ⟨w.heap.size, 2, none⟩ = some (.int .i64 H) := by rw [cell_of_row w1 (w.heap.size) 2 _ _ (0, 0) h1]; rfl
  have e3 : w1.cell? ⟨w.heap.size, 3, none⟩ = some (.int .i64 S) := by rw [cell_of_row w1 (w.heap.size) 3 _ _ (0, 0) h1]; rfl
  have e4 : w1.cell? ⟨w.heap.size, 4, none⟩ = some (.int .i64 P) := by rw [cell_of_row w1 (w.heap.size) 4 _ _ (0, 0) h1]; rfl
  have e5 : w1.cell? ⟨w.heap.size, 5, none⟩ = some (.string D) := by rw [cell_of_row w1 (w.heap.size) 5 _ _ (0, 0) h1]; rfl
  have e6 : w1.cell? ⟨w.heap.size, 6, none⟩ = some (.string Q) := by rw [cell_of_row w1 (w.heap.size) 6 _ _ (0, 0) h1]; rfl
  have e7 : w1.cell? ⟨w.heap.size, 7, none⟩ = some (.int .i64 z) := by rw [cell_of_row w1 (w.heap.size) 7 _ _ (0, 0) h1]; rfl
  go_wp2_with fail
  refine (markWorks_any A1 n c lo hi k0 f I H S P w1 HS.out hn hnc h0 h1').mono ?_
  rintro e w2 ⟨rfl, ho, hfr⟩
  have HO := Lib.hid ho
  have HR := Lib.hid ((Fr.of_below lo hi HX.out).trans hfr)
  clear ho hfr e0 e1 e2 e3 e4 e5 e6 e7
  go_wp2
  go_ret
  exact ⟨rfl, HO.out, HR.out⟩
set_option maxHeartbeats 2000000 in
theorem heldConsole_any (A1 : Option Addr) (n c lo hi : Nat) (k0 : Int) (I H S P : Int) (D Q : ByteArray) (z : Int) (w : World) (hs : Sl w lo hi 4 A1 n (fun j => k0 + j)) (hn : n ≤ 1048576) (hnc : n ≤ c) (h0 : 0 ≤ k0) (h1' : k0 ≤ 1000000) :
    Calls Try.prog 37 #[.agg #[.slice A1 n c, .int .i64 I, .int .i64 H, .int .i64 S, .int .i64 P, .string D, .string Q, .int .i64 z], .int .i64 k0] w fun e w' => e = .returned (.int .i64 (k0 + (n : Int) * 4)) ∧ Below w.heap.size w w' := by
  have hX : Below w.heap.size w (w.alloc (.cells #[.slice A1 n c, .int .i64 I, .int .i64 H, .int .i64 S, .int .i64 P, .string D, .string Q, .int .i64 z] 66)) := (Below.refl _ w).alloc (Nat.le_refl _) _
  have HS := Lib.hid (hs.below hX)
  have HX := Lib.hid hX
  have h1 : (w.alloc (.cells #[.slice A1 n c, .int .i64 I, .int .i64 H, .int .i64 S, .int .i64 P, .string D, .string Q, .int .i64 z] 66)).heap[w.heap.size]? = some (.cells #[.slice A1 n c, .int .i64 I, .int .i64 H, .int .i64 S, .int .i64 P, .string D, .string Q, .int .i64 z] 66 (0, 0)) := heap_alloc_new w _
  clear hs hX
  go_enter Try.func37, Try.ntmps37
  go_upto_region 1 with fail
  refine name_wp ?_
  intro w1 hw1
  rw [← hw1] at HS HX h1
  clear hw1
  have e0 : w1.cell? ⟨w.heap.size, 0, none⟩ = some (.slice A1 n c) := by rw [cell_of_row w1 (w.heap.size) 0 _ _ (0, 0) h1]; rfl
  have e1 : w1.cell? ⟨w.heap.size, 1, none⟩ = some (.int .i64 I) := by rw [cell_of_row w1 (w.heap.size) 1 _ _ (0, 0) h1]; rfl
  have e2 : w1.cell? ⟨w.heap.size, 2, none⟩ = some (.int .i64 H) := by rw [cell_of_row w1 (w.heap.size) 2 _ _ (0, 0) h1]; rfl
  have e3 : w1.cell? ⟨w.heap.size, 3, none⟩ = some (.int .i64 S) := by rw [cell_of_row w1 (w.heap.size) 3 _ _ (0, 0) h1]; rfl
  have e4 : w1.cell? ⟨w.heap.size, 4, none⟩ = some (.int .i64 P) := by rw [cell_of_row w1 (w.heap.size) 4 _ _ (0, 0) h1]; rfl
  have e5 : w1.cell? ⟨w.heap.size, 5, none⟩ = some (.string D) := by rw [cell_of_row w1 (w.heap.size) 5 _ _ (0, 0) h1]; rfl
  have e6 : w1.cell? ⟨w.heap.size, 6, none⟩ = some (.string Q) := by rw [cell_of_row w1 (w.heap.size) 6 _ _ (0, 0) h1]; rfl
  have e7 : w1.cell? ⟨w.heap.size, 7, none⟩ = some (.int .i64 z) := by rw [cell_of_row w1 (w.heap.size) 7 _ _ (0, 0) h1]; rfl
  go_wp2_with fail
  refine (heldWorks_any A1 n c lo hi k0 I H S P w1 HS.out hn hnc h0 h1').mono ?_
  rintro e w2 ⟨rfl, hb⟩
  have B2 := below_of HX.out hb HX.out.size
  have hnn : ¬ (k0 + (n : Int) * 4 < 0) := by omega
  clear hb e0 e1 e2 e3 e4 e5 e6 e7
  go_wp2
  go_ret
  exact ⟨rfl, B2⟩
end Go.Proofs.Ytjhgpebppcbleaa
