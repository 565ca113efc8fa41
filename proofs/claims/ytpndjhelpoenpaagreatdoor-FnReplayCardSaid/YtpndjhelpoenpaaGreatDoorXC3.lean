/-
  Texts of this claim, merged.
-/
import Derived.Test.YtpndjhelpoenpaaGreatDoorXC2
set_option linter.unusedVariables false
set_option linter.unusedSimpArgs false
set_option maxRecDepth 100000
set_option maxHeartbeats 8000000
namespace Go.Proofs.YtpndjhelpoenpaaGreatDoor
open Go.RowKit
def newM (z : Int) : Nat := if inR z 1 100000 then 1 else 0
def newL (z : Int) : List Int := if inR z 1 100000 then [1, z, 0, 0] else []
def newPost (w : World) (z : Int) (e : Ending) (w' : World) : Prop :=
 ∃ A' c', e = .returned (.tuple #[.agg (cB A' (newM z) c' 0 0 0 0 ⟨#[]⟩ ⟨#[]⟩ 0), .bool (inR z 1 100000)]) ∧ newM z ≤ c' ∧ c' ≤ maxLen ∧ w'.ownsRow w.heap.size 97 4 (.slice A' (newM z) c') (newM z) ((newL z).map (Value.int .i64)) ∧ bW w w'
theorem nameL {P : Program} {ops : Array Oper} {Q : Exit → Act → World → Prop} {l : List Oper} {a : Act} {W : World} (h : ∀ w2, w2 = W → wpList P ops Q l a w2) : wpList P ops Q l a W := h W rfl
theorem newPost_no {w w' : World} {z : Int} (hk : inR z 1 100000 = false) (hb : bW w w') : newPost w z (.returned (.tuple #[.agg (cB none 0 0 0 0 0 0 ⟨#[]⟩ ⟨#[]⟩ 0), .bool false])) w' := by
 have hm : newM z = 0 := by simp [newM, hk]
 have hl : newL z = [] := by simp [newL, hk]
 exact ⟨none, 0, by rw [hk, hm], by rw [hm]; exact z35, by unfold maxLen; omega, by rw [hm, hl]; simpa using World.ownsRow_nil w' w.heap.size 97 4, hb⟩
theorem new_ok (z : Int) : stOk (fun _ => 0) 0 0 0 0 0 1 1 0 z = inR z 1 100000 := by
 cases hk : inR z 1 100000 with
 | false =>
  have hv : stV (fun _ => 0) 0 1 1 0 z = false := by simp [stV, hk]
  simp [stOk, hv]
 | true =>
  have h : 1 ≤ z ∧ z ≤ 100000 := by simpa [inR] using hk
  have hz : z ≤ 1000000 := by omega
  have hw : wrap64 0 = 0 := by rw [← IntWalk.i64_left]; exact IntWalk.i64_in 0 (by omega)
  have hg : goodWorks (fun _ => 0) 0 0 0 0 0 = true := by simp [goodWorks, pansOk, allTo, kilosOk, totalV, sumW, inR, hw]
  have hv : stV (fun _ => 0) 0 1 1 0 z = true := by simp [stV, findV, inR, h.1, h.2]
  have hG : stG (fun _ => 0) 0 0 0 0 0 1 1 0 z = true := by
   have hl : stL (fun _ => 0) 0 1 1 0 z = [1, z, 0, 0] := by simp [stL, buildL, cellsL]
   have hz0 : (0 : Int) ≤ z := by omega
   simp only [stG, hl, stN, stI, stH, stS, stP]
   simp [goodWorks, pansOk, allTo, panStep, okPanAt, okPan, okBrine, massV, kilosOk, totalV, sumW, saltAt, lf, inR, hw, h.1, h.2, hz0]
  simp [stOk, mkOk, stM, hg, hv, hG, hz]
theorem new_step {w w' : World} {e : Ending} (z : Int) (h : stepPost w (fun _ => 0) 0 0 0 0 0 1 1 0 z (stOk (fun _ => 0) 0 0 0 0 0 1 1 0 z) e w') :
  ∃ A' c', e = .returned (.tuple #[.agg (wB A' (newM z) c' 0 0 0 0), .bool (inR z 1 100000)]) ∧ newM z ≤ c' ∧ c' ≤ maxLen ∧ w'.ownsRow w.heap.size 97 4 (.slice A' (newM z) c') (newM z) ((newL z).map (Value.int .i64)) ∧ bW w w' := by
 rw [new_ok] at h
 have hl : stL (fun _ => 0) 0 1 1 0 z = [1, z, 0, 0] := by simp [stL, buildL, cellsL]
 unfold stepPost at h
 rw [hl] at h
 have e1 : (if inR z 1 100000 = true then ([1, z, 0, 0] : List Int) else []) = newL z := rfl
 have e2 : (if inR z 1 100000 = true then stN 0 1 else 0) = newM z := rfl
 have e3 : (if inR z 1 100000 = true then stI 0 1 z else 0) = 0 := by simp [stI]
 have e4 : (if inR z 1 100000 = true then stH 0 1 z else 0) = 0 := by simp [stH]
 have e5 : (if inR z 1 100000 = true then stS 0 1 z else 0) = 0 := by simp [stS]
 have e6 : (if inR z 1 100000 = true then stP (fun _ => 0) 0 0 1 1 else 0) = 0 := by simp [stP]
 rw [e1, e2, e3, e4, e5, e6] at h
 exact h
theorem sNewConsole_any (z : Int) (w : World) : Calls Tryz.prog 32 #[.int .i64 z] w (newPost w z) := by
 refine z361 ?_
 intro hR0 hb0
 go_enter Tryz.func32, Tryz.ntmps32
 go_wp2_with fail
 refine (sStepWorks_any none 0 0 0 0 (fun _ => 0) 0 0 0 0 1 1 0 z _ ⟨Nat.zero_le _, fun h => absurd h (by omega)⟩ (by omega) nL (fun _ => ⟨rfl, rfl⟩) (fun ad h => by cases h)).mono ?_
 rintro e w1 hp
 obtain ⟨A', c', rfl, hmc, hcm, ho, hb1⟩ := new_step z hp
 have hr1 := (hb1.block (w.heap.size) (by simp)).trans hR0
 have B1 := hb0.trans (hb1.mono hb0.size)
 have l1 : w.heap.size < w1.heap.size := (gL hr1)
 have ho := ownsRow_monoP ho hb0.size
 clear hp hR0 hb0 hb1
 go_upto_region 2 with fail
 refine z161 ?_
 intro w2 hw2
 have b12 := ba hw2
 have h4 := an hw2
 have hr2 := (b12.block (w.heap.size) l1).trans hr1
 have B2 := below_of B1 b12 B1.size
 have ho2 := ownsRow_below ho b12
 clear hw2 hr1 B1 ho b12
 generalize w1.heap.size = g4 at *
 have n1 : g4 ≠ w.heap.size := by omega
 have n2 : w.heap.size ≠ g4 := by omega
 cases hk : inR z 1 100000 with
 | false =>
  obtain ⟨r0, r1, r2, r3, r4, r5, r6, r7⟩ := cells8 hr2
  have rf := fz hr2
  have HBW := lh B2
  clear hr2
  go_wp2
  obtain ⟨wq, hwq⟩ : ∃ wq, wq = ((((((((w2.setCell ⟨w.heap.size, 0, none⟩ (.slice none 0 0)).setCell ⟨w.heap.size, 1, none⟩ (.int .i64 0)).setCell ⟨w.heap.size, 2, none⟩ (.int .i64 0)).setCell ⟨w.heap.size, 3, none⟩ (.int .i64 0)).setCell ⟨w.heap.size, 4, none⟩ (.int .i64 0)).setCell ⟨w.heap.size, 5, none⟩ (.string ⟨#[]⟩)).setCell ⟨w.heap.size, 6, none⟩ (.string ⟨#[]⟩)).setCell ⟨w.heap.size, 7, none⟩ (.int .i64 0)) := ⟨_, rfl⟩
  rw [← hwq]
  have u0 : cE wq w.heap.size 0 (.slice none 0 0) := by rw [hwq]; go_simp
  refine z362 ?_
  intro u1 u2 u3 u4 u5 u6 u7 hBq
  clear hwq
  refine z66 ?_
  refine bodyPost_ret (by simp [results, Tryz.results32, go_sem, u0, u1, u2, u3, u4, u5, u6, u7]; try rfl) rfl ?_
  exact newPost_no hk hBq
 | true =>
  have nor : ∀ k : Nat, (Value.slice A' (newM z) c').ownBlock = some k → k ≠ w.heap.size := fun k e hk => by
   subst hk
   exact row_none_ne ho2 hr2 (by decide) e
  obtain ⟨e0, e1, e2, e3, e4⟩ := cells5 h4
  obtain ⟨r0, r1, r2, r3, r4, r5, r6, r7⟩ := cells8 hr2
  have rf := fz hr2
  have HBW := lh B2
  have HOW := lh ho2
  have NOR := lh nor
  clear h4 hr2 B2 ho2 nor
  go_wp2
  obtain ⟨wq, hwq⟩ : ∃ wq, wq = ((((((((w2.setCell ⟨w.heap.size, 0, none⟩ (.slice A' (newM z) c')).setCell ⟨w.heap.size, 1, none⟩ (.int .i64 0)).setCell ⟨w.heap.size, 2, none⟩ (.int .i64 0)).setCell ⟨w.heap.size, 3, none⟩ (.int .i64 0)).setCell ⟨w.heap.size, 4, none⟩ (.int .i64 0)).setCell ⟨w.heap.size, 5, none⟩ (.string ⟨#[]⟩)).setCell ⟨w.heap.size, 6, none⟩ (.string ⟨#[]⟩)).setCell ⟨w.heap.size, 7, none⟩ (.int .i64 0)) := ⟨_, rfl⟩
  rw [← hwq]
  have u0 : cE wq w.heap.size 0 (.slice A' (newM z) c') := by rw [hwq]; go_simp
  refine z362 ?_
  intro u1 u2 u3 u4 u5 u6 u7 hBq
  have no : ∀ j : Nat, (Value.slice A' (newM z) c').ownBlock ≠ some (⟨w.heap.size, j, none⟩ : Addr).block := fun j e => NOR.out _ e rfl
  have hOq := (ownsRow_setCell_other (ownsRow_setCell_other (ownsRow_setCell_other (ownsRow_setCell_other (ownsRow_setCell_other (ownsRow_setCell_other (ownsRow_setCell_other (ownsRow_setCell_other HOW.out (no 0) (.slice A' (newM z) c')) (no 1) (.int .i64 0)) (no 2) (.int .i64 0)) (no 3) (.int .i64 0)) (no 4) (.int .i64 0)) (no 5) (.string ⟨#[]⟩)) (no 6) (.string ⟨#[]⟩)) (no 7) (.int .i64 0))
  rw [← hwq] at hOq
  clear hwq HOW HBW
  refine z66 ?_
  refine bodyPost_ret (by simp [results, Tryz.results32, go_sem, u0, u1, u2, u3, u4, u5, u6, u7]; try rfl) rfl ?_
  exact ⟨A', c', by rw [hk], hmc, hcm, hOq, hBq⟩
theorem NewConsole_any (z : Int) (w : World) : Calls Tryz.prog 31 #[.int .i64 z] w (newPost w z) := by
 refine z361 ?_
 intro hR0 hb0
 cases hk : inR z 1 100000 with
 | false =>
  go_enter Tryz.func31, Tryz.ntmps31
  go_upto_region 1 with fail
  refine z161 ?_
  intro w1 hw1
  rw [← hw1] at hR0 hb0
  clear hw1
  go_wp2_with fail
  refine z26 ?_
  rw [hk]
  refine z56 ?_
  obtain ⟨r0, r1, r2, r3, r4, r5, r6, r7⟩ := cells8 hR0
  have rf := fz hR0
  have HBW := lh hb0
  clear hR0
  go_wp2
  obtain ⟨wq, hwq⟩ : ∃ wq, wq = ((((((((w1.setCell ⟨w.heap.size, 0, none⟩ (.slice none 0 0)).setCell ⟨w.heap.size, 1, none⟩ (.int .i64 0)).setCell ⟨w.heap.size, 2, none⟩ (.int .i64 0)).setCell ⟨w.heap.size, 3, none⟩ (.int .i64 0)).setCell ⟨w.heap.size, 4, none⟩ (.int .i64 0)).setCell ⟨w.heap.size, 5, none⟩ (.string ⟨#[]⟩)).setCell ⟨w.heap.size, 6, none⟩ (.string ⟨#[]⟩)).setCell ⟨w.heap.size, 7, none⟩ (.int .i64 0)) := ⟨_, rfl⟩
  rw [← hwq]
  have u0 : cE wq w.heap.size 0 (.slice none 0 0) := by rw [hwq]; go_simp
  refine z362 ?_
  intro u1 u2 u3 u4 u5 u6 u7 hBq
  clear hwq
  refine z66 ?_
  refine bodyPost_ret (by simp [results, Tryz.results31, go_sem, u0, u1, u2, u3, u4, u5, u6, u7]; try rfl) rfl ?_
  exact newPost_no hk hBq
 | true =>
  go_enter Tryz.func31, Tryz.ntmps31
  go_upto_region 1 with fail
  refine z161 ?_
  intro w1 hw1
  rw [← hw1] at hR0 hb0
  clear hw1
  go_wp2_with fail
  refine z26 ?_
  rw [hk]
  refine z56 ?_
  have l1 : w.heap.size < w1.heap.size := (gL hR0)
  go_upto_region 3 with fail
  iterate 10 (first | go_skip | go_guarded | go_step | go_upon)
  refine nameL ?_
  intro wq hwq
  have hrow : wq.heap[w1.heap.size]? = some (.cells (iV 1 z 0 0) 97 (0, 0)) := by
   rw [hwq]
   exact heap_alloc_new w1 _
  have hq0 : wq.heap[w.heap.size]? = some (.cells (cB none 0 0 0 0 0 0 ⟨#[]⟩ ⟨#[]⟩ 0) 35 (0, 0)) := by
   rw [hwq, heap_alloc_old _ _ l1]
   exact hR0
  have hBQ : bW w wq := by
   rw [hwq]
   exact hb0.alloc hb0.size _
  have hOw : wq.ownsRow w.heap.size 97 4 (.slice (some ⟨w1.heap.size, 0, none⟩) 1 1) 1 (([1, z, 0, 0] : List Int).map (Value.int .i64)) :=
   ⟨rfl, .inr ⟨w1.heap.size, 1, _, rfl, by omega, hrow, Nat.le_refl _, by unfold maxLen; omega, rfl, rfl⟩⟩
  clear hwq hR0 hb0
  generalize w1.heap.size = g4 at *
  have n1 : g4 ≠ w.heap.size := by omega
  have n2 : w.heap.size ≠ g4 := by omega
  obtain ⟨r0, r1, r2, r3, r4, r5, r6, r7⟩ := cells8 hq0
  have rf := fz hq0
  have HBW := lh hBQ
  have HOW := lh hOw
  clear hrow hq0 hBQ hOw l1
  go_wp2
  obtain ⟨wz, hwz⟩ : ∃ wz, wz = ((((((((wq.setCell ⟨w.heap.size, 0, none⟩ (.slice (some ⟨g4, 0, none⟩) 1 1)).setCell ⟨w.heap.size, 1, none⟩ (.int .i64 0)).setCell ⟨w.heap.size, 2, none⟩ (.int .i64 0)).setCell ⟨w.heap.size, 3, none⟩ (.int .i64 0)).setCell ⟨w.heap.size, 4, none⟩ (.int .i64 0)).setCell ⟨w.heap.size, 5, none⟩ (.string ⟨#[]⟩)).setCell ⟨w.heap.size, 6, none⟩ (.string ⟨#[]⟩)).setCell ⟨w.heap.size, 7, none⟩ (.int .i64 0)) := ⟨_, rfl⟩
  rw [← hwz]
  have u0 : cE wz w.heap.size 0 (.slice (some ⟨g4, 0, none⟩) 1 1) := by rw [hwz]; go_simp
  have u1 : cI wz w.heap.size 1 0 := by rw [hwz]; go_simp
  have u2 : cI wz w.heap.size 2 0 := by rw [hwz]; go_simp
  have u3 : cI wz w.heap.size 3 0 := by rw [hwz]; go_simp
  have u4 : cI wz w.heap.size 4 0 := by rw [hwz]; go_simp
  have u5 : cE wz w.heap.size 5 (.string ⟨#[]⟩) := by rw [hwz]; go_simp
  have u6 : cE wz w.heap.size 6 (.string ⟨#[]⟩) := by rw [hwz]; go_simp
  have u7 : cI wz w.heap.size 7 0 := by rw [hwz]; go_simp
  have hBq : bW w wz := by
   rw [hwz]
   exact ((((((((HBW.out.setCell (show w.heap.size ≤ w.heap.size from Nat.le_refl _) _).setCell (show w.heap.size ≤ w.heap.size from Nat.le_refl _) _).setCell (show w.heap.size ≤ w.heap.size from Nat.le_refl _) _).setCell (show w.heap.size ≤ w.heap.size from Nat.le_refl _) _).setCell (show w.heap.size ≤ w.heap.size from Nat.le_refl _) _).setCell (show w.heap.size ≤ w.heap.size from Nat.le_refl _) _).setCell (show w.heap.size ≤ w.heap.size from Nat.le_refl _) _).setCell (show w.heap.size ≤ w.heap.size from Nat.le_refl _) _)
  have no : ∀ j : Nat, (Value.slice (some ⟨g4, 0, none⟩) 1 1).ownBlock ≠ some (⟨w.heap.size, j, none⟩ : Addr).block := fun j e => n1 (Option.some.inj e)
  have hOq := (ownsRow_setCell_other (ownsRow_setCell_other (ownsRow_setCell_other (ownsRow_setCell_other (ownsRow_setCell_other (ownsRow_setCell_other (ownsRow_setCell_other (ownsRow_setCell_other HOW.out (no 0) (.slice (some ⟨g4, 0, none⟩) 1 1)) (no 1) (.int .i64 0)) (no 2) (.int .i64 0)) (no 3) (.int .i64 0)) (no 4) (.int .i64 0)) (no 5) (.string ⟨#[]⟩)) (no 6) (.string ⟨#[]⟩)) (no 7) (.int .i64 0))
  rw [← hwz] at hOq
  clear hwz HOW HBW
  refine z66 ?_
  refine bodyPost_ret (by simp [results, Tryz.results31, go_sem, u0, u1, u2, u3, u4, u5, u6, u7]; try rfl) rfl ?_
  have hm : newM z = 1 := by simp [newM, hk]
  have hl : newL z = [1, z, 0, 0] := by simp [newL, hk]
  exact ⟨some ⟨g4, 0, none⟩, 1, by rw [hk, hm], by rw [hm]; exact z35, by unfold maxLen; omega, by rw [hm, hl]; exact hOq, hBq⟩
end Go.Proofs.YtpndjhelpoenpaaGreatDoor
namespace Go.Proofs.YtpndjhelpoenpaaGreatDoor
open Go.RowKit
attribute [local go_sem ↓] Go.wp_at_zero Go.wp_at_succ
theorem flat_small {L : List (ByteArray × ByteArray)} (h : ∀ e ∈ L, goodRec e.1 e.2 = true) : ∀ x ∈ flatR L, x.size ≤ 1048576 := by
 induction L with
 | nil => intro x hx; cases hx
 | cons e L ih =>
  intro x hx
  have hf := goodRec_facts (h e List.mem_cons_self)
  simp only [flatR, List.mem_cons] at hx
  rcases hx with rfl | rfl | hx
  ·have := hf.2.1; omega
  ·have := hf.2.2.2.1; omega
  ·exact ih (fun e he => h e (List.mem_cons_of_mem _ he)) x hx
def newC (hz : Int) : CS := ⟨lf (newL hz), newM hz, 0, 0, 0, 0, ⟨#[]⟩, ⟨#[]⟩, 0⟩
theorem newC_fit (hz : Int) : Fit (newC hz) := by
 refine ⟨?_, Nat.zero_le _, Nat.zero_le _⟩
 show newM hz ≤ 1048576
 unfold newM
 split <;> omega
def leadN (p : Nat → Bool) : Nat → Nat
 | 0 => 0
 | m + 1 => if leadN p m < m then leadN p m else if p m then m + 1 else m
theorem lead_all {p : Nat → Bool} : ∀ {m : Nat}, (∀ j, j < m → p j = true) → leadN p m = m
 | 0, _ => rfl
 | m + 1, h => by
  rw [leadN, lead_all (m := m) (fun j hj => h j (by omega)), if_neg (by omega), if_pos (h m (by omega))]
theorem lead_stop {p : Nat → Bool} {k : Nat} (hk : ∀ j, j < k → p j = true) (hp : p k = false) : ∀ {m : Nat}, k < m → leadN p m = k
 | 0, h => absurd h (by omega)
 | m + 1, h => by
  rw [leadN]
  by_cases hkm : k < m
  ·rw [lead_stop hk hp hkm, if_pos hkm]
  ·have e : m = k := by omega
   subst e
   rw [lead_all hk, if_neg (by omega), hp]
   rfl
noncomputable def rlP (hz : Int) (D Q : ByteArray) (k : Nat) : Bool := decide (rpN (newC hz) (fun j => lrF D Q (j * 2)) k = lrF D Q (k * 2 + 1))
noncomputable def rlOk (hz : Int) (D Q : ByteArray) (z : Int) : Bool := inR hz 1 100000 && logOk D Q z
noncomputable def rlV (hz : Int) (D Q : ByteArray) (z : Int) : Nat := if rlOk hz D Q z then leadN (rlP hz D Q) (lrN D Q z) else 0
def RlPost (hz : Int) (D Q : ByteArray) (z : Int) (w : World) (e : Ending) (w' : World) : Prop := e = .returned (.tuple #[.int .i64 (rlV hz D Q z), .bool (rlOk hz D Q z)]) ∧ bW w w'
theorem rl_none {hz z : Int} {D Q : ByteArray} {w w' : World} (h : rlOk hz D Q z = false) (hb : bW w w') : RlPost hz D Q z w (.returned (.tuple #[.int .i64 0, .bool false])) w' := by
 unfold RlPost rlV
 rw [h]
 exact ⟨rfl, hb⟩
theorem rl_some {hz z : Int} {D Q : ByteArray} {w w' : World} {r : Nat} (h1 : inR hz 1 100000 = true) (h2 : logOk D Q z = true) (hr : leadN (rlP hz D Q) (lrN D Q z) = r) (hb : bW w w') : RlPost hz D Q z w (.returned (.tuple #[.int .i64 r, .bool true])) w' := by
 have h : rlOk hz D Q z = true := by rw [rlOk, h1, h2]; rfl
 unfold RlPost rlV
 rw [h, if_pos rfl, hr]
 exact ⟨rfl, hb⟩
theorem lrF_size (D Q : ByteArray) (j : Nat) : (lrF D Q j).size ≤ 1048576 := by
 unfold lrF
 have h : ∀ x ∈ flatR (readN (D ++ Q) 60).1, x.size ≤ 1048576 := flat_small (fun e he => readN_good (Nat.le_refl 60) e he)
 by_cases hj : j < (flatR (readN (D ++ Q) 60).1).length
 ·rw [List.getD_eq_getElem?_getD, List.getElem?_eq_getElem hj]
  exact h _ (List.getElem_mem hj)
 exact z288
theorem new_open {w w' : World} {hz : Int} {e : Ending} (h : newPost w hz e w') : ∃ A' c', e = .returned (.tuple #[.agg (cB A' (newC hz).n c' (newC hz).I (newC hz).H (newC hz).S (newC hz).P (newC hz).D (newC hz).Q (newC hz).z), .bool (inR hz 1 100000)]) ∧ (newC hz).n ≤ c' ∧ w'.ownsRow w.heap.size 97 4 (.slice A' (newC hz).n c') (newC hz).n ((newL hz).map (Value.int .i64)) ∧ bW w w' := by
 obtain ⟨A', c', rfl, h1, _, h2, h3⟩ := h
 exact ⟨A', c', rfl, h1, h2, h3⟩
theorem ReplayLog_any (hz : Int) (D Q : ByteArray) (z : Int) (hD : D.size ≤ 1048576) (hQ : Q.size ≤ 1048576) (w : World) (ht : Tab w) (hm_ : Mx w) (he : Er w) :
  Calls Tryz.prog 24 #[.int .i64 hz, .agg (lV D Q z)] w (RlPost hz D Q z w) := by
 have HT := lh ht
 have HM := lh hm_
 have HE := lh he
 clear ht hm_ he
 obtain ⟨hX, h3⟩ := bl1 w (.cells (lV D Q z) 33)
 go_enter Tryz.func24, Tryz.ntmps24
 go_upto_region 1 with fail
 refine z161 ?_
 revert hX h3
 refine z364 ?_
 intro w1 g3 hg3 l3 HB H3 ok hok
 have HNC := lh (fun W : World => NewConsole_any hz W)
 go_wp2_with fail
 refine (HNC.out w1).mono ?_
 rintro e w2 hp
 obtain ⟨A0, cp, rfl, hcp, hown, hb⟩ := new_open hp
 clear hp HNC
 rw [hok]
 have HOK := lh hok
 clear hok
 have HB2 := lh (HB.out.trans (hb.mono HB.out.size))
 have H3' := lh (rowC H3.out hb)
 have HOW := lh (ownsRow_monoP hown (Nat.zero_le _))
 have hb2 := hb.size
 clear hb hown HB H3
 go_upto_region 2 with fail
 refine z295 ?_
 intro w3 hb h6 g6 hg6
 rw [hg6] at h6 hb2
 refine z365 ?_
 intro HLE l6 HB H3 H6 HO
 clear hb h6 HB2 H3' HOW hg3 hg6
 have hfit := newC_fit hz
 obtain ⟨e0, e1, e2⟩ := cells3 H3.out
 go_wp2_with fail
 refine (LogRecords_any D Q z hD hQ w3 (HT.out.below HB.out) (HM.out.below HB.out)).mono ?_
 rintro e w4 ⟨Aw, dw, rfl, hdw, _, hon, hb⟩
 obtain ⟨lk, hlk⟩ : ∃ b, logOk D Q z = b := ⟨_, rfl⟩
 rw [hlk]
 have HLK := lh hlk
 obtain ⟨m, hm⟩ : ∃ q, lrN D Q z = q := ⟨_, rfl⟩
 rw [hm] at hon hdw
 try rw [hm]
 have hm60 : m ≤ 60 := by rw [← hm]; exact lrN_le D Q z
 have HMM := lh hm
 have HON := lh hon
 clear hon hlk hm e0 e1 e2
 have h34 := hb.size
 have hl63 := l6
 have H6_ := lh (rowC H6.out hb)
 refine z366 ?_
 intro HB_ HO_ l6_
 clear H6 HB HO l6 hb
 have H6 := H6_
 have HB := HB_
 have HO := HO_
 have l6 := l6_
 clear H6_ HB_ HO_ l6_
 clear H3
 cases ok with
 | false =>
  go_wp2
  exact z367
 | true =>
  cases lk with
  | false =>
   go_wp2
   exact z367
  | true =>
   revert hcp hfit HON H6
   refine z368 ?_
   intro c0 hfit hcp F HON p ws HPK HWS HFZ HNN0 HSL1 HPP H6s
   go_wp2_with fail
   go_loopw [32] (fun iv wr => ∃ (k : Nat) (A' : Option Addr) (c' lo' hi' : Nat), k ≤ m ∧ iv = .int .i64 k ∧ wr.heap[g6]? = some (.cells (cB A' (csN c0 ws k).n c' (csN c0 ws k).I (csN c0 ws k).H (csN c0 ws k).S (csN c0 ws k).P (csN c0 ws k).D (csN c0 ws k).Q (csN c0 ws k).z) 35 (0, 0)) ∧ Sl wr lo' hi' 4 A' (csN c0 ws k).n (csN c0 ws k).f ∧ (csN c0 ws k).n ≤ c' ∧ (A' = none → (csN c0 ws k).n = 0 ∧ c' = 0) ∧ Hid (∀ j, j < k → p j = true) ∧ w4.grownBy wr (some g6)) (fun iv _ => m - (intOf iv).toNat)
   case atStart => exact z369
   case round =>
    obtain ⟨k, A', c', lo', hi', hk, rfl, hbx, hsl, hnc', hnn', hall, hgr⟩ := hrel
    have HBX := lh hbx
    have HSL := lh hsl
    have HNN' := lh hnn'
    have HALL := hall
    have HBR := lh (HB.out.grown hgr HB.out.size (fun k hk => by cases hk; exact HLE.out))
    have HGR := lh hgr
    have hrs := hgr.size
    clear hbx hsl hnn' hall hgr
    by_cases hlt : k < m
    ·have hki : (k : Int) < (m : Int) := by omega
     refine z236 ?_
     intro hk0
     obtain ⟨bw, ow, eB, hlo, hbw, hcw⟩ := HON.out.sl.here (by omega)
     revert Aw HON eB hcw
     refine z370 ?_
     intro hbw hwg HON HD0 HD1
     have d0 := cellGr HD0.out HGR.out hwg
     have d1 := cellGr HD1.out HGR.out hwg
     obtain ⟨c1, r, HC1, HR, HX0⟩ : ∃ (c1 : CS) (r : ByteArray), Hid (csN c0 ws (k + 1) = c1) ∧ Hid (rpN c0 ws k = r) ∧ Hid (∀ W : World, bW wr W → Calls Tryz.prog 12 #[.agg (cB A' (csN c0 ws k).n c' (csN c0 ws k).I (csN c0 ws k).H (csN c0 ws k).S (csN c0 ws k).P (csN c0 ws k).D (csN c0 ws k).Q (csN c0 ws k).z), .string (F (k * 2))] W fun e w' => ∃ (A' : Option Addr) (c' : Nat) (L : List Int), c1.f = lf L ∧ e = .returned (.tuple #[.agg (cB A' c1.n c' c1.I c1.H c1.S c1.P c1.D c1.Q c1.z), .string r]) ∧ c1.n ≤ c' ∧ w'.ownsRow W.heap.size 97 4 (.slice A' c1.n c') c1.n (L.map (Value.int .i64)) ∧ bW W w') := ⟨_, _, rfl, rfl, fun W hq => by rw [← HWS.out k]; exact exec_cs (csN c0 ws k) (Fit.csN hfit ws k) A' c' lo' hi' (ws k) (by rw [HWS.out k]; exact HFZ.out _) W (HSL.out.below hq) hnc' HNN'.out ((HT.out.below HBR.out).below hq) ((HM.out.below HBR.out).below hq) ((HE.out.below HBR.out).below hq)⟩
     go_upto_region 8 with fail
     refine z161 ?_
     intro wa hwa
     have hb := ba hwa
     have h11 := an hwa
     clear hwa d0 d1
     have hbs := hb.size
     have HX1 := lh (HX0.out wa hb)
     have hgB := lh (rowC HBX.out hb)
     have HGB := lh (grow_trans HGR.out (grow_of hb))
     have H11 := lh h11
     have l6r := (gL HBX.out)
     obtain ⟨g11, hg11⟩ : ∃ q, wr.heap.size = q := ⟨_, rfl⟩
     rw [hg11] at H11 l6r
     try rw [hg11]
     have hn116 : g11 ≠ g6 := by omega
     clear hg11 h11 hb HX0 HSL HNN' HBX HGR l6r
     obtain ⟨e0, e1, e2, e3, e4, e5, e6, e7⟩ := cells8 hgB.out
     obtain ⟨s0, s1⟩ := cells2 H11.out
     go_wp2_with fail
     refine HX1.out.mono ?_
     rintro e wb ⟨A2, c2, L2, hf, rfl, hnc2, hown, hb⟩
     clear HX1 e0 e1 e2 e3 e4 e5 e6 e7 s0 s1
     have HF := lh hf
     have HOW := lh hown
     have hgB2 := lh (rowC hgB.out hb)
     have H112 := lh (rowC H11.out hb)
     have HGC := lh (grow_trans HGB.out (grow_of hb))
     have hbs2 := hb.size
     clear hf hown hgB H11 HGB hb
     go_upto_region 9 with fail
     refine z161 ?_
     intro wc hwc
     have hb := ba hwc
     have h12 := an hwc
     clear hwc
     obtain ⟨g12, hg12⟩ : ∃ q, wb.heap.size = q := ⟨_, rfl⟩
     rw [hg12] at h12
     try rw [hg12]
     clear hg12
     have HGD := lh (grow_trans HGC.out (grow_of hb))
     have h6c := rowC hgB2.out hb
     have HOD := lh (ownsRow_below HOW.out hb)
     have H11c := lh (rowC H112.out hb)
     have hbs3 := hb.size
     clear hb hgB2 HOW H112 HGC
     obtain ⟨s0, s1⟩ := cells2 H11c.out
     clear s0
     by_cases hpk : r = F (k * 2 + 1)
     ·have hpt : p k = true := by rw [HPK.out k, HR.out]; exact decide_eq_true hpk
      have hTB : (r.toList == (F (k * 2 + 1)).toList) = true := by rw [toList_beq, hpk]; simp
      have HPT := lh hpt
      clear hpk hpt
      obtain ⟨e0, e1, e2, e3, e4, e5, e6, e7⟩ := cells8 h12
      go_wp2_with (refine z281 ?_; refine wpList_store2 g6 0 (.agg (cB A2 c1.n c2 c1.I c1.H c1.S c1.P c1.D c1.Q c1.z)) 35 _ (cB A2 c1.n c2 c1.I c1.H c1.S c1.P c1.D c1.Q c1.z) rfl rfl infoConE h6c (Nat.le_refl 8) (by exact z143) rfl ?_)
      intro wd hh hgw
      have HHH := lh hh
      have hOD := own_other HOD.out h6c (by decide) hgw
      have HSD := lh (own_sl hOD)
      have HND := lh (fun e : A2 = none => own_nilK hOD e)
      have HGE := lh (grow_trans HGD.out hgw)
      clear hh hgw h6c h12 hOD HOD HGD e0 e1 e2 e3 e4 e5 e6 e7 s1 hTB
      go_wp2
      go_roundw
      case rel =>
       refine ⟨k + 1, A2, c2, wa.heap.size, wd.heap.size, by omega, by go_num, ?_⟩
       rw [HC1.out, HF.out]
       exact z371
      case measure => simp [intOf]; omega
     ·have hpf : p k = false := by rw [HPK.out k, HR.out]; exact decide_eq_false hpk
      have hTB : (r.toList == (F (k * 2 + 1)).toList) = false := by rw [toList_beq]; simp [hpk]
      have HPF := lh hpf
      clear hpk hpf h12 h6c
      go_wp2_with fail
      go_ret2
      exact rl_some HOK.out HLK.out (by rw [HPP.out, HMM.out]; exact lead_stop HALL.out HPF.out hlt) (HB.out.grown HGD.out HB.out.size (fun k hk => by cases hk; exact HLE.out))
    exact z372
end Go.Proofs.YtpndjhelpoenpaaGreatDoor
