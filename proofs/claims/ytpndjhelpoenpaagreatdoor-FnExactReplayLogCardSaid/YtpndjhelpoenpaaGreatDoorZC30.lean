/-
  Texts of this claim, merged.
-/
import Derived.Test.YtpndjhelpoenpaaGreatDoorZC29
import Derived.Maps.AppendAt
set_option linter.unusedVariables false
set_option linter.unusedSimpArgs false
set_option maxRecDepth 100000
set_option maxHeartbeats 8000000
namespace Go.Proofs.YtpndjhelpoenpaaGreatDoor
open Go.RowKit
structure CS where
 f : Nat → Int
 n : Nat
 I : Int
 H : Int
 S : Int
 P : Int
 D : ByteArray
 Q : ByteArray
 z : Int
noncomputable section
def CS.next (c : CS) (s : ByteArray) : CS := ⟨lf (xcL c.f c.n c.I c.H c.S c.P c.D c.Q c.z s), xcN c.f c.n c.I c.H c.S c.P c.D c.Q c.z s, xcI c.f c.n c.I c.H c.S c.P c.D c.Q c.z s, xcH c.f c.n c.I c.H c.S c.P c.D c.Q c.z s, xcS c.f c.n c.I c.H c.S c.P c.D c.Q c.z s, xcP c.f c.n c.I c.H c.S c.P c.D c.Q c.z s, c.D, xcQ c.f c.n c.I c.H c.S c.P c.D c.Q c.z s, xcZ c.f c.n c.I c.H c.S c.P c.D c.Q c.z s⟩
def CS.rep (c : CS) (s : ByteArray) : ByteArray := xcR c.f c.n c.I c.H c.S c.P c.D c.Q c.z s
def CS.good (c : CS) : Bool := goodWorks c.f c.n c.I c.H c.S c.P && logOk c.D c.Q c.z
def csN (c : CS) (ws : Nat → ByteArray) : Nat → CS
 | 0 => c
 | k + 1 => (csN c ws k).next (ws k)
def rpN (c : CS) (ws : Nat → ByteArray) (k : Nat) : ByteArray := (csN c ws k).rep (ws k)
def rpL (c : CS) (ws : Nat → ByteArray) (k : Nat) : List ByteArray := (List.range k).map (rpN c ws)
def lnV (s : ByteArray) (j : Nat) : ByteArray := (wordsV 10 s).getD j ⟨#[]⟩
def scOk (c : CS) (s : ByteArray) : Bool := c.good && (decide (s.size ≤ 4000) && decide ((wordsV 10 s).length ≤ 30))
def scL (c : CS) (s : ByteArray) : List ByteArray := if scOk c s then rpL c (lnV s) (wordsV 10 s).length else []
end
def Fit (c : CS) : Prop := c.n ≤ 1048576 ∧ c.D.size ≤ 1048576 ∧ c.Q.size ≤ 1048576
theorem apP_size {D P : ByteArray} {z : Int} {c r : ByteArray} (h : P.size ≤ 1048576) : (apP D P z c r).size ≤ 1048576 := by
 unfold apP
 split
 ·rename_i hk
  rw [apT, Bool.and_eq_true, Bool.and_eq_true, decide_eq_true_eq] at hk
  have h1 := logOk_size hk.1.1
  have h2 := logOk_cnt hk.1.1
  have h3 := lineB_size (k := z) (c := c) (r := r) (by omega) (by omega) hk.1.2
  rw [ByteArray.size_append]
  omega
 ·exact h
theorem Fit.next {c : CS} (h : Fit c) (s : ByteArray) : Fit (c.next s) := by
 refine ⟨xcN_len h.1, h.2.1, ?_⟩
 show (xcQ c.f c.n c.I c.H c.S c.P c.D c.Q c.z s).size ≤ 1048576
 unfold xcQ
 split
 ·have hx : (xcT c.f c.n c.I c.H c.S c.P s).size ≤ 200 := longV_size _
  exact apP_size h.2.2
 ·exact h.2.2
theorem Fit.csN {c : CS} (h : Fit c) (ws : Nat → ByteArray) : ∀ k, Fit (csN c ws k)
 | 0 => h
 | k + 1 => (Fit.csN h ws k).next (ws k)
theorem exec_cs (c : CS) (hc : Fit c) (A : Option Addr) (cp lo hi : Nat) (s : ByteArray) (hsz : s.size ≤ 1048576) (w : World) (hs : Sl w lo hi 4 A c.n c.f) (hnc : c.n ≤ cp) (hnone : A = none → c.n = 0 ∧ cp = 0) (ht : Tab w) (hm : Mx w) (he : Er w) :
  Calls Tryz.prog 12 #[.agg #[.slice A c.n cp, .int .i64 c.I, .int .i64 c.H, .int .i64 c.S, .int .i64 c.P, .string c.D, .string c.Q, .int .i64 c.z], .string s] w fun e w' => ∃ (A' : Option Addr) (c' : Nat) (L : List Int), (c.next s).f = lf L ∧ e = .returned (.tuple #[.agg #[.slice A' (c.next s).n c', .int .i64 (c.next s).I, .int .i64 (c.next s).H, .int .i64 (c.next s).S, .int .i64 (c.next s).P, .string (c.next s).D, .string (c.next s).Q, .int .i64 (c.next s).z], .string (c.rep s)]) ∧ (c.next s).n ≤ c' ∧ w'.ownsRow w.heap.size 97 4 (.slice A' (c.next s).n c') (c.next s).n (L.map (Value.int .i64)) ∧ Below w.heap.size w w' := by
 refine (ExecuteCommand_any A c.n cp lo hi c.f c.I c.H c.S c.P c.D c.Q c.z s w hs hc.1 hnc hnone hc.2.1 hc.2.2 hsz ht hm he).mono ?_
 rintro e w' ⟨A', c', rfl, h1, h2, h3⟩
 exact ⟨A', c', _, rfl, rfl, h1, h2, h3⟩
theorem sExec_cs (c : CS) (hc : Fit c) (A : Option Addr) (cp lo hi : Nat) (s : ByteArray) (hsz : s.size ≤ 1048576) (w : World) (hs : Sl w lo hi 4 A c.n c.f) (hnc : c.n ≤ cp) (hnone : A = none → c.n = 0 ∧ cp = 0) :
  Calls Tryz.prog 10 #[.agg #[.slice A c.n cp, .int .i64 c.I, .int .i64 c.H, .int .i64 c.S, .int .i64 c.P, .string c.D, .string c.Q, .int .i64 c.z], .string s] w fun e w' => ∃ (A' : Option Addr) (c' : Nat) (L : List Int), (c.next s).f = lf L ∧ e = .returned (.tuple #[.agg #[.slice A' (c.next s).n c', .int .i64 (c.next s).I, .int .i64 (c.next s).H, .int .i64 (c.next s).S, .int .i64 (c.next s).P, .string (c.next s).D, .string (c.next s).Q, .int .i64 (c.next s).z], .string (c.rep s)]) ∧ (c.next s).n ≤ c' ∧ w'.ownsRow w.heap.size 97 4 (.slice A' (c.next s).n c') (c.next s).n (L.map (Value.int .i64)) ∧ Below w.heap.size w w' := by
 refine (sExecuteCommand_any A c.n cp lo hi c.f c.I c.H c.S c.P c.D c.Q c.z s w hs hc.1 hnc hnone hc.2.1 hc.2.2 hsz).mono ?_
 rintro e w' ⟨A', c', rfl, h1, h2, h3⟩
 exact ⟨A', c', _, rfl, rfl, h1, h2, h3⟩
attribute [local go_sem ↓] Go.wp_at_zero Go.wp_at_succ
theorem grow_of {a b : World} {r : Option Nat} (k : Below a.heap.size a b) : a.grownBy b r := ⟨k.os, k.tape, k.output, k.size, fun i hi _ => k.block i hi⟩
def ScPost (c : CS) (s : ByteArray) (w : World) (e : Ending) (w' : World) : Prop :=
 ∃ v, e = .returned (.tuple #[v, .bool (scOk c s)]) ∧ w'.ownsRow w.heap.size 9 1 v (scL c s).length ((scL c s).map Value.string) ∧ Below w.heap.size w w'
end Go.Proofs.YtpndjhelpoenpaaGreatDoor
namespace Go.Proofs.YtpndjhelpoenpaaGreatDoor
open Go.RowKit
def newM (z : Int) : Nat := if inR z 1 100000 then 1 else 0
def newL (z : Int) : List Int := if inR z 1 100000 then [1, z, 0, 0] else []
def newPost (w : World) (z : Int) (e : Ending) (w' : World) : Prop :=
 ∃ A' c', e = .returned (.tuple #[.agg #[.slice A' (newM z) c', .int .i64 0, .int .i64 0, .int .i64 0, .int .i64 0, .string ⟨#[]⟩, .string ⟨#[]⟩, .int .i64 0], .bool (inR z 1 100000)]) ∧ newM z ≤ c' ∧ c' ≤ maxLen ∧ w'.ownsRow w.heap.size 97 4 (.slice A' (newM z) c') (newM z) ((newL z).map (Value.int .i64)) ∧ Below w.heap.size w w'
theorem nameL {P : Program} {ops : Array Oper} {Q : Exit → Act → World → Prop} {l : List Oper} {a : Act} {W : World} (h : ∀ w2, w2 = W → wpList P ops Q l a w2) : wpList P ops Q l a W := h W rfl
theorem newPost_no {w w' : World} {z : Int} (hk : inR z 1 100000 = false) (hb : Below w.heap.size w w') : newPost w z (.returned (.tuple #[.agg #[.slice none 0 0, .int .i64 0, .int .i64 0, .int .i64 0, .int .i64 0, .string ⟨#[]⟩, .string ⟨#[]⟩, .int .i64 0], .bool false])) w' := by
 have hm : newM z = 0 := by simp [newM, hk]
 have hl : newL z = [] := by simp [newL, hk]
 exact ⟨none, 0, by rw [hk, hm], by rw [hm]; exact Nat.le_refl _, by unfold maxLen; omega, by rw [hm, hl]; simpa using World.ownsRow_nil w' w.heap.size 97 4, hb⟩
theorem new_ok (z : Int) : stOk (fun _ => 0) 0 0 0 0 0 1 1 0 z = inR z 1 100000 := by
 cases hk : inR z 1 100000 with
 | false =>
  have hv : stV (fun _ => 0) 0 1 1 0 z = false := by simp [stV, hk]
  simp [stOk, hv]
 | true =>
  have h : 1 ≤ z ∧ z ≤ 100000 := by simpa [inR] using hk
  have hz : z ≤ 1000000 := by omega
  have hw : wrap64 0 = 0 := by rw [← IntWalk.i64_left]; exact IntWalk.i64_in 0 (by omega)
  have hg : goodWorks (fun _ => 0) 0 0 0 0 0 = true := by simp [goodWorks, pansOk, allTo, kilosOk, totalV, sumW, inR, hw]
  have hv : stV (fun _ => 0) 0 1 1 0 z = true := by simp [stV, findV, inR, h.1, h.2]
  have hG : stG (fun _ => 0) 0 0 0 0 0 1 1 0 z = true := by
   have hl : stL (fun _ => 0) 0 1 1 0 z = [1, z, 0, 0] := by simp [stL, buildL, cellsL]
   have hz0 : (0 : Int) ≤ z := by omega
   simp only [stG, hl, stN, stI, stH, stS, stP]
   simp [goodWorks, pansOk, allTo, panStep, okPanAt, okPan, okBrine, massV, kilosOk, totalV, sumW, saltAt, lf, inR, hw, h.1, h.2, hz0]
  simp [stOk, mkOk, stM, hg, hv, hG, hz]
theorem new_step {w w' : World} {e : Ending} (z : Int) (h : stepPost w (fun _ => 0) 0 0 0 0 0 1 1 0 z (stOk (fun _ => 0) 0 0 0 0 0 1 1 0 z) e w') :
  ∃ A' c', e = .returned (.tuple #[.agg #[.slice A' (newM z) c', .int .i64 0, .int .i64 0, .int .i64 0, .int .i64 0], .bool (inR z 1 100000)]) ∧ newM z ≤ c' ∧ c' ≤ maxLen ∧ w'.ownsRow w.heap.size 97 4 (.slice A' (newM z) c') (newM z) ((newL z).map (Value.int .i64)) ∧ Below w.heap.size w w' := by
 rw [new_ok] at h
 have hl : stL (fun _ => 0) 0 1 1 0 z = [1, z, 0, 0] := by simp [stL, buildL, cellsL]
 unfold stepPost at h
 rw [hl] at h
 have e1 : (if inR z 1 100000 = true then ([1, z, 0, 0] : List Int) else []) = newL z := rfl
 have e2 : (if inR z 1 100000 = true then stN 0 1 else 0) = newM z := rfl
 have e3 : (if inR z 1 100000 = true then stI 0 1 z else 0) = 0 := by simp [stI]
 have e4 : (if inR z 1 100000 = true then stH 0 1 z else 0) = 0 := by simp [stH]
 have e5 : (if inR z 1 100000 = true then stS 0 1 z else 0) = 0 := by simp [stS]
 have e6 : (if inR z 1 100000 = true then stP (fun _ => 0) 0 0 1 1 else 0) = 0 := by simp [stP]
 rw [e1, e2, e3, e4, e5, e6] at h
 exact h
theorem sNewConsole_any (z : Int) (w : World) : Calls Tryz.prog 32 #[.int .i64 z] w (newPost w z) := by
 have hR0 : (w.alloc (.cells #[.slice none 0 0, .int .i64 0, .int .i64 0, .int .i64 0, .int .i64 0, .string ⟨#[]⟩, .string ⟨#[]⟩, .int .i64 0] 35)).heap[w.heap.size]? = some (.cells #[.slice none 0 0, .int .i64 0, .int .i64 0, .int .i64 0, .int .i64 0, .string ⟨#[]⟩, .string ⟨#[]⟩, .int .i64 0] 35 (0, 0)) := heap_alloc_new w _
 have hb0 : Below w.heap.size w (w.alloc (.cells #[.slice none 0 0, .int .i64 0, .int .i64 0, .int .i64 0, .int .i64 0, .string ⟨#[]⟩, .string ⟨#[]⟩, .int .i64 0] 35)) := (Below.refl _ w).alloc (Nat.le_refl _) _
 go_enter Tryz.func32, Tryz.ntmps32
 go_wp2_with fail
 refine (sStepWorks_any none 0 0 0 0 (fun _ => 0) 0 0 0 0 1 1 0 z _ ⟨Nat.zero_le _, fun h => absurd h (by omega)⟩ (by omega) (Nat.le_refl _) (fun _ => ⟨rfl, rfl⟩) (fun ad h => by cases h)).mono ?_
 rintro e w1 hp
 obtain ⟨A', c', rfl, hmc, hcm, ho, hb1⟩ := new_step z hp
 have hr1 := (hb1.block (w.heap.size) (by simp)).trans hR0
 have B1 := hb0.trans (hb1.mono hb0.size)
 have l1 : w.heap.size < w1.heap.size := (Array.getElem?_eq_some_iff.1 hr1).1
 have ho := ownsRow_monoP ho hb0.size
 clear hp hR0 hb0 hb1
 go_upto_region 2 with fail
 refine name_wp ?_
 intro w2 hw2
 have b12 := ba hw2
 have h4 := an hw2
 have hr2 := (b12.block (w.heap.size) l1).trans hr1
 have B2 := below_of B1 b12 B1.size
 have ho2 := ownsRow_below ho b12
 clear hw2 hr1 B1 ho b12
 generalize w1.heap.size = g4 at *
 have n1 : g4 ≠ w.heap.size := by omega
 have n2 : w.heap.size ≠ g4 := by omega
 cases hk : inR z 1 100000 with
 | false =>
  obtain ⟨r0, r1, r2, r3, r4, r5, r6, r7⟩ := cells8 hr2
  have rf := fz hr2
  have HBW := lh B2
  clear hr2
  go_wp2
  obtain ⟨wq, hwq⟩ : ∃ wq, wq = ((((((((w2.setCell ⟨w.heap.size, 0, none⟩ (.slice none 0 0)).setCell ⟨w.heap.size, 1, none⟩ (.int .i64 0)).setCell ⟨w.heap.size, 2, none⟩ (.int .i64 0)).setCell ⟨w.heap.size, 3, none⟩ (.int .i64 0)).setCell ⟨w.heap.size, 4, none⟩ (.int .i64 0)).setCell ⟨w.heap.size, 5, none⟩ (.string ⟨#[]⟩)).setCell ⟨w.heap.size, 6, none⟩ (.string ⟨#[]⟩)).setCell ⟨w.heap.size, 7, none⟩ (.int .i64 0)) := ⟨_, rfl⟩
  rw [← hwq]
  have u0 : wq.cell? ⟨w.heap.size, 0, none⟩ = some (.slice none 0 0) := by rw [hwq]; go_simp
  have u1 : wq.cell? ⟨w.heap.size, 1, none⟩ = some (.int .i64 0) := by rw [hwq]; go_simp
  have u2 : wq.cell? ⟨w.heap.size, 2, none⟩ = some (.int .i64 0) := by rw [hwq]; go_simp
  have u3 : wq.cell? ⟨w.heap.size, 3, none⟩ = some (.int .i64 0) := by rw [hwq]; go_simp
  have u4 : wq.cell? ⟨w.heap.size, 4, none⟩ = some (.int .i64 0) := by rw [hwq]; go_simp
  have u5 : wq.cell? ⟨w.heap.size, 5, none⟩ = some (.string ⟨#[]⟩) := by rw [hwq]; go_simp
  have u6 : wq.cell? ⟨w.heap.size, 6, none⟩ = some (.string ⟨#[]⟩) := by rw [hwq]; go_simp
  have u7 : wq.cell? ⟨w.heap.size, 7, none⟩ = some (.int .i64 0) := by rw [hwq]; go_simp
  have hBq : Below w.heap.size w wq := by
   rw [hwq]
   exact ((((((((HBW.out.setCell (show w.heap.size ≤ w.heap.size from Nat.le_refl _) _).setCell (show w.heap.size ≤ w.heap.size from Nat.le_refl _) _).setCell (show w.heap.size ≤ w.heap.size from Nat.le_refl _) _).setCell (show w.heap.size ≤ w.heap.size from Nat.le_refl _) _).setCell (show w.heap.size ≤ w.heap.size from Nat.le_refl _) _).setCell (show w.heap.size ≤ w.heap.size from Nat.le_refl _) _).setCell (show w.heap.size ≤ w.heap.size from Nat.le_refl _) _).setCell (show w.heap.size ≤ w.heap.size from Nat.le_refl _) _)
  clear hwq
  try simp only [Exit.inBlock, Exit.then]
  refine bodyPost_ret (by simp [results, Tryz.results32, go_sem, u0, u1, u2, u3, u4, u5, u6, u7]; try rfl) rfl ?_
  exact newPost_no hk hBq
 | true =>
  have nor : ∀ k : Nat, (Value.slice A' (newM z) c').ownBlock = some k → k ≠ w.heap.size := fun k e hk => by
   subst hk
   exact row_none_ne ho2 hr2 (by decide) e
  obtain ⟨e0, e1, e2, e3, e4⟩ := cells5 h4
  obtain ⟨r0, r1, r2, r3, r4, r5, r6, r7⟩ := cells8 hr2
  have rf := fz hr2
  have HBW := lh B2
  have HOW := lh ho2
  have NOR := lh nor
  clear h4 hr2 B2 ho2 nor
  go_wp2
  obtain ⟨wq, hwq⟩ : ∃ wq, wq = ((((((((w2.setCell ⟨w.heap.size, 0, none⟩ (.slice A' (newM z) c')).setCell ⟨w.heap.size, 1, none⟩ (.int .i64 0)).setCell ⟨w.heap.size, 2, none⟩ (.int .i64 0)).setCell ⟨w.heap.size, 3, none⟩ (.int .i64 0)).setCell ⟨w.heap.size, 4, none⟩ (.int .i64 0)).setCell ⟨w.heap.size, 5, none⟩ (.string ⟨#[]⟩)).setCell ⟨w.heap.size, 6, none⟩ (.string ⟨#[]⟩)).setCell ⟨w.heap.size, 7, none⟩ (.int .i64 0)) := ⟨_, rfl⟩
  rw [← hwq]
  have u0 : wq.cell? ⟨w.heap.size, 0, none⟩ = some (.slice A' (newM z) c') := by rw [hwq]; go_simp
  have u1 : wq.cell? ⟨w.heap.size, 1, none⟩ = some (.int .i64 0) := by rw [hwq]; go_simp
  have u2 : wq.cell? ⟨w.heap.size, 2, none⟩ = some (.int .i64 0) := by rw [hwq]; go_simp
  have u3 : wq.cell? ⟨w.heap.size, 3, none⟩ = some (.int .i64 0) := by rw [hwq]; go_simp
  have u4 : wq.cell? ⟨w.heap.size, 4, none⟩ = some (.int .i64 0) := by rw [hwq]; go_simp
  have u5 : wq.cell? ⟨w.heap.size, 5, none⟩ = some (.string ⟨#[]⟩) := by rw [hwq]; go_simp
  have u6 : wq.cell? ⟨w.heap.size, 6, none⟩ = some (.string ⟨#[]⟩) := by rw [hwq]; go_simp
  have u7 : wq.cell? ⟨w.heap.size, 7, none⟩ = some (.int .i64 0) := by rw [hwq]; go_simp
  have hBq : Below w.heap.size w wq := by
   rw [hwq]
   exact ((((((((HBW.out.setCell (show w.heap.size ≤ w.heap.size from Nat.le_refl _) _).setCell (show w.heap.size ≤ w.heap.size from Nat.le_refl _) _).setCell (show w.heap.size ≤ w.heap.size from Nat.le_refl _) _).setCell (show w.heap.size ≤ w.heap.size from Nat.le_refl _) _).setCell (show w.heap.size ≤ w.heap.size from Nat.le_refl _) _).setCell (show w.heap.size ≤ w.heap.size from Nat.le_refl _) _).setCell (show w.heap.size ≤ w.heap.size from Nat.le_refl _) _).setCell (show w.heap.size ≤ w.heap.size from Nat.le_refl _) _)
  have no : ∀ j : Nat, (Value.slice A' (newM z) c').ownBlock ≠ some (⟨w.heap.size, j, none⟩ : Addr).block := fun j e => NOR.out _ e rfl
  have hOq := (ownsRow_setCell_other (ownsRow_setCell_other (ownsRow_setCell_other (ownsRow_setCell_other (ownsRow_setCell_other (ownsRow_setCell_other (ownsRow_setCell_other (ownsRow_setCell_other HOW.out (no 0) (.slice A' (newM z) c')) (no 1) (.int .i64 0)) (no 2) (.int .i64 0)) (no 3) (.int .i64 0)) (no 4) (.int .i64 0)) (no 5) (.string ⟨#[]⟩)) (no 6) (.string ⟨#[]⟩)) (no 7) (.int .i64 0))
  rw [← hwq] at hOq
  clear hwq HOW HBW
  try simp only [Exit.inBlock, Exit.then]
  refine bodyPost_ret (by simp [results, Tryz.results32, go_sem, u0, u1, u2, u3, u4, u5, u6, u7]; try rfl) rfl ?_
  exact ⟨A', c', by rw [hk], hmc, hcm, hOq, hBq⟩
theorem NewConsole_any (z : Int) (w : World) : Calls Tryz.prog 31 #[.int .i64 z] w (newPost w z) := by
 have hR0 : (w.alloc (.cells #[.slice none 0 0, .int .i64 0, .int .i64 0, .int .i64 0, .int .i64 0, .string ⟨#[]⟩, .string ⟨#[]⟩, .int .i64 0] 35)).heap[w.heap.size]? = some (.cells #[.slice none 0 0, .int .i64 0, .int .i64 0, .int .i64 0, .int .i64 0, .string ⟨#[]⟩, .string ⟨#[]⟩, .int .i64 0] 35 (0, 0)) := heap_alloc_new w _
 have hb0 : Below w.heap.size w (w.alloc (.cells #[.slice none 0 0, .int .i64 0, .int .i64 0, .int .i64 0, .int .i64 0, .string ⟨#[]⟩, .string ⟨#[]⟩, .int .i64 0] 35)) := (Below.refl _ w).alloc (Nat.le_refl _) _
 cases hk : inR z 1 100000 with
 | false =>
  go_enter Tryz.func31, Tryz.ntmps31
  go_upto_region 1 with fail
  refine name_wp ?_
  intro w1 hw1
  rw [← hw1] at hR0 hb0
  clear hw1
  go_wp2_with fail
  refine (within_any _ _ _ _).mono ?_
  rw [hk]
  rintro e w2 ⟨rfl, rfl⟩
  obtain ⟨r0, r1, r2, r3, r4, r5, r6, r7⟩ := cells8 hR0
  have rf := fz hR0
  have HBW := lh hb0
  clear hR0
  go_wp2
  obtain ⟨wq, hwq⟩ : ∃ wq, wq = ((((((((w1.setCell ⟨w.heap.size, 0, none⟩ (.slice none 0 0)).setCell ⟨w.heap.size, 1, none⟩ (.int .i64 0)).setCell ⟨w.heap.size, 2, none⟩ (.int .i64 0)).setCell ⟨w.heap.size, 3, none⟩ (.int .i64 0)).setCell ⟨w.heap.size, 4, none⟩ (.int .i64 0)).setCell ⟨w.heap.size, 5, none⟩ (.string ⟨#[]⟩)).setCell ⟨w.heap.size, 6, none⟩ (.string ⟨#[]⟩)).setCell ⟨w.heap.size, 7, none⟩ (.int .i64 0)) := ⟨_, rfl⟩
  rw [← hwq]
  have u0 : wq.cell? ⟨w.heap.size, 0, none⟩ = some (.slice none 0 0) := by rw [hwq]; go_simp
  have u1 : wq.cell? ⟨w.heap.size, 1, none⟩ = some (.int .i64 0) := by rw [hwq]; go_simp
  have u2 : wq.cell? ⟨w.heap.size, 2, none⟩ = some (.int .i64 0) := by rw [hwq]; go_simp
  have u3 : wq.cell? ⟨w.heap.size, 3, none⟩ = some (.int .i64 0) := by rw [hwq]; go_simp
  have u4 : wq.cell? ⟨w.heap.size, 4, none⟩ = some (.int .i64 0) := by rw [hwq]; go_simp
  have u5 : wq.cell? ⟨w.heap.size, 5, none⟩ = some (.string ⟨#[]⟩) := by rw [hwq]; go_simp
  have u6 : wq.cell? ⟨w.heap.size, 6, none⟩ = some (.string ⟨#[]⟩) := by rw [hwq]; go_simp
  have u7 : wq.cell? ⟨w.heap.size, 7, none⟩ = some (.int .i64 0) := by rw [hwq]; go_simp
  have hBq : Below w.heap.size w wq := by
   rw [hwq]
   exact ((((((((HBW.out.setCell (show w.heap.size ≤ w.heap.size from Nat.le_refl _) _).setCell (show w.heap.size ≤ w.heap.size from Nat.le_refl _) _).setCell (show w.heap.size ≤ w.heap.size from Nat.le_refl _) _).setCell (show w.heap.size ≤ w.heap.size from Nat.le_refl _) _).setCell (show w.heap.size ≤ w.heap.size from Nat.le_refl _) _).setCell (show w.heap.size ≤ w.heap.size from Nat.le_refl _) _).setCell (show w.heap.size ≤ w.heap.size from Nat.le_refl _) _).setCell (show w.heap.size ≤ w.heap.size from Nat.le_refl _) _)
  clear hwq
  try simp only [Exit.inBlock, Exit.then]
  refine bodyPost_ret (by simp [results, Tryz.results31, go_sem, u0, u1, u2, u3, u4, u5, u6, u7]; try rfl) rfl ?_
  exact newPost_no hk hBq
 | true =>
  go_enter Tryz.func31, Tryz.ntmps31
  go_upto_region 1 with fail
  refine name_wp ?_
  intro w1 hw1
  rw [← hw1] at hR0 hb0
  clear hw1
  go_wp2_with fail
  refine (within_any _ _ _ _).mono ?_
  rw [hk]
  rintro e w2 ⟨rfl, rfl⟩
  have l1 : w.heap.size < w1.heap.size := (Array.getElem?_eq_some_iff.1 hR0).1
  go_upto_region 3 with fail
  iterate 10 (first | go_skip | go_guarded | go_step | go_upon)
  refine nameL ?_
  intro wq hwq
  have hrow : wq.heap[w1.heap.size]? = some (.cells #[.int .i64 1, .int .i64 z, .int .i64 0, .int .i64 0] 97 (0, 0)) := by
   rw [hwq]
   exact heap_alloc_new w1 _
  have hq0 : wq.heap[w.heap.size]? = some (.cells #[.slice none 0 0, .int .i64 0, .int .i64 0, .int .i64 0, .int .i64 0, .string ⟨#[]⟩, .string ⟨#[]⟩, .int .i64 0] 35 (0, 0)) := by
   rw [hwq, heap_alloc_old _ _ l1]
   exact hR0
  have hBQ : Below w.heap.size w wq := by
   rw [hwq]
   exact hb0.alloc hb0.size _
  have hOw : wq.ownsRow w.heap.size 97 4 (.slice (some ⟨w1.heap.size, 0, none⟩) 1 1) 1 (([1, z, 0, 0] : List Int).map (Value.int .i64)) :=
   ⟨rfl, .inr ⟨w1.heap.size, 1, _, rfl, by omega, hrow, Nat.le_refl _, by unfold maxLen; omega, rfl, rfl⟩⟩
  clear hwq hR0 hb0
  generalize w1.heap.size = g4 at *
  have n1 : g4 ≠ w.heap.size := by omega
  have n2 : w.heap.size ≠ g4 := by omega
  obtain ⟨r0, r1, r2, r3, r4, r5, r6, r7⟩ := cells8 hq0
  have rf := fz hq0
  have HBW := lh hBQ
  have HOW := lh hOw
  clear hrow hq0 hBQ hOw l1
  go_wp2
  obtain ⟨wz, hwz⟩ : ∃ wz, wz = ((((((((wq.setCell ⟨w.heap.size, 0, none⟩ (.slice (some ⟨g4, 0, none⟩) 1 1)).setCell ⟨w.heap.size, 1, none⟩ (.int .i64 0)).setCell ⟨w.heap.size, 2, none⟩ (.int .i64 0)).setCell ⟨w.heap.size, 3, none⟩ (.int .i64 0)).setCell ⟨w.heap.size, 4, none⟩ (.int .i64 0)).setCell ⟨w.heap.size, 5, none⟩ (.string ⟨#[]⟩)).setCell ⟨w.heap.size, 6, none⟩ (.string ⟨#[]⟩)).setCell ⟨w.heap.size, 7, none⟩ (.int .i64 0)) := ⟨_, rfl⟩
  rw [← hwz]
  have u0 : wz.cell? ⟨w.heap.size, 0, none⟩ = some (.slice (some ⟨g4, 0, none⟩) 1 1) := by rw [hwz]; go_simp
  have u1 : wz.cell? ⟨w.heap.size, 1, none⟩ = some (.int .i64 0) := by rw [hwz]; go_simp
  have u2 : wz.cell? ⟨w.heap.size, 2, none⟩ = some (.int .i64 0) := by rw [hwz]; go_simp
  have u3 : wz.cell? ⟨w.heap.size, 3, none⟩ = some (.int .i64 0) := by rw [hwz]; go_simp
  have u4 : wz.cell? ⟨w.heap.size, 4, none⟩ = some (.int .i64 0) := by rw [hwz]; go_simp
  have u5 : wz.cell? ⟨w.heap.size, 5, none⟩ = some (.string ⟨#[]⟩) := by rw [hwz]; go_simp
  have u6 : wz.cell? ⟨w.heap.size, 6, none⟩ = some (.string ⟨#[]⟩) := by rw [hwz]; go_simp
  have u7 : wz.cell? ⟨w.heap.size, 7, none⟩ = some (.int .i64 0) := by rw [hwz]; go_simp
  have hBq : Below w.heap.size w wz := by
   rw [hwz]
   exact ((((((((HBW.out.setCell (show w.heap.size ≤ w.heap.size from Nat.le_refl _) _).setCell (show w.heap.size ≤ w.heap.size from Nat.le_refl _) _).setCell (show w.heap.size ≤ w.heap.size from Nat.le_refl _) _).setCell (show w.heap.size ≤ w.heap.size from Nat.le_refl _) _).setCell (show w.heap.size ≤ w.heap.size from Nat.le_refl _) _).setCell (show w.heap.size ≤ w.heap.size from Nat.le_refl _) _).setCell (show w.heap.size ≤ w.heap.size from Nat.le_refl _) _).setCell (show w.heap.size ≤ w.heap.size from Nat.le_refl _) _)
  have no : ∀ j : Nat, (Value.slice (some ⟨g4, 0, none⟩) 1 1).ownBlock ≠ some (⟨w.heap.size, j, none⟩ : Addr).block := fun j e => n1 (Option.some.inj e)
  have hOq := (ownsRow_setCell_other (ownsRow_setCell_other (ownsRow_setCell_other (ownsRow_setCell_other (ownsRow_setCell_other (ownsRow_setCell_other (ownsRow_setCell_other (ownsRow_setCell_other HOW.out (no 0) (.slice (some ⟨g4, 0, none⟩) 1 1)) (no 1) (.int .i64 0)) (no 2) (.int .i64 0)) (no 3) (.int .i64 0)) (no 4) (.int .i64 0)) (no 5) (.string ⟨#[]⟩)) (no 6) (.string ⟨#[]⟩)) (no 7) (.int .i64 0))
  rw [← hwz] at hOq
  clear hwz HOW HBW
  try simp only [Exit.inBlock, Exit.then]
  refine bodyPost_ret (by simp [results, Tryz.results31, go_sem, u0, u1, u2, u3, u4, u5, u6, u7]; try rfl) rfl ?_
  have hm : newM z = 1 := by simp [newM, hk]
  have hl : newL z = [1, z, 0, 0] := by simp [newL, hk]
  exact ⟨some ⟨g4, 0, none⟩, 1, by rw [hk, hm], by rw [hm]; exact Nat.le_refl _, by unfold maxLen; omega, by rw [hm, hl]; exact hOq, hBq⟩
attribute [local go_sem ↓] Go.wp_at_zero Go.wp_at_succ
def mkGo : Nat → Nat → BA → BA
 | 0, _, o => o
 | m + 1, k, o => if k = 0 then o else mkGo m (k / 10) ((⟨#[UInt8.ofNat (48 + k % 10)]⟩ : BA) ++ o)
def mkT (k : Int) : BA := (⟨#[109]⟩ : BA) ++ mkGo 20 k.toNat ⟨#[]⟩
def markedT (p : Nat) (F : Nat → BA) : Nat → BA := fun j => if j < p then mkT (1 + (j : Int)) else F j
end Go.Proofs.YtpndjhelpoenpaaGreatDoor
namespace Go.Proofs.YtpndjhelpoenpaaGreatDoor
open Go.RowKit
attribute [local go_sem ↓] Go.wp_at_zero Go.wp_at_succ
def flatR : List (BA × BA) → List BA
 | [] => []
 | e :: L => e.1 :: e.2 :: flatR L
theorem recCells_flat (L : List (BA × BA)) : recCells L = (flatR L).map Value.string := by
 induction L with
 | nil => rfl
 | cons e L ih => simp [recCells, flatR, ih]
def lrN (D P : BA) (z : Int) : Nat := if logOk D P z then (readN (D ++ P) 60).1.length else 0
def lrF (D P : BA) (j : Nat) : BA := (flatR (readN (D ++ P) 60).1).getD j ⟨#[]⟩
theorem lrN_le (D P : BA) (z : Int) : lrN D P z ≤ 60 := by
 unfold lrN
 split
 ·exact readN_len _ _
 ·omega
theorem own_rec {w : World} {base : Nat} {v : Value} {D P : BA} (h : w.ownsRow base 70 2 v (readN (D ++ P) 60).1.length (recCells (readN (D ++ P) 60).1)) :
  ∃ A c, v = .slice A (readN (D ++ P) 60).1.length c ∧ (readN (D ++ P) 60).1.length ≤ c ∧ c ≤ maxLen ∧ OwnT w base w.heap.size 70 2 A (readN (D ++ P) 60).1.length (lrF D P) := by
 rw [recCells_flat] at h
 exact ownT_of_row h
theorem LogRecords_any (D P : BA) (z : Int) (hD : D.size ≤ 1048576) (hP : P.size ≤ 1048576) (w : World) (ht : Tab w) (hm : Mx w) :
  Calls Tryz.prog 39 #[.agg #[.string D, .string P, .int .i64 z]] w fun e w' => ∃ A c, e = .returned (.tuple #[.slice A (lrN D P z) c, .bool (logOk D P z)]) ∧ lrN D P z ≤ c ∧ c ≤ maxLen ∧ OwnT w' w.heap.size w'.heap.size 70 2 A (lrN D P z) (lrF D P) ∧ Below w.heap.size w w' := by
 have HAL : Below w.heap.size w (w.alloc (.cells #[.string D, .string P, .int .i64 z] 33)) := (Below.refl _ w).alloc (Nat.le_refl _) _
 have HC := lh (recordsOf_any D P z hD hP (w.alloc (.cells #[.string D, .string P, .int .i64 z] 33)) (ht.below HAL) (hm.below HAL))
 cases hk : logOk D P z with
 | false =>
  have e1 : lrN D P z = 0 := by simp [lrN, hk]
  rw [hk] at HC
  rw [e1]
  go_enter Tryz.func39, Tryz.ntmps39
  go_wp2_with fail
  refine HC.out.mono ?_
  rintro e w1 ⟨v, rfl, _, hb1⟩
  have B1 := HAL.trans (hb1.mono (by simp))
  clear HC HAL e1 hk ht hm hD hP
  go_wp2_with fail
  go_ret2
  exact ⟨none, 0, rfl, Nat.le_refl _, by unfold maxLen; omega, OwnT.none_ (Nat.le_refl _), B1⟩
 | true =>
  have e1 : lrN D P z = (readN (D ++ P) 60).1.length := by simp [lrN, hk]
  rw [hk] at HC
  rw [e1]
  go_enter Tryz.func39, Tryz.ntmps39
  go_wp2_with fail
  refine HC.out.mono ?_
  rintro e w1 ⟨v, rfl, hown, hb1⟩
  have B1 := HAL.trans (hb1.mono (by simp))
  obtain ⟨A, c, rfl, hc1, hc2, ho⟩ := own_rec hown
  have HO := lh (ho.lo_le (lo' := w.heap.size) (by simp))
  clear HC HAL e1 hk ht hm hD hP hown ho
  go_wp2_with fail
  go_ret2
  exact ⟨A, c, rfl, hc1, hc2, HO.out, B1⟩
theorem sLogRecords_any (D P : BA) (z : Int) (hD : D.size ≤ 1048576) (hP : P.size ≤ 1048576) (w : World) :
  Calls Tryz.prog 59 #[.agg #[.string D, .string P, .int .i64 z]] w fun e w' => ∃ A c, e = .returned (.tuple #[.slice A (lrN D P z) c, .bool (logOk D P z)]) ∧ lrN D P z ≤ c ∧ c ≤ maxLen ∧ OwnT w' w.heap.size w'.heap.size 70 2 A (lrN D P z) (lrF D P) ∧ Below w.heap.size w w' := by
 have HAL : Below w.heap.size w (w.alloc (.cells #[.string D, .string P, .int .i64 z] 33)) := (Below.refl _ w).alloc (Nat.le_refl _) _
 have HC := lh (l27Log_any D P z hD hP (w.alloc (.cells #[.string D, .string P, .int .i64 z] 33)))
 have hX : (w.alloc (.cells #[.string D, .string P, .int .i64 z] 33)).heap[w.heap.size]? = some (.cells #[.string D, .string P, .int .i64 z] 33 (0, 0)) := heap_alloc_new w _
 cases hk : logOk D P z with
 | false =>
  have e1 : lrN D P z = 0 := by simp [lrN, hk]
  rw [hk] at HC
  rw [e1]
  go_enter Tryz.func59, Tryz.ntmps59
  go_wp2_with fail
  refine HC.out.mono ?_
  rintro e w1 ⟨rfl, hb1⟩
  have B1 := HAL.trans (hb1.mono (by simp))
  clear HC HAL e1 hk hD hP hX
  go_wp2_with fail
  go_ret2
  exact ⟨_, 0, rfl, Nat.le_refl _, by unfold maxLen; omega, OwnT.none_ (Nat.le_refl _), by first | exact B1 | exact B1.alloc B1.size _⟩
 | true =>
  have e1 : lrN D P z = (readN (D ++ P) 60).1.length := by simp [lrN, hk]
  have hsz := logOk_size hk
  have hsum : D.size + P.size ≤ 4000000 := by omega
  have hszt : (D ++ P).size ≤ 4000000 := by rw [size_app]; omega
  have HR := lh (fun W => l27Open_any (D ++ P) hszt W)
  rw [hk] at HC
  rw [e1]
  go_enter Tryz.func59, Tryz.ntmps59
  go_wp2_with fail
  refine HC.out.mono ?_
  rintro e w1 ⟨rfl, hb1⟩
  have B1 := HAL.trans (hb1.mono (by simp))
  obtain ⟨l0, l1, l2, _, _, _⟩ := row3 (rowB hX hb1)
  clear HC HAL e1 hk hD hP hX hsz hszt
  go_wp2_with fail
  refine (HR.out w1).mono ?_
  rintro e w2 ⟨v, rfl, hown, hb2⟩
  have B2 := below_of B1 hb2 B1.size
  obtain ⟨A, c, rfl, hc1, hc2, ho⟩ := own_rec hown
  have HO := lh (ho.lo_le (lo' := w.heap.size) B1.size)
  clear hown ho hb2 HR
  go_wp2_with fail
  go_ret2
  exact ⟨A, c, rfl, hc1, hc2, HO.out, B2⟩
end Go.Proofs.YtpndjhelpoenpaaGreatDoor
namespace Go.Proofs.YtpndjhelpoenpaaGreatDoor
open Go.RowKit
attribute [local go_sem ↓] Go.wp_at_zero Go.wp_at_succ
theorem flat_small {L : List (ByteArray × ByteArray)} (h : ∀ e ∈ L, goodRec e.1 e.2 = true) : ∀ x ∈ flatR L, x.size ≤ 1048576 := by
 induction L with
 | nil => intro x hx; cases hx
 | cons e L ih =>
  intro x hx
  have hf := goodRec_facts (h e List.mem_cons_self)
  simp only [flatR, List.mem_cons] at hx
  rcases hx with rfl | rfl | hx
  ·have := hf.2.1; omega
  ·have := hf.2.2.2.1; omega
  ·exact ih (fun e he => h e (List.mem_cons_of_mem _ he)) x hx
def newC (hz : Int) : CS := ⟨lf (newL hz), newM hz, 0, 0, 0, 0, ⟨#[]⟩, ⟨#[]⟩, 0⟩
theorem newC_fit (hz : Int) : Fit (newC hz) := by
 refine ⟨?_, Nat.zero_le _, Nat.zero_le _⟩
 show newM hz ≤ 1048576
 unfold newM
 split <;> omega
def leadN (p : Nat → Bool) : Nat → Nat
 | 0 => 0
 | m + 1 => if leadN p m < m then leadN p m else if p m then m + 1 else m
theorem lead_all {p : Nat → Bool} : ∀ {m : Nat}, (∀ j, j < m → p j = true) → leadN p m = m
 | 0, _ => rfl
 | m + 1, h => by
  rw [leadN, lead_all (m := m) (fun j hj => h j (by omega)), if_neg (by omega), if_pos (h m (by omega))]
theorem lead_stop {p : Nat → Bool} {k : Nat} (hk : ∀ j, j < k → p j = true) (hp : p k = false) : ∀ {m : Nat}, k < m → leadN p m = k
 | 0, h => absurd h (by omega)
 | m + 1, h => by
  rw [leadN]
  by_cases hkm : k < m
  ·rw [lead_stop hk hp hkm, if_pos hkm]
  ·have e : m = k := by omega
   subst e
   rw [lead_all hk, if_neg (by omega), hp]
   rfl
noncomputable def rlP (hz : Int) (D Q : ByteArray) (k : Nat) : Bool := decide (rpN (newC hz) (fun j => lrF D Q (j * 2)) k = lrF D Q (k * 2 + 1))
noncomputable def rlOk (hz : Int) (D Q : ByteArray) (z : Int) : Bool := inR hz 1 100000 && logOk D Q z
noncomputable def rlV (hz : Int) (D Q : ByteArray) (z : Int) : Nat := if rlOk hz D Q z then leadN (rlP hz D Q) (lrN D Q z) else 0
def RlPost (hz : Int) (D Q : ByteArray) (z : Int) (w : World) (e : Ending) (w' : World) : Prop := e = .returned (.tuple #[.int .i64 (rlV hz D Q z), .bool (rlOk hz D Q z)]) ∧ Below w.heap.size w w'
theorem rl_none {hz z : Int} {D Q : ByteArray} {w w' : World} (h : rlOk hz D Q z = false) (hb : Below w.heap.size w w') : RlPost hz D Q z w (.returned (.tuple #[.int .i64 0, .bool false])) w' := by
 unfold RlPost rlV
 rw [h]
 exact ⟨rfl, hb⟩
theorem rl_some {hz z : Int} {D Q : ByteArray} {w w' : World} {r : Nat} (h1 : inR hz 1 100000 = true) (h2 : logOk D Q z = true) (hr : leadN (rlP hz D Q) (lrN D Q z) = r) (hb : Below w.heap.size w w') : RlPost hz D Q z w (.returned (.tuple #[.int .i64 r, .bool true])) w' := by
 have h : rlOk hz D Q z = true := by rw [rlOk, h1, h2]; rfl
 unfold RlPost rlV
 rw [h, if_pos rfl, hr]
 exact ⟨rfl, hb⟩
theorem lrF_size (D Q : ByteArray) (j : Nat) : (lrF D Q j).size ≤ 1048576 := by
 unfold lrF
 have h : ∀ x ∈ flatR (readN (D ++ Q) 60).1, x.size ≤ 1048576 := flat_small (fun e he => readN_good (Nat.le_refl 60) e he)
 by_cases hj : j < (flatR (readN (D ++ Q) 60).1).length
 ·rw [List.getD_eq_getElem?_getD, List.getElem?_eq_getElem hj]
  exact h _ (List.getElem_mem hj)
 ·rw [List.getD_eq_getElem?_getD, List.getElem?_eq_none (by omega)]
  exact Nat.zero_le _
theorem new_open {w w' : World} {hz : Int} {e : Ending} (h : newPost w hz e w') : ∃ A' c', e = .returned (.tuple #[.agg #[.slice A' (newC hz).n c', .int .i64 (newC hz).I, .int .i64 (newC hz).H, .int .i64 (newC hz).S, .int .i64 (newC hz).P, .string (newC hz).D, .string (newC hz).Q, .int .i64 (newC hz).z], .bool (inR hz 1 100000)]) ∧ (newC hz).n ≤ c' ∧ w'.ownsRow w.heap.size 97 4 (.slice A' (newC hz).n c') (newC hz).n ((newL hz).map (Value.int .i64)) ∧ Below w.heap.size w w' := by
 obtain ⟨A', c', rfl, h1, _, h2, h3⟩ := h
 exact ⟨A', c', rfl, h1, h2, h3⟩
theorem ReplayLog_any (hz : Int) (D Q : ByteArray) (z : Int) (hD : D.size ≤ 1048576) (hQ : Q.size ≤ 1048576) (w : World) (ht : Tab w) (hm_ : Mx w) (he : Er w) :
  Calls Tryz.prog 24 #[.int .i64 hz, .agg #[.string D, .string Q, .int .i64 z]] w (RlPost hz D Q z w) := by
 have HT := lh ht
 have HM := lh hm_
 have HE := lh he
 clear ht hm_ he
 obtain ⟨hX, h3⟩ := bl1 w (.cells #[.string D, .string Q, .int .i64 z] 33)
 go_enter Tryz.func24, Tryz.ntmps24
 go_upto_region 1 with fail
 refine name_wp ?_
 intro w1 hw1
 rw [← hw1] at hX h3
 clear hw1
 obtain ⟨g3, hg3⟩ : ∃ q, w.heap.size = q := ⟨_, rfl⟩
 rw [hg3] at h3
 try rw [hg3]
 have l3 := (Array.getElem?_eq_some_iff.1 h3).1
 have HB := lh hX
 have H3 := lh h3
 clear hX h3
 obtain ⟨ok, hok⟩ : ∃ b, inR hz 1 100000 = b := ⟨_, rfl⟩
 have HNC := lh (fun W : World => NewConsole_any hz W)
 go_wp2_with fail
 refine (HNC.out w1).mono ?_
 rintro e w2 hp
 obtain ⟨A0, cp, rfl, hcp, hown, hb⟩ := new_open hp
 clear hp HNC
 rw [hok]
 have HOK := lh hok
 clear hok
 have HB2 := lh (HB.out.trans (hb.mono HB.out.size))
 have H3' := lh (rowC H3.out hb)
 have HOW := lh (ownsRow_monoP hown (Nat.zero_le _))
 have hb2 := hb.size
 clear hb hown HB H3
 go_upto_region 2 with fail
 refine name_wp ?_
 intro w3 hw3
 have hb := ba hw3
 have h6 := an hw3
 clear hw3
 obtain ⟨g6, hg6⟩ : ∃ q, w2.heap.size = q := ⟨_, rfl⟩
 rw [hg6] at h6 hb2
 try rw [hg6]
 have HLE := lh (show w.heap.size ≤ g6 by omega)
 have l6 := (Array.getElem?_eq_some_iff.1 h6).1
 have HB := lh (HB2.out.trans (hb.mono HB2.out.size))
 have H3 := lh (rowC H3'.out hb)
 have H6 := lh h6
 have HO := lh (ownsRow_below HOW.out hb)
 clear hb h6 HB2 H3' HOW hg3 hg6
 have hfit := newC_fit hz
 obtain ⟨e0, e1, e2⟩ := cells3 H3.out
 go_wp2_with fail
 refine (LogRecords_any D Q z hD hQ w3 (HT.out.below HB.out) (HM.out.below HB.out)).mono ?_
 rintro e w4 ⟨Aw, dw, rfl, hdw, _, hon, hb⟩
 obtain ⟨lk, hlk⟩ : ∃ b, logOk D Q z = b := ⟨_, rfl⟩
 rw [hlk]
 have HLK := lh hlk
 obtain ⟨m, hm⟩ : ∃ q, lrN D Q z = q := ⟨_, rfl⟩
 rw [hm] at hon hdw
 try rw [hm]
 have hm60 : m ≤ 60 := by rw [← hm]; exact lrN_le D Q z
 have HMM := lh hm
 have HON := lh hon
 clear hon hlk hm e0 e1 e2
 have h34 := hb.size
 have hl63 := l6
 have H6_ := lh (rowC H6.out hb)
 have HB_ := lh (HB.out.trans (hb.mono HB.out.size))
 have HO_ := lh (ownsRow_below HO.out hb)
 have l6_ := Nat.lt_of_lt_of_le l6 hb.size
 clear H6 HB HO l6 hb
 have H6 := H6_
 have HB := HB_
 have HO := HO_
 have l6 := l6_
 clear H6_ HB_ HO_ l6_
 clear H3
 cases ok with
 | false =>
  go_wp2
  go_ret2
  exact rl_none (by rw [rlOk, HOK.out, HLK.out]; rfl) HB.out
 | true =>
  cases lk with
  | false =>
   go_wp2
   go_ret2
   exact rl_none (by rw [rlOk, HOK.out, HLK.out]; rfl) HB.out
  | true =>
   obtain ⟨c0, hc0⟩ : ∃ c, newC hz = c := ⟨_, rfl⟩
   obtain ⟨F, hF⟩ : ∃ q, lrF D Q = q := ⟨_, rfl⟩
   obtain ⟨p, hp⟩ : ∃ q, rlP hz D Q = q := ⟨_, rfl⟩
   obtain ⟨ws, hws⟩ : ∃ q : Nat → ByteArray, (fun j => F (j * 2)) = q := ⟨_, rfl⟩
   have HPK : Hid (∀ k, p k = decide (rpN c0 ws k = F (k * 2 + 1))) := fun k => by rw [← hp, rlP, hc0, hF, hws]
   have HWS : Hid (∀ k, ws k = F (k * 2)) := fun k => by rw [← hws]
   have HFZ : Hid (∀ j, (F j).size ≤ 1048576) := fun j => by rw [← hF]; exact lrF_size D Q j
   have HO2 := HO.out
   have H62 := H6.out
   have HSL0 := lh (own_sl HO2)
   have HNN0 := lh (fun e : A0 = none => own_nilK HO2 e)
   have HSL1 : Hid (Sl _ _ _ 4 A0 (newC hz).n (newC hz).f) := HSL0.out
   rw [hc0] at HSL1 HNN0 hcp hfit H62
   rw [hF] at HON
   have HPP := lh hp
   clear hp hF hws hc0 HO2 HSL0
   have H6s := lh H62
   clear H62 H6
   go_wp2_with fail
   go_loopw [32] (fun iv wr => ∃ (k : Nat) (A' : Option Addr) (c' lo' hi' : Nat), k ≤ m ∧ iv = .int .i64 k ∧ wr.heap[g6]? = some (.cells #[.slice A' (csN c0 ws k).n c', .int .i64 (csN c0 ws k).I, .int .i64 (csN c0 ws k).H, .int .i64 (csN c0 ws k).S, .int .i64 (csN c0 ws k).P, .string (csN c0 ws k).D, .string (csN c0 ws k).Q, .int .i64 (csN c0 ws k).z] 35 (0, 0)) ∧ Sl wr lo' hi' 4 A' (csN c0 ws k).n (csN c0 ws k).f ∧ (csN c0 ws k).n ≤ c' ∧ (A' = none → (csN c0 ws k).n = 0 ∧ c' = 0) ∧ Hid (∀ j, j < k → p j = true) ∧ w4.grownBy wr (some g6)) (fun iv _ => m - (intOf iv).toNat)
   case atStart => exact ⟨0, A0, cp, _, _, Nat.zero_le _, rfl, H6s.out, HSL1.out, hcp, HNN0.out, fun j hj => absurd hj (by omega), grow_refl _ _⟩
   case round =>
    obtain ⟨k, A', c', lo', hi', hk, rfl, hbx, hsl, hnc', hnn', hall, hgr⟩ := hrel
    have HBX := lh hbx
    have HSL := lh hsl
    have HNN' := lh hnn'
    have HALL := hall
    have HBR := lh (HB.out.grown hgr HB.out.size (fun k hk => by cases hk; exact HLE.out))
    have HGR := lh hgr
    have hrs := hgr.size
    clear hbx hsl hnn' hall hgr
    by_cases hlt : k < m
    ·have hki : (k : Int) < (m : Int) := by omega
     have hk0 : (0 : Int) ≤ (k : Int) := by omega
     obtain ⟨bw, ow, eB, hlo, hbw, hcw⟩ := HON.out.sl.here (by omega)
     have hbw := Nat.lt_of_lt_of_le hbw HON.out.hi_le
     have hwg : bw ≠ g6 := by omega
     subst eB
     have HD0 : Hid (w4.cell? ⟨bw, ow + k * 2, none⟩ = some (.string (F (k * 2)))) := hcw (k * 2) (by omega)
     have HD1 : Hid (w4.cell? ⟨bw, ow + k * 2 + 1, none⟩ = some (.string (F (k * 2 + 1)))) := hcw (k * 2 + 1) (by omega)
     clear hcw
     have d0 := cellGr HD0.out HGR.out hwg
     have d1 := cellGr HD1.out HGR.out hwg
     obtain ⟨c1, r, HC1, HR, HX0⟩ : ∃ (c1 : CS) (r : ByteArray), Hid (csN c0 ws (k + 1) = c1) ∧ Hid (rpN c0 ws k = r) ∧ Hid (∀ W : World, Below wr.heap.size wr W → Calls Tryz.prog 12 #[.agg #[.slice A' (csN c0 ws k).n c', .int .i64 (csN c0 ws k).I, .int .i64 (csN c0 ws k).H, .int .i64 (csN c0 ws k).S, .int .i64 (csN c0 ws k).P, .string (csN c0 ws k).D, .string (csN c0 ws k).Q, .int .i64 (csN c0 ws k).z], .string (F (k * 2))] W fun e w' => ∃ (A' : Option Addr) (c' : Nat) (L : List Int), c1.f = lf L ∧ e = .returned (.tuple #[.agg #[.slice A' c1.n c', .int .i64 c1.I, .int .i64 c1.H, .int .i64 c1.S, .int .i64 c1.P, .string c1.D, .string c1.Q, .int .i64 c1.z], .string r]) ∧ c1.n ≤ c' ∧ w'.ownsRow W.heap.size 97 4 (.slice A' c1.n c') c1.n (L.map (Value.int .i64)) ∧ Below W.heap.size W w') := ⟨_, _, rfl, rfl, fun W hq => by rw [← HWS.out k]; exact exec_cs (csN c0 ws k) (Fit.csN hfit ws k) A' c' lo' hi' (ws k) (by rw [HWS.out k]; exact HFZ.out _) W (HSL.out.below hq) hnc' HNN'.out ((HT.out.below HBR.out).below hq) ((HM.out.below HBR.out).below hq) ((HE.out.below HBR.out).below hq)⟩
     go_upto_region 8 with fail
     refine name_wp ?_
     intro wa hwa
     have hb := ba hwa
     have h11 := an hwa
     clear hwa d0 d1
     have hbs := hb.size
     have HX1 := lh (HX0.out wa hb)
     have hgB := lh (rowC HBX.out hb)
     have HGB := lh (grow_trans HGR.out (grow_of hb))
     have H11 := lh h11
     have l6r := (Array.getElem?_eq_some_iff.1 HBX.out).1
     obtain ⟨g11, hg11⟩ : ∃ q, wr.heap.size = q := ⟨_, rfl⟩
     rw [hg11] at H11 l6r
     try rw [hg11]
     have hn116 : g11 ≠ g6 := by omega
     clear hg11 h11 hb HX0 HSL HNN' HBX HGR l6r
     obtain ⟨e0, e1, e2, e3, e4, e5, e6, e7⟩ := cells8 hgB.out
     obtain ⟨s0, s1⟩ := cells2 H11.out
     go_wp2_with fail
     refine HX1.out.mono ?_
     rintro e wb ⟨A2, c2, L2, hf, rfl, hnc2, hown, hb⟩
     clear HX1 e0 e1 e2 e3 e4 e5 e6 e7 s0 s1
     have HF := lh hf
     have HOW := lh hown
     have hgB2 := lh (rowC hgB.out hb)
     have H112 := lh (rowC H11.out hb)
     have HGC := lh (grow_trans HGB.out (grow_of hb))
     have hbs2 := hb.size
     clear hf hown hgB H11 HGB hb
     go_upto_region 9 with fail
     refine name_wp ?_
     intro wc hwc
     have hb := ba hwc
     have h12 := an hwc
     clear hwc
     obtain ⟨g12, hg12⟩ : ∃ q, wb.heap.size = q := ⟨_, rfl⟩
     rw [hg12] at h12
     try rw [hg12]
     clear hg12
     have HGD := lh (grow_trans HGC.out (grow_of hb))
     have h6c := rowC hgB2.out hb
     have HOD := lh (ownsRow_below HOW.out hb)
     have H11c := lh (rowC H112.out hb)
     have hbs3 := hb.size
     clear hb hgB2 HOW H112 HGC
     obtain ⟨s0, s1⟩ := cells2 H11c.out
     clear s0
     by_cases hpk : r = F (k * 2 + 1)
     ·have hpt : p k = true := by rw [HPK.out k, HR.out]; exact decide_eq_true hpk
      have hTB : (r.toList == (F (k * 2 + 1)).toList) = true := by rw [toList_beq, hpk]; simp
      have HPT := lh hpt
      clear hpk hpt
      obtain ⟨e0, e1, e2, e3, e4, e5, e6, e7⟩ := cells8 h12
      go_wp2_with ((with_reducible refine wpList_isStore ?_); refine wpList_store2 g6 0 (.agg #[.slice A2 c1.n c2, .int .i64 c1.I, .int .i64 c1.H, .int .i64 c1.S, .int .i64 c1.P, .string c1.D, .string c1.Q, .int .i64 c1.z]) 35 _ #[.slice A2 c1.n c2, .int .i64 c1.I, .int .i64 c1.H, .int .i64 c1.S, .int .i64 c1.P, .string c1.D, .string c1.Q, .int .i64 c1.z] rfl rfl infoConE h6c (Nat.le_refl 8) (by simp [Value.cells, Value.oneCell']) rfl ?_)
      intro wd hh hgw
      have HHH := lh hh
      have hOD := own_other HOD.out h6c (by decide) hgw
      have HSD := lh (own_sl hOD)
      have HND := lh (fun e : A2 = none => own_nilK hOD e)
      have HGE := lh (grow_trans HGD.out hgw)
      clear hh hgw h6c h12 hOD HOD HGD e0 e1 e2 e3 e4 e5 e6 e7 s1 hTB
      go_wp2
      go_roundw
      case rel =>
       refine ⟨k + 1, A2, c2, wa.heap.size, wd.heap.size, by omega, by go_num, ?_⟩
       rw [HC1.out, HF.out]
       exact ⟨HHH.out, HSD.out, hnc2, HND.out, fun j hj => (by rcases Nat.lt_succ_iff_lt_or_eq.1 hj with h | h; exact HALL.out j h; rw [h]; exact HPT.out), HGE.out⟩
      case measure => simp [intOf]; omega
     ·have hpf : p k = false := by rw [HPK.out k, HR.out]; exact decide_eq_false hpk
      have hTB : (r.toList == (F (k * 2 + 1)).toList) = false := by rw [toList_beq]; simp [hpk]
      have HPF := lh hpf
      clear hpk hpf h12 h6c
      go_wp2_with fail
      go_ret2
      exact rl_some HOK.out HLK.out (by rw [HPP.out, HMM.out]; exact lead_stop HALL.out HPF.out hlt) (HB.out.grown HGD.out HB.out.size (fun k hk => by cases hk; exact HLE.out))
    ·obtain rfl : k = m := by omega
     have hki : ¬ ((k : Int) < (k : Int)) := by omega
     clear HBX HSL HNN'
     go_wp2
     go_ret2
     exact rl_some HOK.out HLK.out (by rw [HPP.out, HMM.out]; exact lead_all HALL.out) HBR.out
end Go.Proofs.YtpndjhelpoenpaaGreatDoor
namespace Go.Proofs.YtpndjhelpoenpaaGreatDoor
open Go.RowKit
attribute [local go_sem ↓] Go.wp_at_zero Go.wp_at_succ
theorem sReplayLog_any (hz : Int) (D Q : ByteArray) (z : Int) (hD : D.size ≤ 1048576) (hQ : Q.size ≤ 1048576) (w : World) :
  Calls Tryz.prog 22 #[.int .i64 hz, .agg #[.string D, .string Q, .int .i64 z]] w (RlPost hz D Q z w) := by
 obtain ⟨hX, h3⟩ := bl1 w (.cells #[.string D, .string Q, .int .i64 z] 33)
 go_enter Tryz.func22, Tryz.ntmps22
 go_upto_region 1 with fail
 refine name_wp ?_
 intro w1 hw1
 rw [← hw1] at hX h3
 clear hw1
 obtain ⟨g3, hg3⟩ : ∃ q, w.heap.size = q := ⟨_, rfl⟩
 rw [hg3] at h3
 try rw [hg3]
 have l3 := (Array.getElem?_eq_some_iff.1 h3).1
 have HB := lh hX
 have H3 := lh h3
 clear hX h3
 obtain ⟨ok, hok⟩ : ∃ b, inR hz 1 100000 = b := ⟨_, rfl⟩
 have HNC := lh (fun W : World => sNewConsole_any hz W)
 go_wp2_with fail
 refine (HNC.out w1).mono ?_
 rintro e w2 hp
 obtain ⟨A0, cp, rfl, hcp, hown, hb⟩ := new_open hp
 clear hp HNC
 rw [hok]
 have HOK := lh hok
 clear hok
 have HB2 := lh (HB.out.trans (hb.mono HB.out.size))
 have H3' := lh (rowC H3.out hb)
 have HOW := lh (ownsRow_monoP hown (Nat.zero_le _))
 have hb2 := hb.size
 clear hb hown HB H3
 go_upto_region 2 with fail
 refine name_wp ?_
 intro w3 hw3
 have hb := ba hw3
 have h6 := an hw3
 clear hw3
 obtain ⟨g6, hg6⟩ : ∃ q, w2.heap.size = q := ⟨_, rfl⟩
 rw [hg6] at h6 hb2
 try rw [hg6]
 have HLE := lh (show w.heap.size ≤ g6 by omega)
 have l6 := (Array.getElem?_eq_some_iff.1 h6).1
 have HB := lh (HB2.out.trans (hb.mono HB2.out.size))
 have H3 := lh (rowC H3'.out hb)
 have H6 := lh h6
 have HO := lh (ownsRow_below HOW.out hb)
 clear hb h6 HB2 H3' HOW hg3 hg6
 have hfit := newC_fit hz
 obtain ⟨lk, hlk⟩ : ∃ b, logOk D Q z = b := ⟨_, rfl⟩
 have HLK := lh hlk
 have HLG := lh (l27Log_any D Q z hD hQ)
 rw [hlk] at HLG
 have HLR := lh (sLogRecords_any D Q z hD hQ)
 rw [hlk] at HLR
 clear hlk
 cases ok with
 | false =>
  go_wp2_with fail
  go_ret2
  exact rl_none (by rw [rlOk, HOK.out]; rfl) HB.out
 | true =>
  obtain ⟨e0, e1, e2⟩ := cells3 H3.out
  go_wp2_with fail
  refine (HLG.out w3).mono ?_
  rintro e w5 ⟨rfl, hb⟩
  clear e0 e1 e2
  have H6_ := lh (rowC H6.out hb)
  have H3_ := lh (rowC H3.out hb)
  have HB_ := lh (HB.out.trans (hb.mono HB.out.size))
  have HO_ := lh (ownsRow_below HO.out hb)
  have l6_ := Nat.lt_of_lt_of_le l6 hb.size
  clear H6 H3 HB HO l6 hb
  have H6 := H6_
  have H3 := H3_
  have HB := HB_
  have HO := HO_
  have l6 := l6_
  clear H6_ H3_ HB_ HO_ l6_
  clear HLG
  cases lk with
  | false =>
   go_wp2_with fail
   go_ret2
   exact rl_none (by rw [rlOk, HOK.out, HLK.out]; rfl) HB.out
  | true =>
   obtain ⟨e0, e1, e2⟩ := cells3 H3.out
   go_wp2_with fail
   refine (HLR.out w5).mono ?_
   rintro e w4 ⟨Aw, dw, rfl, hdw, _, hon, hb⟩
   obtain ⟨m, hm⟩ : ∃ q, lrN D Q z = q := ⟨_, rfl⟩
   rw [hm] at hon hdw
   try rw [hm]
   have hm60 : m ≤ 60 := by rw [← hm]; exact lrN_le D Q z
   have HMM := lh hm
   have HON := lh hon
   clear hon hm e0 e1 e2 HLR
   have h34 := hb.size
   have hl63 := l6
   have H6_ := lh (rowC H6.out hb)
   have HB_ := lh (HB.out.trans (hb.mono HB.out.size))
   have HO_ := lh (ownsRow_below HO.out hb)
   have l6_ := Nat.lt_of_lt_of_le l6 hb.size
   clear H6 HB HO l6 hb
   have H6 := H6_
   have HB := HB_
   have HO := HO_
   have l6 := l6_
   clear H6_ HB_ HO_ l6_
   clear H3
   obtain ⟨c0, hc0⟩ : ∃ c, newC hz = c := ⟨_, rfl⟩
   obtain ⟨F, hF⟩ : ∃ q, lrF D Q = q := ⟨_, rfl⟩
   obtain ⟨p, hp⟩ : ∃ q, rlP hz D Q = q := ⟨_, rfl⟩
   obtain ⟨ws, hws⟩ : ∃ q : Nat → ByteArray, (fun j => F (j * 2)) = q := ⟨_, rfl⟩
   have HPK : Hid (∀ k, p k = decide (rpN c0 ws k = F (k * 2 + 1))) := fun k => by rw [← hp, rlP, hc0, hF, hws]
   have HWS : Hid (∀ k, ws k = F (k * 2)) := fun k => by rw [← hws]
   have HFZ : Hid (∀ j, (F j).size ≤ 1048576) := fun j => by rw [← hF]; exact lrF_size D Q j
   have HO2 := HO.out
   have H62 := H6.out
   have HSL0 := lh (own_sl HO2)
   have HNN0 := lh (fun e : A0 = none => own_nilK HO2 e)
   have HSL1 : Hid (Sl _ _ _ 4 A0 (newC hz).n (newC hz).f) := HSL0.out
   rw [hc0] at HSL1 HNN0 hcp hfit H62
   rw [hF] at HON
   have HPP := lh hp
   clear hp hF hws hc0 HO2 HSL0
   have H6s := lh H62
   clear H62 H6
   go_wp2_with fail
   go_loopw [11] (fun iv wr => ∃ (k : Nat) (A' : Option Addr) (c' lo' hi' : Nat), k ≤ m ∧ iv = .int .i64 k ∧ wr.heap[g6]? = some (.cells #[.slice A' (csN c0 ws k).n c', .int .i64 (csN c0 ws k).I, .int .i64 (csN c0 ws k).H, .int .i64 (csN c0 ws k).S, .int .i64 (csN c0 ws k).P, .string (csN c0 ws k).D, .string (csN c0 ws k).Q, .int .i64 (csN c0 ws k).z] 35 (0, 0)) ∧ Sl wr lo' hi' 4 A' (csN c0 ws k).n (csN c0 ws k).f ∧ (csN c0 ws k).n ≤ c' ∧ (A' = none → (csN c0 ws k).n = 0 ∧ c' = 0) ∧ Hid (∀ j, j < k → p j = true) ∧ w4.grownBy wr (some g6)) (fun iv _ => m - (intOf iv).toNat)
   case atStart => exact ⟨0, A0, cp, _, _, Nat.zero_le _, rfl, H6s.out, HSL1.out, hcp, HNN0.out, fun j hj => absurd hj (by omega), grow_refl _ _⟩
   case round =>
    obtain ⟨k, A', c', lo', hi', hk, rfl, hbx, hsl, hnc', hnn', hall, hgr⟩ := hrel
    have HBX := lh hbx
    have HSL := lh hsl
    have HNN' := lh hnn'
    have HALL := hall
    have HBR := lh (HB.out.grown hgr HB.out.size (fun k hk => by cases hk; exact HLE.out))
    have HGR := lh hgr
    have hrs := hgr.size
    clear hbx hsl hnn' hall hgr
    by_cases hlt : k < m
    ·have hki : (k : Int) < (m : Int) := by omega
     have hk0 : (0 : Int) ≤ (k : Int) := by omega
     obtain ⟨bw, ow, eB, hlo, hbw, hcw⟩ := HON.out.sl.here (by omega)
     have hbw := Nat.lt_of_lt_of_le hbw HON.out.hi_le
     have hwg : bw ≠ g6 := by omega
     subst eB
     have HD0 : Hid (w4.cell? ⟨bw, ow + k * 2, none⟩ = some (.string (F (k * 2)))) := hcw (k * 2) (by omega)
     have HD1 : Hid (w4.cell? ⟨bw, ow + k * 2 + 1, none⟩ = some (.string (F (k * 2 + 1)))) := hcw (k * 2 + 1) (by omega)
     clear hcw
     obtain ⟨c1, r, HC1, HR, HX0⟩ : ∃ (c1 : CS) (r : ByteArray), Hid (csN c0 ws (k + 1) = c1) ∧ Hid (rpN c0 ws k = r) ∧ Hid (∀ W : World, Below wr.heap.size wr W → Calls Tryz.prog 10 #[.agg #[.slice A' (csN c0 ws k).n c', .int .i64 (csN c0 ws k).I, .int .i64 (csN c0 ws k).H, .int .i64 (csN c0 ws k).S, .int .i64 (csN c0 ws k).P, .string (csN c0 ws k).D, .string (csN c0 ws k).Q, .int .i64 (csN c0 ws k).z], .string (F (k * 2))] W fun e w' => ∃ (A' : Option Addr) (c' : Nat) (L : List Int), c1.f = lf L ∧ e = .returned (.tuple #[.agg #[.slice A' c1.n c', .int .i64 c1.I, .int .i64 c1.H, .int .i64 c1.S, .int .i64 c1.P, .string c1.D, .string c1.Q, .int .i64 c1.z], .string r]) ∧ c1.n ≤ c' ∧ w'.ownsRow W.heap.size 97 4 (.slice A' c1.n c') c1.n (L.map (Value.int .i64)) ∧ Below W.heap.size W w') := ⟨_, _, rfl, rfl, fun W hq => by rw [← HWS.out k]; exact sExec_cs (csN c0 ws k) (Fit.csN hfit ws k) A' c' lo' hi' (ws k) (by rw [HWS.out k]; exact HFZ.out _) W (HSL.out.below hq) hnc' HNN'.out⟩
     go_upto_region 9 with fail
     have HF : Hid (∀ w', wr.grownBy w' (some g6) → w'.cell? ⟨bw, ow + k * 2, none⟩ = some (.string (F (k * 2)))) := fun w' hq => cellGr (cellGr HD0.out HGR.out hwg) hq hwg
     refine wp_region_held_drew (S := fun w' => wr.grownBy w' (some g6)) (by kernel_rfl) (but_stays wr _ (grow_refl wr (some g6)) ((Below.refl _ wr).drew)) (fun jd => ?_)
     have hbd : Below wr.heap.size wr wr.drew := (Below.refl _ wr).drew
     obtain ⟨v0, hv0⟩ : ∃ v, wr.drew = v := ⟨_, rfl⟩
     rw [hv0] at jd hbd ⊢
     clear hv0
     refine tj4 1 37 2 38 3 39 4 40 HF jd ?_
     refine tj 5 41 HF rfl jd ?_
     refine wpAnyH_ready (rs := [0]) (by kernel_rfl) (by simp) ?_
     refine (AllReadyH.cons rfl (fun K hK => ?_) AllReadyH.nil)
     have hr2 := rowC HBX.out hbd
     obtain ⟨e0, e1, e2, e3, e4, e5, e6, e7⟩ := cells8 hr2
     go_simp
     refine hK.out _ _ jd (fun jd => ?_)
     clear hK K e0 e1 e2 e3 e4 e5 e6 e7
     refine wpAnyH_ready (rs := [6]) (by kernel_rfl) (by simp) ?_
     refine (AllReadyH.cons rfl (fun K hK => ?_) AllReadyH.nil)
     go_simp
     refine (HX0.out v0 hbd).mono ?_
     rintro e v1 ⟨A2, c2, L2, hf, rfl, hnc2, hown, hbn⟩
     have hr3 := rowC hr2 hbn
     have HFF := lh hf
     have hHeld2 := but_stays v0 v1 jd hbn
     refine hK.out _ _ hHeld2 (fun jd => ?_)
     clear hK K hHeld2 hf
     refine tj3 7 35 8 43 9 44 HF jd ?_
     refine wpAnyH_store (fuel := 1) (i := 10) rfl (by kernel_rfl) g6 0 (.agg #[.slice A2 c1.n c2, .int .i64 c1.I, .int .i64 c1.H, .int .i64 c1.S, .int .i64 c1.P, .string c1.D, .string c1.Q, .int .i64 c1.z]) 35 _ rfl rfl infoConE (hr3) (by simp [Value.cells]) (by simp [Value.cells, Value.oneCell']) (fun w' hg' => grow_trans jd hg') ?ks
     case ks =>
      intro v3 hh hgw hHeld3
      have hh : v3.heap[g6]? = some (.cells #[.slice A2 c1.n c2, .int .i64 c1.I, .int .i64 c1.H, .int .i64 c1.S, .int .i64 c1.P, .string c1.D, .string c1.Q, .int .i64 c1.z] 35 (0, 0)) := hh
      clear jd
      have jd := hHeld3
      clear hHeld3
      refine tj 11 10 HF rfl jd ?_
      refine wpAnyH_done (by kernel_rfl) ?_ _
      have HHH := lh hh
      have hOD := own_other hown hr3 (by decide) hgw
      have HSD := lh (own_sl hOD)
      have HND := lh (fun e : A2 = none => own_nilK hOD e)
      have d1 := cellGr (cellGr HD1.out HGR.out hwg) jd hwg
      have HGE := lh (grow_trans HGR.out jd)
      clear hh hgw hr2 hr3 hown hOD hbn hbd jd HX0 HF HBX HSL HNN' HGR
      by_cases hpk : r = F (k * 2 + 1)
      ·have hpt : p k = true := by rw [HPK.out k, HR.out]; exact decide_eq_true hpk
       have hTB : (r.toList == (F (k * 2 + 1)).toList) = true := by rw [toList_beq, hpk]; simp
       have HPT := lh hpt
       clear hpk hpt
       go_wp2_with fail
       go_roundw
       case rel =>
        refine ⟨k + 1, A2, c2, v0.heap.size, v3.heap.size, by omega, by go_num, ?_⟩
        rw [HC1.out, HFF.out]
        exact ⟨HHH.out, HSD.out, hnc2, HND.out, fun j hj => (by rcases Nat.lt_succ_iff_lt_or_eq.1 hj with h | h; exact HALL.out j h; rw [h]; exact HPT.out), HGE.out⟩
       case measure => simp [intOf]; omega
      ·have hpf : p k = false := by rw [HPK.out k, HR.out]; exact decide_eq_false hpk
       have hTB : (r.toList == (F (k * 2 + 1)).toList) = false := by rw [toList_beq]; simp [hpk]
       have HPF := lh hpf
       clear hpk hpf
       go_wp2_with fail
       go_ret2
       exact rl_some HOK.out HLK.out (by rw [HPP.out, HMM.out]; exact lead_stop HALL.out HPF.out hlt) (HB.out.grown HGE.out HB.out.size (fun k hk => by cases hk; exact HLE.out))
    ·obtain rfl : k = m := by omega
     have hki : ¬ ((k : Int) < (k : Int)) := by omega
     clear HBX HSL HNN'
     go_wp2
     go_ret2
     exact rl_some HOK.out HLK.out (by rw [HPP.out, HMM.out]; exact lead_all HALL.out) HBR.out
end Go.Proofs.YtpndjhelpoenpaaGreatDoor
