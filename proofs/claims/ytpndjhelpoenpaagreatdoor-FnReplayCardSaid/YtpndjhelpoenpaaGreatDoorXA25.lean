/-
  Texts of this claim, merged.
-/
import Derived.Test.YtpndjhelpoenpaaGreatDoorXA24
set_option linter.unusedVariables false
set_option linter.unusedSimpArgs false
set_option maxRecDepth 100000
set_option maxHeartbeats 8000000
namespace Go.Proofs.YtpndjhelpoenpaaGreatDoor
open Go.RowKit
theorem salt_ge {f : Nat → Int} {n : Nat} {I H S P : Int} (hg : goodWorks f n I H S P = true) : 0 ≤ sumW (saltAt f) n ∧ sumW (saltAt f) n ≤ 9223372036854775807 := by
 have h6 := good_len hg
 have h := sumW_bounds (g := saltAt f) n h6 (fun k hk => ⟨(good_brine hg hk).2.2.1, (good_brine hg hk).2.2.2.1⟩) n (Nat.le_refl n)
 omega
theorem good_kilos {f : Nat → Int} {n : Nat} {I H S P : Int} (hg : goodWorks f n I H S P = true) : (0 ≤ I ∧ I ≤ 1000000) ∧ (0 ≤ H ∧ H ≤ 1000000) ∧ (0 ≤ S ∧ S ≤ 1000000) ∧ (0 ≤ P ∧ P ≤ 1000000) := by
 simp only [goodWorks, kilosOk, inR, Bool.and_eq_true, decide_eq_true_eq] at hg
 obtain ⟨⟨_, h⟩, _⟩ := hg
 exact ⟨h.1.1.1, h.1.1.2, h.1.2, h.2⟩
theorem l28Number_any (n : Int) (ok : Bool) (h0 : ok = true → 0 ≤ n) (h1 : n ≤ 9223372036854775807) (w : World) :
  Calls Tryz.prog 132 #[.int .i64 n, .bool ok] w fun e w' => e = .returned (.string (if ok then numB n else ⟨#[63]⟩)) ∧ bW w w' := by
 cases ok with
 | true =>
  have hz := h0 rfl
  clear h0
  go_enter Tryz.func132, Tryz.ntmps132
  go_wp2_with fail
  refine (l1Num_any n hz h1 w).mono ?_
  rintro e w2 ⟨rfl, hb2⟩
  go_wp2_with fail
  go_returns
  exact ⟨rfl, hb2⟩
 | false =>
  go_enter Tryz.func132, Tryz.ntmps132
  go_wp2_with fail
  go_returns
  exact ⟨rfl, Below.refl _ _⟩
theorem l28Pan_any (x : Int) (A : Option Addr) (n c lo hi : Nat) (f : Nat → Int) (I H S P : Int) (w : World) (hs : Sl w lo hi 4 A n f) (hn : n ≤ 1048576) (hnc : n ≤ c) (hgd : goodWorks f n I H S P = true) :
  Calls Tryz.prog 133 #[.agg (wB A n c I H S P), .int .i64 x] w fun e w' => e = .returned (.string (if 0 ≤ findV (pid f) x n 0 then panX f n x else ⟨#[63]⟩)) ∧ bW w w' := by
 by_cases hv : 0 ≤ findV (pid f) x n 0
 ·obtain ⟨j, hj, hfd, hpj⟩ := findV_mem hv
  have hat := lh (atN_eq (f := f) hfd)
  obtain ⟨r, hr⟩ : ∃ r, (if 0 ≤ findV (pid f) x n 0 then panX f n x else ⟨#[63]⟩ : ByteArray) = r := ⟨_, rfl⟩
  simp only [hr]
  have HR : Hid (panX f n x = r) := by show _ = _; rw [← hr]; simp [hv, panX]
  clear hr
  have HFD := lh hfd
  clear hv hfd
  refine z257 ?_
  intro hX h0 hS
  go_enter Tryz.func133, Tryz.ntmps133
  go_upto_region 1 with fail
  revert hs hX h0 hS
  refine z289 ?_
  intro w1 e0 e1 e2 e3 e4 HX HS
  go_wp2_with fail
  refine (sPanText_yes A n c lo hi f I H S P x w1 HS.out hn hnc hgd j hj HFD.out).mono ?_
  rintro e w2 ⟨rfl, hb2⟩
  go_wp2_with fail
  go_returns
  exact ⟨(by rw [← HR.out, panX, hat.out]; try rfl), HX.out.trans (hb2.mono HX.out.size)⟩
 ·have hfd := findV_none hv
  obtain ⟨r, hr⟩ : ∃ r, (if 0 ≤ findV (pid f) x n 0 then panX f n x else ⟨#[63]⟩ : ByteArray) = r := ⟨_, rfl⟩
  simp only [hr]
  have HR : Hid (⟨#[63]⟩ = r) := by show _ = _; rw [← hr]; simp [hv, panX]
  clear hr
  have HFD := lh hfd
  clear hv hfd
  refine z257 ?_
  intro hX h0 hS
  go_enter Tryz.func133, Tryz.ntmps133
  go_upto_region 1 with fail
  revert hs hX h0 hS
  refine z289 ?_
  intro w1 e0 e1 e2 e3 e4 HX HS
  go_wp2_with fail
  refine (sPanText_no A n c lo hi f I H S P x w1 HS.out hn hnc (Or.inr HFD.out)).mono ?_
  rintro e w2 ⟨rfl, hb2⟩
  go_wp2_with fail
  go_returns
  exact ⟨(by rw [← HR.out]; try rfl), HX.out.trans (hb2.mono HX.out.size)⟩
theorem l28Word_8 (u : ByteArray) (hu : u = wd8) (A : Option Addr) (n c lo hi : Nat) (f : Nat → Int) (I H S P : Int) (w : World) (hs : Sl w lo hi 4 A n f) (hn : n ≤ 1048576) (hnc : n ≤ c) (hgd : goodWorks f n I H S P = true) (hI : 0 ≤ I ∧ I ≤ 9223372036854775807) (hH : 0 ≤ H ∧ H ≤ 9223372036854775807) :
  Calls Tryz.prog 84 #[.agg (wB A n c I H S P), .string u] w fun e w' => e = .returned (.string (rpR f n I H S P 8 0 0)) ∧ bW w w' := by
 have q8 : (u.toList == ([105, 110] : List UInt8)) = true := by rw [hu]; decide +kernel
 clear hu
 refine z257 ?_
 intro hX h0 hS
 go_enter Tryz.func84, Tryz.ntmps84
 go_upto_region 2 with fail
 revert hs hX h0 hS
 refine z289 ?_
 intro w1 e0 e1 e2 e3 e4 HX HS
 go_wp2_with fail
 refine (l1Num_any I (by omega) (by omega) w1).mono ?_
 exact z290
theorem l28Word_9 (u : ByteArray) (hu : u = wd9) (A : Option Addr) (n c lo hi : Nat) (f : Nat → Int) (I H S P : Int) (w : World) (hs : Sl w lo hi 4 A n f) (hn : n ≤ 1048576) (hnc : n ≤ c) (hgd : goodWorks f n I H S P = true) (hI : 0 ≤ I ∧ I ≤ 9223372036854775807) (hH : 0 ≤ H ∧ H ≤ 9223372036854775807) :
  Calls Tryz.prog 84 #[.agg (wB A n c I H S P), .string u] w fun e w' => e = .returned (.string (rpR f n I H S P 9 0 0)) ∧ bW w w' := by
 have q8 := wq7 hu (by exact z11)
 have q9 : (u.toList == ([104, 101, 97, 112] : List UInt8)) = true := by rw [hu]; decide +kernel
 clear hu
 refine z257 ?_
 intro hX h0 hS
 go_enter Tryz.func84, Tryz.ntmps84
 go_upto_region 2 with fail
 revert hs hX h0 hS
 refine z289 ?_
 intro w1 e0 e1 e2 e3 e4 HX HS
 go_wp2_with fail
 refine (l1Num_any H (by omega) (by omega) w1).mono ?_
 exact z290
theorem l28Word_10 (u : ByteArray) (hu : u = wd10) (A : Option Addr) (n c lo hi : Nat) (f : Nat → Int) (I H S P : Int) (w : World) (hs : Sl w lo hi 4 A n f) (hn : n ≤ 1048576) (hnc : n ≤ c) (hgd : goodWorks f n I H S P = true) (hI : 0 ≤ I ∧ I ≤ 9223372036854775807) (hH : 0 ≤ H ∧ H ≤ 9223372036854775807) :
  Calls Tryz.prog 84 #[.agg (wB A n c I H S P), .string u] w fun e w' => e = .returned (.string (rpR f n I H S P 10 0 0)) ∧ bW w w' := by
 have q8 := wq7 hu (by exact z11)
 have q9 := wq6 hu (by exact z11)
 have q10 : (u.toList == ([112, 97, 110, 115] : List UInt8)) = true := by rw [hu]; decide +kernel
 clear hu
 refine z257 ?_
 intro hX h0 hS
 go_enter Tryz.func84, Tryz.ntmps84
 go_upto_region 2 with fail
 revert hs hX h0 hS
 refine z289 ?_
 intro w1 e0 e1 e2 e3 e4 HX HS
 have hsb := salt_ge hgd
 go_wp2_with fail
 refine (l25Salt_any A n c lo hi f I H S P w1 HS.out hn hnc).mono ?_
 rintro e w2 ⟨rfl, hb2⟩
 go_wp2_with fail
 refine (l1Num_any _ (by omega) (by omega) w2).mono ?_
 rintro e w3 ⟨rfl, hb3⟩
 go_wp2_with fail
 go_returns
 exact ⟨(by simp [rpR]; try rfl), HX.out.trans ((below_of hb2 hb3 hb2.size).mono HX.out.size)⟩
theorem l28Word_11 (u : ByteArray) (hu : u = wd11) (A : Option Addr) (n c lo hi : Nat) (f : Nat → Int) (I H S P : Int) (w : World) (hs : Sl w lo hi 4 A n f) (hn : n ≤ 1048576) (hnc : n ≤ c) (hgd : goodWorks f n I H S P = true) (hI : 0 ≤ I ∧ I ≤ 9223372036854775807) (hH : 0 ≤ H ∧ H ≤ 9223372036854775807) :
  Calls Tryz.prog 84 #[.agg (wB A n c I H S P), .string u] w fun e w' => e = .returned (.string (rpR f n I H S P 11 0 0)) ∧ bW w w' := by
 have q8 := wq7 hu (by exact z11)
 have q9 := wq6 hu (by exact z11)
 have q10 := wq9 hu (by exact z11)
 have q11 : (u.toList == ([109, 97, 121] : List UInt8)) = true := by rw [hu]; decide +kernel
 clear hu
 refine z257 ?_
 intro hX h0 hS
 go_enter Tryz.func84, Tryz.ntmps84
 go_upto_region 2 with fail
 revert hs hX h0 hS
 refine z289 ?_
 intro w1 e0 e1 e2 e3 e4 HX HS
 have HR : Hid (rpR f n I H S P 11 0 0 = listB (fun j => (rakeRes f n true).getD j 0) (rakeRes f n true).length) := by show _ = _; simp [rpR]
 have hsm := lh (rake_small hgd)
 have hln := rakeRes_len f n true
 have hn6 := con_len hgd
 have HM := sMayRake_any A n c lo hi f I H S P w1 HS.out hn hnc
 rw [hgd] at HM
 generalize rakeRes f n true = L at HM hsm hln HR
 exact z291
theorem l28Word_12 (u : ByteArray) (hu : u = wd12) (A : Option Addr) (n c lo hi : Nat) (f : Nat → Int) (I H S P : Int) (w : World) (hs : Sl w lo hi 4 A n f) (hn : n ≤ 1048576) (hnc : n ≤ c) (hgd : goodWorks f n I H S P = true) (hI : 0 ≤ I ∧ I ≤ 9223372036854775807) (hH : 0 ≤ H ∧ H ≤ 9223372036854775807) :
  Calls Tryz.prog 84 #[.agg (wB A n c I H S P), .string u] w fun e w' => e = .returned (.string (rpR f n I H S P 12 0 0)) ∧ bW w w' := by
 have q8 := wq7 hu (by exact z11)
 have q9 := wq6 hu (by exact z11)
 have q10 := wq9 hu (by exact z11)
 have q11 := wq10 hu (by exact z11)
 have q12 : (u.toList == ([111, 114, 100, 101, 114] : List UInt8)) = true := by rw [hu]; decide +kernel
 clear hu
 refine z257 ?_
 intro hX h0 hS
 go_enter Tryz.func84, Tryz.ntmps84
 go_upto_region 2 with fail
 revert hs hX h0 hS
 refine z289 ?_
 intro w1 e0 e1 e2 e3 e4 HX HS
 have HR : Hid (rpR f n I H S P 12 0 0 = listB (fun j => (ordRes f n true).getD j 0) (ordRes f n true).length) := by show _ = _; simp [rpR]
 have hsm := lh (ord_small hgd)
 have hln := ordRes_len f n true
 have hn6 := con_len hgd
 have HM := sPanOrder_any A n c lo hi f I H S P w1 HS.out hn hnc
 rw [hgd] at HM
 generalize ordRes f n true = L at HM hsm hln HR
 exact z291
theorem l28Word_no (u : ByteArray) (h8 : u ≠ wd8) (h9 : u ≠ wd9) (h10 : u ≠ wd10) (h11 : u ≠ wd11) (h12 : u ≠ wd12) (A : Option Addr) (n c lo hi : Nat) (f : Nat → Int) (I H S P : Int) (w : World) (hs : Sl w lo hi 4 A n f) (hn : n ≤ 1048576) (hnc : n ≤ c) (hgd : goodWorks f n I H S P = true) :
  Calls Tryz.prog 84 #[.agg (wB A n c I H S P), .string u] w fun e w' => e = .returned (.string ⟨#[63]⟩) ∧ bW w w' := by
 have q8 : (u.toList == ([105, 110] : List UInt8)) = false := by
  rw [show ([105, 110] : List UInt8) = wd8.toList by exact z11, toList_beq]
  exact decide_eq_false h8
 have q9 : (u.toList == ([104, 101, 97, 112] : List UInt8)) = false := by
  rw [show ([104, 101, 97, 112] : List UInt8) = wd9.toList by exact z11, toList_beq]
  exact decide_eq_false h9
 have q10 : (u.toList == ([112, 97, 110, 115] : List UInt8)) = false := by
  rw [show ([112, 97, 110, 115] : List UInt8) = wd10.toList by exact z11, toList_beq]
  exact decide_eq_false h10
 have q11 : (u.toList == ([109, 97, 121] : List UInt8)) = false := by
  rw [show ([109, 97, 121] : List UInt8) = wd11.toList by exact z11, toList_beq]
  exact decide_eq_false h11
 have q12 : (u.toList == ([111, 114, 100, 101, 114] : List UInt8)) = false := by
  rw [show ([111, 114, 100, 101, 114] : List UInt8) = wd12.toList by exact z11, toList_beq]
  exact decide_eq_false h12
 clear h8 h9 h10 h11 h12
 refine z257 ?_
 intro hX h0 hS
 go_enter Tryz.func84, Tryz.ntmps84
 go_upto_region 2 with fail
 revert hs hX h0 hS
 refine z289 ?_
 intro w1 e0 e1 e2 e3 e4 HX HS
 go_wp2_with fail
 go_returns
 exact ⟨rfl, HX.out⟩
attribute [local go_sem ↓] Go.wp_at_zero Go.wp_at_succ
def rfPost (base : Nat) (L : List Int) (n : Nat) (I H S P : Int) (D Q : ByteArray) (z : Int) (c x0 x1 x2 : Int) (w : World) (e : Ending) (w' : World) : Prop :=
 ∃ A1 c1, e = .returned (.tuple #[.agg (cB A1 (exN (lf L) n I H S P c x0 x1 x2) c1 (exI (lf L) n I H S P c x0 x1 x2) (exH (lf L) n I H S P c x0 x1 x2) (exS (lf L) n I H S P c x0 x1 x2) (exP (lf L) n I H S P c x0 x1 x2) D Q z), .string (exR (lf L) n I H S P c x0 x1 x2)]) ∧ (exN (lf L) n I H S P c x0 x1 x2) ≤ c1 ∧ w'.ownsRow base 97 4 (.slice A1 (exN (lf L) n I H S P c x0 x1 x2) c1) (exN (lf L) n I H S P c x0 x1 x2) ((exL (lf L) n I H S P c x0 x1 x2).map (Value.int .i64)) ∧ bW w w'
section
variable {base n cp n1 c1 : Nat} {A A1 : Option Addr} {L L1 : List Int} {I H S P I1 H1 S1 P1 z c x0 x1 x2 : Int} {D Q r : ByteArray} {w w' : World}
theorem rf_no (hgo : exGo (lf L) n I H S P c x0 x1 x2 = false) (hr : exR (lf L) n I H S P c x0 x1 x2 = r) (hLL : cellsL (lf L) n = L) (hnc : n ≤ cp)
  (hO : w'.ownsRow base 97 4 (.slice A n cp) n (L.map (Value.int .i64))) (hB : bW w w') :
  rfPost base L n I H S P D Q z c x0 x1 x2 w (.returned (.tuple #[.agg (cB A n cp I H S P D Q z), .string r])) w' := by
 refine z292 ?_
 intro e1 e2 e3 e4 e5 e6
 unfold rfPost
 rw [e1, e2, e3, e4, e5, e6, hr]
 exact ⟨A, cp, rfl, hnc, hO, hB⟩
theorem rf_yes (hgo : exGo (lf L) n I H S P c x0 x1 x2 = true)
  (hv : L1 = stL (lf L) n c (exId c x0) (exTo c x1) (exZ c x0 x1 x2) ∧ n1 = stN n c ∧ I1 = stI I c (exZ c x0 x1 x2) ∧ H1 = stH H c (exZ c x0 x1 x2) ∧ S1 = stS S c (exZ c x0 x1 x2) ∧ P1 = stP (lf L) n P c (exId c x0)) (hr : exR (lf L) n I H S P c x0 x1 x2 = r) (hnc : n1 ≤ c1)
  (hO : w'.ownsRow base 97 4 (.slice A1 n1 c1) n1 (L1.map (Value.int .i64))) (hB : bW w w') :
  rfPost base L n I H S P D Q z c x0 x1 x2 w (.returned (.tuple #[.agg (cB A1 n1 c1 I1 H1 S1 P1 D Q z), .string r])) w' := by
 obtain ⟨v1, v2, v3, v4, v5, v6⟩ := hv
 refine z293 ?_
 intro e1 e2 e3 e4 e5 e6
 clear v1 v2 v3 v4 v5 v6
 unfold rfPost
 rw [e1, e2, e3, e4, e5, e6, hr]
 exact ⟨A1, c1, rfl, hnc, hO, hB⟩
theorem go_no (h : exOk (lf L) n I H S P c x0 x1 x2 = false) : exGo (lf L) n I H S P c x0 x1 x2 = false := by
 unfold exGo
 unfold exOk at h
 by_cases h0 : c = 0
 ·subst h0; rfl
 ·rw [if_neg h0] at h
  cases hs : isStep c with
  | false => rfl
  | true => rw [hs] at h; exact h
theorem exR_none (h : exOk (lf L) n I H S P c x0 x1 x2 = false) : exR (lf L) n I H S P c x0 x1 x2 = ⟨#[63]⟩ := by unfold exR; rw [h]; rfl
theorem exR_step (hc : isStep c = true) (hs : stOk (lf L) n I H S P c (exId c x0) (exTo c x1) (exZ c x0 x1 x2) = true)
  (hv : L1 = stL (lf L) n c (exId c x0) (exTo c x1) (exZ c x0 x1 x2) ∧ n1 = stN n c ∧ I1 = stI I c (exZ c x0 x1 x2) ∧ H1 = stH H c (exZ c x0 x1 x2) ∧ S1 = stS S c (exZ c x0 x1 x2) ∧ P1 = stP (lf L) n P c (exId c x0)) :
  exR (lf L) n I H S P c x0 x1 x2 = rpR (lf L1) n1 I1 H1 S1 P1 c x0 x1 := by
 obtain ⟨v1, v2, v3, v4, v5, v6⟩ := hv
 have hgo : exGo (lf L) n I H S P c x0 x1 x2 = true := by unfold exGo; rw [hc, hs]; rfl
 have hok : exOk (lf L) n I H S P c x0 x1 x2 = true := by
  unfold exOk
  by_cases h0 : c = 0
  ·subst h0; cases hc
  ·rw [if_neg h0, if_pos hc]; exact hs
 refine z293 ?_
 intro e1 e2 e3 e4 e5 e6
 unfold exR
 rw [hok, e1, e2, e3, e4, e5, e6]
 rfl
theorem exR_ask (h0 : c ≠ 0) (hc : isStep c = false) (hLL : cellsL (lf L) n = L) (hr : rpOk (lf L) n c x0 x1 = true) : exR (lf L) n I H S P c x0 x1 x2 = rpR (lf L) n I H S P c x0 x1 := by
 have hgo : exGo (lf L) n I H S P c x0 x1 x2 = false := by unfold exGo; rw [hc]; rfl
 have hok : exOk (lf L) n I H S P c x0 x1 x2 = true := by
  unfold exOk
  rw [if_neg h0, hc]
  exact hr
 refine z292 ?_
 intro e1 e2 e3 e4 e5 e6
 unfold exR
 rw [hok, e1, e2, e3, e4, e5, e6]
 rfl
theorem ok_ask (h0 : c ≠ 0) (hc : isStep c = false) : exOk (lf L) n I H S P c x0 x1 x2 = rpOk (lf L) n c x0 x1 := by
 unfold exOk
 rw [if_neg h0, hc]
 rfl
end
section
variable {base n cp n1 c1 : Nat} {A A1 : Option Addr} {L L1 : List Int} {I H S P I1 H1 S1 P1 z c x0 x1 x2 id tt zz : Int} {D Q r : ByteArray} {w w' : World}
theorem mk_ok (hi : id = exId c x0 ∧ tt = exTo c x1 ∧ zz = exZ c x0 x1 x2) (hc : isStep c = true) : exOk (lf L) n I H S P c x0 x1 x2 = stOk (lf L) n I H S P c id tt zz ∧ exGo (lf L) n I H S P c x0 x1 x2 = stOk (lf L) n I H S P c id tt zz := by
 obtain ⟨rfl, rfl, rfl⟩ := hi
 constructor
 ·unfold exOk
  by_cases h0 : c = 0
  ·subst h0; cases hc
  ·rw [if_neg h0, if_pos hc]
 ·unfold exGo
  rw [hc]
  rfl
theorem mk_no (hi : id = exId c x0 ∧ tt = exTo c x1 ∧ zz = exZ c x0 x1 x2) (hc : isStep c = true) (hso : stOk (lf L) n I H S P c id tt zz = false) (hLL : cellsL (lf L) n = L) (hnc : n ≤ cp)
  (hO : w'.ownsRow base 97 4 (.slice A n cp) n (L.map (Value.int .i64))) (hB : bW w w') :
  rfPost base L n I H S P D Q z c x0 x1 x2 w (.returned (.tuple #[.agg (cB A n cp I H S P D Q z), .string ⟨#[63]⟩])) w' := by
 have h := mk_ok (L := L) (n := n) (I := I) (H := H) (S := S) (P := P) hi hc
 rw [hso] at h
 exact rf_no h.2 (exR_none h.1) hLL hnc hO hB
theorem mk_there (hi : id = exId c x0 ∧ tt = exTo c x1 ∧ zz = exZ c x0 x1 x2) (hc : isStep c = true) (hso : stOk (lf L) n I H S P c id tt zz = true) (h1 : L1 = stL (lf L) n c id tt zz) (h2 : n1 = stN n c) : rpOk (lf L1) n1 c x0 x1 = true := by
 obtain ⟨rfl, rfl, rfl⟩ := hi
 subst h1 h2
 exact st_there hc hso
theorem mk_yes (hi : id = exId c x0 ∧ tt = exTo c x1 ∧ zz = exZ c x0 x1 x2) (hc : isStep c = true) (hso : stOk (lf L) n I H S P c id tt zz = true)
  (hv : L1 = stL (lf L) n c id tt zz ∧ n1 = stN n c ∧ I1 = stI I c zz ∧ H1 = stH H c zz ∧ S1 = stS S c zz ∧ P1 = stP (lf L) n P c id) (hr : rpR (lf L1) n1 I1 H1 S1 P1 c x0 x1 = r) (hnc : n1 ≤ c1)
  (hO : w'.ownsRow base 97 4 (.slice A1 n1 c1) n1 (L1.map (Value.int .i64))) (hB : bW w w') :
  rfPost base L n I H S P D Q z c x0 x1 x2 w (.returned (.tuple #[.agg (cB A1 n1 c1 I1 H1 S1 P1 D Q z), .string r])) w' := by
 have h := mk_ok (L := L) (n := n) (I := I) (H := H) (S := S) (P := P) hi hc
 rw [hso] at h
 obtain ⟨rfl, rfl, rfl⟩ := hi
 exact rf_yes h.2 hv ((exR_step hc hso hv).trans hr) hnc hO hB
end
theorem own_formS {w : World} {base n c : Nat} {A' : Option Addr} {xs : List Value} (h : w.ownsRow base 97 4 (.slice A' n c) n xs) : ∀ ad, A' = some ad → ∃ b off, ad = ⟨b, off, none⟩ := by
 intro ad e
 subst e
 rcases h.2 with ⟨h1, h2⟩ | ⟨g, cap, cur, h1, _⟩
 ·simp at h1
 ·simp at h1; exact ⟨_, _, h1.1⟩
theorem l28Make_any (base : Nat) (A : Option Addr) (n cp : Nat) (L : List Int) (I H S P : Int) (D Q : ByteArray) (z : Int) (c x0 x1 x2 id tt zz : Int) (hi : id = exId c x0 ∧ tt = exTo c x1 ∧ zz = exZ c x0 x1 x2) (hc : isStep c = true) (w : World) (hO : w.ownsRow base 97 4 (.slice A n cp) n (L.map (Value.int .i64))) (hbase : base ≤ w.heap.size) (hnc : n ≤ cp) (hg : goodWorks (lf L) n I H S P = true) :
  Calls Tryz.prog 87 #[.agg (cB A n cp I H S P D Q z), .agg (iV c id tt zz)] w (rfPost base L n I H S P D Q z c x0 x1 x2 w) := by
 have HI := lh hi
 have HCC := lh hc
 clear hi hc
 refine z294 ?_
 intro HLL hn6
 obtain ⟨hX, h2, h3, h4⟩ := bl3 w (.cells (cB A n cp I H S P D Q z) 35) (.cells (iV c id tt zz) 107) (.cells (cB none 0 0 0 0 0 0 ⟨#[]⟩ ⟨#[]⟩ 0) 35)
 go_enter Tryz.func87, Tryz.ntmps87
 go_upto_region 1 with fail
 refine z161 ?_
 intro w1 hw1
 rw [← hw1] at hX h2 h3 h4
 clear hw1
 obtain ⟨g2, hg2⟩ : ∃ q, w.heap.size = q := ⟨_, rfl⟩
 rw [hg2] at h2 h3 h4
 try rw [hg2]
 obtain ⟨g3, hg3⟩ : ∃ q, g2 + 1 = q := ⟨_, rfl⟩
 rw [hg3] at h3 h4
 try rw [hg3]
 obtain ⟨g4, hg4⟩ : ∃ q, g3 + 1 = q := ⟨_, rfl⟩
 rw [hg4] at h4
 try rw [hg4]
 have HLE := lh (show w.heap.size ≤ g4 by omega)
 have hn24 : g2 ≠ g4 := by omega
 have hn34 : g3 ≠ g4 := by omega
 have HO := lh (ownsRow_below hO hX)
 have HX := lh hX
 have H2 := lh h2
 have H3 := lh h3
 have H4 := lh h4
 have hb1 := hX.size
 have l3 := (gL h3)
 have l4 := (gL h4)
 clear hO hX h2 h3 h4
 have HNK := lh (fun e : A = none => own_nilK HO.out e)
 have HFM := lh (own_formS HO.out)
 have HSL := lh (own_sl HO.out)
 obtain ⟨e0, e1, e2, e3, e4, e5, e6, e7⟩ := cells8 H2.out
 obtain ⟨s0, s1, s2, s3⟩ := cells4 H3.out
 obtain ⟨so, hso⟩ : ∃ b, stOk (lf L) n I H S P c id tt zz = b := ⟨_, rfl⟩
 have HSO := lh hso
 have HW0 := sStepWorks_any A n cp _ _ (lf L) I H S P c id tt zz w1 HSL.out (by omega) hnc HNK.out HFM.out
 rw [hso] at HW0
 have HW := lh HW0
 clear HW0 hso HNK HFM HSL
 go_wp2_with fail
 refine HW.out.mono ?_
 rintro e w2 hp
 obtain ⟨L1, n1, I1, H1, S1, P1, A1, c1, rfl, hnc1, hown1, hb, hv⟩ := step_open hp
 clear hp HW e0 e1 e2 e3 e4 e5 e6 e7 s0 s1 s2 s3
 have HV := lh hv
 have HO2 := lh (ownsRow_below HO.out hb)
 have HO1 := lh (ownsRow_monoP hown1 (show base ≤ w1.heap.size by have := HX.out.size; omega))
 have HB := lh (HX.out.trans (hb.mono HX.out.size))
 have H2' := lh (rowC H2.out hb)
 have H3' := lh (rowC H3.out hb)
 have H4' := lh (rowC H4.out hb)
 have hb2 := hb.size
 clear hv hown1 hb H2 H3 H4 HO
 go_upto_region 2 with fail
 refine z295 ?_
 intro w3 hb h6 g6 hg6
 rw [hg6] at h6
 try rw [hg6]
 have HB3 := lh (HB.out.trans (hb.mono HB.out.size))
 have H2 := lh (rowC H2'.out hb)
 have H3 := lh (rowC H3'.out hb)
 have H4 := lh (rowC H4'.out hb)
 have HOo := lh (ownsRow_below HO2.out hb)
 have HOn := lh (ownsRow_below HO1.out hb)
 have H6 := lh h6
 have hn46 : g4 ≠ g6 := by omega
 have hn26 : g2 ≠ g6 := by omega
 have HL6 := lh (show w2.heap.size ≤ g6 by omega)
 clear hb h6 H2' H3' H4' HO2 HO1 HB
 cases so with
 | false =>
  have h2 := H2.out
  have h4 := H4.out
  obtain ⟨e0, e1, e2, e3, e4, e5, e6, e7⟩ := cells8 h2
  go_upto_region 3 with fail
  go_wp2_with (refine z281 ?_; refine z296 ?_)
  intro wz hh hgw
  have HHR := lh hh
  have HBZ := lh (HB3.out.grown hgw HB3.out.size (fun k hk => by cases hk; exact HLE.out))
  have HOZ := lh (own_other HOo.out h4 (by decide) hgw)
  clear hh hgw
  go_wp2_with ((refine z66 ?_); refine z297 ?_; have hq := mk_no (D := D) (Q := Q) (z := z) HI.out HCC.out HSO.out HLL.out hnc HOZ.out HBZ.out; exact hq)
 | true =>
  have hv := HV.out rfl
  have HTH := lh (mk_there HI.out HCC.out HSO.out hv.1 hv.2.1)
  have hgd := st_good HSO.out
  rw [← hv.1, ← hv.2.1, ← hv.2.2.1, ← hv.2.2.2.1, ← hv.2.2.2.2.1, ← hv.2.2.2.2.2] at hgd
  have HVV := lh hv
  have hk := good_kilos hgd
  have hn1 := con_len hgd
  have HGD := lh hgd
  have HKK := lh hk
  clear hv hgd hk HV
  refine z298 ?_
  intro e0 e1 e2 e3 e4 e5 e6 e7
  go_upto_region 5 with fail
  refine z161 ?_
  intro w4 hw4
  have hb := ba hw4
  have h8 := an hw4
  clear hw4 e0 e1 e2 e3 e4 e5 e6 e7
  have l6 := (gL H6.out)
  have hs3 := HB3.out.size
  obtain ⟨g8, hg8⟩ : ∃ q, w3.heap.size = q := ⟨_, rfl⟩
  rw [hg8] at h8 l6 hs3
  try rw [hg8]
  have HB4 := lh (HB3.out.trans (hb.mono HB3.out.size))
  have H3' := lh (rowC H3.out hb)
  have H4' := lh (rowC H4.out hb)
  have H6' := lh (rowC H6.out hb)
  have HOn' := lh (ownsRow_below HOn.out hb)
  have HL8 := lh (show w.heap.size ≤ g8 from hs3)
  have hl3 := (gL H3.out)
  have hl4 := (gL H4.out)
  rw [hg8] at hl3 hl4
  have hn68 : g6 ≠ g8 := by omega
  have hn38 : g3 ≠ g8 := by omega
  have hn48 : g4 ≠ g8 := by omega
  clear hb H2 H3 H4 H6 HOn HOo HB3 l6 hs3 hl3 hl4
  have h8' := h8
  obtain ⟨y0, y1, y2, y3, y4⟩ := cells5 H6'.out
  go_wp2_with (refine z281 ?_; refine wpList_store2 g8 0 (.agg (wB A1 n1 c1 I1 H1 S1 P1)) 35 _ (cB A1 n1 c1 I1 H1 S1 P1 D Q z) rfl rfl infoWorks h8 ((by decide : 0 + 5 ≤ 8)) (by exact z143) rfl ?_)
  intro w5 hh hgw
  have H8 := lh hh
  have H3 := lh (rowGr H3'.out hgw hn38)
  have H4 := lh (rowGr H4'.out hgw hn48)
  have H6 := lh (rowGr H6'.out hgw hn68)
  have HON := lh (own_other HOn'.out h8' (by decide) hgw)
  have HB := lh (HB4.out.grown hgw HB4.out.size (fun k hk => by cases hk; exact HL8.out))
  clear hh hgw h8 h8' H3' H4' H6' HOn' HB4 y0 y1 y2 y3 y4
  have HSL := lh (own_sl HON.out)
  obtain ⟨r, hr⟩ : ∃ r, rpR (lf L1) n1 I1 H1 S1 P1 c x0 x1 = r := ⟨_, rfl⟩
  have HR := lh hr
  clear hr
  by_cases hk3 : c = 3
  ·as_aux_lemma =>
    have k3 : (c == 3) = true := by simp [hk3]
    have RR : Hid (panX (lf L1) n1 tt = r) := by
     show _ = _
     rw [← HR.out, hk3, HI.out.2.1, hk3]
     simp [rpR, exTo]
    have FND : Hid (0 ≤ findV (pid (lf L1)) tt n1 0) := by
     show _ ≤ _
     have h := HTH.out
     rw [HI.out.2.1, hk3]
     rw [hk3] at h
     simpa [rpOk, exTo] using h
    have HK3 := lh hk3
    clear hk3
    have HC : Hid (∀ W, bW w5 W → Calls Tryz.prog 133 #[.agg (wB A1 n1 c1 I1 H1 S1 P1), .int .i64 tt] W fun e w' => e = .returned (.string r) ∧ bW W w') := fun W hb => by
     have h := l28Pan_any tt A1 n1 c1 _ _ (lf L1) I1 H1 S1 P1 W (HSL.out.below hb) (by omega) hnc1 HGD.out
     rw [if_pos FND.out] at h
     rw [RR.out] at h
     exact h
    obtain ⟨s0, s1, s2, s3⟩ := cells4 H3.out
    go_upto_region 8 with fail
    refine z299 ?_
    intro HF v0 hbd jd
    refine tj4 0 26 1 27 2 28 3 29 HF jd ?_
    refine z113 ?_
    refine z300 ?_
    intro v1 hbn hr4 hOv hBv jd
    refine wS0 5 g4 (cB A1 n1 c1 I1 H1 S1 P1 D Q z) 35 infoConE (hr4) (fun w' hg' => grow_trans jd hg') ?ks8
    case ks8 =>
     revert jd
     refine z241 ?_
     intro v3 hh hgw jd
     refine tj 6 5 HF rfl jd ?_
     refine z49 ?_
     refine z301 ?_
     intro HHR HBZ HOZ
     clear hh hgw hr4 hOv hBv jd hbd hbn HF HC
     go_wp2_with ((refine z66 ?_); refine z297 ?_; have hq := mk_yes (D := D) (Q := Q) (z := z) HI.out HCC.out HSO.out HVV.out HR.out hnc1 HOZ.out HBZ.out; exact hq)
  have k3 : (c == 3) = false := by simp [hk3]
  by_cases hk5 : c = 5
  ·as_aux_lemma =>
    have k5 : (c == 5) = true := by simp [hk5]
    have RR : Hid (numB H1 = r) := by
     show _ = _
     rw [← HR.out, hk5]
     simp [rpR]
    have HK5 := lh hk5
    clear hk5
    have HC : Hid (∀ W, bW w5 W → Calls Tryz.prog 66 #[.int .i64 H1] W fun e w' => e = .returned (.string r) ∧ bW W w') := fun W hb => by
     have h := l1Num_any H1 HKK.out.2.1.1 (Int.le_trans HKK.out.2.1.2 (by decide)) W
     rw [RR.out] at h
     exact h
    obtain ⟨s0, s1, s2, s3⟩ := cells4 H3.out
    go_upto_region 10 with fail
    refine z299 ?_
    intro HF v0 hbd jd
    refine tj3 0 33 1 34 2 35 HF jd ?_
    refine wpAnyH_ready (rs := [3]) (by exact z12) (by simp) ?_
    refine z300 ?_
    intro v1 hbn hr4 hOv hBv jd
    refine wS0 4 g4 (cB A1 n1 c1 I1 H1 S1 P1 D Q z) 35 infoConE (hr4) (fun w' hg' => grow_trans jd hg') ?ks10
    case ks10 =>
     revert jd
     refine z241 ?_
     intro v3 hh hgw jd
     refine tj 5 5 HF rfl jd ?_
     refine z49 ?_
     refine z301 ?_
     intro HHR HBZ HOZ
     clear hh hgw hr4 hOv hBv jd hbd hbn HF HC
     go_wp2_with ((refine z66 ?_); refine z297 ?_; have hq := mk_yes (D := D) (Q := Q) (z := z) HI.out HCC.out HSO.out HVV.out HR.out hnc1 HOZ.out HBZ.out; exact hq)
  have k5 : (c == 5) = false := by simp [hk5]
  by_cases hk6 : c = 6
  ·as_aux_lemma =>
    have k6 : (c == 6) = true := by simp [hk6]
    have RR : Hid (numB S1 = r) := by
     show _ = _
     rw [← HR.out, hk6]
     simp [rpR]
    have HK6 := lh hk6
    clear hk6
    have HC : Hid (∀ W, bW w5 W → Calls Tryz.prog 66 #[.int .i64 S1] W fun e w' => e = .returned (.string r) ∧ bW W w') := fun W hb => by
     have h := l1Num_any S1 HKK.out.2.2.1.1 (Int.le_trans HKK.out.2.2.1.2 (by decide)) W
     rw [RR.out] at h
     exact h
    obtain ⟨s0, s1, s2, s3⟩ := cells4 H3.out
    go_upto_region 12 with fail
    refine z299 ?_
    intro HF v0 hbd jd
    refine tj3 0 39 1 40 2 41 HF jd ?_
    refine wpAnyH_ready (rs := [3]) (by exact z12) (by simp) ?_
    refine z300 ?_
    intro v1 hbn hr4 hOv hBv jd
    refine wS0 4 g4 (cB A1 n1 c1 I1 H1 S1 P1 D Q z) 35 infoConE (hr4) (fun w' hg' => grow_trans jd hg') ?ks12
    case ks12 =>
     revert jd
     refine z241 ?_
     intro v3 hh hgw jd
     refine tj 5 5 HF rfl jd ?_
     refine z49 ?_
     refine z301 ?_
     intro HHR HBZ HOZ
     clear hh hgw hr4 hOv hBv jd hbd hbn HF HC
     go_wp2_with ((refine z66 ?_); refine z297 ?_; have hq := mk_yes (D := D) (Q := Q) (z := z) HI.out HCC.out HSO.out HVV.out HR.out hnc1 HOZ.out HBZ.out; exact hq)
  have k6 : (c == 6) = false := by simp [hk6]
  by_cases hk7 : c = 7
  ·as_aux_lemma =>
    have k7 : (c == 7) = true := by simp [hk7]
    have RR : Hid (numB P1 = r) := by
     show _ = _
     rw [← HR.out, hk7]
     simp [rpR]
    have HK7 := lh hk7
    clear hk7
    have HC : Hid (∀ W, bW w5 W → Calls Tryz.prog 66 #[.int .i64 P1] W fun e w' => e = .returned (.string r) ∧ bW W w') := fun W hb => by
     have h := l1Num_any P1 HKK.out.2.2.2.1 (Int.le_trans HKK.out.2.2.2.2 (by decide)) W
     rw [RR.out] at h
     exact h
    obtain ⟨s0, s1, s2, s3⟩ := cells4 H3.out
    go_upto_region 14 with fail
    refine z299 ?_
    intro HF v0 hbd jd
    refine tj3 0 45 1 46 2 47 HF jd ?_
    refine wpAnyH_ready (rs := [3]) (by exact z12) (by simp) ?_
    refine z300 ?_
    intro v1 hbn hr4 hOv hBv jd
    refine wS0 4 g4 (cB A1 n1 c1 I1 H1 S1 P1 D Q z) 35 infoConE (hr4) (fun w' hg' => grow_trans jd hg') ?ks14
    case ks14 =>
     revert jd
     refine z241 ?_
     intro v3 hh hgw jd
     refine tj 5 5 HF rfl jd ?_
     refine z49 ?_
     refine z301 ?_
     intro HHR HBZ HOZ
     clear hh hgw hr4 hOv hBv jd hbd hbn HF HC
     go_wp2_with ((refine z66 ?_); refine z297 ?_; have hq := mk_yes (D := D) (Q := Q) (z := z) HI.out HCC.out HSO.out HVV.out HR.out hnc1 HOZ.out HBZ.out; exact hq)
  have k7 : (c == 7) = false := by simp [hk7]
  have hcc := HCC.out
  simp only [isStep, decide_eq_true_eq] at hcc
  have h124 : c = 1 ∨ c = 2 ∨ c = 4 := by omega
  have h6 : exId c x0 = x0 := by unfold exId; rw [if_neg hk6]
  clear hcc
  have RR : Hid (panX (lf L1) n1 id = r) := by
   show _ = _
   rw [← HR.out, HI.out.1, h6]
   rcases h124 with rfl | rfl | rfl <;> simp [rpR]
  have FND : Hid (0 ≤ findV (pid (lf L1)) id n1 0) := by
   show _ ≤ _
   have h := HTH.out
   rw [HI.out.1, h6]
   rcases h124 with rfl | rfl | rfl <;> simpa [rpOk] using h
  clear hk3 hk5 hk6 hk7 h124 h6
  have HC : Hid (∀ W, bW w5 W → Calls Tryz.prog 133 #[.agg (wB A1 n1 c1 I1 H1 S1 P1), .int .i64 id] W fun e w' => e = .returned (.string r) ∧ bW W w') := fun W hb => by
   have h := l28Pan_any id A1 n1 c1 _ _ (lf L1) I1 H1 S1 P1 W (HSL.out.below hb) (by omega) hnc1 HGD.out
   rw [if_pos FND.out] at h
   rw [RR.out] at h
   exact h
  obtain ⟨s0, s1, s2, s3⟩ := cells4 H3.out
  go_upto_region 15 with fail
  refine z299 ?_
  intro HF v0 hbd jd
  refine tj4 0 49 1 50 2 51 3 52 HF jd ?_
  refine z113 ?_
  refine z300 ?_
  intro v1 hbn hr4 hOv hBv jd
  refine wS0 5 g4 (cB A1 n1 c1 I1 H1 S1 P1 D Q z) 35 infoConE (hr4) (fun w' hg' => grow_trans jd hg') ?ks15
  case ks15 =>
   revert jd
   refine z241 ?_
   intro v3 hh hgw jd
   refine tj 6 5 HF rfl jd ?_
   refine z49 ?_
   refine z301 ?_
   intro HHR HBZ HOZ
   clear hh hgw hr4 hOv hBv jd hbd hbn HF HC
   go_wp2_with ((refine z66 ?_); refine z297 ?_; have hq := mk_yes (D := D) (Q := Q) (z := z) HI.out HCC.out HSO.out HVV.out HR.out hnc1 HOZ.out HBZ.out; exact hq)
end Go.Proofs.YtpndjhelpoenpaaGreatDoor
