/-
  Texts of this claim, merged.
-/
import Derived.Test.YtpndjhelpoenpaaGreatDoorXA25
set_option linter.unusedVariables false
set_option linter.unusedSimpArgs false
set_option maxRecDepth 100000
set_option maxHeartbeats 8000000
namespace Go.Proofs.YtpndjhelpoenpaaGreatDoor
open Go.RowKit
attribute [local go_sem ↓] Go.wp_at_zero Go.wp_at_succ
theorem sDry_any (x : Int) (A : Option Addr) (n c lo hi : Nat) (f : Nat → Int) (I H S P : Int) (w : World) (hs : Sl w lo hi 4 A n f) (hn : n ≤ 1048576) (hnc : n ≤ c) (hgd : goodWorks f n I H S P = true) :
  ∃ (k : Int) (ok : Bool), (ok = true → 0 ≤ k) ∧ k ≤ 9223372036854775807 ∧ (∀ q : Int, (if rpOk f n 13 x q then rpR f n I H S P 13 x q else ⟨#[63]⟩ : ByteArray) = (if ok then numB k else ⟨#[63]⟩)) ∧
   Calls Tryz.prog 131 #[.agg (wB A n c I H S P), .int .i64 x] w fun e w' => e = .returned (.tuple #[.int .i64 k, .bool ok]) ∧ bW w w' := by
 by_cases hv : 0 ≤ findV (pid f) x n 0
 ·obtain ⟨j, hj, hfd, hpj⟩ := findV_mem hv
  have hat : atN f n x = j := atN_eq hfd
  obtain ⟨bw, bs, b3, b4, _⟩ := good_brine hgd hj
  by_cases hz3 : f (j * 4 + 3) = 0
  ·refine ⟨0, false, (fun h => by cases h), by omega, fun q => ?_, specDryToRake_zero A n c lo hi f I H S P x w hs hn hnc hgd j hj hfd hz3⟩
   have h0 : rpOk f n 13 x q = false := by simp [rpOk, hat, hz3]
   rw [h0]
   rfl
  ·have hdl := dry_le bw bs (show (0 : Int) < f (j * 4 + 3) by omega) b4
   refine ⟨(dryN (f (j * 4 + 2)) (f (j * 4 + 3)) : Nat), true, (fun _ => by omega), by omega, fun q => ?_, specDryToRake_yes A n c lo hi f I H S P x w hs hn hnc hgd j hj hfd hz3⟩
   have h0 : rpOk f n 13 x q = true := by simp [rpOk, hat, hz3, hv]
   rw [h0, if_pos rfl, if_pos rfl]
   simp [rpR, hat]
 ·have hfd := findV_none hv
  refine ⟨0, false, (fun h => by cases h), by omega, fun q => ?_, specDryToRake_no A n c lo hi f I H S P x w hs hn hnc (Or.inr hfd)⟩
  have h0 : rpOk f n 13 x q = false := by simp [rpOk, hv]
  rw [h0]
  rfl
theorem exR_more {L : List Int} {n : Nat} {I H S P x : Int} {r : ByteArray} (hLL : cellsL (lf L) n = L) (h : (if rpOk (lf L) n 13 x 0 then rpR (lf L) n I H S P 13 x 0 else ⟨#[63]⟩ : ByteArray) = r) : exR (lf L) n I H S P 13 x 0 0 = r := by
 rw [← h]
 cases hk : rpOk (lf L) n 13 x 0 with
 | true => exact exR_ask (by decide) rfl hLL hk
 | false => exact exR_none ((ok_ask (by decide) rfl).trans hk)
theorem exR_text {L : List Int} {n : Nat} {I H S P x : Int} (hLL : cellsL (lf L) n = L) : exR (lf L) n I H S P 14 x 0 0 = (if 0 ≤ findV (pid (lf L)) x n 0 then panX (lf L) n x else ⟨#[63]⟩ : ByteArray) := by
 by_cases hv : 0 ≤ findV (pid (lf L)) x n 0
 ·have hk : rpOk (lf L) n 14 x 0 = true := by simp [rpOk, hv]
  rw [exR_ask (by decide) rfl hLL hk, if_pos hv]
  simp [rpR]
 ·have hk : rpOk (lf L) n 14 x 0 = false := by simp [rpOk, hv]
  rw [exR_none ((ok_ask (by decide) rfl).trans hk), if_neg hv]
theorem rf_open {base n : Nat} {L : List Int} {I H S P z c x0 x1 x2 : Int} {D Q : ByteArray} {w w' : World} {e : Ending} (h : rfPost base L n I H S P D Q z c x0 x1 x2 w e w') :
  ∃ (A1 : Option Addr) (c1 n1 : Nat) (L1 : List Int) (I1 H1 S1 P1 : Int) (r : ByteArray), e = .returned (.tuple #[.agg (cB A1 n1 c1 I1 H1 S1 P1 D Q z), .string r]) ∧ w'.ownsRow base 97 4 (.slice A1 n1 c1) n1 (L1.map (Value.int .i64)) ∧ bW w w' ∧
   ∀ w0 wz : World, wz.ownsRow base 97 4 (.slice A1 n1 c1) n1 (L1.map (Value.int .i64)) → bW w0 wz → rfPost base L n I H S P D Q z c x0 x1 x2 w0 (.returned (.tuple #[.agg (cB A1 n1 c1 I1 H1 S1 P1 D Q z), .string r])) wz := by
 obtain ⟨A1, c1, rfl, h1, h2, h3⟩ := h
 exact ⟨A1, c1, _, _, _, _, _, _, _, rfl, h2, h3, fun w0 wz ho hb => ⟨A1, c1, rfl, h1, ho, hb⟩⟩
theorem l28One_6 (u : ByteArray) (hu : u = wd6) (x : Int) (base : Nat) (A : Option Addr) (n cp : Nat) (L : List Int) (I H S P : Int) (D Q : ByteArray) (z : Int) (w : World) (hO : w.ownsRow base 97 4 (.slice A n cp) n (L.map (Value.int .i64))) (hbase : base ≤ w.heap.size) (hnc : n ≤ cp) (hg : goodWorks (lf L) n I H S P = true) :
  Calls Tryz.prog 85 #[.agg (cB A n cp I H S P D Q z), .string u, .int .i64 x] w (rfPost base L n I H S P D Q z 6 x 0 0 w) := by
 refine z294 ?_
 intro HLL hn6
 have q6 : (u.toList == ([115, 104, 105, 112] : List UInt8)) = true := by rw [hu]; decide +kernel
 clear hu
 refine z303 ?_
 intro hX h2 h4
 go_enter Tryz.func85, Tryz.ntmps85
 go_upto_region 1 with fail
 revert hO hbase hX h2 h4
 refine z304 ?_
 intro w1 g2 hg2 g4 hg4 HLE hn24 HO HX H2 H4 hb1 e0 e1 e2 e3 e4 e5 e6 e7
 go_wp2_with fail
 refine (l28Make_any base A n cp L I H S P D Q z 6 x 0 0 0 0 x ⟨by simp [exId], by simp [exTo], by simp [exZ]⟩ rfl w1 HO.out hb1 hnc hg).mono ?_
 revert HO HX H2 H4 e0 e1 e2 e3 e4 e5 e6 e7
 refine z306 ?_
 intro w2 A1 c1 n1 L1 I1 H1 S1 P1 r HRE HOW HB h4
 go_wp2_with (refine z281 ?_; refine z307 ?_)
 refine z308 ?_
 intro wz hh hgw HHR HBZ
 have HOZ := lh (own_other HOW.out h4 (by decide) hgw)
 clear hh hgw
 go_wp2_with ((refine z66 ?_); refine z309 ?_; exact z310)
theorem l28One_7 (u : ByteArray) (hu : u = wd7) (x : Int) (base : Nat) (A : Option Addr) (n cp : Nat) (L : List Int) (I H S P : Int) (D Q : ByteArray) (z : Int) (w : World) (hO : w.ownsRow base 97 4 (.slice A n cp) n (L.map (Value.int .i64))) (hbase : base ≤ w.heap.size) (hnc : n ≤ cp) (hg : goodWorks (lf L) n I H S P = true) :
  Calls Tryz.prog 85 #[.agg (cB A n cp I H S P D Q z), .string u, .int .i64 x] w (rfPost base L n I H S P D Q z 7 x 0 0 w) := by
 refine z294 ?_
 intro HLL hn6
 have q6 := wq1 hu (by exact z11)
 have q7 : (u.toList == ([115, 104, 117, 116] : List UInt8)) = true := by rw [hu]; decide +kernel
 clear hu
 refine z303 ?_
 intro hX h2 h4
 go_enter Tryz.func85, Tryz.ntmps85
 go_upto_region 1 with fail
 revert hO hbase hX h2 h4
 refine z304 ?_
 intro w1 g2 hg2 g4 hg4 HLE hn24 HO HX H2 H4 hb1 e0 e1 e2 e3 e4 e5 e6 e7
 go_wp2_with fail
 refine (l28Make_any base A n cp L I H S P D Q z 7 x 0 0 x 0 0 ⟨by simp [exId], by simp [exTo], by simp [exZ]⟩ rfl w1 HO.out hb1 hnc hg).mono ?_
 revert HO HX H2 H4 e0 e1 e2 e3 e4 e5 e6 e7
 refine z306 ?_
 intro w2 A1 c1 n1 L1 I1 H1 S1 P1 r HRE HOW HB h4
 go_wp2_with (refine z281 ?_; refine z307 ?_)
 refine z308 ?_
 intro wz hh hgw HHR HBZ
 have HOZ := lh (own_other HOW.out h4 (by decide) hgw)
 clear hh hgw
 go_wp2_with ((refine z66 ?_); refine z309 ?_; exact z310)
theorem l28One_13 (u : ByteArray) (hu : u = wd13) (x : Int) (base : Nat) (A : Option Addr) (n cp : Nat) (L : List Int) (I H S P : Int) (D Q : ByteArray) (z : Int) (w : World) (hO : w.ownsRow base 97 4 (.slice A n cp) n (L.map (Value.int .i64))) (hbase : base ≤ w.heap.size) (hnc : n ≤ cp) (hg : goodWorks (lf L) n I H S P = true) :
  Calls Tryz.prog 85 #[.agg (cB A n cp I H S P D Q z), .string u, .int .i64 x] w (rfPost base L n I H S P D Q z 13 x 0 0 w) := by
 have HGO : Hid (exGo (lf L) n I H S P 13 x 0 0 = false) := rfl
 refine z294 ?_
 intro HLL hn6
 have q6 := wq1 hu (by exact z11)
 have q7 := wq3 hu (by exact z11)
 have q13 : (u.toList == ([109, 111, 114, 101] : List UInt8)) = true := by rw [hu]; decide +kernel
 clear hu
 refine z303 ?_
 intro hX h2 h4
 go_enter Tryz.func85, Tryz.ntmps85
 go_upto_region 1 with fail
 revert hO hbase hX h2 h4
 refine z304 ?_
 intro w1 g2 hg2 g4 hg4 HLE hn24 HO HX H2 H4 hb1 e0 e1 e2 e3 e4 e5 e6 e7
 obtain ⟨k, ok, hk0, hk1, hkr, hcall⟩ := sDry_any x A n cp _ _ (lf L) I H S P w1 (own_sl HO.out) (by omega) hnc hg
 have HK0 := lh hk0
 have HR := lh (exR_more (L := L) HLL.out (hkr 0))
 have HCL := lh hcall
 clear hk0 hkr hcall
 go_wp2_with fail
 refine HCL.out.mono ?_
 rintro e w2 ⟨rfl, hb⟩
 clear HCL e0 e1 e2 e3 e4 e5 e6 e7
 have HBw2 := lh (HX.out.trans (hb.mono HX.out.size))
 have H2w2 := lh (rowC H2.out hb)
 have H4w2 := lh (rowC H4.out hb)
 have HOw2 := lh (ownsRow_below HO.out hb)
 clear hb HX HO H2 H4
 go_upto_region 8 with fail
 have HF : Hid (∀ w', w2.grownBy w' (some g4) → _) := fun w' hq => cells8 (rowGr H2w2.out hq hn24)
 refine wp_region_held_drew (S := fun w' => w2.grownBy w' (some g4)) (by exact z12) (but_stays w2 _ (grow_refl w2 (some g4)) ((Below.refl _ _).drew)) (fun jd => ?_)
 have hbd : bW w2 w2.drew := (Below.refl _ _).drew
 obtain ⟨v0, hv0⟩ : ∃ v, w2.drew = v := ⟨_, rfl⟩
 rw [hv0] at jd hbd ⊢
 clear hv0
 refine tj3 0 36 1 37 2 38 HF jd ?_
 refine wpAnyH_ready (rs := [3]) (by exact z12) (by simp) ?_
 refine z73 ?_
 intro K hK
 refine (l28Number_any k ok HK0.out hk1 v0).mono ?_
 rintro e v1 ⟨rfl, hbn⟩
 have hr4 := rowC (rowC H4w2.out hbd) hbn
 have hOv := ownsRow_below (ownsRow_below HOw2.out hbd) hbn
 have hBv := (HBw2.out.trans (hbd.mono HBw2.out.size)).trans (hbn.mono (Nat.le_trans HBw2.out.size hbd.size))
 refine z240 ?_
 intro hHeld2 jd
 clear hK K hHeld2
 refine wS0 4 g4 (cB A n cp I H S P D Q z) 35 infoConE (hr4) (fun w' hg' => grow_trans jd hg') ?ks
 case ks =>
  revert jd
  refine z241 ?_
  intro v3 hh hgw jd
  refine tj 5 7 HF rfl jd ?_
  refine z49 ?_
  refine z301 ?_
  intro HHR HBZ HOZ
  clear hh hgw hr4 hOv hBv jd hbd hbn HF
  go_wp2_with ((refine z66 ?_); refine z309 ?_; have hq := rf_no (D := D) (Q := Q) (z := z) (x0 := x) (x1 := 0) (x2 := 0) (c := 13) HGO.out HR.out HLL.out hnc HOZ.out HBZ.out; exact hq)
theorem l28One_14 (u : ByteArray) (hu : u = wd14) (x : Int) (base : Nat) (A : Option Addr) (n cp : Nat) (L : List Int) (I H S P : Int) (D Q : ByteArray) (z : Int) (w : World) (hO : w.ownsRow base 97 4 (.slice A n cp) n (L.map (Value.int .i64))) (hbase : base ≤ w.heap.size) (hnc : n ≤ cp) (hg : goodWorks (lf L) n I H S P = true) :
  Calls Tryz.prog 85 #[.agg (cB A n cp I H S P D Q z), .string u, .int .i64 x] w (rfPost base L n I H S P D Q z 14 x 0 0 w) := by
 have HGO : Hid (exGo (lf L) n I H S P 14 x 0 0 = false) := rfl
 refine z294 ?_
 intro HLL hn6
 have q6 := wq1 hu (by exact z11)
 have q7 := wq3 hu (by exact z11)
 have q13 := wq12 hu (by exact z11)
 have q14 : (u.toList == ([116, 101, 120, 116] : List UInt8)) = true := by rw [hu]; decide +kernel
 clear hu
 refine z303 ?_
 intro hX h2 h4
 go_enter Tryz.func85, Tryz.ntmps85
 go_upto_region 1 with fail
 revert hO hbase hX h2 h4
 refine z304 ?_
 intro w1 g2 hg2 g4 hg4 HLE hn24 HO HX H2 H4 hb1 e0 e1 e2 e3 e4 e5 e6 e7
 obtain ⟨r, hr⟩ : ∃ r, exR (lf L) n I H S P 14 x 0 0 = r := ⟨_, rfl⟩
 have HC : Hid (∀ W, bW w1 W → Calls Tryz.prog 133 #[.agg (wB A n cp I H S P), .int .i64 x] W fun e w' => e = .returned (.string r) ∧ bW W w') := fun W hb => by
  have h := l28Pan_any x A n cp _ _ (lf L) I H S P W (own_sl (ownsRow_below HO.out hb)) (by omega) hnc hg
  rw [← hr, exR_text HLL.out]
  exact h
 have HR := lh hr
 clear hr
 have H2w1 := H2
 have H4w1 := H4
 have HOw1 := HO
 have HBw1 := HX
 clear H2 H4 HO
 go_upto_region 10 with fail
 have HF : Hid (∀ w', w1.grownBy w' (some g4) → _) := fun w' hq => cells8 (rowGr H2w1.out hq hn24)
 refine wp_region_held_drew (S := fun w' => w1.grownBy w' (some g4)) (by exact z12) (but_stays w1 _ (grow_refl w1 (some g4)) ((Below.refl _ _).drew)) (fun jd => ?_)
 have hbd : bW w1 w1.drew := (Below.refl _ _).drew
 obtain ⟨v0, hv0⟩ : ∃ v, w1.drew = v := ⟨_, rfl⟩
 rw [hv0] at jd hbd ⊢
 clear hv0
 refine tj4 0 42 1 43 3 45 2 44 HF jd ?_
 refine z113 ?_
 refine z73 ?_
 intro K hK
 refine (HC.out v0 hbd).mono ?_
 rintro e v1 ⟨rfl, hbn⟩
 have hr4 := rowC (rowC H4w1.out hbd) hbn
 have hOv := ownsRow_below (ownsRow_below HOw1.out hbd) hbn
 have hBv := (HBw1.out.trans (hbd.mono HBw1.out.size)).trans (hbn.mono (Nat.le_trans HBw1.out.size hbd.size))
 refine z240 ?_
 intro hHeld2 jd
 clear hK K hHeld2
 refine wS0 5 g4 (cB A n cp I H S P D Q z) 35 infoConE (hr4) (fun w' hg' => grow_trans jd hg') ?ks
 case ks =>
  revert jd
  refine z241 ?_
  intro v3 hh hgw jd
  refine tj 6 7 HF rfl jd ?_
  refine z49 ?_
  refine z301 ?_
  intro HHR HBZ HOZ
  clear hh hgw hr4 hOv hBv jd hbd hbn HF
  go_wp2_with ((refine z66 ?_); refine z309 ?_; have hq := rf_no (D := D) (Q := Q) (z := z) (x0 := x) (x1 := 0) (x2 := 0) (c := 14) HGO.out HR.out HLL.out hnc HOZ.out HBZ.out; exact hq)
theorem l28One_no (u : ByteArray) (h6 : u ≠ wd6) (h7 : u ≠ wd7) (h13 : u ≠ wd13) (h14 : u ≠ wd14) (x : Int) (base : Nat) (A : Option Addr) (n cp : Nat) (L : List Int) (I H S P : Int) (D Q : ByteArray) (z : Int) (w : World) (hO : w.ownsRow base 97 4 (.slice A n cp) n (L.map (Value.int .i64))) (hbase : base ≤ w.heap.size) (hnc : n ≤ cp) (hg : goodWorks (lf L) n I H S P = true) :
  Calls Tryz.prog 85 #[.agg (cB A n cp I H S P D Q z), .string u, .int .i64 x] w (rfPost base L n I H S P D Q z 0 x 0 0 w) := by
 have HGO : Hid (exGo (lf L) n I H S P 0 x 0 0 = false) := rfl
 have HER : Hid (exR (lf L) n I H S P 0 x 0 0 = ⟨#[63]⟩) := exR_none rfl
 refine z294 ?_
 intro HLL hn6
 have q6 : (u.toList == ([115, 104, 105, 112] : List UInt8)) = false := by
  rw [show ([115, 104, 105, 112] : List UInt8) = wd6.toList by exact z11, toList_beq]
  exact decide_eq_false h6
 have q7 : (u.toList == ([115, 104, 117, 116] : List UInt8)) = false := by
  rw [show ([115, 104, 117, 116] : List UInt8) = wd7.toList by exact z11, toList_beq]
  exact decide_eq_false h7
 have q13 : (u.toList == ([109, 111, 114, 101] : List UInt8)) = false := by
  rw [show ([109, 111, 114, 101] : List UInt8) = wd13.toList by exact z11, toList_beq]
  exact decide_eq_false h13
 have q14 : (u.toList == ([116, 101, 120, 116] : List UInt8)) = false := by
  rw [show ([116, 101, 120, 116] : List UInt8) = wd14.toList by exact z11, toList_beq]
  exact decide_eq_false h14
 clear h6 h7 h13 h14
 refine z303 ?_
 intro hX h2 h4
 go_enter Tryz.func85, Tryz.ntmps85
 go_upto_region 1 with fail
 revert hO hbase hX h2 h4
 refine z304 ?_
 intro w1 g2 hg2 g4 hg4 HLE hn24 HO HX H2 H4 hb1 e0 e1 e2 e3 e4 e5 e6 e7
 have h4 := H4.out
 go_upto_region 11 with fail
 go_wp2_with (refine z281 ?_; refine z296 ?_)
 intro wz hh hgw
 have HHR := lh hh
 have HBZ := lh (HX.out.grown hgw HX.out.size (fun k hk => by cases hk; exact HLE.out))
 have HOZ := lh (own_other HO.out h4 (by decide) hgw)
 clear hh hgw
 go_wp2_with ((refine z66 ?_); refine z309 ?_; have hq := rf_no (D := D) (Q := Q) (z := z) (x0 := x) (x1 := 0) (x2 := 0) (c := 0) HGO.out HER.out HLL.out hnc HOZ.out HBZ.out; exact hq)
theorem cmd_1 (u : ByteArray) : cmdN u 1 = (if u = wd6 then 6 else if u = wd7 then 7 else if u = wd13 then 13 else if u = wd14 then 14 else 0 : Int) := by simp [cmdN]
theorem l28One_any (u : ByteArray) (x : Int) (base : Nat) (A : Option Addr) (n cp : Nat) (L : List Int) (I H S P : Int) (D Q : ByteArray) (z : Int) (w : World) (hO : w.ownsRow base 97 4 (.slice A n cp) n (L.map (Value.int .i64))) (hbase : base ≤ w.heap.size) (hnc : n ≤ cp) (hg : goodWorks (lf L) n I H S P = true) :
  Calls Tryz.prog 85 #[.agg (cB A n cp I H S P D Q z), .string u, .int .i64 x] w (rfPost base L n I H S P D Q z (cmdN u 1) x 0 0 w) := by
 rw [cmd_1]
 by_cases h6 : u = wd6
 ·rw [if_pos h6]
  exact l28One_6 u h6 x base A n cp L I H S P D Q z w hO hbase hnc hg
 rw [if_neg h6]
 by_cases h7 : u = wd7
 ·rw [if_pos h7]
  exact l28One_7 u h7 x base A n cp L I H S P D Q z w hO hbase hnc hg
 rw [if_neg h7]
 by_cases h13 : u = wd13
 ·rw [if_pos h13]
  exact l28One_13 u h13 x base A n cp L I H S P D Q z w hO hbase hnc hg
 rw [if_neg h13]
 by_cases h14 : u = wd14
 ·rw [if_pos h14]
  exact l28One_14 u h14 x base A n cp L I H S P D Q z w hO hbase hnc hg
 rw [if_neg h14]
 exact l28One_no u h6 h7 h13 h14 x base A n cp L I H S P D Q z w hO hbase hnc hg
theorem l28Two_k (c : Int) (u : ByteArray) (hk : (c = 1 ∧ u = wd1) ∨ (c = 2 ∧ u = wd2) ∨ (c = 4 ∧ u = wd4) ∨ (c = 5 ∧ u = wd5)) (x y : Int) (base : Nat) (A : Option Addr) (n cp : Nat) (L : List Int) (I H S P : Int) (D Q : ByteArray) (z : Int) (w : World) (hO : w.ownsRow base 97 4 (.slice A n cp) n (L.map (Value.int .i64))) (hbase : base ≤ w.heap.size) (hnc : n ≤ cp) (hg : goodWorks (lf L) n I H S P = true) :
  Calls Tryz.prog 86 #[.agg (cB A n cp I H S P D Q z), .string u, .int .i64 x, .int .i64 y] w (rfPost base L n I H S P D Q z c x y 0 w) := by
 refine z294 ?_
 intro HLL hn6
 have hcc : isStep c = true := by rcases hk with ⟨rfl, _⟩ | ⟨rfl, _⟩ | ⟨rfl, _⟩ | ⟨rfl, _⟩ <;> rfl
 have hci : x = exId c x ∧ 0 = exTo c y ∧ y = exZ c x y 0 := by rcases hk with ⟨rfl, _⟩ | ⟨rfl, _⟩ | ⟨rfl, _⟩ | ⟨rfl, _⟩ <;> simp [exId, exTo, exZ]
 have HCI := lh hci
 have HCC := lh hcc
 clear hci hcc
 refine z303 ?_
 intro hX h2 h4
 go_enter Tryz.func86, Tryz.ntmps86
 go_upto_region 1 with fail
 revert hO hbase hX h2 h4
 refine z304 ?_
 intro w1 g2 hg2 g4 hg4 HLE hn24 HO HX H2 H4 hb1 e0 e1 e2 e3 e4 e5 e6 e7
 go_upto_block 0 with fail
 go_cut [10] from 11 (fun sk wx => sk = .int .i64 c ∧ wx = w1)
 case first =>
  rcases hk with ⟨rfl, hu⟩ | ⟨rfl, hu⟩ | ⟨rfl, hu⟩ | ⟨rfl, hu⟩
  ·have q1 : (u.toList == ([98, 117, 105, 108, 100] : List UInt8)) = true := by rw [hu]; decide +kernel
   clear hu
   clear HCI HCC
   exact z311
  ·have q1 := wq4 hu (by exact z11)
   have q2 : (u.toList == ([116, 97, 107, 101] : List UInt8)) = true := by rw [hu]; decide +kernel
   clear hu
   clear HCI HCC
   exact z311
  ·have q1 := wq4 hu (by exact z11)
   have q2 := wq5 hu (by exact z11)
   have q4 : (u.toList == ([100, 114, 121] : List UInt8)) = true := by rw [hu]; decide +kernel
   clear hu
   clear HCI HCC
   exact z311
  ·have q1 := wq4 hu (by exact z11)
   have q2 := wq5 hu (by exact z11)
   have q4 := wq8 hu (by exact z11)
   have q5 : (u.toList == ([114, 97, 107, 101] : List UInt8)) = true := by rw [hu]; decide +kernel
   clear hu
   clear HCI HCC
   exact z311
 case rest =>
 obtain ⟨rfl, hwc⟩ := hcut
 rw [hwc]
 clear hwc wc hk
 go_wp2_with fail
 refine (l28Make_any base A n cp L I H S P D Q z c x y 0 x 0 y HCI.out HCC.out w1 HO.out hb1 hnc hg).mono ?_
 revert HO HX H2 H4 e0 e1 e2 e3 e4 e5 e6 e7
 refine z306 ?_
 intro w2 A1 c1 n1 L1 I1 H1 S1 P1 r HRE HOW HB h4
 go_wp2_with (refine z281 ?_; refine z307 ?_)
 refine z308 ?_
 intro wz hh hgw HHR HBZ
 have HOZ := lh (own_other HOW.out h4 (by decide) hgw)
 clear hh hgw
 go_wp2_with ((refine z66 ?_); refine ret_cell2 Tryz.results86 rfl rfl Tryz.underlying35 HHR.out infoConE rfl ?_; exact z310)
theorem l28Two_no (u : ByteArray) (h1 : u ≠ wd1) (h2 : u ≠ wd2) (h4 : u ≠ wd4) (h5 : u ≠ wd5) (x y : Int) (base : Nat) (A : Option Addr) (n cp : Nat) (L : List Int) (I H S P : Int) (D Q : ByteArray) (z : Int) (w : World) (hO : w.ownsRow base 97 4 (.slice A n cp) n (L.map (Value.int .i64))) (hbase : base ≤ w.heap.size) (hnc : n ≤ cp) (hg : goodWorks (lf L) n I H S P = true) :
  Calls Tryz.prog 86 #[.agg (cB A n cp I H S P D Q z), .string u, .int .i64 x, .int .i64 y] w (rfPost base L n I H S P D Q z 0 x y 0 w) := by
 have HGO : Hid (exGo (lf L) n I H S P 0 x y 0 = false) := rfl
 have HER : Hid (exR (lf L) n I H S P 0 x y 0 = ⟨#[63]⟩) := exR_none rfl
 refine z294 ?_
 intro HLL hn6
 have q1 : (u.toList == ([98, 117, 105, 108, 100] : List UInt8)) = false := by
  rw [show ([98, 117, 105, 108, 100] : List UInt8) = wd1.toList by exact z11, toList_beq]
  exact decide_eq_false h1
 have q2 : (u.toList == ([116, 97, 107, 101] : List UInt8)) = false := by
  rw [show ([116, 97, 107, 101] : List UInt8) = wd2.toList by exact z11, toList_beq]
  exact decide_eq_false h2
 have q4 : (u.toList == ([100, 114, 121] : List UInt8)) = false := by
  rw [show ([100, 114, 121] : List UInt8) = wd4.toList by exact z11, toList_beq]
  exact decide_eq_false h4
 have q5 : (u.toList == ([114, 97, 107, 101] : List UInt8)) = false := by
  rw [show ([114, 97, 107, 101] : List UInt8) = wd5.toList by exact z11, toList_beq]
  exact decide_eq_false h5
 clear h1 h2 h4 h5
 refine z303 ?_
 intro hX h2 h4
 go_enter Tryz.func86, Tryz.ntmps86
 go_upto_region 2 with fail
 revert hO hbase hX h2 h4
 refine z304 ?_
 intro w1 g2 hg2 g4 hg4 HLE hn24 HO HX H2 H4 hb1 e0 e1 e2 e3 e4 e5 e6 e7
 have h4 := H4.out
 go_upto_region 3 with fail
 go_wp2_with (refine z281 ?_; refine z296 ?_)
 intro wz hh hgw
 have HHR := lh hh
 have HBZ := lh (HX.out.grown hgw HX.out.size (fun k hk => by cases hk; exact HLE.out))
 have HOZ := lh (own_other HO.out h4 (by decide) hgw)
 clear hh hgw
 go_wp2_with ((refine z66 ?_); refine ret_cell2 Tryz.results86 rfl rfl Tryz.underlying35 HHR.out infoConE rfl ?_; have hq := rf_no (D := D) (Q := Q) (z := z) (x0 := x) (x1 := y) (x2 := 0) (c := 0) HGO.out HER.out HLL.out hnc HOZ.out HBZ.out; exact hq)
theorem cmd_2 (u : ByteArray) : cmdN u 2 = (if u = wd1 then 1 else if u = wd2 then 2 else if u = wd4 then 4 else if u = wd5 then 5 else 0 : Int) := by simp [cmdN]
theorem l28Two_any (u : ByteArray) (x y : Int) (base : Nat) (A : Option Addr) (n cp : Nat) (L : List Int) (I H S P : Int) (D Q : ByteArray) (z : Int) (w : World) (hO : w.ownsRow base 97 4 (.slice A n cp) n (L.map (Value.int .i64))) (hbase : base ≤ w.heap.size) (hnc : n ≤ cp) (hg : goodWorks (lf L) n I H S P = true) :
  Calls Tryz.prog 86 #[.agg (cB A n cp I H S P D Q z), .string u, .int .i64 x, .int .i64 y] w (rfPost base L n I H S P D Q z (cmdN u 2) x y 0 w) := by
 rw [cmd_2]
 by_cases h1 : u = wd1
 ·rw [if_pos h1]
  exact l28Two_k 1 u (Or.inl ⟨rfl, h1⟩) x y base A n cp L I H S P D Q z w hO hbase hnc hg
 rw [if_neg h1]
 by_cases h2 : u = wd2
 ·rw [if_pos h2]
  exact l28Two_k 2 u (Or.inr (Or.inl ⟨rfl, h2⟩)) x y base A n cp L I H S P D Q z w hO hbase hnc hg
 rw [if_neg h2]
 by_cases h4 : u = wd4
 ·rw [if_pos h4]
  exact l28Two_k 4 u (Or.inr (Or.inr (Or.inl ⟨rfl, h4⟩))) x y base A n cp L I H S P D Q z w hO hbase hnc hg
 rw [if_neg h4]
 by_cases h5 : u = wd5
 ·rw [if_pos h5]
  exact l28Two_k 5 u (Or.inr (Or.inr (Or.inr ⟨rfl, h5⟩))) x y base A n cp L I H S P D Q z w hO hbase hnc hg
 rw [if_neg h5]
 exact l28Two_no u h1 h2 h4 h5 x y base A n cp L I H S P D Q z w hO hbase hnc hg
end Go.Proofs.YtpndjhelpoenpaaGreatDoor
namespace Go.Proofs.YtpndjhelpoenpaaGreatDoor
open Go.RowKit
attribute [local go_sem ↓] Go.wp_at_zero Go.wp_at_succ
theorem l1Num_all (n : Int) (h0 : -999999 ≤ n) (h1 : n ≤ 999999) (w : World) :
  Calls Tryz.prog 66 #[.int .i64 n] w fun e w' => e = .returned (.string (numB n)) ∧ bW w w' := by
 by_cases hn : 0 ≤ n
 ·exact l1Num_any n hn (by omega) w
 obtain ⟨m, hm, rfl⟩ : ∃ m : Nat, 1 ≤ m ∧ n = -(m : Int) := ⟨n.natAbs, by omega, by omega⟩
 have hm1 : (m : Int) ≤ 999999 := by omega
 have hneg : -(m : Int) < 0 := by omega
 have hwr : IntKind.i64.wrap (-(-(m : Int))) = (m : Int) := by rw [IntWalk.i64_in _ (by omega)]; omega
 rw [numB_neg hm]
 have hsz := numB_size (n := (m : Int)) (by omega) (by omega)
 go_enter Tryz.func66, Tryz.ntmps66
 go_wp2_with fail
 refine (l1Num_any (m : Int) (by omega) (by omega) w).mono ?_
 rintro e w1 ⟨rfl, hb1⟩
 go_wp2
 go_ret
 exact ⟨rfl, hb1⟩
theorem l1Read_any (s : ByteArray) (hs : s.size ≤ 4000000) (w : World) :
  Calls Tryz.prog 127 #[.string s] w fun e w' => e = .returned (.tuple #[.int .i64 ((parseV s).getD 0), .bool (parseV s).isSome]) ∧ bW w w' := by
 have hTs := tailT_size s
 obtain ⟨T, hT⟩ : ∃ T, tailT s = T := ⟨_, rfl⟩
 rw [hT] at hTs
 have hT := lh hT
 go_enter Tryz.func127, Tryz.ntmps127
 obtain ⟨B, hB⟩ : ∃ B, decide (1 < s.size ∧ byteAt s 0 = 45) = B := ⟨_, rfl⟩
 go_upto_region 2 with fail
 go_cut [15] from 7 (fun v wx => v = .bool B ∧ wx = w)
 case first =>
  by_cases h1 : 1 < s.size
  ·have h1i : (1 : Int) < (s.size : Int) := by omega
   have hb0 := byteAt_eq s 0 (by omega)
   have hk0 : (0 : Int) < (s.size : Int) := by omega
   have hd : decide (1 < s.size ∧ byteAt s 0 = 45) = decide ((byteAt s 0).toNat = 45) := by
    rw [decide_eq_decide]
    exact ⟨fun h => by rw [h.2]; rfl, fun h => ⟨h1, UInt8.toNat_inj.1 h⟩⟩
   rw [hd] at hB
   clear hd
   generalize byteAt s 0 = c at hb0 hB
   by_cases e : c.toNat = 45
   ·have hcb : ((c.toNat : Int) == 45) = true := by simp; omega
    rw [decide_eq_true e] at hB
    subst hB
    exact z311
   ·have hcb : ((c.toNat : Int) == 45) = false := by simp; omega
    rw [decide_eq_false e] at hB
    subst hB
    exact z311
  ·have h1i : ¬ ((1 : Int) < (s.size : Int)) := by omega
   rw [decide_eq_false (fun h => h1 h.1)] at hB
   subst hB
   exact z311
 case rest =>
 obtain ⟨rfl, hwc⟩ := hcut
 rw [hwc]
 clear hwc wc
 have hTd : T = if B = true then s.extract 1 s.size else s := by
  rw [← hT.out, ← hB]
  unfold tailT
  simp only [decide_eq_true_eq]
 have hle : B = true → 1 ≤ s.size := fun h => by
  rw [h, decide_eq_true_eq] at hB
  omega
 have HTD := lh hTd
 have HLE := lh hle
 clear hB hTd hle
 go_upto_if 15 with fail
 go_cut [4] from 7 (fun v wx => v = .string T ∧ wx = w)
 case first =>
  cases B with
  | true =>
   have h2 := HTD.out
   have h1 := HLE.out rfl
   have h1i : (1 : Int) ≤ (s.size : Int) := by omega
   rw [if_pos rfl] at h2
   exact z312
  | false =>
   have h2 := HTD.out
   rw [if_neg (by simp)] at h2
   exact z312
 case rest =>
  obtain ⟨rfl, hwc⟩ := hcut
  rw [hwc]
  clear hwc wc
  go_wp2_with fail
  refine (l1In_any (T.size : Int) 1 6 w).mono ?_
  by_cases h6 : 1 ≤ T.size ∧ T.size ≤ 6
  rotate_left
  ·have hin : inR (T.size : Int) 1 6 = false := by simp only [inR, decide_eq_false_iff_not]; omega
   have hp := lh (no_num_size (s := s) (by rw [hT.out]; exact h6))
   rw [hin]
   rintro e w1 ⟨rfl, rfl⟩
   exact z313
  have hin : inR (T.size : Int) 1 6 = true := by simp only [inR, decide_eq_true_eq]; omega
  rw [hin]
  rintro e wx ⟨rfl, hwx⟩
  rw [← hwx]
  clear hwx wx
  obtain ⟨h6a, h6b⟩ := h6
  go_wp2_with fail
  go_loopw [5, 6] (fun nv iv wr => ∃ k m : Nat, k ≤ T.size ∧ nv = .int .i64 m ∧ iv = .int .i64 k ∧ Hid (Lib.decFrom 0 (T.data.toList.take k) = some m) ∧ wr = w) (fun _ iv _ => T.size - (intOf iv).toNat)
  case atStart => exact ⟨0, 0, Nat.zero_le _, rfl, rfl, by show _ = _; rfl, rfl⟩
  case round =>
   obtain ⟨k, m, hk, rfl, rfl, hdm, hwr⟩ := hrel
   rw [hwr]
   clear hwr wr
   have hm6 := dec_le6 hdm.out (by omega)
   by_cases hlt : k < T.size
   ·have hk0 : (0 : Int) ≤ (k : Int) ∧ (k : Int) < (T.size : Int) := by omega
    obtain ⟨hk0, hk1⟩ := hk0
    have hbk := byteAt_eq T k hlt
    have hnb := lh (fun h => no_num_byte (s := s) (k := k) (by rw [hT.out]; exact hlt) (by rw [hT.out]; exact h) : (byteAt T k).toNat < 48 ∨ 57 < (byteAt T k).toNat → parseV s = none)
    have hnx := lh (fun h0 h1 => dec_next (s := T) hdm.out hlt h0 h1 : 48 ≤ (byteAt T k).toNat → (byteAt T k).toNat ≤ 57 → _)
    generalize byteAt T k = c at hbk hnb hnx
    by_cases c0 : c.toNat < 48
    ·have q0 : ((c.toNat : Int) < 48) := by omega
     have hp := lh (hnb.out (Or.inl c0))
     exact z313
    have q0 : ¬ ((c.toNat : Int) < 48) := by omega
    by_cases c1 : 57 < c.toNat
    ·have q1 : ((57 : Int) < (c.toNat : Int)) := by omega
     have hp := lh (hnb.out (Or.inr c1))
     exact z313
    have q1 : ¬ ((57 : Int) < (c.toNat : Int)) := by omega
    have hn2 := lh (hnx.out (by omega) (by omega))
    clear hnx hnb
    have w1 : IntKind.i64.wrap (10 * (m : Int)) = 10 * (m : Int) := IntWalk.i64_in _ (by omega)
    have w2 : IntKind.u8.wrap ((c.toNat : Int) - 48) = ((c.toNat - 48 : Nat) : Int) := by rw [show ((c.toNat : Int) - 48) = ((c.toNat - 48 : Nat) : Int) by omega]; exact IntWalk.u8_in _ (by omega)
    have w3 : IntKind.i64.wrap ((c.toNat - 48 : Nat) : Int) = ((c.toNat - 48 : Nat) : Int) := IntWalk.i64_in _ (by omega)
    have w4 : IntKind.i64.wrap (10 * (m : Int) + ((c.toNat - 48 : Nat) : Int)) = ((m * 10 + (c.toNat - 48) : Nat) : Int) := by rw [IntWalk.i64_in _ (by omega)]; omega
    go_wp2_with fail
    go_roundw
    case rel => exact ⟨k + 1, m * 10 + (c.toNat - 48), by omega, by go_num, by go_num, hn2, by first | trivial | rfl⟩
    case measure => simp [intOf]; omega
   ·obtain rfl : k = T.size := by omega
    have hki : ¬ ((T.size : Int) < (T.size : Int)) := by omega
    have hm : Lib.decFrom 0 (tailT s).data.toList = some m := by
     have h := hdm.out
     rw [List.take_of_length_le (by rw [size_list]; omega)] at h
     rw [hT.out]
     exact h
    have hTs : (tailT s).size = T.size := by rw [hT.out]
    by_cases hng : T.size < s.size
    ·have hngi : (T.size : Int) < (s.size : Int) := by omega
     obtain ⟨n, hn⟩ : ∃ n : Int, n = -(m : Int) := ⟨_, rfl⟩
     have hb0 : -999999 ≤ n ∧ n ≤ 999999 := by omega
     have hnn : n = if (tailT s).size < s.size then -(m : Int) else (m : Int) := by rw [hTs, if_pos hng]; exact hn
     subst hn
     have HNUM : Hid (parseV s = if numB (-(m : Int)) = s then some (-(m : Int)) else none) := num_loop hm hnn hm6
     clear hm hnn
     go_wp2_with fail
     refine (l1Num_all (-(m : Int)) hb0.1 hb0.2 w).mono ?_
     rintro e w1 ⟨rfl, hb1⟩
     by_cases hE : numB (-(m : Int)) = s
     ·have hp : Hid (parseV s = some (-(m : Int))) := by show _ = _; rw [HNUM.out, if_pos hE]
      have hTB : ((numB (-(m : Int))).toList == s.toList) = true := by rw [toList_beq, hE]; simp
      exact z314
     ·have hp : Hid (parseV s = none) := by show _ = _; rw [HNUM.out, if_neg hE]
      have hTB : ((numB (-(m : Int))).toList == s.toList) = false := by rw [toList_beq]; simp [hE]
      exact z314
    ·have hngi : ¬ ((T.size : Int) < (s.size : Int)) := by omega
     obtain ⟨n, hn⟩ : ∃ n : Int, n = (m : Int) := ⟨_, rfl⟩
     have hb0 : -999999 ≤ n ∧ n ≤ 999999 := by omega
     have hnn : n = if (tailT s).size < s.size then -(m : Int) else (m : Int) := by rw [hTs, if_neg hng]; exact hn
     subst hn
     have HNUM : Hid (parseV s = if numB (m : Int) = s then some (m : Int) else none) := num_loop hm hnn hm6
     clear hm hnn
     go_wp2_with fail
     refine (l1Num_all (m : Int) hb0.1 hb0.2 w).mono ?_
     rintro e w1 ⟨rfl, hb1⟩
     by_cases hE : numB (m : Int) = s
     ·have hp : Hid (parseV s = some (m : Int)) := by show _ = _; rw [HNUM.out, if_pos hE]
      have hTB : ((numB (m : Int)).toList == s.toList) = true := by rw [toList_beq, hE]; simp
      exact z314
     ·have hp : Hid (parseV s = none) := by show _ = _; rw [HNUM.out, if_neg hE]
      have hTB : ((numB (m : Int)).toList == s.toList) = false := by rw [toList_beq]; simp [hE]
      exact z314
theorem sParseInt_any (s : ByteArray) (hs : s.size ≤ 4000000) (w : World) :
  Calls Tryz.prog 83 #[.string s] w fun e w' => e = .returned (.tuple #[.int .i64 ((parseV s).getD 0), .bool (parseV s).isSome]) ∧ bW w w' := by
 go_enter Tryz.func83, Tryz.ntmps83
 go_wp2_with fail
 refine (l1Read_any s hs w).mono ?_
 rintro e w1 ⟨rfl, hb⟩
 go_wp2
 go_ret2
 exact ⟨rfl, hb⟩
end Go.Proofs.YtpndjhelpoenpaaGreatDoor
