/-
  Texts of this claim, merged.
-/
import Derived.Test.YtpndjhelpoenpaaGreatDoorXA26
set_option linter.unusedVariables false
set_option linter.unusedSimpArgs false
set_option maxRecDepth 100000
set_option maxHeartbeats 8000000
namespace Go.Proofs.YtpndjhelpoenpaaGreatDoor
open Go.RowKit
attribute [local go_sem ↓] Go.wp_at_zero Go.wp_at_succ
noncomputable def cR (s : ByteArray) : Int := if allTo (okN (wsV s)) (mV s) then cV s else 0
theorem cmd_3 (u : ByteArray) : cmdN u 3 = (if u = wd3 then 3 else 0 : Int) := by simp [cmdN]
theorem cmd_0 (u : ByteArray) : cmdN u 0 = (if u = wd8 then 8 else if u = wd9 then 9 else if u = wd10 then 10 else if u = wd11 then 11 else if u = wd12 then 12 else 0 : Int) := by simp [cmdN]
theorem cmd_big {u : ByteArray} {m : Nat} (h : 4 ≤ m) : cmdN u m = 0 := by
 have h0 : m ≠ 0 := by omega
 have h1 : m ≠ 1 := by omega
 have h2 : m ≠ 2 := by omega
 have h3 : m ≠ 3 := by omega
 simp [cmdN, h0, h1, h2, h3]
theorem cmd0_go (u : ByteArray) {f : Nat → Int} {n : Nat} {I H S P : Int} : exGo f n I H S P (cmdN u 0) 0 0 0 = false := by
 rw [cmd_0]
 repeat' split
 all_goals rfl
theorem l28Word_any (u : ByteArray) (A : Option Addr) (n c lo hi : Nat) (L : List Int) (I H S P : Int) (w : World) (hs : Sl w lo hi 4 A n (lf L)) (hn : n ≤ 1048576) (hnc : n ≤ c) (hgd : goodWorks (lf L) n I H S P = true) (hLL : cellsL (lf L) n = L) :
  Calls Tryz.prog 84 #[.agg (wB A n c I H S P), .string u] w fun e w' => e = .returned (.string (exR (lf L) n I H S P (cmdN u 0) 0 0 0)) ∧ bW w w' := by
 have hk := good_kilos hgd
 have hI : 0 ≤ I ∧ I ≤ 9223372036854775807 := ⟨hk.1.1, Int.le_trans hk.1.2 (by decide)⟩
 have hH : 0 ≤ H ∧ H ≤ 9223372036854775807 := ⟨hk.2.1.1, Int.le_trans hk.2.1.2 (by decide)⟩
 rw [cmd_0]
 by_cases h8 : u = wd8
 ·rw [if_pos h8, exR_ask (by decide) rfl hLL rfl]
  exact l28Word_8 u h8 A n c lo hi (lf L) I H S P w hs hn hnc hgd hI hH
 rw [if_neg h8]
 by_cases h9 : u = wd9
 ·rw [if_pos h9, exR_ask (by decide) rfl hLL rfl]
  exact l28Word_9 u h9 A n c lo hi (lf L) I H S P w hs hn hnc hgd hI hH
 rw [if_neg h9]
 by_cases h10 : u = wd10
 ·rw [if_pos h10, exR_ask (by decide) rfl hLL rfl]
  exact l28Word_10 u h10 A n c lo hi (lf L) I H S P w hs hn hnc hgd hI hH
 rw [if_neg h10]
 by_cases h11 : u = wd11
 ·rw [if_pos h11, exR_ask (by decide) rfl hLL rfl]
  exact l28Word_11 u h11 A n c lo hi (lf L) I H S P w hs hn hnc hgd hI hH
 rw [if_neg h11]
 by_cases h12 : u = wd12
 ·rw [if_pos h12, exR_ask (by decide) rfl hLL rfl]
  exact l28Word_12 u h12 A n c lo hi (lf L) I H S P w hs hn hnc hgd hI hH
 rw [if_neg h12]
 rw [exR_none rfl]
 exact l28Word_no u h8 h9 h10 h11 h12 A n c lo hi (lf L) I H S P w hs hn hnc hgd
theorem l28Run_any (s : ByteArray) (hss : s.size ≤ 1048576) (base : Nat) (A : Option Addr) (n cp : Nat) (L : List Int) (I H S P : Int) (D Q : ByteArray) (z : Int) (w : World) (hO : w.ownsRow base 97 4 (.slice A n cp) n (L.map (Value.int .i64))) (hbase : base ≤ w.heap.size) (hnc : n ≤ cp) (hg : goodWorks (lf L) n I H S P = true) :
  Calls Tryz.prog 44 #[.agg (cB A n cp I H S P D Q z), .string s] w (rfPost base L n I H S P D Q z (cR s) (xV s 0) (xV s 1) (xV s 2) w) := by
 refine z294 ?_
 intro HLL hn6
 obtain ⟨ws, hws0⟩ : ∃ q, wsV s = q := ⟨_, rfl⟩
 obtain ⟨m, hm0⟩ : ∃ q, mV s = q := ⟨_, rfl⟩
 obtain ⟨cc, hcc⟩ : ∃ q, cR s = q := ⟨_, rfl⟩
 obtain ⟨x0, hx0⟩ : ∃ q, xV s 0 = q := ⟨_, rfl⟩
 obtain ⟨x1, hx1⟩ : ∃ q, xV s 1 = q := ⟨_, rfl⟩
 obtain ⟨x2, hx2⟩ : ∃ q, xV s 2 = q := ⟨_, rfl⟩
 rw [hcc, hx0, hx1, hx2]
 have hml : (wordsV 32 s).length = m + 1 := by rw [← hm0]; exact ws_len s
 have hm4 : m ≤ 4000000 := by have := wordsV_le 32 s; omega
 have hsz : ∀ j, (ws j).size ≤ 4000000 := fun j => by rw [← hws0]; exact Nat.le_trans (wsV_size s j) (by omega)
 have HALLN : Hid (allTo (okN ws) m = false → cc = 0) := fun h => by rw [← hcc, cR, hws0, hm0, h]; rfl
 have HALLY : Hid (allTo (okN ws) m = true → cc = cmdN (ws 0) m) := fun h => by rw [← hcc, cR, cV, hws0, hm0, h]; rfl
 have HX0 : Hid (x0 = (numL ws m).getD 0 0) := by show _ = _; rw [← hx0, xV, hws0, hm0]
 have HX1 : Hid (x1 = (numL ws m).getD 1 0) := by show _ = _; rw [← hx1, xV, hws0, hm0]
 have HX2_ : Hid (x2 = (numL ws m).getD 2 0) := by show _ = _; rw [← hx2, xV, hws0, hm0]
 have HSW : Hid (m = 0 → s = ws 0) := fun h => by
  rw [← hws0, wsV, wordsV_none (by omega)]
  rfl
 have HW56 : Hid (∀ W : World, Calls Tryz.prog 56 #[.string s, .int .u8 32] W fun e w' => ∃ B d, e = .returned (.slice B (m + 1) d) ∧ m + 1 ≤ d ∧ SlT w' W.heap.size w'.heap.size 1 B (m + 1) ws ∧ bW W w') := fun W => by
  refine (l1Words_any s 32 (by omega) W).mono ?_
  rintro e w' ⟨B, d, rfl, hd, hw, hb⟩
  rw [hml] at hd hw
  rw [hml]
  rw [← hws0]
  exact ⟨B, d, rfl, hd, hw, hb⟩
 clear hcc hx0 hx1 hx2 hws0 hm0 hml
 refine z303 ?_
 intro hX h2 h4
 go_enter Tryz.func44, Tryz.ntmps44
 go_upto_region 1 with fail
 revert hX h2 h4
 refine z305 ?_
 intro w1 hX g2 h2 hg2 g4 h4 hg4
 have HLE := lh (show w.heap.size ≤ g4 by omega)
 have hn24 : g2 ≠ g4 := by omega
 have HO0 := lh (ownsRow_below hO hX)
 have HX := lh hX
 have H20 := lh h2
 have H40 := lh h4
 have hb1 := Nat.le_trans hbase hX.size
 have l4 := (gL h4)
 clear hO hX h2 h4 hbase
 go_wp2_with fail
 refine (HW56.out w1).mono ?_
 rintro e w2 ⟨Bw, d, rfl, hmd, hsw, hb⟩
 have HO := lh (ownsRow_below HO0.out hb)
 have H2 := lh (rowC H20.out hb)
 have H4 := lh (rowC H40.out hb)
 have HX2 := lh (HX.out.trans (hb.mono HX.out.size))
 have hb2 : base ≤ w2.heap.size := Nat.le_trans hb1 hb.size
 clear HO0 H20 H40 HX HW56 hb hb1
 obtain ⟨bw, ow, eB, hlo, hbw, hcw⟩ := hsw.here (by omega)
 have hwg : bw ≠ g4 := by omega
 have hbw := Nat.lt_of_lt_of_le hbw hsw.hi_le
 subst eB
 have HC := lh hcw
 clear hcw hsw hlo l4
 go_wp2_with fail
 go_loopw [7, 8] (fun v kv wr => ∃ j : Nat, j ≤ m ∧ kv = .int .i64 ((j + 1 : Nat) : Int) ∧ wr.ownsRow w2.heap.size 3 1 v j ((numL ws j).map (Value.int .i64)) ∧ Hid (allTo (okN ws) j = true) ∧ bW w2 wr) (fun _ kv _ => m + 1 - (intOf kv).toNat)
 case atStart => exact ⟨0, Nat.zero_le _, rfl, World.ownsRow_made w2 #[] 0 nL (by unfold maxLen; omega) rfl, by show _ = _; rfl, (Below.refl _ w2).alloc nL _⟩
 case round =>
  obtain ⟨j, hj, rfl, hv, hok, hB⟩ := hrel
  have HV := lh hv
  clear hv
  have hjl : (numL ws j).length = j := numL_len ws j
  by_cases hlt : j < m
  ·have hki : ((j + 1 : Nat) : Int) < ((m + 1 : Nat) : Int) := by omega
   have hk0 : (0 : Int) ≤ ((j + 1 : Nat) : Int) := by omega
   have d0 : cE wr bw (ow + (j + 1)) (.string (ws (j + 1))) := (hB.cell (p := ⟨bw, ow + (j + 1), none⟩) hbw).trans (HC.out (j + 1) (by omega))
   have HPI := sParseInt_any (ws (j + 1)) (hsz _) wr
   cases hp : parseV (ws (j + 1)) with
   | none =>
    rw [hp] at HPI
    have HPP := lh HPI
    have HC0 : Hid (cc = 0) := HALLN.out (allTo_false (p := okN ws) hlt (by simp [okN, hp]))
    refine z315 ?_
    intro HGO HER
    clear HC0
    have HB := lh hB
    clear hp HPI hB
    go_wp2_with fail
    refine HPP.out.mono ?_
    rintro e w3 ⟨rfl, hb⟩
    have hB := HB.out.trans (hb.mono HB.out.size)
    clear hb d0 HB HPP
    have h2 := rowC H2.out hB
    have h4 := rowC H4.out hB
    obtain ⟨e0, e1, e2, e3, e4, e5, e6, e7⟩ := cells8 h2
    have hBW := HX2.out.trans (hB.mono HX2.out.size)
    have hOW := ownsRow_below HO.out hB
    have HBW := lh hBW
    have HOW := lh hOW
    clear h2 hB hBW hOW
    go_upto_region 8 with fail
    go_wp2_with (refine z281 ?_; refine z296 ?_)
    refine z316 ?_
    intro wz HHR HBZ HOZ
    go_wp2_with ((refine z66 ?_); refine z317 ?_; have hq := rf_no (D := D) (Q := Q) (z := z) (x0 := x0) (x1 := x1) (x2 := x2) (c := cc) HGO.out HER.out HLL.out hnc HOZ.out HBZ.out; exact hq)
   | some v =>
    rw [hp] at HPI
    have HPP := lh HPI
    have HNX := lh (numL_next (ws := ws) (j := j) hp)
    have HOK := lh (allTo_succ (p := okN ws) hok.out (by simp [okN, hp]))
    have HB := lh hB
    clear hp HPI hB
    go_wp2_with fail
    refine HPP.out.mono ?_
    rintro e w3 ⟨rfl, hb⟩
    have HB2 := lh (HB.out.trans (hb.mono HB.out.size))
    have HV2 := lh (ownsRow_below HV.out hb)
    clear hb d0 HB HPP HV
    go_wp2_with (at_builtin; refine wpList_append_int1 _ rfl _ _ 101 rfl w2.heap.size 3 Tryz.underlying101 infoIntP (numL ws j) v _ rfl (by rw [hjl]; exact HV2.out.alloc _) _ rfl (by simp) (by omega) (by have := HB2.out.size; simp; omega) ?_; intro v' w4 hown3 _ hgrow3)
    have hB3 := below_app (HB2.out.alloc HB2.out.size _) (HV2.out.alloc _) hgrow3
    have hO3 : w4.ownsRow w2.heap.size 3 1 v' (j + 1) ((numL ws (j + 1)).map (Value.int .i64)) := by
     rw [HNX.out]
     have h := hown3
     rw [List.length_append, hjl] at h
     exact h
    exact z285
  ·obtain rfl : j = m := by omega
   have hki : ¬ (((j + 1 : Nat) : Int) < ((j + 1 : Nat) : Int)) := by omega
   have hall := hok.out
   clear hok
   have HCC := lh (HALLY.out hall)
   clear HALLN HALLY hall
   have HBw := lh hB
   have HXw := lh (HX2.out.trans (hB.mono HX2.out.size))
   have H2w := lh (rowC H2.out hB)
   have H4w := lh (rowC H4.out hB)
   have HOw := lh (ownsRow_below HO.out hB)
   have hbw2 := Nat.lt_of_lt_of_le hbw hB.size
   have hbr : base ≤ wr.heap.size := Nat.le_trans hb2 hB.size
   have D0 := lh ((hB.cell (p := ⟨bw, ow, none⟩) hbw).trans (HC.out 0 (by omega)))
   obtain ⟨An, dn, eV, hjd, _, hon⟩ := own_of_row (zs := numL ws j) HV.out
   subst eV
   have HON := lh hon
   clear hon HV hB HC H2 H4 HO HX2
   by_cases hj0 : j = 0
   ·as_aux_lemma =>
     subst hj0
     have HCC0 := HCC.out
     have hs0 := HSW.out rfl
     have hx0 : x0 = 0 := HX0.out
     have hx1 : x1 = 0 := HX1.out
     have hx2 : x2 = 0 := HX2_.out
     subst hx0 hx1 hx2
     obtain ⟨r, hr⟩ : ∃ r, exR (lf L) n I H S P cc 0 0 0 = r := ⟨_, rfl⟩
     have HGO : Hid (exGo (lf L) n I H S P cc 0 0 0 = false) := by show _ = _; rw [HCC0]; exact cmd0_go (ws 0)
     have HCW : Hid (∀ W, bW wr W → Calls Tryz.prog 84 #[.agg (wB A n cp I H S P), .string s] W fun e w' => e = .returned (.string r) ∧ bW W w') := fun W hb => by
      have h := l28Word_any (ws 0) A n cp _ _ L I H S P W (own_sl (ownsRow_below HOw.out hb)) (by omega) hnc hg HLL.out
      rw [← HCC0, hr, ← hs0] at h
      exact h
     have HER := lh hr
     clear hr HCC0 hs0 HX0 HX1 HX2_ HSW HCC
     go_upto_region 12 with fail
     have HF : Hid (∀ w', wr.grownBy w' (some g4) → _) := fun w' hq => And.intro (cells8 (rowGr H2w.out hq hn24)) (cellGr D0.out hq hwg)
     refine z319 ?_
     intro v0 hbd jd
     refine tj4 0 39 1 40 3 42 2 41 HF jd ?_
     refine z113 ?_
     refine z73 ?_
     intro K hK
     refine (HCW.out v0 hbd).mono ?_
     rintro e v1 ⟨rfl, hbn⟩
     have hOv := ownsRow_below (ownsRow_below HOw.out hbd) hbn
     revert K hK
     refine z320 ?_
     intro hr4 hBv jd
     refine wS0 5 g4 (cB A n cp I H S P D Q z) 35 infoConE (hr4) (fun w' hg' => grow_trans jd hg') ?ks
     case ks =>
      revert jd
      refine z241 ?_
      intro v3 hh hgw jd
      refine tj 6 5 HF rfl jd ?_
      refine z49 ?_
      refine z301 ?_
      intro HHR HBZ HOZ
      clear hh hgw hr4 hOv hBv jd hbd hbn HF
      go_wp2_with ((refine z66 ?_); refine z317 ?_; have hq := rf_no (D := D) (Q := Q) (z := z) (x0 := 0) (x1 := 0) (x2 := 0) (c := cc) HGO.out HER.out HLL.out hnc HOZ.out HBZ.out; exact hq)
   by_cases hj1 : j = 1
   ·as_aux_lemma =>
     subst hj1
     have hx1 : x1 = 0 := HX1.out
     have hx2 : x2 = 0 := HX2_.out
     have hcq := HCC.out
     subst hx1 hx2 hcq
     obtain ⟨bn, on_, eN, _, hbn0, hcn⟩ := HON.out.sl.here (by omega)
     have hbn1 := Nat.lt_of_lt_of_le hbn0 HON.out.hi_le
     subst eN
     have N0 : Hid (cI wr bn on_ x0) := by
      have h := hcn 0 (by omega)
      rw [HX0.out]
      exact h
     have hng : bn ≠ g4 := fun h => by
      exact z321
     clear hcn hbn0 hbn1 HON
     clear HX0 HX1 HX2_ HSW HCC
     go_upto_region 14 with fail
     have HF : Hid (∀ w', wr.grownBy w' (some g4) → _) := fun w' hq => And.intro (cells8 (rowGr H2w.out hq hn24)) (And.intro (cellGr D0.out hq hwg) (cellGr N0.out hq hng))
     refine z319 ?_
     intro v0 hbd jd
     refine tj4 0 46 1 47 4 50 2 48 HF jd ?_
     refine tj3 5 51 3 49 6 52 HF jd ?_
     refine wpAnyH_ready (rs := [7]) (by exact z12) (by simp) ?_
     refine z73 ?_
     intro K hK
     refine (l28One_any (ws 0) x0 base A n cp L I H S P D Q z v0 (ownsRow_below HOw.out hbd) (Nat.le_trans hbr hbd.size) hnc hg).mono ?_
     rintro e v1 hp
     obtain ⟨A1, c1, n1, L1, I1, H1, S1, P1, r, rfl, hOv, hbn, hre⟩ := rf_open hp
     have HRE := lh hre
     clear hp hre
     revert K hK
     refine z320 ?_
     intro hr4 hBv jd
     refine tj2 8 54 9 55 HF jd ?_
     refine wS0 10 g4 (cB A1 n1 c1 I1 H1 S1 P1 D Q z) 35 infoConE (hr4) (fun w' hg' => grow_trans jd hg') ?ks
     case ks =>
      revert jd
      refine z241 ?_
      intro v3 hh hgw jd
      refine tj 11 5 HF rfl jd ?_
      refine z49 ?_
      refine z301 ?_
      intro HHR HBZ HOZ
      clear hh hgw hr4 hOv hBv jd hbd hbn HF
      go_wp2_with ((refine z66 ?_); refine z317 ?_; exact z310)
   by_cases hj2 : j = 2
   ·as_aux_lemma =>
     subst hj2
     have hx2 : x2 = 0 := HX2_.out
     have hcq := HCC.out
     subst hx2 hcq
     obtain ⟨bn, on_, eN, _, hbn0, hcn⟩ := HON.out.sl.here (by omega)
     revert An HON eN
     refine z322 ?_
     intro hbn1 HON N0 N1
     have hng : bn ≠ g4 := fun h => by
      exact z321
     clear hcn hbn0 hbn1 HON
     clear HX0 HX1 HX2_ HSW HCC
     go_upto_region 16 with fail
     have HF : Hid (∀ w', wr.grownBy w' (some g4) → _) := fun w' hq => And.intro (cells8 (rowGr H2w.out hq hn24)) (And.intro (cellGr D0.out hq hwg) (And.intro (cellGr N0.out hq hng) (cellGr N1.out hq hng)))
     refine z319 ?_
     intro v0 hbd jd
     refine tj4 0 58 1 59 4 62 7 65 HF jd ?_
     refine tj4 2 60 5 63 8 66 3 61 HF jd ?_
     refine tj2 6 64 9 67 HF jd ?_
     refine wpAnyH_ready (rs := [10]) (by exact z12) (by simp) ?_
     refine z73 ?_
     intro K hK
     refine (l28Two_any (ws 0) x0 x1 base A n cp L I H S P D Q z v0 (ownsRow_below HOw.out hbd) (Nat.le_trans hbr hbd.size) hnc hg).mono ?_
     rintro e v1 hp
     obtain ⟨A1, c1, n1, L1, I1, H1, S1, P1, r, rfl, hOv, hbn, hre⟩ := rf_open hp
     have HRE := lh hre
     clear hp hre
     revert K hK
     refine z320 ?_
     intro hr4 hBv jd
     refine tj2 11 69 12 70 HF jd ?_
     refine wS0 13 g4 (cB A1 n1 c1 I1 H1 S1 P1 D Q z) 35 infoConE (hr4) (fun w' hg' => grow_trans jd hg') ?ks
     case ks =>
      revert jd
      refine z241 ?_
      intro v3 hh hgw jd
      refine tj 14 5 HF rfl jd ?_
      refine z49 ?_
      refine z301 ?_
      intro HHR HBZ HOZ
      clear hh hgw hr4 hOv hBv jd hbd hbn HF
      go_wp2_with ((refine z66 ?_); refine z317 ?_; exact z310)
   by_cases hj3 : j = 3
   ·as_aux_lemma =>
     subst hj3
     by_cases hw3 : ws 0 = wd3
     ·have hcq := HCC.out
      rw [hw3, cmd_3, if_pos rfl] at hcq
      subst hcq
      have q3 : ((ws 0).toList == ([108, 101, 97, 100] : List UInt8)) = true := by rw [hw3]; decide +kernel
      clear hw3
      obtain ⟨bn, on_, eN, _, hbn0, hcn⟩ := HON.out.sl.here (by omega)
      revert An HON eN
      refine z322 ?_
      intro hbn1 HON N0 N1
      have N2 : Hid (cI wr bn (on_ + 2) x2) := by
       have h := hcn 2 (by omega)
       rw [HX2_.out]
       exact h
      have hng : bn ≠ g4 := fun h => by
       exact z321
      clear hcn hbn0 hbn1 HON
      have d0 := D0.out
      clear HX0 HX1 HX2_ HSW HCC
      go_upto_region 18 with fail
      go_upto_region 19 with fail
      clear d0 q3
      have HF : Hid (∀ w', wr.grownBy w' (some g4) → _) := fun w' hq => And.intro (cells8 (rowGr H2w.out hq hn24)) (And.intro (cellGr D0.out hq hwg) (And.intro (cellGr N0.out hq hng) (And.intro (cellGr N1.out hq hng) (cellGr N2.out hq hng))))
      refine z319 ?_
      intro v0 hbd jd
      refine tj4 0 77 1 78 4 81 7 84 HF jd ?_
      refine tj4 2 79 5 82 8 85 3 80 HF jd ?_
      refine tj3 6 83 9 86 10 87 HF jd ?_
      refine wpAnyH_ready (rs := [11]) (by exact z12) (by simp) ?_
      refine z73 ?_
      intro K hK
      refine (l28Make_any base A n cp L I H S P D Q z 3 x0 x1 x2 x0 x1 x2 ⟨by simp [exId], by simp [exTo], by simp [exZ]⟩ rfl v0 (ownsRow_below HOw.out hbd) (Nat.le_trans hbr hbd.size) hnc hg).mono ?_
      rintro e v1 hp
      obtain ⟨A1, c1, n1, L1, I1, H1, S1, P1, r, rfl, hOv, hbn, hre⟩ := rf_open hp
      have HRE := lh hre
      clear hp hre
      revert K hK
      refine z320 ?_
      intro hr4 hBv jd
      refine tj2 12 89 13 90 HF jd ?_
      refine wS0 14 g4 (cB A1 n1 c1 I1 H1 S1 P1 D Q z) 35 infoConE (hr4) (fun w' hg' => grow_trans jd hg') ?ks
      case ks =>
       revert jd
       refine z241 ?_
       intro v3 hh hgw jd
       refine tj 15 5 HF rfl jd ?_
       refine z49 ?_
       refine z301 ?_
       intro HHR HBZ HOZ
       clear hh hgw hr4 hOv hBv jd hbd hbn HF
       go_wp2_with ((refine z66 ?_); refine z317 ?_; exact z310)
     ·have HC0 : Hid (cc = 0) := by show _ = _; rw [HCC.out, cmd_3, if_neg hw3]
      refine z315 ?_
      intro HGO HER
      clear HC0
      have q3 : ((ws 0).toList == ([108, 101, 97, 100] : List UInt8)) = false := by
       rw [show ([108, 101, 97, 100] : List UInt8) = wd3.toList by exact z11, toList_beq]
       exact decide_eq_false hw3
      have d0 := D0.out
      clear hw3 HX0 HX1 HX2_ HSW HCC
      refine z323 ?_
      intro h4 e0 e1 e2 e3 e4 e5 e6 e7 HBW HOW
      go_upto_region 20 with fail
      go_wp2_with (refine z281 ?_; refine z296 ?_)
      refine z316 ?_
      intro wz HHR HBZ HOZ
      go_wp2_with ((refine z66 ?_); refine z317 ?_; have hq := rf_no (D := D) (Q := Q) (z := z) (x0 := x0) (x1 := x1) (x2 := x2) (c := cc) HGO.out HER.out HLL.out hnc HOZ.out HBZ.out; exact hq)
   have HC0 : Hid (cc = 0) := by show _ = _; rw [HCC.out]; exact cmd_big (by omega)
   refine z315 ?_
   intro HGO HER
   clear HC0
   have k0 : ((j : Int) == 0) = false := by simp; omega
   have k1 : ((j : Int) == 1) = false := by simp; omega
   have k2 : ((j : Int) == 2) = false := by simp; omega
   have k3 : ((j : Int) == 3) = false := by simp; omega
   clear HX0 HX1 HX2_ HSW HCC hj0 hj1 hj2 hj3
   refine z323 ?_
   intro h4 e0 e1 e2 e3 e4 e5 e6 e7 HBW HOW
   go_upto_region 20 with fail
   go_wp2_with (refine z281 ?_; refine z296 ?_)
   refine z316 ?_
   intro wz HHR HBZ HOZ
   go_wp2_with ((refine z66 ?_); refine z317 ?_; have hq := rf_no (D := D) (Q := Q) (z := z) (x0 := x0) (x1 := x1) (x2 := x2) (c := cc) HGO.out HER.out HLL.out hnc HOZ.out HBZ.out; exact hq)
end Go.Proofs.YtpndjhelpoenpaaGreatDoor
namespace Go.Proofs.YtpndjhelpoenpaaGreatDoor
open Go.RowKit
theorem IsValidConsole_any (A : Option Addr) (n c lo hi : Nat) (f : Nat → Int) (I H S P : Int) (D Q : ByteArray) (z : Int) (w : World) (hs : Sl w lo hi 4 A n f) (hn : n ≤ 1048576) (hnc : n ≤ c) (hD : D.size ≤ 1048576) (hQ : Q.size ≤ 1048576) (ht : Tab w) (hm : Mx w) :
  Calls Tryz.prog 37 #[.agg (cB A n c I H S P D Q z)] w fun e w' => e = .returned (.bool (goodWorks f n I H S P && logOk D Q z)) ∧ bW w w' := by
 obtain ⟨hX, h0⟩ := bl1 w (.cells (cB A n c I H S P D Q z) 35)
 have hS := hs.below hX
 clear hs
 go_enter Tryz.func37, Tryz.ntmps37
 go_upto_region 1 with fail
 refine z161 ?_
 intro w1 hw1
 rw [← hw1] at hX h0 hS
 clear hw1
 obtain ⟨e0, e1, e2, e3, e4, e5, e6, e7⟩ := cells8 h0
 go_wp2_with fail
 refine (isWorks_any A n c lo hi f I H S P w1 hS hn hnc).mono ?_
 rintro e w2 ⟨rfl, hb⟩
 have h0 := rowC h0 hb
 have hX := below_of hX hb hX.size
 clear hb e0 e1 e2 e3 e4 e5 e6 e7
 obtain ⟨e0, e1, e2, e3, e4, e5, e6, e7⟩ := cells8 h0
 have HX := lh hX
 cases hg : goodWorks f n I H S P with
 | false =>
  clear h0 hX
  go_wp2
  go_ret
  exact ⟨ret_bool (by simp [hg]), HX.out⟩
 | true =>
  have HL := lh (IsValidLog_any D Q z hD hQ w2 (ht.below hX) (hm.below hX))
  exact z324
theorem l28Good_any (A : Option Addr) (n c lo hi : Nat) (f : Nat → Int) (I H S P : Int) (D Q : ByteArray) (z : Int) (w : World) (hs : Sl w lo hi 4 A n f) (hn : n ≤ 1048576) (hnc : n ≤ c) (hD : D.size ≤ 1048576) (hQ : Q.size ≤ 1048576) :
  Calls Tryz.prog 42 #[.agg (cB A n c I H S P D Q z)] w fun e w' => e = .returned (.bool (goodWorks f n I H S P && logOk D Q z)) ∧ bW w w' := by
 obtain ⟨hX, h0⟩ := bl1 w (.cells (cB A n c I H S P D Q z) 35)
 have hS := hs.below hX
 clear hs
 go_enter Tryz.func42, Tryz.ntmps42
 go_upto_region 1 with fail
 refine z161 ?_
 intro w1 hw1
 rw [← hw1] at hX h0 hS
 clear hw1
 obtain ⟨e0, e1, e2, e3, e4, e5, e6, e7⟩ := cells8 h0
 go_wp2_with fail
 refine (l25Good_any A n c lo hi f I H S P w1 hS hn hnc).mono ?_
 rintro e w2 ⟨rfl, hb⟩
 have h0 := rowC h0 hb
 have hX := below_of hX hb hX.size
 clear hb e0 e1 e2 e3 e4 e5 e6 e7
 obtain ⟨e0, e1, e2, e3, e4, e5, e6, e7⟩ := cells8 h0
 have HX := lh hX
 cases hg : goodWorks f n I H S P with
 | false =>
  clear h0 hX
  go_wp2
  go_ret
  exact ⟨ret_bool (by simp [hg]), HX.out⟩
 | true =>
  have HL := lh (l27Log_any D Q z hD hQ w2)
  exact z324
theorem sIsValidConsole_any (A : Option Addr) (n c lo hi : Nat) (f : Nat → Int) (I H S P : Int) (D Q : ByteArray) (z : Int) (w : World) (hs : Sl w lo hi 4 A n f) (hn : n ≤ 1048576) (hnc : n ≤ c) (hD : D.size ≤ 1048576) (hQ : Q.size ≤ 1048576) :
  Calls Tryz.prog 38 #[.agg (cB A n c I H S P D Q z)] w fun e w' => e = .returned (.bool (goodWorks f n I H S P && logOk D Q z)) ∧ bW w w' := by
 have hX : bW w (w.alloc (.cells (cB A n c I H S P D Q z) 35)) := (Below.refl _ w).alloc nL _
 have hS := hs.below hX
 go_enter Tryz.func38, Tryz.ntmps38
 go_wp2_with fail
 refine (l28Good_any A n c lo hi f I H S P D Q z _ hS hn hnc hD hQ).mono ?_
 rintro e w1 ⟨rfl, hb⟩
 have hX := below_of hX hb hX.size
 clear hb hS hs
 go_wp2
 go_ret
 exact ⟨rfl, hX⟩
attribute [local go_sem ↓] Go.wp_at_zero Go.wp_at_succ
def execPost (w : World) (f : Nat → Int) (n : Nat) (I H S P : Int) (D Q : ByteArray) (z : Int) (s : ByteArray) (e : Ending) (w' : World) : Prop :=
 ∃ A' c', e = .returned (.tuple #[.agg (cB A' (xcN f n I H S P D Q z s) c' (xcI f n I H S P D Q z s) (xcH f n I H S P D Q z s) (xcS f n I H S P D Q z s) (xcP f n I H S P D Q z s) D (xcQ f n I H S P D Q z s) (xcZ f n I H S P D Q z s)), .string (xcR f n I H S P D Q z s)]) ∧ xcN f n I H S P D Q z s ≤ c' ∧ w'.ownsRow w.heap.size 97 4 (.slice A' (xcN f n I H S P D Q z s) c') (xcN f n I H S P D Q z s) ((xcL f n I H S P D Q z s).map (Value.int .i64)) ∧ bW w w'
theorem exec_no {w w' : World} {f : Nat → Int} {n c' : Nat} {I H S P : Int} {D Q : ByteArray} {z : Int} {s r : ByteArray} {A' : Option Addr} (hgo : xcGo f n I H S P D Q z s = false) (hr : xcR f n I H S P D Q z s = r) (hc : n ≤ c')
  (hO : w'.ownsRow w.heap.size 97 4 (.slice A' n c') n ((cellsL f n).map (Value.int .i64))) (hB : bW w w') :
  execPost w f n I H S P D Q z s (.returned (.tuple #[.agg (cB A' n c' I H S P D Q z), .string r])) w' := by
 have hup : xcUp f n I H S P D Q z s = false := by rw [xcUp, hgo]; rfl
 refine z325 ?_
 intro e1 e2 e3 e4 e5 e6
 have e7 : xcQ f n I H S P D Q z s = Q := by rw [xcQ, hgo]; rfl
 have e8 : xcZ f n I H S P D Q z s = z := by rw [xcZ, hgo]; rfl
 unfold execPost
 rw [e1, e2, e3, e4, e5, e6, e7, e8, hr]
 exact ⟨A', c', rfl, hc, hO, hB⟩
theorem exec_yes {w w' : World} {f : Nat → Int} {n c' : Nat} {I H S P : Int} {D Q : ByteArray} {z : Int} {s rt : ByteArray} {A' : Option Addr} (hgo : xcGo f n I H S P D Q z s = true) (hgc : (goodWorks f n I H S P && logOk D Q z) = true) (hgr : goodRec s ⟨#[]⟩ = true) (hz : z ≠ 60) (hxt : xcT f n I H S P s = rt) (hc : xcN f n I H S P D Q z s ≤ c')
  (hO : w'.ownsRow w.heap.size 97 4 (.slice A' (xcN f n I H S P D Q z s) c') (xcN f n I H S P D Q z s) ((xcL f n I H S P D Q z s).map (Value.int .i64))) (hB : bW w w') :
  execPost w f n I H S P D Q z s (.returned (.tuple #[.agg (cB A' (xcN f n I H S P D Q z s) c' (xcI f n I H S P D Q z s) (xcH f n I H S P D Q z s) (xcS f n I H S P D Q z s) (xcP f n I H S P D Q z s) D (apP D Q z s rt) (apZ D Q z s rt)), .string rt])) w' := by
 have e1 : xcQ f n I H S P D Q z s = apP D Q z s rt := by rw [xcQ, if_pos hgo, hxt]
 have e2 : xcZ f n I H S P D Q z s = apZ D Q z s rt := by rw [xcZ, if_pos hgo, hxt]
 have e3 : xcR f n I H S P D Q z s = rt := by rw [xcR, if_pos hgc, if_pos hgr, if_neg hz, hxt]
 unfold execPost
 rw [e1, e2, e3]
 exact ⟨A', c', rfl, hc, hO, hB⟩
theorem ExecuteCommand_any (A : Option Addr) (n c lo hi : Nat) (f : Nat → Int) (I H S P : Int) (D Q : ByteArray) (z : Int) (s : ByteArray) (w : World) (hs : Sl w lo hi 4 A n f) (hn : n ≤ 1048576) (hnc : n ≤ c) (hnone : A = none → n = 0 ∧ c = 0) (hD : D.size ≤ 1048576) (hQ : Q.size ≤ 1048576) (hsz : s.size ≤ 1048576) (ht : Tab w) (hm : Mx w) (he : Er w) :
  Calls Tryz.prog 12 #[.agg (cB A n c I H S P D Q z), .string s] w (execPost w f n I H S P D Q z s) := by
 refine z326 ?_
 intro hX h2 h4
 go_enter Tryz.func12, Tryz.ntmps12
 go_upto_region 1 with fail
 revert hX h2 h4
 refine z305 ?_
 intro w1 hX g2 h2 hg2 g4 h4 hg4
 have hne : g2 ≠ g4 := by omega
 have l4 := (gL h4)
 have HLE := lh (⟨by omega, by omega⟩ : w.heap.size ≤ g2 ∧ w.heap.size ≤ g4)
 have HS := lh hs
 have HT := lh ht
 have HM := lh hm
 have HE := lh he
 have HB := lh hX
 have H2 := lh h2
 have H4 := lh h4
 clear hg2 hg4 hs ht hm he hX h2 h4 l4
 refine z298 ?_
 intro e0 e1 e2 e3 e4 e5 e6 e7
 go_wp2_with fail
 refine (IsValidConsole_any A n c lo hi f I H S P D Q z w1 (HS.out.below HB.out) hn hnc hD hQ (HT.out.below HB.out) (HM.out.below HB.out)).mono ?_
 obtain ⟨gc, hgc⟩ : ∃ b, (goodWorks f n I H S P && logOk D Q z) = b := ⟨_, rfl⟩
 rw [hgc]
 have HGC := lh hgc
 clear hgc
 rintro e w2 ⟨rfl, hb⟩
 clear e0 e1 e2 e3 e4 e5 e6 e7
 have H2' := lh (rowC H2.out hb)
 refine z327 ?_
 intro H4' HB'
 clear H2 H4 HB
 have H2 := H2'
 have H4 := H4'
 have HB := HB'
 clear H2' H4' HB'
 clear hb
 cases gc with
 | false =>
  as_aux_lemma =>
   refine z298 ?_
   intro e0 e1 e2 e3 e4 e5 e6 e7
   go_upto_region 2 with fail
   go_wp2_with fail
   refine (copyConsole_any A n c lo hi f I H S P D Q z w2 (HS.out.below HB.out) hn hnc hnone).mono ?_
   rintro e wy ⟨A', c', rfl, hc', hown, hb⟩
   refine z328 ?_
   intro h4 hB hown
   clear hb e0 e1 e2 e3 e4 e5 e6 e7
   go_wp2_with (refine z281 ?_; refine z329 ?_)
   revert h4 hB hown
   refine z330 ?_
   intro wz HHR HBZ HOZ
   go_wp2_with ((refine z66 ?_); refine z331 ?_; exact exec_no (by rw [xcGo, HGC.out]; rfl) (by rw [xcR, HGC.out]; rfl) hc' HOZ.out HBZ.out)
 | true =>
  go_wp2_with fail
  refine (IsValidRecord_any s ⟨#[]⟩ (by omega) (by simp [ByteArray.size]) w2).mono ?_
  obtain ⟨gr, hgr⟩ : ∃ b, goodRec s ⟨#[]⟩ = b := ⟨_, rfl⟩
  rw [hgr]
  have HGR := lh hgr
  clear hgr
  rintro e w3 ⟨rfl, hb⟩
  have H2' := lh (rowC H2.out hb)
  refine z327 ?_
  intro H4' HB'
  clear H2 H4 HB
  have H2 := H2'
  have H4 := H4'
  have HB := HB'
  clear H2' H4' HB'
  clear hb
  cases gr with
  | false =>
   as_aux_lemma =>
    refine z298 ?_
    intro e0 e1 e2 e3 e4 e5 e6 e7
    go_upto_region 4 with fail
    go_wp2_with fail
    refine z332 ?_
    rintro e wy ⟨A', c', rfl, hc', hown, hb⟩
    refine z328 ?_
    intro h4 hB hown
    clear hb e0 e1 e2 e3 e4 e5 e6 e7
    go_wp2_with (refine z281 ?_; refine z329 ?_)
    revert h4 hB hown
    refine z330 ?_
    intro wz HHR HBZ HOZ
    go_wp2_with ((refine z66 ?_); refine z331 ?_; exact exec_no (by rw [xcGo, HGC.out, HGR.out]; rfl) (by rw [xcR, HGC.out, HGR.out]; rfl) hc' HOZ.out HBZ.out)
  | true =>
   have h2 := H2.out
   obtain ⟨d0, d1, d2, d3, d4, d5, d6, d7⟩ := cells8 h2
   clear h2 d0 d1 d2 d3 d4 d5 d6
   by_cases hz60 : z = 60
   ·have hzb : (z == 60) = true := by simp [hz60]
    have HZ6 := lh hz60
    clear hz60
    refine z298 ?_
    intro e0 e1 e2 e3 e4 e5 e6 e7
    go_upto_region 6 with fail
    go_wp2_with fail
    refine z332 ?_
    rintro e wy ⟨A', c', rfl, hc', hown, hb⟩
    refine z328 ?_
    intro h4 hB hown
    clear hb e0 e1 e2 e3 e4 e5 e6 e7
    go_wp2_with (refine z281 ?_; refine z329 ?_)
    revert h4 hB hown
    refine z330 ?_
    intro wz HHR HBZ HOZ
    go_wp2_with ((refine z66 ?_); refine z331 ?_; exact z333)
   ·have hzb : (z == 60) = false := by simp [hz60]
    have HGO : Hid (xcGo f n I H S P D Q z s = true) := by show _ = _; rw [xcGo, HGC.out, HGR.out]; simp [hz60]
    have HZ6 := lh hz60
    clear hz60
    have h2 := H2.out
    obtain ⟨e0, e1, e2, e3, e4, e5, e6, e7⟩ := cells8 h2
    clear h2 d7
    go_upto_region 7 with fail
    go_wp2_with fail
    refine z332 ?_
    rintro e w4 ⟨A', c', rfl, hc', hown, hb⟩
    have HW := lh (ownsRow_monoP hown HB.out.size)
    clear hown e0 e1 e2 e3 e4 e5 e6 e7
    refine z327 ?_
    intro H4' HB'
    clear H4 HB
    have H4 := H4'
    have HB := HB'
    clear H4' HB'
    clear hb
    clear H2
    go_upto_region 8 with fail
    refine z161 ?_
    intro w5 hw5
    have hb := ba hw5
    have h6 := an hw5
    clear hw5
    have l4 := (gL H4.out)
    obtain ⟨g6, hg6⟩ : ∃ q, w4.heap.size = q := ⟨_, rfl⟩
    rw [hg6] at h6 l4
    try rw [hg6]
    have hn46 : g4 ≠ g6 := by omega
    have HL6 := lh (show w.heap.size ≤ g6 by have := HB.out.size; omega)
    clear hg6 l4
    have HW5 := lh (ownsRow_below HW.out hb)
    have H6 := lh h6
    clear h6 HW
    refine z327 ?_
    intro H4' HB'
    clear H4 HB
    have H4 := H4'
    have HB := HB'
    clear H4' HB'
    clear hb
    have HGW : Hid (goodWorks (lf (cellsL f n)) n I H S P = true) := by
     show _ = _
     rw [good_cells]
     have h := HGC.out
     rw [Bool.and_eq_true] at h
     exact h.1
    have HLG : Hid (logOk D Q z = true) := by
     have h := HGC.out
     rw [Bool.and_eq_true] at h
     exact h.2
    obtain ⟨ok, hok⟩ : ∃ b, xcA f n I H S P s = b := ⟨_, rfl⟩
    have HOK := lh hok
    clear hok
    go_cut [7, 8, 9] from 10 (fun sa sb sc wx => ∃ (g7 : Nat) (A1 : Option Addr) (c1 : Nat) (L1 : List Int) (n1 : Nat) (I1 H1 S1 P1 : Int) (r1 : ByteArray), sa = .pointer (some ⟨g7, 0, none⟩) ∧ sb = .string r1 ∧ sc = .bool ok ∧ w5.heap.size ≤ g7 ∧ wx.heap[g7]? = some (.cells (wB A1 n1 c1 I1 H1 S1 P1) 32 (0, 0)) ∧ (ok = true → L1 = (exL (lf (cellsL f n)) n I H S P (cV s) (xV s 0) (xV s 1) (xV s 2)) ∧ n1 = (exN (lf (cellsL f n)) n I H S P (cV s) (xV s 0) (xV s 1) (xV s 2)) ∧ I1 = (exI (lf (cellsL f n)) n I H S P (cV s) (xV s 0) (xV s 1) (xV s 2)) ∧ H1 = (exH (lf (cellsL f n)) n I H S P (cV s) (xV s 0) (xV s 1) (xV s 2)) ∧ S1 = (exS (lf (cellsL f n)) n I H S P (cV s) (xV s 0) (xV s 1) (xV s 2)) ∧ P1 = (exP (lf (cellsL f n)) n I H S P (cV s) (xV s 0) (xV s 1) (xV s 2)) ∧ r1 = (exR (lf (cellsL f n)) n I H S P (cV s) (xV s 0) (xV s 1) (xV s 2))) ∧ n1 ≤ c1 ∧ wx.ownsRow w.heap.size 97 4 (.slice A1 n1 c1) n1 (L1.map (Value.int .i64)) ∧ bW w5 wx)
    case first =>
     as_aux_lemma =>
      have HF : Hid (∀ w', bW w5 w' → _) := fun w' hq => cells8 (rowC H6.out hq)
      refine wp_region_held_drew (S := fun w' => bW w5 w') (by exact z12) ((Below.refl _ _).drew) (fun jd => ?_)
      obtain ⟨v0, hv0⟩ : ∃ v, w5.drew = v := ⟨_, rfl⟩
      rw [hv0] at jd ⊢
      clear hv0
      refine tj3 0 33 2 35 1 34 HF jd ?_
      refine wpAnyH_ready (rs := [3, 9]) (by exact z12) (by simp) ?_
      refine (AllReadyH.cons rfl (fun K hK => ?_) (AllReadyH.cons rfl (fun K hK => ?_) AllReadyH.nil))
      ·go_simp
       refine (Split_any s 32 (by omega) v0 ((HM.out.below HB.out).below jd)).mono ?_
       rintro e v1 ⟨Bw, dw, rfl, hdw, hsw, hb⟩
       have hHeld2 := jd.trans (hb.mono jd.size)
       refine hK.out _ _ hHeld2 (fun jd => ?_)
       clear hK K hHeld2 hb
       refine wpAnyH_ready (rs := [4, 9]) (by exact z12) (by simp) ?_
       refine (AllReadyH.cons rfl (fun K hK => ?_) (AllReadyH.cons rfl (fun K hK => ?_) AllReadyH.nil))
       ·go_simp
        have hsw' := hsw
        rw [ws_len s] at hsw' hdw
        try rw [ws_len s]
        have hAW := answer_any w.heap.size A' n c' (cellsL f n) I H S P Bw (mV s) dw _ _ (wsV s) v1 (ownsRow_below HW5.out jd) (by have := HB.out.size; have := jd.size; omega) hc' HGW.out hsw' hdw (by have := ws_len s; have := wordsV_le 32 s; omega) (fun j => Nat.le_trans (wsV_size s j) (by omega)) ((HT.out.below HB.out).below jd) ((HE.out.below HB.out).below jd)
        refine hAW.mono ?_
        rintro e v3 ⟨A1, c1, L1, n1, I1, H1, S1, P1, r1, rfl, hv, hnc1, hown1, hb⟩
        clear hAW hsw'
        revert hsw K hK hb
        refine z334 ?_
        intro jd
        refine wpAnyH_ready (rs := [9]) (by exact z12) (by simp) ?_
        refine z73 ?_
        intro K hK
        have hg := heap_alloc_new v3 (.cells (wB none 0 0 0 0 0 0) 32)
        refine z335 ?_
        intro hHeld2 hgle
        have hown1 := ownsRow_below hown1 ((Below.refl _ v3).alloc nL (.cells (wB none 0 0 0 0 0 0) 32))
        obtain ⟨g7, hge⟩ : ∃ q, v3.heap.size = q := ⟨_, rfl⟩
        rw [hge] at hg hgle
        try rw [hge]
        obtain ⟨v5, hve⟩ : ∃ v, v3.alloc (.cells (wB none 0 0 0 0 0 0) 32) = v := ⟨_, rfl⟩
        rw [hve] at hg hHeld2 hown1
        rw [hve]
        refine hK.out _ _ hHeld2 (fun jd => ?_)
        clear hK K hve hge hHeld2
        refine wpAnyH_store (fuel := 2) (i := 10) rfl (by exact z12) g7 0 (.agg (wB A1 n1 c1 I1 H1 S1 P1)) 32 _ rfl rfl infoWorks hg (Nat.le_refl 5) (by exact z143) (fun w' hg' => jd.grown hg' jd.size (fun k hk => by cases hk; exact hgle)) ?ks6
        case ks6 =>
         intro v9 hh hgw hHeld3
         revert jd hHeld3
         refine z336 ?_
         intro hh hown1 jd
         refine z49 ?_
         exact z337
       ·go_simp
        have hg := heap_alloc_new v1 (.cells (wB none 0 0 0 0 0 0) 32)
        refine z335 ?_
        intro hHeld2 hgle
        have hsw := hsw.below ((Below.refl _ v1).alloc nL (.cells (wB none 0 0 0 0 0 0) 32))
        obtain ⟨g7, hge⟩ : ∃ q, v1.heap.size = q := ⟨_, rfl⟩
        rw [hge] at hg hgle
        try rw [hge]
        obtain ⟨v4, hve⟩ : ∃ v, v1.alloc (.cells (wB none 0 0 0 0 0 0) 32) = v := ⟨_, rfl⟩
        rw [hve] at hg hHeld2 hsw
        rw [hve]
        refine hK.out _ _ hHeld2 (fun jd => ?_)
        clear hK K hve hge hHeld2
        refine z113 ?_
        refine z73 ?_
        intro K hK
        have hsw' := hsw
        rw [ws_len s] at hsw' hdw
        try rw [ws_len s]
        have hAW := answer_any w.heap.size A' n c' (cellsL f n) I H S P Bw (mV s) dw _ _ (wsV s) v4 (ownsRow_below HW5.out jd) (by have := HB.out.size; have := jd.size; omega) hc' HGW.out hsw' hdw (by have := ws_len s; have := wordsV_le 32 s; omega) (fun j => Nat.le_trans (wsV_size s j) (by omega)) ((HT.out.below HB.out).below jd) ((HE.out.below HB.out).below jd)
        refine hAW.mono ?_
        rintro e v7 ⟨A1, c1, L1, n1, I1, H1, S1, P1, r1, rfl, hv, hnc1, hown1, hb⟩
        clear hAW hsw'
        have hg := rowC hg hb
        revert hsw K hK hb
        refine z334 ?_
        intro jd
        refine wpAnyH_store (fuel := 2) (i := 10) rfl (by exact z12) g7 0 (.agg (wB A1 n1 c1 I1 H1 S1 P1)) 32 _ rfl rfl infoWorks hg (Nat.le_refl 5) (by exact z143) (fun w' hg' => jd.grown hg' jd.size (fun k hk => by cases hk; exact hgle)) ?ks8
        case ks8 =>
         intro v9 hh hgw hHeld3
         revert jd hHeld3
         refine z336 ?_
         intro hh hown1 jd
         refine z49 ?_
         exact z337
      ·go_simp
       have hg := heap_alloc_new v0 (.cells (wB none 0 0 0 0 0 0) 32)
       refine z335 ?_
       intro hHeld2 hgle
       obtain ⟨g7, hge⟩ : ∃ q, v0.heap.size = q := ⟨_, rfl⟩
       rw [hge] at hg hgle
       try rw [hge]
       obtain ⟨v2, hve⟩ : ∃ v, v0.alloc (.cells (wB none 0 0 0 0 0 0) 32) = v := ⟨_, rfl⟩
       rw [hve] at hg hHeld2
       rw [hve]
       refine hK.out _ _ hHeld2 (fun jd => ?_)
       clear hK K hve hge hHeld2
       refine wpAnyH_ready (rs := [3]) (by exact z12) (by simp) ?_
       refine z73 ?_
       intro K hK
       refine (Split_any s 32 (by omega) v2 ((HM.out.below HB.out).below jd)).mono ?_
       rintro e v9 ⟨Bw, dw, rfl, hdw, hsw, hb⟩
       have hg := rowC hg hb
       have hHeld2 := jd.trans (hb.mono jd.size)
       refine hK.out _ _ hHeld2 (fun jd => ?_)
       clear hK K hHeld2 hb
       refine z113 ?_
       refine z73 ?_
       intro K hK
       have hsw' := hsw
       rw [ws_len s] at hsw' hdw
       try rw [ws_len s]
       have hAW := answer_any w.heap.size A' n c' (cellsL f n) I H S P Bw (mV s) dw _ _ (wsV s) v9 (ownsRow_below HW5.out jd) (by have := HB.out.size; have := jd.size; omega) hc' HGW.out hsw' hdw (by have := ws_len s; have := wordsV_le 32 s; omega) (fun j => Nat.le_trans (wsV_size s j) (by omega)) ((HT.out.below HB.out).below jd) ((HE.out.below HB.out).below jd)
       refine hAW.mono ?_
       rintro e v10 ⟨A1, c1, L1, n1, I1, H1, S1, P1, r1, rfl, hv, hnc1, hown1, hb⟩
       clear hAW hsw'
       have hg := rowC hg hb
       revert hsw K hK hb
       refine z334 ?_
       intro jd
       refine wpAnyH_store (fuel := 2) (i := 10) rfl (by exact z12) g7 0 (.agg (wB A1 n1 c1 I1 H1 S1 P1)) 32 _ rfl rfl infoWorks hg (Nat.le_refl 5) (by exact z143) (fun w' hg' => jd.grown hg' jd.size (fun k hk => by cases hk; exact hgle)) ?ks11
       case ks11 =>
        intro v9 hh hgw hHeld3
        revert jd hHeld3
        refine z336 ?_
        intro hh hown1 jd
        refine z49 ?_
        exact z337
    case rest =>
    obtain ⟨g7, A1, c1, L1, n1, I1, H1, S1, P1, r1, rfl, rfl, rfl, hg7, h7, hv, hnc1, hown1, hb⟩ := hcut
    obtain ⟨w6, hw6⟩ : ∃ v, wc = v := ⟨_, rfl⟩
    rw [hw6] at h7 hown1 hb
    try rw [hw6]
    clear hw6 wc
    have l6 := (gL H6.out)
    have hn76 : g7 ≠ g6 := by omega
    have HWo := lh (ownsRow_below HW5.out hb)
    have H7 := lh h7
    have HO1 := lh hown1
    have HV := lh hv
    clear l6 hg7 h7 hown1 hv HW5
    refine z338 ?_
    intro H4' H6' HB'
    clear H4 H6 HB
    have H4 := H4'
    have H6 := H6'
    have HB := HB'
    clear H4' H6' HB'
    clear hb
    have hup : xcUp f n I H S P D Q z s = ok := by rw [xcUp, HGO.out, HOK.out, Bool.true_and]
    go_upto_if 41 with fail
    go_cut [8] from 10 (fun s8 wx => ∃ (A3 : Option Addr) (c3 : Nat), s8 = .string (if ok then (exR (lf (cellsL f n)) n I H S P (cV s) (xV s 0) (xV s 1) (xV s 2)) else ⟨#[63]⟩) ∧ wx.heap[g6]? = some (.cells (cB A3 (xcN f n I H S P D Q z s) c3 (xcI f n I H S P D Q z s) (xcH f n I H S P D Q z s) (xcS f n I H S P D Q z s) (xcP f n I H S P D Q z s) D Q z) 35 (0, 0)) ∧ xcN f n I H S P D Q z s ≤ c3 ∧ wx.ownsRow w.heap.size 97 4 (.slice A3 (xcN f n I H S P D Q z s) c3) (xcN f n I H S P D Q z s) ((xcL f n I H S P D Q z s).map (Value.int .i64)) ∧ wx.heap[g4]? = some (.cells (cB none 0 0 0 0 0 0 ⟨#[]⟩ ⟨#[]⟩ 0) 35 (0, 0)) ∧ bW w wx)
    case first =>
     as_aux_lemma =>
      cases ok with
      | false =>
       refine z325 ?_
       intro e1 e2 e3 e4 e5 e6
       have HR := lh (⟨H6.out, hc', HWo.out, H4.out, HB.out⟩ : _ ∧ _ ∧ _ ∧ _ ∧ _)
       have E1 := lh e1
       have E2 := lh e2
       have E3 := lh e3
       have E4 := lh e4
       have E5 := lh e5
       have E6 := lh e6
       clear e1 e2 e3 e4 e5 e6 hup
       go_wp2_with fail
       go_meet
       case rel =>
        rw [E1.out, E2.out, E3.out, E4.out, E5.out, E6.out]
        exact ⟨A', c', rfl, HR.out.1, HR.out.2.1, HR.out.2.2.1, HR.out.2.2.2.1, HR.out.2.2.2.2⟩
      | true =>
       obtain ⟨v1, v2, v3, v4, v5, v6, v7⟩ := HV.out rfl
       have e1 : xcL f n I H S P D Q z s = L1 := by rw [xcL, hup, v1]; rfl
       have e2 : xcN f n I H S P D Q z s = n1 := by rw [xcN, hup, v2]; rfl
       have e3 : xcI f n I H S P D Q z s = I1 := by rw [xcI, hup, v3]; rfl
       have e4 : xcH f n I H S P D Q z s = H1 := by rw [xcH, hup, v4]; rfl
       have e5 : xcS f n I H S P D Q z s = S1 := by rw [xcS, hup, v5]; rfl
       have e6 : xcP f n I H S P D Q z s = P1 := by rw [xcP, hup, v6]; rfl
       have HV7 := lh v7
       have E1 := lh e1
       have E2 := lh e2
       have E3 := lh e3
       have E4 := lh e4
       have E5 := lh e5
       have E6 := lh e6
       clear e1 e2 e3 e4 e5 e6 v1 v2 v3 v4 v5 v6 v7 hup HV
       obtain ⟨e0, e1, e2, e3, e4⟩ := cells5 H7.out
       have h6 := H6.out
       go_upto_region 10 with fail
       go_wp2_with (refine z281 ?_; refine wpList_store2 g6 0 (.agg (wB A1 n1 c1 I1 H1 S1 P1)) 35 _ (cB A1 n1 c1 I1 H1 S1 P1 D Q z) rfl rfl infoWorks h6 ((by decide : 0 + 5 ≤ 8)) (by exact z143) rfl ?_)
       intro wz hh hgw
       have HR := lh (⟨hh, hnc1, own_other HO1.out H6.out (by decide) hgw, rowGr H4.out hgw hn46, HB.out.grown hgw HB.out.size (fun k hk => by cases hk; exact HL6.out)⟩ : _ ∧ _ ∧ _ ∧ _ ∧ _)
       clear hh hgw h6
       go_wp2_with fail
       go_meet
       case rel =>
        rw [E1.out, E2.out, E3.out, E4.out, E5.out, E6.out]
        exact ⟨A1, c1, by rw [HV7.out]; rfl, HR.out.1, HR.out.2.1, HR.out.2.2.1, HR.out.2.2.2.1, HR.out.2.2.2.2⟩
    case rest =>
    obtain ⟨A3, c3, rfl, h6, hc3, hown3, h4, hB⟩ := hcut
    obtain ⟨w7, hw7⟩ : ∃ v, wc = v := ⟨_, rfl⟩
    rw [hw7] at h6 hown3 h4 hB
    try rw [hw7]
    clear hw7 wc
    clear H4 H6 HB HV H7 HO1 HWo hup
    have H4 := lh h4
    have H6 := lh h6
    have HB := lh hB
    have HO3 := lh hown3
    clear h4 h6 hB hown3
    obtain ⟨r0, hr0⟩ : ∃ r, (if ok = true then (exR (lf (cellsL f n)) n I H S P (cV s) (xV s 0) (xV s 1) (xV s 2)) else ⟨#[63]⟩ : ByteArray) = r := ⟨_, rfl⟩
    rw [hr0]
    have HT0 : Hid (longV r0 = xcT f n I H S P s) := by show _ = _; rw [xcT, HOK.out, hr0]
    clear hr0
    go_upto_region 12 with fail
    go_cut [46] from 10 (fun sx wx => sx = .bool (decide (200 < r0.size)) ∧ wx = w7)
    case first =>
     have hk : (r0.size : Int) ≤ 9223372036854775807 ∨ True := Or.inr trivial
     exact z339
    case rest =>
    obtain ⟨rfl, hwc⟩ := hcut
    rw [hwc]
    clear hwc wc
    go_upto_if 46 with fail
    go_cut [8] from 10 (fun sx wx => sx = .string (longV r0) ∧ wx = w7)
    case first =>
     exact z340
    case rest =>
    obtain ⟨rfl, hwc⟩ := hcut
    rw [hwc]
    clear hwc wc
    rw [HT0.out]
    have hTs : (xcT f n I H S P s).size ≤ 200 := longV_size _
    generalize hxt : xcT f n I H S P s = rt at hTs HT0 ⊢
    have HXT := lh hxt
    clear hxt HT0
    have h6 := H6.out
    obtain ⟨e0, e1, e2, e3, e4, e5, e6, e7⟩ := cells8 h6
    clear h6
    have hss : s.size ≤ 160 := by
     have h := (goodRec_facts HGR.out).2.1
     exact h
    go_wp2_with fail
    refine (AppendRecord_any D Q z s rt hD hQ hsz (by omega) w7 (HT.out.below HB.out) (HM.out.below HB.out)).mono ?_
    rintro e w8 ⟨rfl, hb⟩
    have HO8 := lh (ownsRow_below HO3.out hb)
    clear e0 e1 e2 e3 e4 e5 e6 e7
    refine z338 ?_
    intro H4' H6' HB'
    clear H4 H6 HB
    have H4 := H4'
    have H6 := H6'
    have HB := HB'
    clear H4' H6' HB'
    clear hb
    have h6 := H6.out
    go_wp2_with (refine z281 ?_; refine wpList_store2 g6 5 (.agg (lV D (apP D Q z s rt) (apZ D Q z s rt))) 35 _ (cB A3 (xcN f n I H S P D Q z s) c3 (xcI f n I H S P D Q z s) (xcH f n I H S P D Q z s) (xcS f n I H S P D Q z s) (xcP f n I H S P D Q z s) D (apP D Q z s rt) (apZ D Q z s rt)) rfl rfl infoLogE h6 ((by decide : 5 + 3 ≤ 8)) (by exact z143) rfl ?_)
    intro w9 hh hgw
    have H6' := lh hh
    have H4' := lh (rowGr H4.out hgw hn46)
    have HO9 := lh (own_other HO8.out H6.out (by decide) hgw)
    have HB' := lh (HB.out.grown hgw HB.out.size (fun k hk => by cases hk; exact HL6.out))
    clear hh hgw h6 H6 H4 HO8 HB
    go_upto_region 15 with fail
    obtain ⟨e0, e1, e2, e3, e4, e5, e6, e7⟩ := cells8 H6'.out
    have h4 := H4'.out
    go_wp2_with (refine z281 ?_; refine wpList_store2 g4 0 (.agg (cB A3 (xcN f n I H S P D Q z s) c3 (xcI f n I H S P D Q z s) (xcH f n I H S P D Q z s) (xcS f n I H S P D Q z s) (xcP f n I H S P D Q z s) D (apP D Q z s rt) (apZ D Q z s rt))) 35 _ (cB A3 (xcN f n I H S P D Q z s) c3 (xcI f n I H S P D Q z s) (xcH f n I H S P D Q z s) (xcS f n I H S P D Q z s) (xcP f n I H S P D Q z s) D (apP D Q z s rt) (apZ D Q z s rt)) rfl rfl infoConE h4 (Nat.le_refl 8) (by exact z143) rfl ?_)
    intro wz hh hgw
    have HHR := lh hh
    have HBZ := lh (HB'.out.grown hgw HB'.out.size (fun k hk => by cases hk; exact HLE.out.2))
    have HOZ := lh (own_other HO9.out H4'.out (by decide) hgw)
    clear hh hgw h4 e0 e1 e2 e3 e4 e5 e6 e7
    go_wp2_with ((refine z66 ?_); refine z331 ?_; have hq := exec_yes HGO.out HGC.out HGR.out HZ6.out HXT.out hc3 HOZ.out HBZ.out; exact hq)
end Go.Proofs.YtpndjhelpoenpaaGreatDoor
