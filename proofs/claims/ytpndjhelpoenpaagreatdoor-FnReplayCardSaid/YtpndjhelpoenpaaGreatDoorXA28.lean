/-
  Texts of this claim, merged.
-/
import Derived.Test.YtpndjhelpoenpaaGreatDoorXA27
import Derived.Test.YtpndjhelpoenpaaGreatDoorXA20
set_option linter.unusedVariables false
set_option linter.unusedSimpArgs false
set_option maxRecDepth 100000
set_option maxHeartbeats 8000000
namespace Go.Proofs.YtpndjhelpoenpaaGreatDoor
open Go.RowKit
attribute [local go_sem ↓] Go.wp_at_zero Go.wp_at_succ
theorem xc_N {f : Nat → Int} {n : Nat} {I H S P : Int} {D Q : ByteArray} {z : Int} {s : ByteArray} (hgo : xcGo f n I H S P D Q z s = true) : (exN (lf (cellsL f n)) n I H S P (cR s) (xV s 0) (xV s 1) (xV s 2)) = xcN f n I H S P D Q z s := by
 refine z341 ?_
 intro hup
 rw [xcN, hup]
 cases ha : allTo (okN (wsV s)) (mV s) with
 | false =>
  exact z342
 | true =>
  refine z344 ?_
  intro h1
  cases hk : exOk (lf (cellsL f n)) n I H S P (cV s) (xV s 0) (xV s 1) (xV s 2) with
  | false =>
   have hg := go_no (L := cellsL f n) hk
   rw [exN, hg]
   exact rfl
  | true => rfl
theorem xc_I {f : Nat → Int} {n : Nat} {I H S P : Int} {D Q : ByteArray} {z : Int} {s : ByteArray} (hgo : xcGo f n I H S P D Q z s = true) : (exI (lf (cellsL f n)) n I H S P (cR s) (xV s 0) (xV s 1) (xV s 2)) = xcI f n I H S P D Q z s := by
 refine z341 ?_
 intro hup
 rw [xcI, hup]
 cases ha : allTo (okN (wsV s)) (mV s) with
 | false =>
  exact z342
 | true =>
  refine z344 ?_
  intro h1
  cases hk : exOk (lf (cellsL f n)) n I H S P (cV s) (xV s 0) (xV s 1) (xV s 2) with
  | false =>
   have hg := go_no (L := cellsL f n) hk
   rw [exI, hg]
   exact rfl
  | true => rfl
theorem xc_H {f : Nat → Int} {n : Nat} {I H S P : Int} {D Q : ByteArray} {z : Int} {s : ByteArray} (hgo : xcGo f n I H S P D Q z s = true) : (exH (lf (cellsL f n)) n I H S P (cR s) (xV s 0) (xV s 1) (xV s 2)) = xcH f n I H S P D Q z s := by
 refine z341 ?_
 intro hup
 rw [xcH, hup]
 cases ha : allTo (okN (wsV s)) (mV s) with
 | false =>
  exact z342
 | true =>
  refine z344 ?_
  intro h1
  cases hk : exOk (lf (cellsL f n)) n I H S P (cV s) (xV s 0) (xV s 1) (xV s 2) with
  | false =>
   have hg := go_no (L := cellsL f n) hk
   rw [exH, hg]
   exact rfl
  | true => rfl
theorem xc_S {f : Nat → Int} {n : Nat} {I H S P : Int} {D Q : ByteArray} {z : Int} {s : ByteArray} (hgo : xcGo f n I H S P D Q z s = true) : (exS (lf (cellsL f n)) n I H S P (cR s) (xV s 0) (xV s 1) (xV s 2)) = xcS f n I H S P D Q z s := by
 refine z341 ?_
 intro hup
 rw [xcS, hup]
 cases ha : allTo (okN (wsV s)) (mV s) with
 | false =>
  exact z342
 | true =>
  refine z344 ?_
  intro h1
  cases hk : exOk (lf (cellsL f n)) n I H S P (cV s) (xV s 0) (xV s 1) (xV s 2) with
  | false =>
   have hg := go_no (L := cellsL f n) hk
   rw [exS, hg]
   exact rfl
  | true => rfl
theorem xc_P {f : Nat → Int} {n : Nat} {I H S P : Int} {D Q : ByteArray} {z : Int} {s : ByteArray} (hgo : xcGo f n I H S P D Q z s = true) : (exP (lf (cellsL f n)) n I H S P (cR s) (xV s 0) (xV s 1) (xV s 2)) = xcP f n I H S P D Q z s := by
 refine z341 ?_
 intro hup
 rw [xcP, hup]
 cases ha : allTo (okN (wsV s)) (mV s) with
 | false =>
  exact z342
 | true =>
  refine z344 ?_
  intro h1
  cases hk : exOk (lf (cellsL f n)) n I H S P (cV s) (xV s 0) (xV s 1) (xV s 2) with
  | false =>
   have hg := go_no (L := cellsL f n) hk
   rw [exP, hg]
   exact rfl
  | true => rfl
theorem xc_L {f : Nat → Int} {n : Nat} {I H S P : Int} {D Q : ByteArray} {z : Int} {s : ByteArray} (hgo : xcGo f n I H S P D Q z s = true) : (exL (lf (cellsL f n)) n I H S P (cR s) (xV s 0) (xV s 1) (xV s 2)) = xcL f n I H S P D Q z s := by
 refine z341 ?_
 intro hup
 rw [xcL, hup]
 cases ha : allTo (okN (wsV s)) (mV s) with
 | false =>
  refine z343 ?_
  intro h1 h2
  exact cellsL_lf (cellsL_len f n)
 | true =>
  refine z344 ?_
  intro h1
  cases hk : exOk (lf (cellsL f n)) n I H S P (cV s) (xV s 0) (xV s 1) (xV s 2) with
  | false =>
   have hg := go_no (L := cellsL f n) hk
   rw [exL, hg]
   exact cellsL_lf (cellsL_len f n)
  | true => rfl
theorem xc_T {f : Nat → Int} {n : Nat} {I H S P : Int} {s : ByteArray} : longV (exR (lf (cellsL f n)) n I H S P (cR s) (xV s 0) (xV s 1) (xV s 2)) = xcT f n I H S P s := by
 rw [xcT]
 cases ha : allTo (okN (wsV s)) (mV s) with
 | false =>
  refine z343 ?_
  intro h1 h2
  rfl
 | true =>
  refine z344 ?_
  intro h1
  cases hk : exOk (lf (cellsL f n)) n I H S P (cV s) (xV s 0) (xV s 1) (xV s 2) with
  | false => rw [exR_none (L := cellsL f n) hk]; rfl
  | true => rfl
theorem rf_xc {w w' : World} {e : Ending} {f : Nat → Int} {n base : Nat} {I H S P : Int} {D Q : ByteArray} {z : Int} {s : ByteArray} (hgo : xcGo f n I H S P D Q z s = true) (h : rfPost base (cellsL f n) n I H S P D Q z (cR s) (xV s 0) (xV s 1) (xV s 2) w e w') :
  ∃ A1 c1 n1 L1 I1 H1 S1 P1 r0, Hid (n1 = xcN f n I H S P D Q z s ∧ L1 = xcL f n I H S P D Q z s ∧ I1 = xcI f n I H S P D Q z s ∧ H1 = xcH f n I H S P D Q z s ∧ S1 = xcS f n I H S P D Q z s ∧ P1 = xcP f n I H S P D Q z s ∧ longV r0 = xcT f n I H S P s) ∧ e = .returned (.tuple #[.agg (cB A1 n1 c1 I1 H1 S1 P1 D Q z), .string r0]) ∧ n1 ≤ c1 ∧ w'.ownsRow base 97 4 (.slice A1 n1 c1) n1 (L1.map (Value.int .i64)) ∧ bW w w' := by
 obtain ⟨A1, c1, rfl, h1, h2, h3⟩ := h
 exact ⟨A1, c1, _, _, _, _, _, _, _, ⟨xc_N hgo, xc_L hgo, xc_I hgo, xc_H hgo, xc_S hgo, xc_P hgo, xc_T⟩, rfl, h1, h2, h3⟩
theorem stN_le {n : Nat} {k : Int} : stN n k ≤ n + 1 := by
 unfold stN
 split
 ·omega
 ·split <;> omega
theorem xc_len {f : Nat → Int} {n n1 : Nat} {I H S P I1 H1 S1 P1 : Int} {D Q : ByteArray} {z : Int} {s r0 : ByteArray} {L1 : List Int} (h : n1 = xcN f n I H S P D Q z s ∧ L1 = xcL f n I H S P D Q z s ∧ I1 = xcI f n I H S P D Q z s ∧ H1 = xcH f n I H S P D Q z s ∧ S1 = xcS f n I H S P D Q z s ∧ P1 = xcP f n I H S P D Q z s ∧ longV r0 = xcT f n I H S P s) (hg : (goodWorks f n I H S P && logOk D Q z) = true) (hn : n ≤ 1048576) : n1 ≤ 1048576 := by
 rw [Bool.and_eq_true] at hg
 have h6 := con_len hg.1
 rw [h.1, xcN, exN]
 split
 ·split
  ·have := @stN_le n (cV s); omega
  ·exact hn
 ·exact hn
theorem xcN_len {f : Nat → Int} {n : Nat} {I H S P : Int} {D Q : ByteArray} {z : Int} {s : ByteArray} (hn : n ≤ 1048576) : xcN f n I H S P D Q z s ≤ 1048576 := by
 unfold xcN
 split
 ·rename_i hk
  have hg : goodWorks f n I H S P = true := by
   rw [xcUp, xcGo, Bool.and_eq_true, Bool.and_eq_true, Bool.and_eq_true] at hk
   exact hk.1.1.1
  have h6 := con_len hg
  unfold exN
  split
  ·have := @stN_le n (cV s); omega
  ·exact hn
 ·exact hn
theorem exec_end {w w' : World} {f : Nat → Int} {n n1 c' : Nat} {I H S P I1 H1 S1 P1 : Int} {D Q : ByteArray} {z : Int} {s r0 rt : ByteArray} {L1 : List Int} {A' : Option Addr} (hgo : xcGo f n I H S P D Q z s = true) (hgc : (goodWorks f n I H S P && logOk D Q z) = true) (hgr : goodRec s ⟨#[]⟩ = true) (hz : z ≠ 60)
  (h : n1 = xcN f n I H S P D Q z s ∧ L1 = xcL f n I H S P D Q z s ∧ I1 = xcI f n I H S P D Q z s ∧ H1 = xcH f n I H S P D Q z s ∧ S1 = xcS f n I H S P D Q z s ∧ P1 = xcP f n I H S P D Q z s ∧ longV r0 = xcT f n I H S P s) (hrt : longV r0 = rt) (hc : n1 ≤ c') (hO : w'.ownsRow w.heap.size 97 4 (.slice A' n1 c') n1 (L1.map (Value.int .i64))) (hB : bW w w') :
  execPost w f n I H S P D Q z s (.returned (.tuple #[.agg (cB A' n1 c' I1 H1 S1 P1 D (apP D Q z s rt) (apZ D Q z s rt)), .string rt])) w' := by
 obtain ⟨rfl, rfl, rfl, rfl, rfl, rfl, hr⟩ := h
 exact exec_yes hgo hgc hgr hz (hr.symm.trans hrt) hc hO hB
theorem sExecuteCommand_any (A : Option Addr) (n c lo hi : Nat) (f : Nat → Int) (I H S P : Int) (D Q : ByteArray) (z : Int) (s : ByteArray) (w : World) (hs : Sl w lo hi 4 A n f) (hn : n ≤ 1048576) (hnc : n ≤ c) (hnone : A = none → n = 0 ∧ c = 0) (hD : D.size ≤ 1048576) (hQ : Q.size ≤ 1048576) (hsz : s.size ≤ 1048576) :
  Calls Tryz.prog 10 #[.agg (cB A n c I H S P D Q z), .string s] w (execPost w f n I H S P D Q z s) := by
 refine z326 ?_
 intro hX h2 h4
 go_enter Tryz.func10, Tryz.ntmps10
 go_upto_region 1 with fail
 revert hX h2 h4
 refine z305 ?_
 intro w1 hX g2 h2 hg2 g4 h4 hg4
 have HLE := lh (show w.heap.size ≤ g4 by omega)
 have hn24 : g2 ≠ g4 := by omega
 have l4 := (gL h4)
 have HS := lh hs
 have HB := lh hX
 have H2 := lh h2
 have H4 := lh h4
 clear hs hX h2 h4
 obtain ⟨e0, e1, e2, e3, e4, e5, e6, e7⟩ := cells8 H2.out
 go_wp2_with fail
 refine (l28Own_any A n c lo hi f I H S P D Q z w1 (HS.out.below HB.out) hn hnc hnone).mono ?_
 rintro e w2 ⟨A', c', rfl, hc', hown, hb⟩
 have l4' := Nat.lt_of_lt_of_le l4 hb.size
 clear l4 e0 e1 e2 e3 e4 e5 e6 e7
 have HW := lh (ownsRow_monoP hown HB.out.size)
 clear hown
 have H2' := lh (rowC H2.out hb)
 refine z327 ?_
 intro H4' HB'
 clear H2 H4 HB
 have H2 := H2'
 have H4 := H4'
 have HB := HB'
 clear H2' H4' HB' hb
 go_upto_region 2 with fail
 refine z295 ?_
 intro w3 hb h6 g6 hg6
 rw [hg6] at h6 l4'
 try rw [hg6]
 have hn46 : g4 ≠ g6 := by omega
 have hn26 : g2 ≠ g6 := by omega
 have HL6 := lh (show w.heap.size ≤ g6 by have := HLE.out; omega)
 clear hg6 l4'
 have H6 := lh h6
 clear h6
 have H2' := lh (rowC H2.out hb)
 refine z327 ?_
 intro H4' HB'
 have HW' := lh (ownsRow_below HW.out hb)
 clear H2 H4 HB HW
 have H2 := H2'
 have H4 := H4'
 have HB := HB'
 have HW := HW'
 clear H2' H4' HB' HW' hb
 refine z298 ?_
 intro e0 e1 e2 e3 e4 e5 e6 e7
 go_wp2_with fail
 refine (l28Good_any A n c lo hi f I H S P D Q z w3 (HS.out.below HB.out) hn hnc hD hQ).mono ?_
 obtain ⟨gc, hgc⟩ : ∃ b, (goodWorks f n I H S P && logOk D Q z) = b := ⟨_, rfl⟩
 rw [hgc]
 have HGC := lh hgc
 clear hgc
 rintro e w4 ⟨rfl, hb⟩
 clear e0 e1 e2 e3 e4 e5 e6 e7
 have H2' := lh (rowC H2.out hb)
 refine z338 ?_
 intro H4' H6' HB'
 have HW' := lh (ownsRow_below HW.out hb)
 clear H2 H4 H6 HB HW
 have H2 := H2'
 have H4 := H4'
 have H6 := H6'
 have HB := HB'
 have HW := HW'
 clear H2' H4' H6' HB' HW' hb
 cases gc with
 | false =>
  as_aux_lemma =>
   have h4 := H4.out
   obtain ⟨e0, e1, e2, e3, e4, e5, e6, e7⟩ := cells8 H6.out
   go_upto_region 3 with fail
   go_wp2_with (refine z281 ?_; refine z329 ?_)
   refine z308 ?_
   intro wz hh hgw HHR HBZ
   have HOZ := lh (own_other HW.out h4 (by decide) hgw)
   clear hh hgw
   go_wp2_with ((refine z66 ?_); refine z345 ?_; exact exec_no (by rw [xcGo, HGC.out]; rfl) (by rw [xcR, HGC.out]; rfl) hc' HOZ.out HBZ.out)
 | true =>
  go_wp2_with fail
  refine (l27Good_any s ⟨#[]⟩ (by omega) (by simp [ByteArray.size]) w4).mono ?_
  obtain ⟨gr, hgr⟩ : ∃ b, goodRec s ⟨#[]⟩ = b := ⟨_, rfl⟩
  rw [hgr]
  have HGR := lh hgr
  clear hgr
  rintro e w5 ⟨rfl, hb⟩
  have H2' := lh (rowC H2.out hb)
  refine z338 ?_
  intro H4' H6' HB'
  have HW' := lh (ownsRow_below HW.out hb)
  clear H2 H4 H6 HB HW
  have H2 := H2'
  have H4 := H4'
  have H6 := H6'
  have HB := HB'
  have HW := HW'
  clear H2' H4' H6' HB' HW' hb
  cases gr with
  | false =>
   as_aux_lemma =>
    have h4 := H4.out
    obtain ⟨e0, e1, e2, e3, e4, e5, e6, e7⟩ := cells8 H6.out
    go_upto_region 5 with fail
    go_wp2_with (refine z281 ?_; refine z329 ?_)
    refine z308 ?_
    intro wz hh hgw HHR HBZ
    have HOZ := lh (own_other HW.out h4 (by decide) hgw)
    clear hh hgw
    go_wp2_with ((refine z66 ?_); refine z345 ?_; exact exec_no (by rw [xcGo, HGC.out, HGR.out]; rfl) (by rw [xcR, HGC.out, HGR.out]; rfl) hc' HOZ.out HBZ.out)
  | true =>
   have h2 := H2.out
   obtain ⟨d0, d1, d2, d3, d4, d5, d6, d7⟩ := cells8 h2
   clear h2 d0 d1 d2 d3 d4 d5 d6
   by_cases hz60 : z = 60
   ·have hzb : (z == 60) = true := by simp [hz60]
    have HZ6 := lh hz60
    clear hz60
    have h4 := H4.out
    obtain ⟨e0, e1, e2, e3, e4, e5, e6, e7⟩ := cells8 H6.out
    go_upto_region 7 with fail
    go_wp2_with (refine z281 ?_; refine z329 ?_)
    refine z308 ?_
    intro wz hh hgw HHR HBZ
    have HOZ := lh (own_other HW.out h4 (by decide) hgw)
    clear hh hgw
    go_wp2_with ((refine z66 ?_); refine z345 ?_; exact z333)
   ·have hzb : (z == 60) = false := by simp [hz60]
    have HGO : Hid (xcGo f n I H S P D Q z s = true) := by show _ = _; rw [xcGo, HGC.out, HGR.out]; simp [hz60]
    have HZ6 := lh hz60
    clear hz60
    have HGW : Hid (goodWorks (lf (cellsL f n)) n I H S P = true) := by
     show _ = _
     rw [good_cells]
     have h := HGC.out
     rw [Bool.and_eq_true] at h
     exact h.1
    obtain ⟨e0, e1, e2, e3, e4, e5, e6, e7⟩ := cells8 H6.out
    go_upto_region 8 with fail
    go_wp2_with fail
    refine (l28Run_any s hsz w.heap.size A' n c' (cellsL f n) I H S P D Q z w5 HW.out HB.out.size hc' HGW.out).mono ?_
    rintro e w6 hp
    obtain ⟨A1, c1, n1, L1, I1, H1, S1, P1, r0, HXE, rfl, hc1, hown1, hb⟩ := rf_xc HGO.out hp
    clear hp e0 e1 e2 e3 e4 e5 e6 e7 d7 hzb
    have HO1 := lh hown1
    clear hown1 HW
    have H2' := lh (rowC H2.out hb)
    refine z338 ?_
    intro H4' H6' HB'
    clear H2 H4 H6 HB
    have H2 := H2'
    have H4 := H4'
    have H6 := H6'
    have HB := HB'
    clear H2' H4' H6' HB' hb
    go_upto_region 9 with fail
    refine z161 ?_
    intro w7 hw7
    have hb := ba hw7
    have h7 := an hw7
    clear hw7
    obtain ⟨g7, hg7⟩ : ∃ q, w6.heap.size = q := ⟨_, rfl⟩
    rw [hg7] at h7
    try rw [hg7]
    clear hg7
    have H2' := lh (rowC H2.out hb)
    refine z338 ?_
    intro H4' H6' HB'
    have HO1' := lh (ownsRow_below HO1.out hb)
    clear H2 H4 H6 HB HO1
    have H2 := H2'
    have H4 := H4'
    have H6 := H6'
    have HB := HB'
    have HO1 := HO1'
    clear H2' H4' H6' HB' HO1' hb
    obtain ⟨e0, e1, e2, e3, e4, e5, e6, e7⟩ := cells8 h7
    have HNK := lh (fun e : A1 = none => own_nilK HO1.out e)
    have HSL := lh (own_sl HO1.out)
    have hn1 : n1 ≤ 1048576 := xc_len HXE.out HGC.out hn
    go_wp2_with fail
    refine (l28Own_any A1 n1 c1 _ _ (lf L1) I1 H1 S1 P1 D Q z w7 HSL.out hn1 hc1 HNK.out).mono ?_
    rintro e w8 ⟨A2, c2, rfl, hc2, hown2, hb⟩
    have HEL : Hid (cellsL (lf L1) n1 = L1) := cellsL_lf (by simpa using HO1.out.1)
    rw [HEL.out] at hown2
    have HO2 := lh (ownsRow_monoP hown2 HB.out.size)
    clear hown2 HO1 HNK HSL e0 e1 e2 e3 e4 e5 e6 e7 h7
    have H2' := lh (rowC H2.out hb)
    refine z338 ?_
    intro H4' H6' HB'
    clear H2 H4 H6 HB
    have H2 := H2'
    have H4 := H4'
    have H6 := H6'
    have HB := HB'
    clear H2' H4' H6' HB' hb
    have h6 := H6.out
    go_wp2_with (refine z281 ?_; refine wpList_store2 g6 0 (.agg (cB A2 n1 c2 I1 H1 S1 P1 D Q z)) 35 _ (cB A2 n1 c2 I1 H1 S1 P1 D Q z) rfl rfl infoConE h6 (Nat.le_refl 8) (by exact z143) rfl ?_)
    intro w9 hh hgw
    have H4' := lh (rowGr H4.out hgw hn46)
    have H2' := lh (rowGr H2.out hgw hn26)
    have HO2' := lh (own_other HO2.out h6 (by decide) hgw)
    have HB' := lh (HB.out.grown hgw HB.out.size (fun k hk => by cases hk; exact HL6.out))
    clear hgw h6 H6 H4 H2 HO2 HB
    have H6 := lh hh
    have H4 := H4'
    have H2 := H2'
    have HO2 := HO2'
    have HB := HB'
    clear hh H4' H2' HO2' HB'
    go_upto_region 10 with fail
    simp only [Act.put]
    go_cut [38] from 9 (fun sx wx => sx = .bool (decide (200 < r0.size)) ∧ wx = w9)
    case first =>
     exact z339
    case rest =>
    obtain ⟨rfl, hwc⟩ := hcut
    rw [hwc]
    clear hwc wc
    go_upto_if 38 with fail
    go_cut [8] from 9 (fun sx wx => sx = .string (longV r0) ∧ wx = w9)
    case first =>
     exact z340
    case rest =>
    obtain ⟨rfl, hwc⟩ := hcut
    rw [hwc]
    clear hwc wc
    have hTs : (longV r0).size ≤ 200 := longV_size _
    generalize hxt : longV r0 = rt at hTs ⊢
    have HXT := lh hxt
    clear hxt
    have h2 := H2.out
    obtain ⟨d0, d1, d2, d3, d4, d5, d6, d7⟩ := cells8 h2
    clear h2 d0 d1 d2 d3 d4
    have hss : s.size ≤ 160 := by
     have h := (goodRec_facts HGR.out).2.1
     exact h
    go_wp2_with fail
    refine (sAppendRecord_any D Q z s rt hD hQ hsz (by omega) w9).mono ?_
    rintro e wa ⟨rfl, hb⟩
    clear d5 d6 d7
    refine z338 ?_
    intro H4' H6' HB'
    have HO2' := lh (ownsRow_below HO2.out hb)
    clear H4 H6 HB HO2
    have H4 := H4'
    have H6 := H6'
    have HB := HB'
    have HO2 := HO2'
    clear H4' H6' HB' HO2' hb
    have h6 := H6.out
    go_wp2_with (refine z281 ?_; refine wpList_store2 g6 5 (.agg (lV D (apP D Q z s rt) (apZ D Q z s rt))) 35 _ (cB A2 n1 c2 I1 H1 S1 P1 D (apP D Q z s rt) (apZ D Q z s rt)) rfl rfl infoLogE h6 ((by decide : 5 + 3 ≤ 8)) (by exact z143) rfl ?_)
    intro wb hh hgw
    have H6' := lh hh
    have h4 := rowGr H4.out hgw hn46
    have HOW := lh (own_other HO2.out h6 (by decide) hgw)
    have HBW := lh (HB.out.grown hgw HB.out.size (fun k hk => by cases hk; exact HL6.out))
    clear hh hgw h6 H6 H4 HO2 HB
    go_upto_region 13 with fail
    obtain ⟨e0, e1, e2, e3, e4, e5, e6, e7⟩ := cells8 H6'.out
    go_wp2_with (refine z281 ?_; refine wpList_store2 g4 0 (.agg (cB A2 n1 c2 I1 H1 S1 P1 D (apP D Q z s rt) (apZ D Q z s rt))) 35 _ (cB A2 n1 c2 I1 H1 S1 P1 D (apP D Q z s rt) (apZ D Q z s rt)) rfl rfl infoConE h4 (Nat.le_refl 8) (by exact z143) rfl ?_)
    refine z316 ?_
    intro wz HHR HBZ HOZ
    go_wp2_with ((refine z66 ?_); refine z345 ?_; have hq := exec_end HGO.out HGC.out HGR.out HZ6.out HXE.out HXT.out hc2 HOZ.out HBZ.out; exact hq)
end Go.Proofs.YtpndjhelpoenpaaGreatDoor
namespace Go.Proofs.YtpndjhelpoenpaaGreatDoor
open Go.RowKit
theorem plain_iff (s : ByteArray) : plain s = true ↔ ∀ c ∈ s.data.toList, plainB c = true := by
 unfold plain
 rw [allTo_iff]
 constructor
 ·intro h c hm
  obtain ⟨k, hk, e⟩ := List.getElem_of_mem hm
  have h1 := h k (by rw [Array.length_toList] at hk; exact hk)
  unfold byteAt at h1
  rw [getD_lt hk, e] at h1
  exact h1
 ·intro h k hk
  have h' : k < s.data.toList.length := by rw [Array.length_toList]; exact hk
  unfold byteAt
  rw [getD_lt h']
  exact h _ (List.getElem_mem h')
theorem plain_app {a b : ByteArray} (ha : plain a = true) (hb : plain b = true) : plain (a ++ b) = true := by
 rw [plain_iff] at ha hb ⊢
 intro c hc
 rw [app_list, List.mem_append] at hc
 rcases hc with h | h
 ·exact ha c h
 ·exact hb c h
theorem plain_nat (k : Nat) : plain (numB (k : Int)) = true := by
 rw [plain_iff]
 intro c hc
 have h := numB_byte (Int.natCast_nonneg k) hc
 simp only [plainB, decide_eq_true_eq]
 omega
theorem plain_num (n : Int) : plain (numB n) = true := by
 by_cases h : 0 ≤ n
 ·obtain ⟨k, rfl⟩ : ∃ k : Nat, n = (k : Int) := ⟨n.toNat, by omega⟩
  exact plain_nat k
 ·obtain ⟨m, hm, rfl⟩ : ∃ m : Nat, 1 ≤ m ∧ n = -(m : Int) := ⟨n.natAbs, by omega, by omega⟩
  rw [numB_neg hm]
  exact plain_app (by decide) (plain_nat m)
theorem plain_pan (h wt s : Int) : plain (panB h wt s) = true := by
 unfold panB brineB
 exact plain_app (plain_app (plain_app (plain_app (plain_app (by decide) (plain_num _)) (by decide)) (plain_num _)) (by decide)) (plain_num _)
theorem plain_join (g : Nat → Int) : ∀ k, plain (joinK g k) = true
 | 0 => (by decide : plain ⟨#[]⟩ = true)
 | 1 => plain_num _
 | k + 2 => plain_app (plain_app (plain_join g (k + 1)) (by decide)) (plain_num _)
theorem plain_list (g : Nat → Int) (n : Nat) : plain (listB g n) = true := by
 unfold listB
 split
 ·decide
 ·exact plain_join g n
theorem plain_rp (f : Nat → Int) (n : Nat) (I H S P c x0 x1 : Int) : plain (rpR f n I H S P c x0 x1) = true := by
 unfold rpR panX
 by_cases h0 : c = 3
 ·rw [if_pos h0]
  exact plain_pan _ _ _
 rw [if_neg h0]
 by_cases h1 : c = 5 ∨ c = 9
 ·rw [if_pos h1]
  exact plain_num _
 rw [if_neg h1]
 by_cases h2 : c = 6
 ·rw [if_pos h2]
  exact plain_num _
 rw [if_neg h2]
 by_cases h3 : c = 7
 ·rw [if_pos h3]
  exact plain_num _
 rw [if_neg h3]
 by_cases h4 : c = 8
 ·rw [if_pos h4]
  exact plain_num _
 rw [if_neg h4]
 by_cases h5 : c = 10
 ·rw [if_pos h5]
  exact plain_num _
 rw [if_neg h5]
 by_cases h6 : c = 11
 ·rw [if_pos h6]
  exact plain_list _ _
 rw [if_neg h6]
 by_cases h7 : c = 12
 ·rw [if_pos h7]
  exact plain_list _ _
 rw [if_neg h7]
 by_cases h8 : c = 13
 ·rw [if_pos h8]
  exact plain_num _
 rw [if_neg h8]
 exact plain_pan _ _ _
theorem plain_ex (f : Nat → Int) (n : Nat) (I H S P c x0 x1 x2 : Int) : plain (exR f n I H S P c x0 x1 x2) = true := by
 unfold exR
 split
 ·exact plain_rp _ _ _ _ _ _ _ _ _
 ·decide
theorem plain_long {r : ByteArray} (h : plain r = true) : plain (longV r) = true := by
 unfold longV
 by_cases hl : 200 < r.size
 ·rw [if_pos hl]
  decide
 ·rw [if_neg hl]
  exact h
theorem plain_xcT (f : Nat → Int) (n : Nat) (I H S P : Int) (s : ByteArray) : plain (xcT f n I H S P s) = true := by
 unfold xcT
 apply plain_long
 split
 ·exact plain_ex _ _ _ _ _ _ _ _ _ _
 ·decide
section
variable {f : Nat → Int} {n : Nat} {I H S P : Int} {D Q : ByteArray} {z : Int} {s : ByteArray}
theorem go_facts (h : xcGo f n I H S P D Q z s = true) : goodWorks f n I H S P = true ∧ logOk D Q z = true ∧ goodRec s ⟨#[]⟩ = true ∧ z ≠ 60 := by
 rw [xcGo, Bool.and_eq_true, Bool.and_eq_true, Bool.and_eq_true, decide_eq_true_eq] at h
 exact ⟨h.1.1, h.1.2, h.2.1, h.2.2⟩
theorem go_rec (h : xcGo f n I H S P D Q z s = true) : goodRec s (xcT f n I H S P s) = true := by
 obtain ⟨h1, h2, _, h4, _, h6⟩ := goodRec_facts (go_facts h).2.2.1
 have hs : (xcT f n I H S P s).size ≤ 200 := longV_size _
 simp only [goodRec, Bool.and_eq_true, decide_eq_true_eq]
 exact ⟨⟨⟨⟨⟨h1, h2⟩, hs⟩, h4⟩, plain_xcT _ _ _ _ _ _ _⟩, h6⟩
theorem go_apT (h : xcGo f n I H S P D Q z s = true) : apT D Q z s (xcT f n I H S P s) = true := by
 obtain ⟨_, h2, _, h4⟩ := go_facts h
 rw [apT, h2, go_rec h]
 simp [h4]
theorem go_Q (h : xcGo f n I H S P D Q z s = true) : xcQ f n I H S P D Q z s = Q ++ lineB z s (xcT f n I H S P s) := by
 rw [xcQ, if_pos h, apP, if_pos (go_apT h)]
theorem go_Z (h : xcGo f n I H S P D Q z s = true) : xcZ f n I H S P D Q z s = z + 1 := by
 rw [xcZ, if_pos h, apZ, if_pos (go_apT h)]
theorem go_R (h : xcGo f n I H S P D Q z s = true) : xcR f n I H S P D Q z s = xcT f n I H S P s := by
 obtain ⟨h1, h2, h3, h4⟩ := go_facts h
 rw [xcR, if_pos (by rw [h1, h2]; rfl), if_pos h3, if_neg h4]
theorem go_log (h : xcGo f n I H S P D Q z s = true) : logOk D (xcQ f n I H S P D Q z s) (xcZ f n I H S P D Q z s) = true := by
 rw [go_Q h, go_Z h]
 exact app_ok (go_facts h).2.1 (go_rec h) (go_facts h).2.2.2
theorem go_read (h : xcGo f n I H S P D Q z s = true) : (readN (D ++ xcQ f n I H S P D Q z s) 60).1 = (readN (D ++ Q) 60).1 ++ [(s, xcR f n I H S P D Q z s)] := by
 rw [go_Q h, go_R h, app_read (go_facts h).2.1 (go_rec h) (go_facts h).2.2.2]
theorem ex_good {c x0 x1 x2 : Int} (hg : goodWorks f n I H S P = true) : goodWorks (lf (exL f n I H S P c x0 x1 x2)) (exN f n I H S P c x0 x1 x2) (exI f n I H S P c x0 x1 x2) (exH f n I H S P c x0 x1 x2) (exS f n I H S P c x0 x1 x2) (exP f n I H S P c x0 x1 x2) = true := by
 unfold exL exN exI exH exS exP
 cases h : exGo f n I H S P c x0 x1 x2 with
 | false =>
  show goodWorks (lf (cellsL f n)) n I H S P = true
  rw [good_cells]
  exact hg
 | true =>
  have h' := h
  unfold exGo at h'
  rw [Bool.and_eq_true] at h'
  exact st_good h'.2
theorem xc_good (hg : goodWorks f n I H S P = true) : goodWorks (lf (xcL f n I H S P D Q z s)) (xcN f n I H S P D Q z s) (xcI f n I H S P D Q z s) (xcH f n I H S P D Q z s) (xcS f n I H S P D Q z s) (xcP f n I H S P D Q z s) = true := by
 unfold xcL xcN xcI xcH xcS xcP
 cases h : xcUp f n I H S P D Q z s with
 | false =>
  show goodWorks (lf (cellsL f n)) n I H S P = true
  rw [good_cells]
  exact hg
 | true => exact ex_good (by rw [good_cells]; exact hg)
theorem no_keep (h : xcGo f n I H S P D Q z s = false) : xcL f n I H S P D Q z s = cellsL f n ∧ xcN f n I H S P D Q z s = n ∧ xcI f n I H S P D Q z s = I ∧ xcH f n I H S P D Q z s = H ∧ xcS f n I H S P D Q z s = S ∧ xcP f n I H S P D Q z s = P ∧ xcQ f n I H S P D Q z s = Q ∧ xcZ f n I H S P D Q z s = z := by
 have hup : xcUp f n I H S P D Q z s = false := by rw [xcUp, h]; rfl
 refine ⟨?_, ?_, ?_, ?_, ?_, ?_, ?_, ?_⟩
 ·rw [xcL, hup]; rfl
 ·rw [xcN, hup]; rfl
 ·rw [xcI, hup]; rfl
 ·rw [xcH, hup]; rfl
 ·rw [xcS, hup]; rfl
 ·rw [xcP, hup]; rfl
 ·rw [xcQ, h]; rfl
 ·rw [xcZ, h]; rfl
theorem no_says (h : xcGo f n I H S P D Q z s = false) : xcR f n I H S P D Q z s = ⟨#[110, 111]⟩ ∨ xcR f n I H S P D Q z s = ⟨#[98, 97, 100]⟩ ∨ xcR f n I H S P D Q z s = ⟨#[102, 117, 108, 108]⟩ := by
 unfold xcR
 split
 ·rename_i h1
  split
  ·rename_i h2
   split
   ·exact Or.inr (Or.inr rfl)
   ·rename_i h3
    rw [xcGo, h1, h2] at h
    simp [h3] at h
  ·exact Or.inr (Or.inl rfl)
 ·exact Or.inl rfl
end
attribute [local go_sem ↓] Go.wp_at_zero Go.wp_at_succ
def mkGo : Nat → Nat → BA → BA
 | 0, _, o => o
 | m + 1, k, o => if k = 0 then o else mkGo m (k / 10) ((⟨#[UInt8.ofNat (48 + k % 10)]⟩ : BA) ++ o)
def mkT (k : Int) : BA := (⟨#[109]⟩ : BA) ++ mkGo 20 k.toNat ⟨#[]⟩
def markedT (p : Nat) (F : Nat → BA) : Nat → BA := fun j => if j < p then mkT (1 + (j : Int)) else F j
end Go.Proofs.YtpndjhelpoenpaaGreatDoor
namespace Go.Proofs.YtpndjhelpoenpaaGreatDoor
open Go.RowKit
attribute [local go_sem ↓] Go.wp_at_zero Go.wp_at_succ
def flatR : List (BA × BA) → List BA
 | [] => []
 | e :: L => e.1 :: e.2 :: flatR L
theorem recCells_flat (L : List (BA × BA)) : recCells L = (flatR L).map Value.string := by
 induction L with
 | nil => rfl
 | cons e L ih => simp [recCells, flatR, ih]
def lrN (D P : BA) (z : Int) : Nat := if logOk D P z then (readN (D ++ P) 60).1.length else 0
def lrF (D P : BA) (j : Nat) : BA := (flatR (readN (D ++ P) 60).1).getD j ⟨#[]⟩
theorem lrN_le (D P : BA) (z : Int) : lrN D P z ≤ 60 := by
 unfold lrN
 split
 ·exact readN_len _ _
 ·omega
theorem own_rec {w : World} {base : Nat} {v : Value} {D P : BA} (h : w.ownsRow base 70 2 v (readN (D ++ P) 60).1.length (recCells (readN (D ++ P) 60).1)) :
  ∃ A c, v = .slice A (readN (D ++ P) 60).1.length c ∧ (readN (D ++ P) 60).1.length ≤ c ∧ c ≤ maxLen ∧ OwnT w base w.heap.size 70 2 A (readN (D ++ P) 60).1.length (lrF D P) := by
 rw [recCells_flat] at h
 exact ownT_of_row h
theorem LogRecords_any (D P : BA) (z : Int) (hD : D.size ≤ 1048576) (hP : P.size ≤ 1048576) (w : World) (ht : Tab w) (hm : Mx w) :
  Calls Tryz.prog 39 #[.agg (lV D P z)] w fun e w' => ∃ A c, e = .returned (.tuple #[.slice A (lrN D P z) c, .bool (logOk D P z)]) ∧ lrN D P z ≤ c ∧ c ≤ maxLen ∧ OwnT w' w.heap.size w'.heap.size 70 2 A (lrN D P z) (lrF D P) ∧ bW w w' := by
 refine z79 ?_
 intro HAL
 have HC := lh (recordsOf_any D P z hD hP (w.alloc (.cells (lV D P z) 33)) (ht.below HAL) (hm.below HAL))
 cases hk : logOk D P z with
 | false =>
  have e1 : lrN D P z = 0 := by simp [lrN, hk]
  rw [hk] at HC
  rw [e1]
  go_enter Tryz.func39, Tryz.ntmps39
  go_wp2_with fail
  refine HC.out.mono ?_
  rintro e w1 ⟨v, rfl, _, hb1⟩
  have B1 := HAL.trans (hb1.mono (by simp))
  clear HC HAL e1 hk ht hm hD hP
  go_wp2_with fail
  go_ret2
  exact ⟨none, 0, rfl, Nat.le_refl _, by unfold maxLen; omega, OwnT.none_ nL, B1⟩
 | true =>
  have e1 : lrN D P z = (readN (D ++ P) 60).1.length := by simp [lrN, hk]
  rw [hk] at HC
  rw [e1]
  go_enter Tryz.func39, Tryz.ntmps39
  go_wp2_with fail
  refine HC.out.mono ?_
  rintro e w1 ⟨v, rfl, hown, hb1⟩
  have B1 := HAL.trans (hb1.mono (by simp))
  obtain ⟨A, c, rfl, hc1, hc2, ho⟩ := own_rec hown
  have HO := lh (ho.lo_le (lo' := w.heap.size) (by simp))
  clear HC HAL e1 hk ht hm hD hP hown ho
  go_wp2_with fail
  go_ret2
  exact ⟨A, c, rfl, hc1, hc2, HO.out, B1⟩
end Go.Proofs.YtpndjhelpoenpaaGreatDoor
namespace Go.Proofs.YtpndjhelpoenpaaGreatDoor
open Go.RowKit
theorem flatR_at {l : List (ByteArray × ByteArray)} {k : Nat} (hk : k < l.length) : (flatR l).getD (k * 2) ⟨#[]⟩ = l[k].1 ∧ (flatR l).getD (k * 2 + 1) ⟨#[]⟩ = l[k].2 := by
 induction l generalizing k with
 | nil => simp at hk
 | cons e l ih =>
  cases k with
  | zero => simp [flatR]
  | succ k =>
   have h := ih (k := k) (by simpa using hk)
   have e1 : (k + 1) * 2 = k * 2 + 2 := by omega
   rw [e1]
   simpa [flatR] using h
theorem cons_last {D Q s r : ByteArray} {l : List (ByteArray × ByteArray)} (h : (readN (D ++ Q) 60).1 = l ++ [(s, r)]) : lrF D Q (l.length * 2) = s ∧ lrF D Q (l.length * 2 + 1) = r := by
 unfold lrF
 rw [h]
 have hk : l.length < (l ++ [(s, r)]).length := by simp
 have h2 := flatR_at hk
 have e : (l ++ [(s, r)])[l.length] = (s, r) := by simp
 rw [e] at h2
 exact h2
theorem log_cnt {D Q : ByteArray} {z : Int} (h : logOk D Q z = true) : z = ((readN (D ++ Q) 60).1.length : Nat) := by
 simp only [logOk, Bool.and_eq_true, decide_eq_true_eq] at h
 exact h.2
theorem cons_yes {f : Nat → Int} {n : Nat} {I H S P : Int} {D Q : ByteArray} {z : Int} {s : ByteArray} (h : xcGo f n I H S P D Q z s = true) :
  ∃ k : Nat, k ≤ 60 ∧ z = (k : Int) ∧ xcZ f n I H S P D Q z s = (k : Int) + 1 ∧ lrN D (xcQ f n I H S P D Q z s) (xcZ f n I H S P D Q z s) = k + 1 ∧ lrF D (xcQ f n I H S P D Q z s) (k * 2) = s ∧ lrF D (xcQ f n I H S P D Q z s) (k * 2 + 1) = xcR f n I H S P D Q z s ∧
   goodWorks (lf (xcL f n I H S P D Q z s)) (xcN f n I H S P D Q z s) (xcI f n I H S P D Q z s) (xcH f n I H S P D Q z s) (xcS f n I H S P D Q z s) (xcP f n I H S P D Q z s) = true ∧ logOk D (xcQ f n I H S P D Q z s) (xcZ f n I H S P D Q z s) = true := by
 have hr := go_read h
 have hl := go_log h
 have hz := log_cnt (go_facts h).2.1
 have hc := cons_last hr
 have hn : lrN D (xcQ f n I H S P D Q z s) (xcZ f n I H S P D Q z s) = (readN (D ++ Q) 60).1.length + 1 := by
  rw [lrN, if_pos hl, hr]
  simp
 have hlt := lrN_le D (xcQ f n I H S P D Q z s) (xcZ f n I H S P D Q z s)
 refine ⟨(readN (D ++ Q) 60).1.length, by omega, hz, ?_, hn, hc.1, hc.2, xc_good (go_facts h).1, hl⟩
 rw [go_Z h]
 omega
def hasB (f : Nat → Int) (n : Nat) (x : Int) : Bool := (List.range n).any fun j => f j == x
theorem vBig_any (A : Option Addr) (n c : Nat) (w : World) :
  Calls Tryz.prog 25 #[.slice A n c] w fun e w' => e = .returned (.bool (decide (65536 < n))) ∧ w' = w := by
 by_cases h : 65536 < n
 ·have hi : (65536 : Int) < (n : Int) := by omega
  go_enter Tryz.func25, Tryz.ntmps25
  go_wp2
  go_ret
  exact ⟨by simp [h], rfl⟩
 ·have hi : ¬ ((65536 : Int) < (n : Int)) := by omega
  go_enter Tryz.func25, Tryz.ntmps25
  go_wp2
  go_ret
  exact ⟨by simp [h], rfl⟩
theorem vPans_same (A B : Option Addr) (n c d lo hi lo' hi' : Nat) (f : Nat → Int) (w : World) (hs : Sl w lo hi 4 A n f) (ht : Sl w lo' hi' 4 B n f) (hn : n ≤ 1048576) :
  Calls Tryz.prog 115 #[.slice A n c, .slice B n d] w fun e w' => e = .returned (.bool true) ∧ bW w w' := by
 have HS : Hid (Sl w lo hi 4 A n f) := hs
 have HT : Hid (Sl w lo' hi' 4 B n f) := ht
 clear hs ht
 go_enter Tryz.func115, Tryz.ntmps115
 go_wp2
 go_loopw [5] (fun i wr => ∃ k : Nat, k ≤ n ∧ i = .int .i64 k ∧ bW w wr) (fun i _ => n - (intOf i).toNat)
 case atStart => exact z121
 case round =>
  obtain ⟨k, hk, rfl, hbel⟩ := hrel
  by_cases hlt : k < n
  ·obtain ⟨b, off, rfl, hb, HC⟩ := HS.out.open_ hbel (by omega)
   obtain ⟨b', off', rfl, hb', HD⟩ := HT.out.open_ hbel (by omega)
   obtain ⟨c0, c1, c2, c3⟩ := cell4 HC hlt
   obtain ⟨d0, d1, d2, d3⟩ := cell4 HD hlt
   clear HC HD HS HT
   refine z236 ?_
   intro hk0
   have hk1 : (k : Int) < (n : Int) := by omega
   go_wp2
   go_quiet (fail)
   go_wp2
   go_roundw
   case rel => exact ⟨k + 1, by omega, by go_num, below_drewN hbel _⟩
   case measure => simp [intOf]; omega
  exact z237
theorem vWorks_same (A B : Option Addr) (n c d lo hi lo' hi' : Nat) (f : Nat → Int) (I H S P : Int) (w : World) (hs : Sl w lo hi 4 A n f) (ht : Sl w lo' hi' 4 B n f) (hn : n ≤ 1048576) :
  Calls Tryz.prog 72 #[.agg (wB A n c I H S P), .agg (wB B n d I H S P)] w fun e w' => e = .returned (.bool true) ∧ bW w w' := by
 obtain ⟨hX, h0, h1⟩ := bl2 w (.cells (wB A n c I H S P) 32) (.cells (wB B n d I H S P) 32)
 have HS := lh (hs.below hX)
 have HT := lh (ht.below hX)
 clear hs ht
 go_enter Tryz.func72, Tryz.ntmps72
 go_upto_region 1 with fail
 refine z161 ?_
 intro w1 hw1
 rw [← hw1] at hX h0 h1 HS HT
 clear hw1
 obtain ⟨e0, e1, e2, e3, e4⟩ := cells5 h0
 obtain ⟨u0, u1, u2, u3, u4⟩ := cells5 h1
 go_wp2_with fail
 refine (vPans_same A B n c d lo hi lo' hi' f w1 HS.out HT.out hn).mono ?_
 rintro e w2 ⟨rfl, hb⟩
 have h0 := rowB h0 hb
 have h1 := rowB h1 hb
 have HB := lh (below_of hX hb hX.size)
 clear e0 e1 e2 e3 e4 u0 u1 u2 u3 u4 HS HT hX hb
 obtain ⟨e0, e1, e2, e3, e4⟩ := cells5 h0
 obtain ⟨u0, u1, u2, u3, u4⟩ := cells5 h1
 clear h0 h1
 have i0 : (I == I) = true := by simp
 have i1 : (H == H) = true := by simp
 have i2 : (S == S) = true := by simp
 have i3 : (P == P) = true := by simp
 go_wp2
 go_ret
 exact ⟨rfl, HB.out⟩
theorem vConsole_same (A B : Option Addr) (n c d lo hi lo' hi' : Nat) (f : Nat → Int) (I H S P : Int) (D Q : ByteArray) (z : Int) (w : World) (hs : Sl w lo hi 4 A n f) (ht : Sl w lo' hi' 4 B n f) (hn : n ≤ 1048576) :
  Calls Tryz.prog 33 #[.agg (cB A n c I H S P D Q z), .agg (cB B n d I H S P D Q z)] w fun e w' => e = .returned (.bool true) ∧ bW w w' := by
 obtain ⟨hX, h0, h1⟩ := bl2 w (.cells (cB A n c I H S P D Q z) 35) (.cells (cB B n d I H S P D Q z) 35)
 have HS := lh (hs.below hX)
 have HT := lh (ht.below hX)
 clear hs ht
 go_enter Tryz.func33, Tryz.ntmps33
 go_upto_region 1 with fail
 refine z161 ?_
 intro w1 hw1
 rw [← hw1] at hX h0 h1 HS HT
 clear hw1
 obtain ⟨ga, hga⟩ : ∃ q, w.heap.size = q := ⟨_, rfl⟩
 obtain ⟨gb, hgb⟩ : ∃ q, w.heap.size + 1 = q := ⟨_, rfl⟩
 rw [hga] at h0
 rw [hgb] at h1
 try rw [hgb]
 try rw [hga]
 clear hga hgb
 obtain ⟨e0, e1, e2, e3, e4, e5, e6, e7⟩ := cells8 h0
 obtain ⟨u0, u1, u2, u3, u4, u5, u6, u7⟩ := cells8 h1
 go_wp2_with fail
 refine (vWorks_same A B n c d lo hi lo' hi' f I H S P w1 HS.out HT.out hn).mono ?_
 rintro e w2 ⟨rfl, hb⟩
 have h0 := rowB h0 hb
 have h1 := rowB h1 hb
 have HB := lh (below_of hX hb hX.size)
 clear e0 e1 e2 e3 e4 e5 e6 e7 u0 u1 u2 u3 u4 u5 u6 u7 HS HT hX hb
 obtain ⟨e0, e1, e2, e3, e4, e5, e6, e7⟩ := cells8 h0
 obtain ⟨u0, u1, u2, u3, u4, u5, u6, u7⟩ := cells8 h1
 clear h0 h1
 go_wp2
 go_ret
 exact ⟨rfl, HB.out⟩
end Go.Proofs.YtpndjhelpoenpaaGreatDoor
