/-
  Texts of this claim, merged.
-/
import Derived.Test.YtpndjhelpoenpaaGreatDoorZC27
set_option linter.unusedVariables false
set_option linter.unusedSimpArgs false
set_option maxRecDepth 100000
set_option maxHeartbeats 8000000
namespace Go.Proofs.YtpndjhelpoenpaaGreatDoor
open Go.RowKit
attribute [local go_sem ↓] Go.wp_at_zero Go.wp_at_succ
noncomputable def cR (s : ByteArray) : Int := if allTo (okN (wsV s)) (mV s) then cV s else 0
theorem cmd_3 (u : ByteArray) : cmdN u 3 = (if u = wd3 then 3 else 0 : Int) := by simp [cmdN]
theorem cmd_0 (u : ByteArray) : cmdN u 0 = (if u = wd8 then 8 else if u = wd9 then 9 else if u = wd10 then 10 else if u = wd11 then 11 else if u = wd12 then 12 else 0 : Int) := by simp [cmdN]
theorem cmd_big {u : ByteArray} {m : Nat} (h : 4 ≤ m) : cmdN u m = 0 := by
 have h0 : m ≠ 0 := by omega
 have h1 : m ≠ 1 := by omega
 have h2 : m ≠ 2 := by omega
 have h3 : m ≠ 3 := by omega
 simp [cmdN, h0, h1, h2, h3]
theorem cmd0_go (u : ByteArray) {f : Nat → Int} {n : Nat} {I H S P : Int} : exGo f n I H S P (cmdN u 0) 0 0 0 = false := by
 rw [cmd_0]
 repeat' split
 all_goals rfl
theorem l28Word_any (u : ByteArray) (A : Option Addr) (n c lo hi : Nat) (L : List Int) (I H S P : Int) (w : World) (hs : Sl w lo hi 4 A n (lf L)) (hn : n ≤ 1048576) (hnc : n ≤ c) (hgd : goodWorks (lf L) n I H S P = true) (hLL : cellsL (lf L) n = L) :
  Calls Tryz.prog 84 #[.agg #[.slice A n c, .int .i64 I, .int .i64 H, .int .i64 S, .int .i64 P], .string u] w fun e w' => e = .returned (.string (exR (lf L) n I H S P (cmdN u 0) 0 0 0)) ∧ Below w.heap.size w w' := by
 have hk := good_kilos hgd
 have hI : 0 ≤ I ∧ I ≤ 9223372036854775807 := ⟨hk.1.1, Int.le_trans hk.1.2 (by decide)⟩
 have hH : 0 ≤ H ∧ H ≤ 9223372036854775807 := ⟨hk.2.1.1, Int.le_trans hk.2.1.2 (by decide)⟩
 rw [cmd_0]
 by_cases h8 : u = wd8
 ·rw [if_pos h8, exR_ask (by decide) rfl hLL rfl]
  exact l28Word_8 u h8 A n c lo hi (lf L) I H S P w hs hn hnc hgd hI hH
 rw [if_neg h8]
 by_cases h9 : u = wd9
 ·rw [if_pos h9, exR_ask (by decide) rfl hLL rfl]
  exact l28Word_9 u h9 A n c lo hi (lf L) I H S P w hs hn hnc hgd hI hH
 rw [if_neg h9]
 by_cases h10 : u = wd10
 ·rw [if_pos h10, exR_ask (by decide) rfl hLL rfl]
  exact l28Word_10 u h10 A n c lo hi (lf L) I H S P w hs hn hnc hgd hI hH
 rw [if_neg h10]
 by_cases h11 : u = wd11
 ·rw [if_pos h11, exR_ask (by decide) rfl hLL rfl]
  exact l28Word_11 u h11 A n c lo hi (lf L) I H S P w hs hn hnc hgd hI hH
 rw [if_neg h11]
 by_cases h12 : u = wd12
 ·rw [if_pos h12, exR_ask (by decide) rfl hLL rfl]
  exact l28Word_12 u h12 A n c lo hi (lf L) I H S P w hs hn hnc hgd hI hH
 rw [if_neg h12]
 rw [exR_none rfl]
 exact l28Word_no u h8 h9 h10 h11 h12 A n c lo hi (lf L) I H S P w hs hn hnc hgd
theorem l28Run_any (s : ByteArray) (hss : s.size ≤ 1048576) (base : Nat) (A : Option Addr) (n cp : Nat) (L : List Int) (I H S P : Int) (D Q : ByteArray) (z : Int) (w : World) (hO : w.ownsRow base 97 4 (.slice A n cp) n (L.map (Value.int .i64))) (hbase : base ≤ w.heap.size) (hnc : n ≤ cp) (hg : goodWorks (lf L) n I H S P = true) :
  Calls Tryz.prog 44 #[.agg #[.slice A n cp, .int .i64 I, .int .i64 H, .int .i64 S, .int .i64 P, .string D, .string Q, .int .i64 z], .string s] w (rfPost base L n I H S P D Q z (cR s) (xV s 0) (xV s 1) (xV s 2) w) := by
 have hLl : L.length = n * 4 := by simpa using hO.1
 have HLL := lh (cellsL_lf hLl)
 have hn6 := con_len hg
 clear hLl
 obtain ⟨ws, hws0⟩ : ∃ q, wsV s = q := ⟨_, rfl⟩
 obtain ⟨m, hm0⟩ : ∃ q, mV s = q := ⟨_, rfl⟩
 obtain ⟨cc, hcc⟩ : ∃ q, cR s = q := ⟨_, rfl⟩
 obtain ⟨x0, hx0⟩ : ∃ q, xV s 0 = q := ⟨_, rfl⟩
 obtain ⟨x1, hx1⟩ : ∃ q, xV s 1 = q := ⟨_, rfl⟩
 obtain ⟨x2, hx2⟩ : ∃ q, xV s 2 = q := ⟨_, rfl⟩
 rw [hcc, hx0, hx1, hx2]
 have hml : (wordsV 32 s).length = m + 1 := by rw [← hm0]; exact ws_len s
 have hm4 : m ≤ 4000000 := by have := wordsV_le 32 s; omega
 have hsz : ∀ j, (ws j).size ≤ 4000000 := fun j => by rw [← hws0]; exact Nat.le_trans (wsV_size s j) (by omega)
 have HALLN : Hid (allTo (okN ws) m = false → cc = 0) := fun h => by rw [← hcc, cR, hws0, hm0, h]; rfl
 have HALLY : Hid (allTo (okN ws) m = true → cc = cmdN (ws 0) m) := fun h => by rw [← hcc, cR, cV, hws0, hm0, h]; rfl
 have HX0 : Hid (x0 = (numL ws m).getD 0 0) := by show _ = _; rw [← hx0, xV, hws0, hm0]
 have HX1 : Hid (x1 = (numL ws m).getD 1 0) := by show _ = _; rw [← hx1, xV, hws0, hm0]
 have HX2_ : Hid (x2 = (numL ws m).getD 2 0) := by show _ = _; rw [← hx2, xV, hws0, hm0]
 have HSW : Hid (m = 0 → s = ws 0) := fun h => by
  rw [← hws0, wsV, wordsV_none (by omega)]
  rfl
 have HW56 : Hid (∀ W : World, Calls Tryz.prog 56 #[.string s, .int .u8 32] W fun e w' => ∃ B d, e = .returned (.slice B (m + 1) d) ∧ m + 1 ≤ d ∧ SlT w' W.heap.size w'.heap.size 1 B (m + 1) ws ∧ Below W.heap.size W w') := fun W => by
  refine (l1Words_any s 32 (by omega) W).mono ?_
  rintro e w' ⟨B, d, rfl, hd, hw, hb⟩
  rw [hml] at hd hw
  rw [hml]
  rw [← hws0]
  exact ⟨B, d, rfl, hd, hw, hb⟩
 clear hcc hx0 hx1 hx2 hws0 hm0 hml
 obtain ⟨hX, h2, h4⟩ := bl2 w (.cells #[.slice A n cp, .int .i64 I, .int .i64 H, .int .i64 S, .int .i64 P, .string D, .string Q, .int .i64 z] 35) (.cells #[.slice none 0 0, .int .i64 0, .int .i64 0, .int .i64 0, .int .i64 0, .string ⟨#[]⟩, .string ⟨#[]⟩, .int .i64 0] 35)
 go_enter Tryz.func44, Tryz.ntmps44
 go_upto_region 1 with fail
 refine name_wp ?_
 intro w1 hw1
 rw [← hw1] at hX h2 h4
 clear hw1
 obtain ⟨g2, hg2⟩ : ∃ q, w.heap.size = q := ⟨_, rfl⟩
 rw [hg2] at h2 h4
 try rw [hg2]
 obtain ⟨g4, hg4⟩ : ∃ q, g2 + 1 = q := ⟨_, rfl⟩
 rw [hg4] at h4
 try rw [hg4]
 have HLE := lh (show w.heap.size ≤ g4 by omega)
 have hn24 : g2 ≠ g4 := by omega
 have HO0 := lh (ownsRow_below hO hX)
 have HX := lh hX
 have H20 := lh h2
 have H40 := lh h4
 have hb1 := Nat.le_trans hbase hX.size
 have l4 := (Array.getElem?_eq_some_iff.1 h4).1
 clear hO hX h2 h4 hbase
 go_wp2_with fail
 refine (HW56.out w1).mono ?_
 rintro e w2 ⟨Bw, d, rfl, hmd, hsw, hb⟩
 have HO := lh (ownsRow_below HO0.out hb)
 have H2 := lh (rowC H20.out hb)
 have H4 := lh (rowC H40.out hb)
 have HX2 := lh (HX.out.trans (hb.mono HX.out.size))
 have hb2 : base ≤ w2.heap.size := Nat.le_trans hb1 hb.size
 clear HO0 H20 H40 HX HW56 hb hb1
 obtain ⟨bw, ow, eB, hlo, hbw, hcw⟩ := hsw.here (by omega)
 have hwg : bw ≠ g4 := by omega
 have hbw := Nat.lt_of_lt_of_le hbw hsw.hi_le
 subst eB
 have HC := lh hcw
 clear hcw hsw hlo l4
 go_wp2_with fail
 go_loopw [7, 8] (fun v kv wr => ∃ j : Nat, j ≤ m ∧ kv = .int .i64 ((j + 1 : Nat) : Int) ∧ wr.ownsRow w2.heap.size 3 1 v j ((numL ws j).map (Value.int .i64)) ∧ Hid (allTo (okN ws) j = true) ∧ Below w2.heap.size w2 wr) (fun _ kv _ => m + 1 - (intOf kv).toNat)
 case atStart => exact ⟨0, Nat.zero_le _, rfl, World.ownsRow_made w2 #[] 0 (Nat.le_refl _) (by unfold maxLen; omega) rfl, by show _ = _; rfl, (Below.refl _ w2).alloc (Nat.le_refl _) _⟩
 case round =>
  obtain ⟨j, hj, rfl, hv, hok, hB⟩ := hrel
  have HV := lh hv
  clear hv
  have hjl : (numL ws j).length = j := numL_len ws j
  by_cases hlt : j < m
  ·have hki : ((j + 1 : Nat) : Int) < ((m + 1 : Nat) : Int) := by omega
   have hk0 : (0 : Int) ≤ ((j + 1 : Nat) : Int) := by omega
   have d0 : wr.cell? ⟨bw, ow + (j + 1), none⟩ = some (.string (ws (j + 1))) := (hB.cell (p := ⟨bw, ow + (j + 1), none⟩) hbw).trans (HC.out (j + 1) (by omega))
   have HPI := sParseInt_any (ws (j + 1)) (hsz _) wr
   cases hp : parseV (ws (j + 1)) with
   | none =>
    rw [hp] at HPI
    have HPP := lh HPI
    have HC0 : Hid (cc = 0) := HALLN.out (allTo_false (p := okN ws) hlt (by simp [okN, hp]))
    have HGO : Hid (exGo (lf L) n I H S P cc x0 x1 x2 = false) := by show _ = _; rw [HC0.out]; rfl
    have HER : Hid (exR (lf L) n I H S P cc x0 x1 x2 = ⟨#[63]⟩) := by show _ = _; rw [HC0.out]; exact exR_none rfl
    clear HC0
    have HB := lh hB
    clear hp HPI hB
    go_wp2_with fail
    refine HPP.out.mono ?_
    rintro e w3 ⟨rfl, hb⟩
    have hB := HB.out.trans (hb.mono HB.out.size)
    clear hb d0 HB HPP
    have h2 := rowC H2.out hB
    have h4 := rowC H4.out hB
    obtain ⟨e0, e1, e2, e3, e4, e5, e6, e7⟩ := cells8 h2
    have hBW := HX2.out.trans (hB.mono HX2.out.size)
    have hOW := ownsRow_below HO.out hB
    have HBW := lh hBW
    have HOW := lh hOW
    clear h2 hB hBW hOW
    go_upto_region 8 with fail
    go_wp2_with ((with_reducible refine wpList_isStore ?_); refine wL0 g4 #[.slice A n cp, .int .i64 I, .int .i64 H, .int .i64 S, .int .i64 P, .string D, .string Q, .int .i64 z] 35 infoConE h4 ?_)
    intro wz hh hgw
    have HHR := lh hh
    have HBZ := lh (HBW.out.grown hgw HBW.out.size (fun k hk => by cases hk; exact HLE.out))
    have HOZ := lh (own_other HOW.out h4 (by decide) hgw)
    clear hh hgw
    go_wp2_with ((try simp only [Exit.inBlock, Exit.then]); refine ret_cell2 Tryz.results44 rfl rfl Tryz.underlying35 HHR.out infoConE rfl ?_; have hq := rf_no (D := D) (Q := Q) (z := z) (x0 := x0) (x1 := x1) (x2 := x2) (c := cc) HGO.out HER.out HLL.out hnc HOZ.out HBZ.out; exact hq)
   | some v =>
    rw [hp] at HPI
    have HPP := lh HPI
    have HNX := lh (numL_next (ws := ws) (j := j) hp)
    have HOK := lh (allTo_succ (p := okN ws) hok.out (by simp [okN, hp]))
    have HB := lh hB
    clear hp HPI hB
    go_wp2_with fail
    refine HPP.out.mono ?_
    rintro e w3 ⟨rfl, hb⟩
    have HB2 := lh (HB.out.trans (hb.mono HB.out.size))
    have HV2 := lh (ownsRow_below HV.out hb)
    clear hb d0 HB HPP HV
    go_wp2_with (at_builtin; refine wpList_append_int1 _ rfl _ _ 101 rfl w2.heap.size 3 Tryz.underlying101 infoIntP (numL ws j) v _ rfl (by rw [hjl]; exact HV2.out.alloc _) _ rfl (by simp) (by omega) (by have := HB2.out.size; simp; omega) ?_; intro v' w4 hown3 _ hgrow3)
    have hB3 := below_app (HB2.out.alloc HB2.out.size _) (HV2.out.alloc _) hgrow3
    have hO3 : w4.ownsRow w2.heap.size 3 1 v' (j + 1) ((numL ws (j + 1)).map (Value.int .i64)) := by
     rw [HNX.out]
     have h := hown3
     rw [List.length_append, hjl] at h
     exact h
    have HB3 := lh hB3
    have HO3 := lh hO3
    clear hB3 hO3 hown3 hgrow3
    go_wp2
    go_roundw
    case rel => exact ⟨j + 1, by omega, by go_num, HO3.out, HOK, HB3.out⟩
    case measure => simp [intOf]; omega
  ·obtain rfl : j = m := by omega
   have hki : ¬ (((j + 1 : Nat) : Int) < ((j + 1 : Nat) : Int)) := by omega
   have hall := hok.out
   clear hok
   have HCC := lh (HALLY.out hall)
   clear HALLN HALLY hall
   have HBw := lh hB
   have HXw := lh (HX2.out.trans (hB.mono HX2.out.size))
   have H2w := lh (rowC H2.out hB)
   have H4w := lh (rowC H4.out hB)
   have HOw := lh (ownsRow_below HO.out hB)
   have hbw2 := Nat.lt_of_lt_of_le hbw hB.size
   have hbr : base ≤ wr.heap.size := Nat.le_trans hb2 hB.size
   have D0 := lh ((hB.cell (p := ⟨bw, ow, none⟩) hbw).trans (HC.out 0 (by omega)))
   obtain ⟨An, dn, eV, hjd, _, hon⟩ := own_of_row (zs := numL ws j) HV.out
   subst eV
   have HON := lh hon
   clear hon HV hB HC H2 H4 HO HX2
   by_cases hj0 : j = 0
   ·as_aux_lemma =>
     subst hj0
     have HCC0 := HCC.out
     have hs0 := HSW.out rfl
     have hx0 : x0 = 0 := HX0.out
     have hx1 : x1 = 0 := HX1.out
     have hx2 : x2 = 0 := HX2_.out
     subst hx0 hx1 hx2
     obtain ⟨r, hr⟩ : ∃ r, exR (lf L) n I H S P cc 0 0 0 = r := ⟨_, rfl⟩
     have HGO : Hid (exGo (lf L) n I H S P cc 0 0 0 = false) := by show _ = _; rw [HCC0]; exact cmd0_go (ws 0)
     have HCW : Hid (∀ W, Below wr.heap.size wr W → Calls Tryz.prog 84 #[.agg #[.slice A n cp, .int .i64 I, .int .i64 H, .int .i64 S, .int .i64 P], .string s] W fun e w' => e = .returned (.string r) ∧ Below W.heap.size W w') := fun W hb => by
      have h := l28Word_any (ws 0) A n cp _ _ L I H S P W (own_sl (ownsRow_below HOw.out hb)) (by omega) hnc hg HLL.out
      rw [← HCC0, hr, ← hs0] at h
      exact h
     have HER := lh hr
     clear hr HCC0 hs0 HX0 HX1 HX2_ HSW HCC
     go_upto_region 12 with fail
     have HF : Hid (∀ w', wr.grownBy w' (some g4) → _) := fun w' hq => And.intro (cells8 (rowGr H2w.out hq hn24)) (cellGr D0.out hq hwg)
     refine wp_region_held_drew (S := fun w' => wr.grownBy w' (some g4)) (by kernel_rfl) (but_stays wr _ (grow_refl wr (some g4)) ((Below.refl _ _).drew)) (fun jd => ?_)
     have hbd : Below wr.heap.size wr wr.drew := (Below.refl _ _).drew
     obtain ⟨v0, hv0⟩ : ∃ v, wr.drew = v := ⟨_, rfl⟩
     rw [hv0] at jd hbd ⊢
     clear hv0
     refine tj4 0 39 1 40 3 42 2 41 HF jd ?_
     refine wpAnyH_ready (rs := [4]) (by kernel_rfl) (by simp) ?_
     refine (AllReadyH.cons rfl (fun K hK => ?_) AllReadyH.nil)
     go_simp
     refine (HCW.out v0 hbd).mono ?_
     rintro e v1 ⟨rfl, hbn⟩
     have hOv := ownsRow_below (ownsRow_below HOw.out hbd) hbn
     have hr4 := rowC (rowC H4w.out hbd) hbn
     have hBv := (HXw.out.trans (hbd.mono HXw.out.size)).trans (hbn.mono (Nat.le_trans HXw.out.size hbd.size))
     have hHeld2 := but_stays v0 v1 jd hbn
     refine hK.out _ _ hHeld2 (fun jd => ?_)
     clear hK K hHeld2
     refine wS0 5 g4 #[.slice A n cp, .int .i64 I, .int .i64 H, .int .i64 S, .int .i64 P, .string D, .string Q, .int .i64 z] 35 infoConE (hr4) (fun w' hg' => grow_trans jd hg') ?ks
     case ks =>
      intro v3 hh hgw hHeld3
      clear jd
      have jd := hHeld3
      clear hHeld3
      refine tj 6 5 HF rfl jd ?_
      refine wpAnyH_done (by kernel_rfl) ?_ _
      have HHR := lh hh
      have HBZ := lh (hBv.grown hgw hBv.size (fun k hk => by cases hk; exact HLE.out))
      have HOZ := lh (own_other hOv hr4 (by decide) hgw)
      clear hh hgw hr4 hOv hBv jd hbd hbn HF
      go_wp2_with ((try simp only [Exit.inBlock, Exit.then]); refine ret_cell2 Tryz.results44 rfl rfl Tryz.underlying35 HHR.out infoConE rfl ?_; have hq := rf_no (D := D) (Q := Q) (z := z) (x0 := 0) (x1 := 0) (x2 := 0) (c := cc) HGO.out HER.out HLL.out hnc HOZ.out HBZ.out; exact hq)
   by_cases hj1 : j = 1
   ·as_aux_lemma =>
     subst hj1
     have hx1 : x1 = 0 := HX1.out
     have hx2 : x2 = 0 := HX2_.out
     have hcq := HCC.out
     subst hx1 hx2 hcq
     obtain ⟨bn, on_, eN, _, hbn0, hcn⟩ := HON.out.sl.here (by omega)
     have hbn1 := Nat.lt_of_lt_of_le hbn0 HON.out.hi_le
     subst eN
     have N0 : Hid (wr.cell? ⟨bn, on_, none⟩ = some (.int .i64 x0)) := by
      have h := hcn 0 (by omega)
      rw [HX0.out]
      exact h
     have hng : bn ≠ g4 := fun h => by
      obtain ⟨q, cur, e1, u1, u2, u3, u4⟩ := HON.out.here (by omega)
      cases e1
      rw [h, H4w.out] at u3
      cases u3
     clear hcn hbn0 hbn1 HON
     clear HX0 HX1 HX2_ HSW HCC
     go_upto_region 14 with fail
     have HF : Hid (∀ w', wr.grownBy w' (some g4) → _) := fun w' hq => And.intro (cells8 (rowGr H2w.out hq hn24)) (And.intro (cellGr D0.out hq hwg) (cellGr N0.out hq hng))
     refine wp_region_held_drew (S := fun w' => wr.grownBy w' (some g4)) (by kernel_rfl) (but_stays wr _ (grow_refl wr (some g4)) ((Below.refl _ _).drew)) (fun jd => ?_)
     have hbd : Below wr.heap.size wr wr.drew := (Below.refl _ _).drew
     obtain ⟨v0, hv0⟩ : ∃ v, wr.drew = v := ⟨_, rfl⟩
     rw [hv0] at jd hbd ⊢
     clear hv0
     refine tj4 0 46 1 47 4 50 2 48 HF jd ?_
     refine tj3 5 51 3 49 6 52 HF jd ?_
     refine wpAnyH_ready (rs := [7]) (by kernel_rfl) (by simp) ?_
     refine (AllReadyH.cons rfl (fun K hK => ?_) AllReadyH.nil)
     go_simp
     refine (l28One_any (ws 0) x0 base A n cp L I H S P D Q z v0 (ownsRow_below HOw.out hbd) (Nat.le_trans hbr hbd.size) hnc hg).mono ?_
     rintro e v1 hp
     obtain ⟨A1, c1, n1, L1, I1, H1, S1, P1, r, rfl, hOv, hbn, hre⟩ := rf_open hp
     have HRE := lh hre
     clear hp hre
     have hr4 := rowC (rowC H4w.out hbd) hbn
     have hBv := (HXw.out.trans (hbd.mono HXw.out.size)).trans (hbn.mono (Nat.le_trans HXw.out.size hbd.size))
     have hHeld2 := but_stays v0 v1 jd hbn
     refine hK.out _ _ hHeld2 (fun jd => ?_)
     clear hK K hHeld2
     refine tj2 8 54 9 55 HF jd ?_
     refine wS0 10 g4 #[.slice A1 n1 c1, .int .i64 I1, .int .i64 H1, .int .i64 S1, .int .i64 P1, .string D, .string Q, .int .i64 z] 35 infoConE (hr4) (fun w' hg' => grow_trans jd hg') ?ks
     case ks =>
      intro v3 hh hgw hHeld3
      clear jd
      have jd := hHeld3
      clear hHeld3
      refine tj 11 5 HF rfl jd ?_
      refine wpAnyH_done (by kernel_rfl) ?_ _
      have HHR := lh hh
      have HBZ := lh (hBv.grown hgw hBv.size (fun k hk => by cases hk; exact HLE.out))
      have HOZ := lh (own_other hOv hr4 (by decide) hgw)
      clear hh hgw hr4 hOv hBv jd hbd hbn HF
      go_wp2_with ((try simp only [Exit.inBlock, Exit.then]); refine ret_cell2 Tryz.results44 rfl rfl Tryz.underlying35 HHR.out infoConE rfl ?_; exact HRE.out _ _ HOZ.out HBZ.out)
   by_cases hj2 : j = 2
   ·as_aux_lemma =>
     subst hj2
     have hx2 : x2 = 0 := HX2_.out
     have hcq := HCC.out
     subst hx2 hcq
     obtain ⟨bn, on_, eN, _, hbn0, hcn⟩ := HON.out.sl.here (by omega)
     have hbn1 := Nat.lt_of_lt_of_le hbn0 HON.out.hi_le
     subst eN
     have N0 : Hid (wr.cell? ⟨bn, on_, none⟩ = some (.int .i64 x0)) := by
      have h := hcn 0 (by omega)
      rw [HX0.out]
      exact h
     have N1 : Hid (wr.cell? ⟨bn, on_ + 1, none⟩ = some (.int .i64 x1)) := by
      have h := hcn 1 (by omega)
      rw [HX1.out]
      exact h
     have hng : bn ≠ g4 := fun h => by
      obtain ⟨q, cur, e1, u1, u2, u3, u4⟩ := HON.out.here (by omega)
      cases e1
      rw [h, H4w.out] at u3
      cases u3
     clear hcn hbn0 hbn1 HON
     clear HX0 HX1 HX2_ HSW HCC
     go_upto_region 16 with fail
     have HF : Hid (∀ w', wr.grownBy w' (some g4) → _) := fun w' hq => And.intro (cells8 (rowGr H2w.out hq hn24)) (And.intro (cellGr D0.out hq hwg) (And.intro (cellGr N0.out hq hng) (cellGr N1.out hq hng)))
     refine wp_region_held_drew (S := fun w' => wr.grownBy w' (some g4)) (by kernel_rfl) (but_stays wr _ (grow_refl wr (some g4)) ((Below.refl _ _).drew)) (fun jd => ?_)
     have hbd : Below wr.heap.size wr wr.drew := (Below.refl _ _).drew
     obtain ⟨v0, hv0⟩ : ∃ v, wr.drew = v := ⟨_, rfl⟩
     rw [hv0] at jd hbd ⊢
     clear hv0
     refine tj4 0 58 1 59 4 62 7 65 HF jd ?_
     refine tj4 2 60 5 63 8 66 3 61 HF jd ?_
     refine tj2 6 64 9 67 HF jd ?_
     refine wpAnyH_ready (rs := [10]) (by kernel_rfl) (by simp) ?_
     refine (AllReadyH.cons rfl (fun K hK => ?_) AllReadyH.nil)
     go_simp
     refine (l28Two_any (ws 0) x0 x1 base A n cp L I H S P D Q z v0 (ownsRow_below HOw.out hbd) (Nat.le_trans hbr hbd.size) hnc hg).mono ?_
     rintro e v1 hp
     obtain ⟨A1, c1, n1, L1, I1, H1, S1, P1, r, rfl, hOv, hbn, hre⟩ := rf_open hp
     have HRE := lh hre
     clear hp hre
     have hr4 := rowC (rowC H4w.out hbd) hbn
     have hBv := (HXw.out.trans (hbd.mono HXw.out.size)).trans (hbn.mono (Nat.le_trans HXw.out.size hbd.size))
     have hHeld2 := but_stays v0 v1 jd hbn
     refine hK.out _ _ hHeld2 (fun jd => ?_)
     clear hK K hHeld2
     refine tj2 11 69 12 70 HF jd ?_
     refine wS0 13 g4 #[.slice A1 n1 c1, .int .i64 I1, .int .i64 H1, .int .i64 S1, .int .i64 P1, .string D, .string Q, .int .i64 z] 35 infoConE (hr4) (fun w' hg' => grow_trans jd hg') ?ks
     case ks =>
      intro v3 hh hgw hHeld3
      clear jd
      have jd := hHeld3
      clear hHeld3
      refine tj 14 5 HF rfl jd ?_
      refine wpAnyH_done (by kernel_rfl) ?_ _
      have HHR := lh hh
      have HBZ := lh (hBv.grown hgw hBv.size (fun k hk => by cases hk; exact HLE.out))
      have HOZ := lh (own_other hOv hr4 (by decide) hgw)
      clear hh hgw hr4 hOv hBv jd hbd hbn HF
      go_wp2_with ((try simp only [Exit.inBlock, Exit.then]); refine ret_cell2 Tryz.results44 rfl rfl Tryz.underlying35 HHR.out infoConE rfl ?_; exact HRE.out _ _ HOZ.out HBZ.out)
   by_cases hj3 : j = 3
   ·as_aux_lemma =>
     subst hj3
     by_cases hw3 : ws 0 = wd3
     ·have hcq := HCC.out
      rw [hw3, cmd_3, if_pos rfl] at hcq
      subst hcq
      have q3 : ((ws 0).toList == ([108, 101, 97, 100] : List UInt8)) = true := by rw [hw3]; decide +kernel
      clear hw3
      obtain ⟨bn, on_, eN, _, hbn0, hcn⟩ := HON.out.sl.here (by omega)
      have hbn1 := Nat.lt_of_lt_of_le hbn0 HON.out.hi_le
      subst eN
      have N0 : Hid (wr.cell? ⟨bn, on_, none⟩ = some (.int .i64 x0)) := by
       have h := hcn 0 (by omega)
       rw [HX0.out]
       exact h
      have N1 : Hid (wr.cell? ⟨bn, on_ + 1, none⟩ = some (.int .i64 x1)) := by
       have h := hcn 1 (by omega)
       rw [HX1.out]
       exact h
      have N2 : Hid (wr.cell? ⟨bn, on_ + 2, none⟩ = some (.int .i64 x2)) := by
       have h := hcn 2 (by omega)
       rw [HX2_.out]
       exact h
      have hng : bn ≠ g4 := fun h => by
       obtain ⟨q, cur, e1, u1, u2, u3, u4⟩ := HON.out.here (by omega)
       cases e1
       rw [h, H4w.out] at u3
       cases u3
      clear hcn hbn0 hbn1 HON
      have d0 := D0.out
      clear HX0 HX1 HX2_ HSW HCC
      go_upto_region 18 with fail
      go_upto_region 19 with fail
      clear d0 q3
      have HF : Hid (∀ w', wr.grownBy w' (some g4) → _) := fun w' hq => And.intro (cells8 (rowGr H2w.out hq hn24)) (And.intro (cellGr D0.out hq hwg) (And.intro (cellGr N0.out hq hng) (And.intro (cellGr N1.out hq hng) (cellGr N2.out hq hng))))
      refine wp_region_held_drew (S := fun w' => wr.grownBy w' (some g4)) (by kernel_rfl) (but_stays wr _ (grow_refl wr (some g4)) ((Below.refl _ _).drew)) (fun jd => ?_)
      have hbd : Below wr.heap.size wr wr.drew := (Below.refl _ _).drew
      obtain ⟨v0, hv0⟩ : ∃ v, wr.drew = v := ⟨_, rfl⟩
      rw [hv0] at jd hbd ⊢
      clear hv0
      refine tj4 0 77 1 78 4 81 7 84 HF jd ?_
      refine tj4 2 79 5 82 8 85 3 80 HF jd ?_
      refine tj3 6 83 9 86 10 87 HF jd ?_
      refine wpAnyH_ready (rs := [11]) (by kernel_rfl) (by simp) ?_
      refine (AllReadyH.cons rfl (fun K hK => ?_) AllReadyH.nil)
      go_simp
      refine (l28Make_any base A n cp L I H S P D Q z 3 x0 x1 x2 x0 x1 x2 ⟨by simp [exId], by simp [exTo], by simp [exZ]⟩ rfl v0 (ownsRow_below HOw.out hbd) (Nat.le_trans hbr hbd.size) hnc hg).mono ?_
      rintro e v1 hp
      obtain ⟨A1, c1, n1, L1, I1, H1, S1, P1, r, rfl, hOv, hbn, hre⟩ := rf_open hp
      have HRE := lh hre
      clear hp hre
      have hr4 := rowC (rowC H4w.out hbd) hbn
      have hBv := (HXw.out.trans (hbd.mono HXw.out.size)).trans (hbn.mono (Nat.le_trans HXw.out.size hbd.size))
      have hHeld2 := but_stays v0 v1 jd hbn
      refine hK.out _ _ hHeld2 (fun jd => ?_)
      clear hK K hHeld2
      refine tj2 12 89 13 90 HF jd ?_
      refine wS0 14 g4 #[.slice A1 n1 c1, .int .i64 I1, .int .i64 H1, .int .i64 S1, .int .i64 P1, .string D, .string Q, .int .i64 z] 35 infoConE (hr4) (fun w' hg' => grow_trans jd hg') ?ks
      case ks =>
       intro v3 hh hgw hHeld3
       clear jd
       have jd := hHeld3
       clear hHeld3
       refine tj 15 5 HF rfl jd ?_
       refine wpAnyH_done (by kernel_rfl) ?_ _
       have HHR := lh hh
       have HBZ := lh (hBv.grown hgw hBv.size (fun k hk => by cases hk; exact HLE.out))
       have HOZ := lh (own_other hOv hr4 (by decide) hgw)
       clear hh hgw hr4 hOv hBv jd hbd hbn HF
       go_wp2_with ((try simp only [Exit.inBlock, Exit.then]); refine ret_cell2 Tryz.results44 rfl rfl Tryz.underlying35 HHR.out infoConE rfl ?_; exact HRE.out _ _ HOZ.out HBZ.out)
     ·have HC0 : Hid (cc = 0) := by show _ = _; rw [HCC.out, cmd_3, if_neg hw3]
      have HGO : Hid (exGo (lf L) n I H S P cc x0 x1 x2 = false) := by show _ = _; rw [HC0.out]; rfl
      have HER : Hid (exR (lf L) n I H S P cc x0 x1 x2 = ⟨#[63]⟩) := by show _ = _; rw [HC0.out]; exact exR_none rfl
      clear HC0
      have q3 : ((ws 0).toList == ([108, 101, 97, 100] : List UInt8)) = false := by
       rw [show ([108, 101, 97, 100] : List UInt8) = wd3.toList by decide +kernel, toList_beq]
       exact decide_eq_false hw3
      have d0 := D0.out
      clear hw3 HX0 HX1 HX2_ HSW HCC
      have hb := Below.refl wr.heap.size wr
      have h2 := rowC H2w.out hb
      have h4 := rowC H4w.out hb
      obtain ⟨e0, e1, e2, e3, e4, e5, e6, e7⟩ := cells8 h2
      have hBW := HXw.out.trans (hb.mono HXw.out.size)
      have hOW := ownsRow_below HOw.out hb
      have HBW := lh hBW
      have HOW := lh hOW
      clear h2 hb hBW hOW
      go_upto_region 20 with fail
      go_wp2_with ((with_reducible refine wpList_isStore ?_); refine wL0 g4 #[.slice A n cp, .int .i64 I, .int .i64 H, .int .i64 S, .int .i64 P, .string D, .string Q, .int .i64 z] 35 infoConE h4 ?_)
      intro wz hh hgw
      have HHR := lh hh
      have HBZ := lh (HBW.out.grown hgw HBW.out.size (fun k hk => by cases hk; exact HLE.out))
      have HOZ := lh (own_other HOW.out h4 (by decide) hgw)
      clear hh hgw
      go_wp2_with ((try simp only [Exit.inBlock, Exit.then]); refine ret_cell2 Tryz.results44 rfl rfl Tryz.underlying35 HHR.out infoConE rfl ?_; have hq := rf_no (D := D) (Q := Q) (z := z) (x0 := x0) (x1 := x1) (x2 := x2) (c := cc) HGO.out HER.out HLL.out hnc HOZ.out HBZ.out; exact hq)
   have HC0 : Hid (cc = 0) := by show _ = _; rw [HCC.out]; exact cmd_big (by omega)
   have HGO : Hid (exGo (lf L) n I H S P cc x0 x1 x2 = false) := by show _ = _; rw [HC0.out]; rfl
   have HER : Hid (exR (lf L) n I H S P cc x0 x1 x2 = ⟨#[63]⟩) := by show _ = _; rw [HC0.out]; exact exR_none rfl
   clear HC0
   have k0 : ((j : Int) == 0) = false := by simp; omega
   have k1 : ((j : Int) == 1) = false := by simp; omega
   have k2 : ((j : Int) == 2) = false := by simp; omega
   have k3 : ((j : Int) == 3) = false := by simp; omega
   clear HX0 HX1 HX2_ HSW HCC hj0 hj1 hj2 hj3
   have hb := Below.refl wr.heap.size wr
   have h2 := rowC H2w.out hb
   have h4 := rowC H4w.out hb
   obtain ⟨e0, e1, e2, e3, e4, e5, e6, e7⟩ := cells8 h2
   have hBW := HXw.out.trans (hb.mono HXw.out.size)
   have hOW := ownsRow_below HOw.out hb
   have HBW := lh hBW
   have HOW := lh hOW
   clear h2 hb hBW hOW
   go_upto_region 20 with fail
   go_wp2_with ((with_reducible refine wpList_isStore ?_); refine wL0 g4 #[.slice A n cp, .int .i64 I, .int .i64 H, .int .i64 S, .int .i64 P, .string D, .string Q, .int .i64 z] 35 infoConE h4 ?_)
   intro wz hh hgw
   have HHR := lh hh
   have HBZ := lh (HBW.out.grown hgw HBW.out.size (fun k hk => by cases hk; exact HLE.out))
   have HOZ := lh (own_other HOW.out h4 (by decide) hgw)
   clear hh hgw
   go_wp2_with ((try simp only [Exit.inBlock, Exit.then]); refine ret_cell2 Tryz.results44 rfl rfl Tryz.underlying35 HHR.out infoConE rfl ?_; have hq := rf_no (D := D) (Q := Q) (z := z) (x0 := x0) (x1 := x1) (x2 := x2) (c := cc) HGO.out HER.out HLL.out hnc HOZ.out HBZ.out; exact hq)
end Go.Proofs.YtpndjhelpoenpaaGreatDoor
namespace Go.Proofs.YtpndjhelpoenpaaGreatDoor
open Go.RowKit
theorem IsValidConsole_any (A : Option Addr) (n c lo hi : Nat) (f : Nat → Int) (I H S P : Int) (D Q : ByteArray) (z : Int) (w : World) (hs : Sl w lo hi 4 A n f) (hn : n ≤ 1048576) (hnc : n ≤ c) (hD : D.size ≤ 1048576) (hQ : Q.size ≤ 1048576) (ht : Tab w) (hm : Mx w) :
  Calls Tryz.prog 37 #[.agg #[.slice A n c, .int .i64 I, .int .i64 H, .int .i64 S, .int .i64 P, .string D, .string Q, .int .i64 z]] w fun e w' => e = .returned (.bool (goodWorks f n I H S P && logOk D Q z)) ∧ Below w.heap.size w w' := by
 obtain ⟨hX, h0⟩ := bl1 w (.cells #[.slice A n c, .int .i64 I, .int .i64 H, .int .i64 S, .int .i64 P, .string D, .string Q, .int .i64 z] 35)
 have hS := hs.below hX
 clear hs
 go_enter Tryz.func37, Tryz.ntmps37
 go_upto_region 1 with fail
 refine name_wp ?_
 intro w1 hw1
 rw [← hw1] at hX h0 hS
 clear hw1
 obtain ⟨e0, e1, e2, e3, e4, e5, e6, e7⟩ := cells8 h0
 go_wp2_with fail
 refine (isWorks_any A n c lo hi f I H S P w1 hS hn hnc).mono ?_
 rintro e w2 ⟨rfl, hb⟩
 have h0 := rowC h0 hb
 have hX := below_of hX hb hX.size
 clear hb e0 e1 e2 e3 e4 e5 e6 e7
 obtain ⟨e0, e1, e2, e3, e4, e5, e6, e7⟩ := cells8 h0
 have HX := lh hX
 cases hg : goodWorks f n I H S P with
 | false =>
  clear h0 hX
  go_wp2
  go_ret
  exact ⟨ret_bool (by simp [hg]), HX.out⟩
 | true =>
  have HL := lh (IsValidLog_any D Q z hD hQ w2 (ht.below hX) (hm.below hX))
  clear h0 hX
  go_wp2_with fail
  refine HL.out.mono ?_
  rintro e w3 ⟨rfl, hb⟩
  have hX := below_of HX.out hb HX.out.size
  go_wp2
  go_ret
  exact ⟨ret_bool (by simp [hg]), hX⟩
theorem l28Good_any (A : Option Addr) (n c lo hi : Nat) (f : Nat → Int) (I H S P : Int) (D Q : ByteArray) (z : Int) (w : World) (hs : Sl w lo hi 4 A n f) (hn : n ≤ 1048576) (hnc : n ≤ c) (hD : D.size ≤ 1048576) (hQ : Q.size ≤ 1048576) :
  Calls Tryz.prog 42 #[.agg #[.slice A n c, .int .i64 I, .int .i64 H, .int .i64 S, .int .i64 P, .string D, .string Q, .int .i64 z]] w fun e w' => e = .returned (.bool (goodWorks f n I H S P && logOk D Q z)) ∧ Below w.heap.size w w' := by
 obtain ⟨hX, h0⟩ := bl1 w (.cells #[.slice A n c, .int .i64 I, .int .i64 H, .int .i64 S, .int .i64 P, .string D, .string Q, .int .i64 z] 35)
 have hS := hs.below hX
 clear hs
 go_enter Tryz.func42, Tryz.ntmps42
 go_upto_region 1 with fail
 refine name_wp ?_
 intro w1 hw1
 rw [← hw1] at hX h0 hS
 clear hw1
 obtain ⟨e0, e1, e2, e3, e4, e5, e6, e7⟩ := cells8 h0
 go_wp2_with fail
 refine (l25Good_any A n c lo hi f I H S P w1 hS hn hnc).mono ?_
 rintro e w2 ⟨rfl, hb⟩
 have h0 := rowC h0 hb
 have hX := below_of hX hb hX.size
 clear hb e0 e1 e2 e3 e4 e5 e6 e7
 obtain ⟨e0, e1, e2, e3, e4, e5, e6, e7⟩ := cells8 h0
 have HX := lh hX
 cases hg : goodWorks f n I H S P with
 | false =>
  clear h0 hX
  go_wp2
  go_ret
  exact ⟨ret_bool (by simp [hg]), HX.out⟩
 | true =>
  have HL := lh (l27Log_any D Q z hD hQ w2)
  clear h0 hX
  go_wp2_with fail
  refine HL.out.mono ?_
  rintro e w3 ⟨rfl, hb⟩
  have hX := below_of HX.out hb HX.out.size
  go_wp2
  go_ret
  exact ⟨ret_bool (by simp [hg]), hX⟩
end Go.Proofs.YtpndjhelpoenpaaGreatDoor
