/-
  Texts of this claim, merged.
-/
import Derived.Test.YtpndjhelpoenpaaGreatDoorZC28
set_option linter.unusedVariables false
set_option linter.unusedSimpArgs false
set_option maxRecDepth 100000
set_option maxHeartbeats 8000000
namespace Go.Proofs.YtpndjhelpoenpaaGreatDoor
open Go.RowKit
attribute [local go_sem ↓] Go.wp_at_zero Go.wp_at_succ
def execPost (w : World) (f : Nat → Int) (n : Nat) (I H S P : Int) (D Q : ByteArray) (z : Int) (s : ByteArray) (e : Ending) (w' : World) : Prop :=
 ∃ A' c', e = .returned (.tuple #[.agg #[.slice A' (xcN f n I H S P D Q z s) c', .int .i64 (xcI f n I H S P D Q z s), .int .i64 (xcH f n I H S P D Q z s), .int .i64 (xcS f n I H S P D Q z s), .int .i64 (xcP f n I H S P D Q z s), .string D, .string (xcQ f n I H S P D Q z s), .int .i64 (xcZ f n I H S P D Q z s)], .string (xcR f n I H S P D Q z s)]) ∧ xcN f n I H S P D Q z s ≤ c' ∧ w'.ownsRow w.heap.size 97 4 (.slice A' (xcN f n I H S P D Q z s) c') (xcN f n I H S P D Q z s) ((xcL f n I H S P D Q z s).map (Value.int .i64)) ∧ Below w.heap.size w w'
theorem exec_no {w w' : World} {f : Nat → Int} {n c' : Nat} {I H S P : Int} {D Q : ByteArray} {z : Int} {s r : ByteArray} {A' : Option Addr} (hgo : xcGo f n I H S P D Q z s = false) (hr : xcR f n I H S P D Q z s = r) (hc : n ≤ c')
  (hO : w'.ownsRow w.heap.size 97 4 (.slice A' n c') n ((cellsL f n).map (Value.int .i64))) (hB : Below w.heap.size w w') :
  execPost w f n I H S P D Q z s (.returned (.tuple #[.agg #[.slice A' n c', .int .i64 I, .int .i64 H, .int .i64 S, .int .i64 P, .string D, .string Q, .int .i64 z], .string r])) w' := by
 have hup : xcUp f n I H S P D Q z s = false := by rw [xcUp, hgo]; rfl
 have e1 : xcL f n I H S P D Q z s = cellsL f n := by rw [xcL, hup]; rfl
 have e2 : xcN f n I H S P D Q z s = n := by rw [xcN, hup]; rfl
 have e3 : xcI f n I H S P D Q z s = I := by rw [xcI, hup]; rfl
 have e4 : xcH f n I H S P D Q z s = H := by rw [xcH, hup]; rfl
 have e5 : xcS f n I H S P D Q z s = S := by rw [xcS, hup]; rfl
 have e6 : xcP f n I H S P D Q z s = P := by rw [xcP, hup]; rfl
 have e7 : xcQ f n I H S P D Q z s = Q := by rw [xcQ, hgo]; rfl
 have e8 : xcZ f n I H S P D Q z s = z := by rw [xcZ, hgo]; rfl
 unfold execPost
 rw [e1, e2, e3, e4, e5, e6, e7, e8, hr]
 exact ⟨A', c', rfl, hc, hO, hB⟩
theorem exec_yes {w w' : World} {f : Nat → Int} {n c' : Nat} {I H S P : Int} {D Q : ByteArray} {z : Int} {s rt : ByteArray} {A' : Option Addr} (hgo : xcGo f n I H S P D Q z s = true) (hgc : (goodWorks f n I H S P && logOk D Q z) = true) (hgr : goodRec s ⟨#[]⟩ = true) (hz : z ≠ 60) (hxt : xcT f n I H S P s = rt) (hc : xcN f n I H S P D Q z s ≤ c')
  (hO : w'.ownsRow w.heap.size 97 4 (.slice A' (xcN f n I H S P D Q z s) c') (xcN f n I H S P D Q z s) ((xcL f n I H S P D Q z s).map (Value.int .i64))) (hB : Below w.heap.size w w') :
  execPost w f n I H S P D Q z s (.returned (.tuple #[.agg #[.slice A' (xcN f n I H S P D Q z s) c', .int .i64 (xcI f n I H S P D Q z s), .int .i64 (xcH f n I H S P D Q z s), .int .i64 (xcS f n I H S P D Q z s), .int .i64 (xcP f n I H S P D Q z s), .string D, .string (apP D Q z s rt), .int .i64 (apZ D Q z s rt)], .string rt])) w' := by
 have e1 : xcQ f n I H S P D Q z s = apP D Q z s rt := by rw [xcQ, if_pos hgo, hxt]
 have e2 : xcZ f n I H S P D Q z s = apZ D Q z s rt := by rw [xcZ, if_pos hgo, hxt]
 have e3 : xcR f n I H S P D Q z s = rt := by rw [xcR, if_pos hgc, if_pos hgr, if_neg hz, hxt]
 unfold execPost
 rw [e1, e2, e3]
 exact ⟨A', c', rfl, hc, hO, hB⟩
theorem ExecuteCommand_any (A : Option Addr) (n c lo hi : Nat) (f : Nat → Int) (I H S P : Int) (D Q : ByteArray) (z : Int) (s : ByteArray) (w : World) (hs : Sl w lo hi 4 A n f) (hn : n ≤ 1048576) (hnc : n ≤ c) (hnone : A = none → n = 0 ∧ c = 0) (hD : D.size ≤ 1048576) (hQ : Q.size ≤ 1048576) (hsz : s.size ≤ 1048576) (ht : Tab w) (hm : Mx w) (he : Er w) :
  Calls Tryz.prog 12 #[.agg #[.slice A n c, .int .i64 I, .int .i64 H, .int .i64 S, .int .i64 P, .string D, .string Q, .int .i64 z], .string s] w (execPost w f n I H S P D Q z s) := by
 obtain ⟨hX, h2, h4⟩ := bl2 w (.cells #[.slice A n c, .int .i64 I, .int .i64 H, .int .i64 S, .int .i64 P, .string D, .string Q, .int .i64 z] 35) (.cells #[.slice none 0 0, .int .i64 0, .int .i64 0, .int .i64 0, .int .i64 0, .string ⟨#[]⟩, .string ⟨#[]⟩, .int .i64 0] 35)
 go_enter Tryz.func12, Tryz.ntmps12
 go_upto_region 1 with fail
 refine name_wp ?_
 intro w1 hw1
 rw [← hw1] at hX h2 h4
 clear hw1
 obtain ⟨g2, hg2⟩ : ∃ q, w.heap.size = q := ⟨_, rfl⟩
 rw [hg2] at h2 h4
 try rw [hg2]
 obtain ⟨g4, hg4⟩ : ∃ q, g2 + 1 = q := ⟨_, rfl⟩
 rw [hg4] at h4
 try rw [hg4]
 have hne : g2 ≠ g4 := by omega
 have l4 := (Array.getElem?_eq_some_iff.1 h4).1
 have HLE := lh (⟨by omega, by omega⟩ : w.heap.size ≤ g2 ∧ w.heap.size ≤ g4)
 have HS := lh hs
 have HT := lh ht
 have HM := lh hm
 have HE := lh he
 have HB := lh hX
 have H2 := lh h2
 have H4 := lh h4
 clear hg2 hg4 hs ht hm he hX h2 h4 l4
 have h2 := H2.out
 obtain ⟨e0, e1, e2, e3, e4, e5, e6, e7⟩ := cells8 h2
 clear h2
 go_wp2_with fail
 refine (IsValidConsole_any A n c lo hi f I H S P D Q z w1 (HS.out.below HB.out) hn hnc hD hQ (HT.out.below HB.out) (HM.out.below HB.out)).mono ?_
 obtain ⟨gc, hgc⟩ : ∃ b, (goodWorks f n I H S P && logOk D Q z) = b := ⟨_, rfl⟩
 rw [hgc]
 have HGC := lh hgc
 clear hgc
 rintro e w2 ⟨rfl, hb⟩
 clear e0 e1 e2 e3 e4 e5 e6 e7
 have H2' := lh (rowC H2.out hb)
 have H4' := lh (rowC H4.out hb)
 have HB' := lh (HB.out.trans (hb.mono HB.out.size))
 clear H2 H4 HB
 have H2 := H2'
 have H4 := H4'
 have HB := HB'
 clear H2' H4' HB'
 clear hb
 cases gc with
 | false =>
  as_aux_lemma =>
   have h2 := H2.out
   obtain ⟨e0, e1, e2, e3, e4, e5, e6, e7⟩ := cells8 h2
   clear h2
   go_upto_region 2 with fail
   go_wp2_with fail
   refine (copyConsole_any A n c lo hi f I H S P D Q z w2 (HS.out.below HB.out) hn hnc hnone).mono ?_
   rintro e wy ⟨A', c', rfl, hc', hown, hb⟩
   have h4 := rowC H4.out hb
   have hB := HB.out.trans (hb.mono HB.out.size)
   have hown := ownsRow_monoP hown HB.out.size
   clear hb e0 e1 e2 e3 e4 e5 e6 e7
   go_wp2_with ((with_reducible refine wpList_isStore ?_); refine wpList_store2 g4 0 (.agg #[.slice A' n c', .int .i64 I, .int .i64 H, .int .i64 S, .int .i64 P, .string D, .string Q, .int .i64 z]) 35 _ #[.slice A' n c', .int .i64 I, .int .i64 H, .int .i64 S, .int .i64 P, .string D, .string Q, .int .i64 z] rfl rfl infoConE h4 (Nat.le_refl 8) (by simp [Value.cells, Value.oneCell']) rfl ?_)
   intro wz hh hgw
   have HHR := lh hh
   have HBZ := lh (hB.grown hgw hB.size (fun k hk => by cases hk; exact HLE.out.2))
   have HOZ := lh (own_other hown h4 (by decide) hgw)
   clear hh hgw hB hown h4
   go_wp2_with ((try simp only [Exit.inBlock, Exit.then]); refine ret_cell2 Tryz.results12 rfl rfl Tryz.underlying35 HHR.out infoConE rfl ?_; exact exec_no (by rw [xcGo, HGC.out]; rfl) (by rw [xcR, HGC.out]; rfl) hc' HOZ.out HBZ.out)
 | true =>
  go_wp2_with fail
  refine (IsValidRecord_any s ⟨#[]⟩ (by omega) (by simp [ByteArray.size]) w2).mono ?_
  obtain ⟨gr, hgr⟩ : ∃ b, goodRec s ⟨#[]⟩ = b := ⟨_, rfl⟩
  rw [hgr]
  have HGR := lh hgr
  clear hgr
  rintro e w3 ⟨rfl, hb⟩
  have H2' := lh (rowC H2.out hb)
  have H4' := lh (rowC H4.out hb)
  have HB' := lh (HB.out.trans (hb.mono HB.out.size))
  clear H2 H4 HB
  have H2 := H2'
  have H4 := H4'
  have HB := HB'
  clear H2' H4' HB'
  clear hb
  cases gr with
  | false =>
   as_aux_lemma =>
    have h2 := H2.out
    obtain ⟨e0, e1, e2, e3, e4, e5, e6, e7⟩ := cells8 h2
    clear h2
    go_upto_region 4 with fail
    go_wp2_with fail
    refine (copyConsole_any A n c lo hi f I H S P D Q z w3 (HS.out.below HB.out) hn hnc hnone).mono ?_
    rintro e wy ⟨A', c', rfl, hc', hown, hb⟩
    have h4 := rowC H4.out hb
    have hB := HB.out.trans (hb.mono HB.out.size)
    have hown := ownsRow_monoP hown HB.out.size
    clear hb e0 e1 e2 e3 e4 e5 e6 e7
    go_wp2_with ((with_reducible refine wpList_isStore ?_); refine wpList_store2 g4 0 (.agg #[.slice A' n c', .int .i64 I, .int .i64 H, .int .i64 S, .int .i64 P, .string D, .string Q, .int .i64 z]) 35 _ #[.slice A' n c', .int .i64 I, .int .i64 H, .int .i64 S, .int .i64 P, .string D, .string Q, .int .i64 z] rfl rfl infoConE h4 (Nat.le_refl 8) (by simp [Value.cells, Value.oneCell']) rfl ?_)
    intro wz hh hgw
    have HHR := lh hh
    have HBZ := lh (hB.grown hgw hB.size (fun k hk => by cases hk; exact HLE.out.2))
    have HOZ := lh (own_other hown h4 (by decide) hgw)
    clear hh hgw hB hown h4
    go_wp2_with ((try simp only [Exit.inBlock, Exit.then]); refine ret_cell2 Tryz.results12 rfl rfl Tryz.underlying35 HHR.out infoConE rfl ?_; exact exec_no (by rw [xcGo, HGC.out, HGR.out]; rfl) (by rw [xcR, HGC.out, HGR.out]; rfl) hc' HOZ.out HBZ.out)
  | true =>
   have h2 := H2.out
   obtain ⟨d0, d1, d2, d3, d4, d5, d6, d7⟩ := cells8 h2
   clear h2 d0 d1 d2 d3 d4 d5 d6
   by_cases hz60 : z = 60
   ·have hzb : (z == 60) = true := by simp [hz60]
    have HZ6 := lh hz60
    clear hz60
    have h2 := H2.out
    obtain ⟨e0, e1, e2, e3, e4, e5, e6, e7⟩ := cells8 h2
    clear h2
    go_upto_region 6 with fail
    go_wp2_with fail
    refine (copyConsole_any A n c lo hi f I H S P D Q z w3 (HS.out.below HB.out) hn hnc hnone).mono ?_
    rintro e wy ⟨A', c', rfl, hc', hown, hb⟩
    have h4 := rowC H4.out hb
    have hB := HB.out.trans (hb.mono HB.out.size)
    have hown := ownsRow_monoP hown HB.out.size
    clear hb e0 e1 e2 e3 e4 e5 e6 e7
    go_wp2_with ((with_reducible refine wpList_isStore ?_); refine wpList_store2 g4 0 (.agg #[.slice A' n c', .int .i64 I, .int .i64 H, .int .i64 S, .int .i64 P, .string D, .string Q, .int .i64 z]) 35 _ #[.slice A' n c', .int .i64 I, .int .i64 H, .int .i64 S, .int .i64 P, .string D, .string Q, .int .i64 z] rfl rfl infoConE h4 (Nat.le_refl 8) (by simp [Value.cells, Value.oneCell']) rfl ?_)
    intro wz hh hgw
    have HHR := lh hh
    have HBZ := lh (hB.grown hgw hB.size (fun k hk => by cases hk; exact HLE.out.2))
    have HOZ := lh (own_other hown h4 (by decide) hgw)
    clear hh hgw hB hown h4
    go_wp2_with ((try simp only [Exit.inBlock, Exit.then]); refine ret_cell2 Tryz.results12 rfl rfl Tryz.underlying35 HHR.out infoConE rfl ?_; exact exec_no (by rw [xcGo, HGC.out, HGR.out]; simp [HZ6.out]) (by rw [xcR, HGC.out, HGR.out, if_pos HZ6.out]; rfl) hc' HOZ.out HBZ.out)
   ·have hzb : (z == 60) = false := by simp [hz60]
    have HGO : Hid (xcGo f n I H S P D Q z s = true) := by show _ = _; rw [xcGo, HGC.out, HGR.out]; simp [hz60]
    have HZ6 := lh hz60
    clear hz60
    have h2 := H2.out
    obtain ⟨e0, e1, e2, e3, e4, e5, e6, e7⟩ := cells8 h2
    clear h2 d7
    go_upto_region 7 with fail
    go_wp2_with fail
    refine (copyConsole_any A n c lo hi f I H S P D Q z w3 (HS.out.below HB.out) hn hnc hnone).mono ?_
    rintro e w4 ⟨A', c', rfl, hc', hown, hb⟩
    have HW := lh (ownsRow_monoP hown HB.out.size)
    clear hown e0 e1 e2 e3 e4 e5 e6 e7
    have H4' := lh (rowC H4.out hb)
    have HB' := lh (HB.out.trans (hb.mono HB.out.size))
    clear H4 HB
    have H4 := H4'
    have HB := HB'
    clear H4' HB'
    clear hb
    clear H2
    go_upto_region 8 with fail
    refine name_wp ?_
    intro w5 hw5
    have hb := ba hw5
    have h6 := an hw5
    clear hw5
    have l4 := (Array.getElem?_eq_some_iff.1 H4.out).1
    obtain ⟨g6, hg6⟩ : ∃ q, w4.heap.size = q := ⟨_, rfl⟩
    rw [hg6] at h6 l4
    try rw [hg6]
    have hn46 : g4 ≠ g6 := by omega
    have HL6 := lh (show w.heap.size ≤ g6 by have := HB.out.size; omega)
    clear hg6 l4
    have HW5 := lh (ownsRow_below HW.out hb)
    have H6 := lh h6
    clear h6 HW
    have H4' := lh (rowC H4.out hb)
    have HB' := lh (HB.out.trans (hb.mono HB.out.size))
    clear H4 HB
    have H4 := H4'
    have HB := HB'
    clear H4' HB'
    clear hb
    have HGW : Hid (goodWorks (lf (cellsL f n)) n I H S P = true) := by
     show _ = _
     rw [good_cells]
     have h := HGC.out
     rw [Bool.and_eq_true] at h
     exact h.1
    have HLG : Hid (logOk D Q z = true) := by
     have h := HGC.out
     rw [Bool.and_eq_true] at h
     exact h.2
    obtain ⟨ok, hok⟩ : ∃ b, xcA f n I H S P s = b := ⟨_, rfl⟩
    have HOK := lh hok
    clear hok
    go_cut [7, 8, 9] from 10 (fun sa sb sc wx => ∃ (g7 : Nat) (A1 : Option Addr) (c1 : Nat) (L1 : List Int) (n1 : Nat) (I1 H1 S1 P1 : Int) (r1 : ByteArray), sa = .pointer (some ⟨g7, 0, none⟩) ∧ sb = .string r1 ∧ sc = .bool ok ∧ w5.heap.size ≤ g7 ∧ wx.heap[g7]? = some (.cells #[.slice A1 n1 c1, .int .i64 I1, .int .i64 H1, .int .i64 S1, .int .i64 P1] 32 (0, 0)) ∧ (ok = true → L1 = (exL (lf (cellsL f n)) n I H S P (cV s) (xV s 0) (xV s 1) (xV s 2)) ∧ n1 = (exN (lf (cellsL f n)) n I H S P (cV s) (xV s 0) (xV s 1) (xV s 2)) ∧ I1 = (exI (lf (cellsL f n)) n I H S P (cV s) (xV s 0) (xV s 1) (xV s 2)) ∧ H1 = (exH (lf (cellsL f n)) n I H S P (cV s) (xV s 0) (xV s 1) (xV s 2)) ∧ S1 = (exS (lf (cellsL f n)) n I H S P (cV s) (xV s 0) (xV s 1) (xV s 2)) ∧ P1 = (exP (lf (cellsL f n)) n I H S P (cV s) (xV s 0) (xV s 1) (xV s 2)) ∧ r1 = (exR (lf (cellsL f n)) n I H S P (cV s) (xV s 0) (xV s 1) (xV s 2))) ∧ n1 ≤ c1 ∧ wx.ownsRow w.heap.size 97 4 (.slice A1 n1 c1) n1 (L1.map (Value.int .i64)) ∧ Below w5.heap.size w5 wx)
    case first =>
     as_aux_lemma =>
      have HF : Hid (∀ w', Below w5.heap.size w5 w' → _) := fun w' hq => cells8 (rowC H6.out hq)
      refine wp_region_held_drew (S := fun w' => Below w5.heap.size w5 w') (by kernel_rfl) ((Below.refl _ _).drew) (fun jd => ?_)
      obtain ⟨v0, hv0⟩ : ∃ v, w5.drew = v := ⟨_, rfl⟩
      rw [hv0] at jd ⊢
      clear hv0
      refine tj3 0 33 2 35 1 34 HF jd ?_
      refine wpAnyH_ready (rs := [3, 9]) (by kernel_rfl) (by simp) ?_
      refine (AllReadyH.cons rfl (fun K hK => ?_) (AllReadyH.cons rfl (fun K hK => ?_) AllReadyH.nil))
      ·go_simp
       refine (Split_any s 32 (by omega) v0 ((HM.out.below HB.out).below jd)).mono ?_
       rintro e v1 ⟨Bw, dw, rfl, hdw, hsw, hb⟩
       have hHeld2 := jd.trans (hb.mono jd.size)
       refine hK.out _ _ hHeld2 (fun jd => ?_)
       clear hK K hHeld2 hb
       refine wpAnyH_ready (rs := [4, 9]) (by kernel_rfl) (by simp) ?_
       refine (AllReadyH.cons rfl (fun K hK => ?_) (AllReadyH.cons rfl (fun K hK => ?_) AllReadyH.nil))
       ·go_simp
        have hsw' := hsw
        rw [ws_len s] at hsw' hdw
        try rw [ws_len s]
        have hAW := answer_any w.heap.size A' n c' (cellsL f n) I H S P Bw (mV s) dw _ _ (wsV s) v1 (ownsRow_below HW5.out jd) (by have := HB.out.size; have := jd.size; omega) hc' HGW.out hsw' hdw (by have := ws_len s; have := wordsV_le 32 s; omega) (fun j => Nat.le_trans (wsV_size s j) (by omega)) ((HT.out.below HB.out).below jd) ((HE.out.below HB.out).below jd)
        refine hAW.mono ?_
        rintro e v3 ⟨A1, c1, L1, n1, I1, H1, S1, P1, r1, rfl, hv, hnc1, hown1, hb⟩
        clear hAW hsw'
        have hHeld2 := jd.trans (hb.mono jd.size)
        refine hK.out _ _ hHeld2 (fun jd => ?_)
        clear hK K hHeld2 hb hsw
        refine tj4 5 32 6 38 7 39 8 40 HF jd ?_
        refine wpAnyH_ready (rs := [9]) (by kernel_rfl) (by simp) ?_
        refine (AllReadyH.cons rfl (fun K hK => ?_) AllReadyH.nil)
        go_simp
        have hg := heap_alloc_new v3 (.cells #[.slice none 0 0, .int .i64 0, .int .i64 0, .int .i64 0, .int .i64 0] 32)
        have hHeld2 := jd.alloc jd.size (.cells #[.slice none 0 0, .int .i64 0, .int .i64 0, .int .i64 0, .int .i64 0] 32)
        have hgle := jd.size
        have hown1 := ownsRow_below hown1 ((Below.refl _ v3).alloc (Nat.le_refl _) (.cells #[.slice none 0 0, .int .i64 0, .int .i64 0, .int .i64 0, .int .i64 0] 32))
        obtain ⟨g7, hge⟩ : ∃ q, v3.heap.size = q := ⟨_, rfl⟩
        rw [hge] at hg hgle
        try rw [hge]
        obtain ⟨v5, hve⟩ : ∃ v, v3.alloc (.cells #[.slice none 0 0, .int .i64 0, .int .i64 0, .int .i64 0, .int .i64 0] 32) = v := ⟨_, rfl⟩
        rw [hve] at hg hHeld2 hown1
        rw [hve]
        refine hK.out _ _ hHeld2 (fun jd => ?_)
        clear hK K hve hge hHeld2
        refine wpAnyH_store (fuel := 2) (i := 10) rfl (by kernel_rfl) g7 0 (.agg #[.slice A1 n1 c1, .int .i64 I1, .int .i64 H1, .int .i64 S1, .int .i64 P1]) 32 _ rfl rfl infoWorks hg (Nat.le_refl 5) (by simp [Value.cells, Value.oneCell']) (fun w' hg' => jd.grown hg' jd.size (fun k hk => by cases hk; exact hgle)) ?ks6
        case ks6 =>
         intro v9 hh hgw hHeld3
         have hh : v9.heap[g7]? = some (.cells #[.slice A1 n1 c1, .int .i64 I1, .int .i64 H1, .int .i64 S1, .int .i64 P1] 32 (0, 0)) := hh
         have hown1 := own_other hown1 hg (by decide) hgw
         clear jd
         have jd := hHeld3
         clear hHeld3
         refine tj2 11 8 12 9 HF jd ?_
         refine wpAnyH_done (by kernel_rfl) ?_ _
         have HHH := lh hh
         have HOW := lh hown1
         have HVV := lh hv
         have HLD := lh jd
         have HGL := lh hgle
         clear hh hown1 hgw jd hg hv hgle HF
         go_wp2_with fail
         go_meet
         case rel => exact ⟨g7, A1, c1, L1, n1, I1, H1, S1, P1, r1, rfl, rfl, by rw [← HOK.out]; rfl, HGL.out, HHH.out, fun h => HVV.out (by rw [← h, ← HOK.out]; rfl), hnc1, HOW.out, HLD.out⟩
       ·go_simp
        have hg := heap_alloc_new v1 (.cells #[.slice none 0 0, .int .i64 0, .int .i64 0, .int .i64 0, .int .i64 0] 32)
        have hHeld2 := jd.alloc jd.size (.cells #[.slice none 0 0, .int .i64 0, .int .i64 0, .int .i64 0, .int .i64 0] 32)
        have hgle := jd.size
        have hsw := hsw.below ((Below.refl _ v1).alloc (Nat.le_refl _) (.cells #[.slice none 0 0, .int .i64 0, .int .i64 0, .int .i64 0, .int .i64 0] 32))
        obtain ⟨g7, hge⟩ : ∃ q, v1.heap.size = q := ⟨_, rfl⟩
        rw [hge] at hg hgle
        try rw [hge]
        obtain ⟨v4, hve⟩ : ∃ v, v1.alloc (.cells #[.slice none 0 0, .int .i64 0, .int .i64 0, .int .i64 0, .int .i64 0] 32) = v := ⟨_, rfl⟩
        rw [hve] at hg hHeld2 hsw
        rw [hve]
        refine hK.out _ _ hHeld2 (fun jd => ?_)
        clear hK K hve hge hHeld2
        refine wpAnyH_ready (rs := [4]) (by kernel_rfl) (by simp) ?_
        refine (AllReadyH.cons rfl (fun K hK => ?_) AllReadyH.nil)
        go_simp
        have hsw' := hsw
        rw [ws_len s] at hsw' hdw
        try rw [ws_len s]
        have hAW := answer_any w.heap.size A' n c' (cellsL f n) I H S P Bw (mV s) dw _ _ (wsV s) v4 (ownsRow_below HW5.out jd) (by have := HB.out.size; have := jd.size; omega) hc' HGW.out hsw' hdw (by have := ws_len s; have := wordsV_le 32 s; omega) (fun j => Nat.le_trans (wsV_size s j) (by omega)) ((HT.out.below HB.out).below jd) ((HE.out.below HB.out).below jd)
        refine hAW.mono ?_
        rintro e v7 ⟨A1, c1, L1, n1, I1, H1, S1, P1, r1, rfl, hv, hnc1, hown1, hb⟩
        clear hAW hsw'
        have hg := rowC hg hb
        have hHeld2 := jd.trans (hb.mono jd.size)
        refine hK.out _ _ hHeld2 (fun jd => ?_)
        clear hK K hHeld2 hb hsw
        refine tj4 5 32 6 38 7 39 8 40 HF jd ?_
        refine wpAnyH_store (fuel := 2) (i := 10) rfl (by kernel_rfl) g7 0 (.agg #[.slice A1 n1 c1, .int .i64 I1, .int .i64 H1, .int .i64 S1, .int .i64 P1]) 32 _ rfl rfl infoWorks hg (Nat.le_refl 5) (by simp [Value.cells, Value.oneCell']) (fun w' hg' => jd.grown hg' jd.size (fun k hk => by cases hk; exact hgle)) ?ks8
        case ks8 =>
         intro v9 hh hgw hHeld3
         have hh : v9.heap[g7]? = some (.cells #[.slice A1 n1 c1, .int .i64 I1, .int .i64 H1, .int .i64 S1, .int .i64 P1] 32 (0, 0)) := hh
         have hown1 := own_other hown1 hg (by decide) hgw
         clear jd
         have jd := hHeld3
         clear hHeld3
         refine tj2 11 8 12 9 HF jd ?_
         refine wpAnyH_done (by kernel_rfl) ?_ _
         have HHH := lh hh
         have HOW := lh hown1
         have HVV := lh hv
         have HLD := lh jd
         have HGL := lh hgle
         clear hh hown1 hgw jd hg hv hgle HF
         go_wp2_with fail
         go_meet
         case rel => exact ⟨g7, A1, c1, L1, n1, I1, H1, S1, P1, r1, rfl, rfl, by rw [← HOK.out]; rfl, HGL.out, HHH.out, fun h => HVV.out (by rw [← h, ← HOK.out]; rfl), hnc1, HOW.out, HLD.out⟩
      ·go_simp
       have hg := heap_alloc_new v0 (.cells #[.slice none 0 0, .int .i64 0, .int .i64 0, .int .i64 0, .int .i64 0] 32)
       have hHeld2 := jd.alloc jd.size (.cells #[.slice none 0 0, .int .i64 0, .int .i64 0, .int .i64 0, .int .i64 0] 32)
       have hgle := jd.size
       obtain ⟨g7, hge⟩ : ∃ q, v0.heap.size = q := ⟨_, rfl⟩
       rw [hge] at hg hgle
       try rw [hge]
       obtain ⟨v2, hve⟩ : ∃ v, v0.alloc (.cells #[.slice none 0 0, .int .i64 0, .int .i64 0, .int .i64 0, .int .i64 0] 32) = v := ⟨_, rfl⟩
       rw [hve] at hg hHeld2
       rw [hve]
       refine hK.out _ _ hHeld2 (fun jd => ?_)
       clear hK K hve hge hHeld2
       refine wpAnyH_ready (rs := [3]) (by kernel_rfl) (by simp) ?_
       refine (AllReadyH.cons rfl (fun K hK => ?_) AllReadyH.nil)
       go_simp
       refine (Split_any s 32 (by omega) v2 ((HM.out.below HB.out).below jd)).mono ?_
       rintro e v9 ⟨Bw, dw, rfl, hdw, hsw, hb⟩
       have hg := rowC hg hb
       have hHeld2 := jd.trans (hb.mono jd.size)
       refine hK.out _ _ hHeld2 (fun jd => ?_)
       clear hK K hHeld2 hb
       refine wpAnyH_ready (rs := [4]) (by kernel_rfl) (by simp) ?_
       refine (AllReadyH.cons rfl (fun K hK => ?_) AllReadyH.nil)
       go_simp
       have hsw' := hsw
       rw [ws_len s] at hsw' hdw
       try rw [ws_len s]
       have hAW := answer_any w.heap.size A' n c' (cellsL f n) I H S P Bw (mV s) dw _ _ (wsV s) v9 (ownsRow_below HW5.out jd) (by have := HB.out.size; have := jd.size; omega) hc' HGW.out hsw' hdw (by have := ws_len s; have := wordsV_le 32 s; omega) (fun j => Nat.le_trans (wsV_size s j) (by omega)) ((HT.out.below HB.out).below jd) ((HE.out.below HB.out).below jd)
       refine hAW.mono ?_
       rintro e v10 ⟨A1, c1, L1, n1, I1, H1, S1, P1, r1, rfl, hv, hnc1, hown1, hb⟩
       clear hAW hsw'
       have hg := rowC hg hb
       have hHeld2 := jd.trans (hb.mono jd.size)
       refine hK.out _ _ hHeld2 (fun jd => ?_)
       clear hK K hHeld2 hb hsw
       refine tj4 5 32 6 38 7 39 8 40 HF jd ?_
       refine wpAnyH_store (fuel := 2) (i := 10) rfl (by kernel_rfl) g7 0 (.agg #[.slice A1 n1 c1, .int .i64 I1, .int .i64 H1, .int .i64 S1, .int .i64 P1]) 32 _ rfl rfl infoWorks hg (Nat.le_refl 5) (by simp [Value.cells, Value.oneCell']) (fun w' hg' => jd.grown hg' jd.size (fun k hk => by cases hk; exact hgle)) ?ks11
       case ks11 =>
        intro v9 hh hgw hHeld3
        have hh : v9.heap[g7]? = some (.cells #[.slice A1 n1 c1, .int .i64 I1, .int .i64 H1, .int .i64 S1, .int .i64 P1] 32 (0, 0)) := hh
        have hown1 := own_other hown1 hg (by decide) hgw
        clear jd
        have jd := hHeld3
        clear hHeld3
        refine tj2 11 8 12 9 HF jd ?_
        refine wpAnyH_done (by kernel_rfl) ?_ _
        have HHH := lh hh
        have HOW := lh hown1
        have HVV := lh hv
        have HLD := lh jd
        have HGL := lh hgle
        clear hh hown1 hgw jd hg hv hgle HF
        go_wp2_with fail
        go_meet
        case rel => exact ⟨g7, A1, c1, L1, n1, I1, H1, S1, P1, r1, rfl, rfl, by rw [← HOK.out]; rfl, HGL.out, HHH.out, fun h => HVV.out (by rw [← h, ← HOK.out]; rfl), hnc1, HOW.out, HLD.out⟩
    case rest =>
    obtain ⟨g7, A1, c1, L1, n1, I1, H1, S1, P1, r1, rfl, rfl, rfl, hg7, h7, hv, hnc1, hown1, hb⟩ := hcut
    obtain ⟨w6, hw6⟩ : ∃ v, wc = v := ⟨_, rfl⟩
    rw [hw6] at h7 hown1 hb
    try rw [hw6]
    clear hw6 wc
    have l6 := (Array.getElem?_eq_some_iff.1 H6.out).1
    have hn76 : g7 ≠ g6 := by omega
    have HWo := lh (ownsRow_below HW5.out hb)
    have H7 := lh h7
    have HO1 := lh hown1
    have HV := lh hv
    clear l6 hg7 h7 hown1 hv HW5
    have H4' := lh (rowC H4.out hb)
    have H6' := lh (rowC H6.out hb)
    have HB' := lh (HB.out.trans (hb.mono HB.out.size))
    clear H4 H6 HB
    have H4 := H4'
    have H6 := H6'
    have HB := HB'
    clear H4' H6' HB'
    clear hb
    have hup : xcUp f n I H S P D Q z s = ok := by rw [xcUp, HGO.out, HOK.out, Bool.true_and]
    go_upto_if 41 with fail
    go_cut [8] from 10 (fun s8 wx => ∃ (A3 : Option Addr) (c3 : Nat), s8 = .string (if ok then (exR (lf (cellsL f n)) n I H S P (cV s) (xV s 0) (xV s 1) (xV s 2)) else ⟨#[63]⟩) ∧ wx.heap[g6]? = some (.cells #[.slice A3 (xcN f n I H S P D Q z s) c3, .int .i64 (xcI f n I H S P D Q z s), .int .i64 (xcH f n I H S P D Q z s), .int .i64 (xcS f n I H S P D Q z s), .int .i64 (xcP f n I H S P D Q z s), .string D, .string Q, .int .i64 z] 35 (0, 0)) ∧ xcN f n I H S P D Q z s ≤ c3 ∧ wx.ownsRow w.heap.size 97 4 (.slice A3 (xcN f n I H S P D Q z s) c3) (xcN f n I H S P D Q z s) ((xcL f n I H S P D Q z s).map (Value.int .i64)) ∧ wx.heap[g4]? = some (.cells #[.slice none 0 0, .int .i64 0, .int .i64 0, .int .i64 0, .int .i64 0, .string ⟨#[]⟩, .string ⟨#[]⟩, .int .i64 0] 35 (0, 0)) ∧ Below w.heap.size w wx)
    case first =>
     as_aux_lemma =>
      cases ok with
      | false =>
       have e1 : xcL f n I H S P D Q z s = cellsL f n := by rw [xcL, hup]; rfl
       have e2 : xcN f n I H S P D Q z s = n := by rw [xcN, hup]; rfl
       have e3 : xcI f n I H S P D Q z s = I := by rw [xcI, hup]; rfl
       have e4 : xcH f n I H S P D Q z s = H := by rw [xcH, hup]; rfl
       have e5 : xcS f n I H S P D Q z s = S := by rw [xcS, hup]; rfl
       have e6 : xcP f n I H S P D Q z s = P := by rw [xcP, hup]; rfl
       have HR := lh (⟨H6.out, hc', HWo.out, H4.out, HB.out⟩ : _ ∧ _ ∧ _ ∧ _ ∧ _)
       have E1 := lh e1
       have E2 := lh e2
       have E3 := lh e3
       have E4 := lh e4
       have E5 := lh e5
       have E6 := lh e6
       clear e1 e2 e3 e4 e5 e6 hup
       go_wp2_with fail
       go_meet
       case rel =>
        rw [E1.out, E2.out, E3.out, E4.out, E5.out, E6.out]
        exact ⟨A', c', rfl, HR.out.1, HR.out.2.1, HR.out.2.2.1, HR.out.2.2.2.1, HR.out.2.2.2.2⟩
      | true =>
       obtain ⟨v1, v2, v3, v4, v5, v6, v7⟩ := HV.out rfl
       have e1 : xcL f n I H S P D Q z s = L1 := by rw [xcL, hup, v1]; rfl
       have e2 : xcN f n I H S P D Q z s = n1 := by rw [xcN, hup, v2]; rfl
       have e3 : xcI f n I H S P D Q z s = I1 := by rw [xcI, hup, v3]; rfl
       have e4 : xcH f n I H S P D Q z s = H1 := by rw [xcH, hup, v4]; rfl
       have e5 : xcS f n I H S P D Q z s = S1 := by rw [xcS, hup, v5]; rfl
       have e6 : xcP f n I H S P D Q z s = P1 := by rw [xcP, hup, v6]; rfl
       have HV7 := lh v7
       have E1 := lh e1
       have E2 := lh e2
       have E3 := lh e3
       have E4 := lh e4
       have E5 := lh e5
       have E6 := lh e6
       clear e1 e2 e3 e4 e5 e6 v1 v2 v3 v4 v5 v6 v7 hup HV
       obtain ⟨e0, e1, e2, e3, e4⟩ := cells5 H7.out
       have h6 := H6.out
       go_upto_region 10 with fail
       go_wp2_with ((with_reducible refine wpList_isStore ?_); refine wpList_store2 g6 0 (.agg #[.slice A1 n1 c1, .int .i64 I1, .int .i64 H1, .int .i64 S1, .int .i64 P1]) 35 _ #[.slice A1 n1 c1, .int .i64 I1, .int .i64 H1, .int .i64 S1, .int .i64 P1, .string D, .string Q, .int .i64 z] rfl rfl infoWorks h6 ((by decide : 0 + 5 ≤ 8)) (by simp [Value.cells, Value.oneCell']) rfl ?_)
       intro wz hh hgw
       have HR := lh (⟨hh, hnc1, own_other HO1.out H6.out (by decide) hgw, rowGr H4.out hgw hn46, HB.out.grown hgw HB.out.size (fun k hk => by cases hk; exact HL6.out)⟩ : _ ∧ _ ∧ _ ∧ _ ∧ _)
       clear hh hgw h6
       go_wp2_with fail
       go_meet
       case rel =>
        rw [E1.out, E2.out, E3.out, E4.out, E5.out, E6.out]
        exact ⟨A1, c1, by rw [HV7.out]; rfl, HR.out.1, HR.out.2.1, HR.out.2.2.1, HR.out.2.2.2.1, HR.out.2.2.2.2⟩
    case rest =>
    obtain ⟨A3, c3, rfl, h6, hc3, hown3, h4, hB⟩ := hcut
    obtain ⟨w7, hw7⟩ : ∃ v, wc = v := ⟨_, rfl⟩
    rw [hw7] at h6 hown3 h4 hB
    try rw [hw7]
    clear hw7 wc
    clear H4 H6 HB HV H7 HO1 HWo hup
    have H4 := lh h4
    have H6 := lh h6
    have HB := lh hB
    have HO3 := lh hown3
    clear h4 h6 hB hown3
    obtain ⟨r0, hr0⟩ : ∃ r, (if ok = true then (exR (lf (cellsL f n)) n I H S P (cV s) (xV s 0) (xV s 1) (xV s 2)) else ⟨#[63]⟩ : ByteArray) = r := ⟨_, rfl⟩
    rw [hr0]
    have HT0 : Hid (longV r0 = xcT f n I H S P s) := by show _ = _; rw [xcT, HOK.out, hr0]
    clear hr0
    go_upto_region 12 with fail
    go_cut [46] from 10 (fun sx wx => sx = .bool (decide (200 < r0.size)) ∧ wx = w7)
    case first =>
     have hk : (r0.size : Int) ≤ 9223372036854775807 ∨ True := Or.inr trivial
     by_cases hl : 200 < r0.size
     ·have hli : (200 : Int) < (r0.size : Int) := by omega
      go_wp2_with fail
      go_meet
      case rel => exact ⟨by rw [decide_eq_true hl], rfl⟩
     ·have hli : ¬ ((200 : Int) < (r0.size : Int)) := by omega
      go_wp2_with fail
      go_meet
      case rel => exact ⟨by rw [decide_eq_false hl], rfl⟩
    case rest =>
    obtain ⟨rfl, hwc⟩ := hcut
    rw [hwc]
    clear hwc wc
    go_upto_if 46 with fail
    go_cut [8] from 10 (fun sx wx => sx = .string (longV r0) ∧ wx = w7)
    case first =>
     by_cases hl : 200 < r0.size
     ·have e : Hid (longV r0 = ⟨#[108, 111, 110, 103]⟩) := by show _ = _; rw [longV, if_pos hl]
      rw [decide_eq_true hl]
      go_wp2_with fail
      go_meet
      case rel => exact ⟨by rw [e.out], rfl⟩
     ·have e : Hid (longV r0 = r0) := by show _ = _; rw [longV, if_neg hl]
      rw [decide_eq_false hl]
      go_wp2_with fail
      go_meet
      case rel => exact ⟨by rw [e.out], rfl⟩
    case rest =>
    obtain ⟨rfl, hwc⟩ := hcut
    rw [hwc]
    clear hwc wc
    rw [HT0.out]
    have hTs : (xcT f n I H S P s).size ≤ 200 := longV_size _
    generalize hxt : xcT f n I H S P s = rt at hTs HT0 ⊢
    have HXT := lh hxt
    clear hxt HT0
    have h6 := H6.out
    obtain ⟨e0, e1, e2, e3, e4, e5, e6, e7⟩ := cells8 h6
    clear h6
    have hss : s.size ≤ 160 := by
     have h := (goodRec_facts HGR.out).2.1
     exact h
    go_wp2_with fail
    refine (AppendRecord_any D Q z s rt hD hQ hsz (by omega) w7 (HT.out.below HB.out) (HM.out.below HB.out)).mono ?_
    rintro e w8 ⟨rfl, hb⟩
    have HO8 := lh (ownsRow_below HO3.out hb)
    clear e0 e1 e2 e3 e4 e5 e6 e7
    have H4' := lh (rowC H4.out hb)
    have H6' := lh (rowC H6.out hb)
    have HB' := lh (HB.out.trans (hb.mono HB.out.size))
    clear H4 H6 HB
    have H4 := H4'
    have H6 := H6'
    have HB := HB'
    clear H4' H6' HB'
    clear hb
    have h6 := H6.out
    go_wp2_with ((with_reducible refine wpList_isStore ?_); refine wpList_store2 g6 5 (.agg #[.string D, .string (apP D Q z s rt), .int .i64 (apZ D Q z s rt)]) 35 _ #[.slice A3 (xcN f n I H S P D Q z s) c3, .int .i64 (xcI f n I H S P D Q z s), .int .i64 (xcH f n I H S P D Q z s), .int .i64 (xcS f n I H S P D Q z s), .int .i64 (xcP f n I H S P D Q z s), .string D, .string (apP D Q z s rt), .int .i64 (apZ D Q z s rt)] rfl rfl infoLogE h6 ((by decide : 5 + 3 ≤ 8)) (by simp [Value.cells, Value.oneCell']) rfl ?_)
    intro w9 hh hgw
    have H6' := lh hh
    have H4' := lh (rowGr H4.out hgw hn46)
    have HO9 := lh (own_other HO8.out H6.out (by decide) hgw)
    have HB' := lh (HB.out.grown hgw HB.out.size (fun k hk => by cases hk; exact HL6.out))
    clear hh hgw h6 H6 H4 HO8 HB
    go_upto_region 15 with fail
    obtain ⟨e0, e1, e2, e3, e4, e5, e6, e7⟩ := cells8 H6'.out
    have h4 := H4'.out
    go_wp2_with ((with_reducible refine wpList_isStore ?_); refine wpList_store2 g4 0 (.agg #[.slice A3 (xcN f n I H S P D Q z s) c3, .int .i64 (xcI f n I H S P D Q z s), .int .i64 (xcH f n I H S P D Q z s), .int .i64 (xcS f n I H S P D Q z s), .int .i64 (xcP f n I H S P D Q z s), .string D, .string (apP D Q z s rt), .int .i64 (apZ D Q z s rt)]) 35 _ #[.slice A3 (xcN f n I H S P D Q z s) c3, .int .i64 (xcI f n I H S P D Q z s), .int .i64 (xcH f n I H S P D Q z s), .int .i64 (xcS f n I H S P D Q z s), .int .i64 (xcP f n I H S P D Q z s), .string D, .string (apP D Q z s rt), .int .i64 (apZ D Q z s rt)] rfl rfl infoConE h4 (Nat.le_refl 8) (by simp [Value.cells, Value.oneCell']) rfl ?_)
    intro wz hh hgw
    have HHR := lh hh
    have HBZ := lh (HB'.out.grown hgw HB'.out.size (fun k hk => by cases hk; exact HLE.out.2))
    have HOZ := lh (own_other HO9.out H4'.out (by decide) hgw)
    clear hh hgw h4 e0 e1 e2 e3 e4 e5 e6 e7
    go_wp2_with ((try simp only [Exit.inBlock, Exit.then]); refine ret_cell2 Tryz.results12 rfl rfl Tryz.underlying35 HHR.out infoConE rfl ?_; have hq := exec_yes HGO.out HGC.out HGR.out HZ6.out HXT.out hc3 HOZ.out HBZ.out; exact hq)
end Go.Proofs.YtpndjhelpoenpaaGreatDoor
namespace Go.Proofs.YtpndjhelpoenpaaGreatDoor
open Go.RowKit
attribute [local go_sem ↓] Go.wp_at_zero Go.wp_at_succ
theorem xc_N {f : Nat → Int} {n : Nat} {I H S P : Int} {D Q : ByteArray} {z : Int} {s : ByteArray} (hgo : xcGo f n I H S P D Q z s = true) : (exN (lf (cellsL f n)) n I H S P (cR s) (xV s 0) (xV s 1) (xV s 2)) = xcN f n I H S P D Q z s := by
 have hup : xcUp f n I H S P D Q z s = xcA f n I H S P s := by rw [xcUp, hgo, Bool.true_and]
 rw [xcN, hup]
 cases ha : allTo (okN (wsV s)) (mV s) with
 | false =>
  have h1 : cR s = 0 := by rw [cR, ha]; rfl
  have h2 : xcA f n I H S P s = false := by rw [xcA, ha]; rfl
  rw [h1, h2]
  exact rfl
 | true =>
  have h1 : cR s = cV s := by rw [cR, ha]; rfl
  rw [h1, xcA, ha, Bool.true_and]
  cases hk : exOk (lf (cellsL f n)) n I H S P (cV s) (xV s 0) (xV s 1) (xV s 2) with
  | false =>
   have hg := go_no (L := cellsL f n) hk
   rw [exN, hg]
   exact rfl
  | true => rfl
theorem xc_I {f : Nat → Int} {n : Nat} {I H S P : Int} {D Q : ByteArray} {z : Int} {s : ByteArray} (hgo : xcGo f n I H S P D Q z s = true) : (exI (lf (cellsL f n)) n I H S P (cR s) (xV s 0) (xV s 1) (xV s 2)) = xcI f n I H S P D Q z s := by
 have hup : xcUp f n I H S P D Q z s = xcA f n I H S P s := by rw [xcUp, hgo, Bool.true_and]
 rw [xcI, hup]
 cases ha : allTo (okN (wsV s)) (mV s) with
 | false =>
  have h1 : cR s = 0 := by rw [cR, ha]; rfl
  have h2 : xcA f n I H S P s = false := by rw [xcA, ha]; rfl
  rw [h1, h2]
  exact rfl
 | true =>
  have h1 : cR s = cV s := by rw [cR, ha]; rfl
  rw [h1, xcA, ha, Bool.true_and]
  cases hk : exOk (lf (cellsL f n)) n I H S P (cV s) (xV s 0) (xV s 1) (xV s 2) with
  | false =>
   have hg := go_no (L := cellsL f n) hk
   rw [exI, hg]
   exact rfl
  | true => rfl
theorem xc_H {f : Nat → Int} {n : Nat} {I H S P : Int} {D Q : ByteArray} {z : Int} {s : ByteArray} (hgo : xcGo f n I H S P D Q z s = true) : (exH (lf (cellsL f n)) n I H S P (cR s) (xV s 0) (xV s 1) (xV s 2)) = xcH f n I H S P D Q z s := by
 have hup : xcUp f n I H S P D Q z s = xcA f n I H S P s := by rw [xcUp, hgo, Bool.true_and]
 rw [xcH, hup]
 cases ha : allTo (okN (wsV s)) (mV s) with
 | false =>
  have h1 : cR s = 0 := by rw [cR, ha]; rfl
  have h2 : xcA f n I H S P s = false := by rw [xcA, ha]; rfl
  rw [h1, h2]
  exact rfl
 | true =>
  have h1 : cR s = cV s := by rw [cR, ha]; rfl
  rw [h1, xcA, ha, Bool.true_and]
  cases hk : exOk (lf (cellsL f n)) n I H S P (cV s) (xV s 0) (xV s 1) (xV s 2) with
  | false =>
   have hg := go_no (L := cellsL f n) hk
   rw [exH, hg]
   exact rfl
  | true => rfl
theorem xc_S {f : Nat → Int} {n : Nat} {I H S P : Int} {D Q : ByteArray} {z : Int} {s : ByteArray} (hgo : xcGo f n I H S P D Q z s = true) : (exS (lf (cellsL f n)) n I H S P (cR s) (xV s 0) (xV s 1) (xV s 2)) = xcS f n I H S P D Q z s := by
 have hup : xcUp f n I H S P D Q z s = xcA f n I H S P s := by rw [xcUp, hgo, Bool.true_and]
 rw [xcS, hup]
 cases ha : allTo (okN (wsV s)) (mV s) with
 | false =>
  have h1 : cR s = 0 := by rw [cR, ha]; rfl
  have h2 : xcA f n I H S P s = false := by rw [xcA, ha]; rfl
  rw [h1, h2]
  exact rfl
 | true =>
  have h1 : cR s = cV s := by rw [cR, ha]; rfl
  rw [h1, xcA, ha, Bool.true_and]
  cases hk : exOk (lf (cellsL f n)) n I H S P (cV s) (xV s 0) (xV s 1) (xV s 2) with
  | false =>
   have hg := go_no (L := cellsL f n) hk
   rw [exS, hg]
   exact rfl
  | true => rfl
theorem xc_P {f : Nat → Int} {n : Nat} {I H S P : Int} {D Q : ByteArray} {z : Int} {s : ByteArray} (hgo : xcGo f n I H S P D Q z s = true) : (exP (lf (cellsL f n)) n I H S P (cR s) (xV s 0) (xV s 1) (xV s 2)) = xcP f n I H S P D Q z s := by
 have hup : xcUp f n I H S P D Q z s = xcA f n I H S P s := by rw [xcUp, hgo, Bool.true_and]
 rw [xcP, hup]
 cases ha : allTo (okN (wsV s)) (mV s) with
 | false =>
  have h1 : cR s = 0 := by rw [cR, ha]; rfl
  have h2 : xcA f n I H S P s = false := by rw [xcA, ha]; rfl
  rw [h1, h2]
  exact rfl
 | true =>
  have h1 : cR s = cV s := by rw [cR, ha]; rfl
  rw [h1, xcA, ha, Bool.true_and]
  cases hk : exOk (lf (cellsL f n)) n I H S P (cV s) (xV s 0) (xV s 1) (xV s 2) with
  | false =>
   have hg := go_no (L := cellsL f n) hk
   rw [exP, hg]
   exact rfl
  | true => rfl
theorem xc_L {f : Nat → Int} {n : Nat} {I H S P : Int} {D Q : ByteArray} {z : Int} {s : ByteArray} (hgo : xcGo f n I H S P D Q z s = true) : (exL (lf (cellsL f n)) n I H S P (cR s) (xV s 0) (xV s 1) (xV s 2)) = xcL f n I H S P D Q z s := by
 have hup : xcUp f n I H S P D Q z s = xcA f n I H S P s := by rw [xcUp, hgo, Bool.true_and]
 rw [xcL, hup]
 cases ha : allTo (okN (wsV s)) (mV s) with
 | false =>
  have h1 : cR s = 0 := by rw [cR, ha]; rfl
  have h2 : xcA f n I H S P s = false := by rw [xcA, ha]; rfl
  rw [h1, h2]
  exact cellsL_lf (cellsL_len f n)
 | true =>
  have h1 : cR s = cV s := by rw [cR, ha]; rfl
  rw [h1, xcA, ha, Bool.true_and]
  cases hk : exOk (lf (cellsL f n)) n I H S P (cV s) (xV s 0) (xV s 1) (xV s 2) with
  | false =>
   have hg := go_no (L := cellsL f n) hk
   rw [exL, hg]
   exact cellsL_lf (cellsL_len f n)
  | true => rfl
theorem xc_T {f : Nat → Int} {n : Nat} {I H S P : Int} {s : ByteArray} : longV (exR (lf (cellsL f n)) n I H S P (cR s) (xV s 0) (xV s 1) (xV s 2)) = xcT f n I H S P s := by
 rw [xcT]
 cases ha : allTo (okN (wsV s)) (mV s) with
 | false =>
  have h1 : cR s = 0 := by rw [cR, ha]; rfl
  have h2 : xcA f n I H S P s = false := by rw [xcA, ha]; rfl
  rw [h1, h2]
  rfl
 | true =>
  have h1 : cR s = cV s := by rw [cR, ha]; rfl
  rw [h1, xcA, ha, Bool.true_and]
  cases hk : exOk (lf (cellsL f n)) n I H S P (cV s) (xV s 0) (xV s 1) (xV s 2) with
  | false => rw [exR_none (L := cellsL f n) hk]; rfl
  | true => rfl
theorem rf_xc {w w' : World} {e : Ending} {f : Nat → Int} {n base : Nat} {I H S P : Int} {D Q : ByteArray} {z : Int} {s : ByteArray} (hgo : xcGo f n I H S P D Q z s = true) (h : rfPost base (cellsL f n) n I H S P D Q z (cR s) (xV s 0) (xV s 1) (xV s 2) w e w') :
  ∃ A1 c1 n1 L1 I1 H1 S1 P1 r0, Hid (n1 = xcN f n I H S P D Q z s ∧ L1 = xcL f n I H S P D Q z s ∧ I1 = xcI f n I H S P D Q z s ∧ H1 = xcH f n I H S P D Q z s ∧ S1 = xcS f n I H S P D Q z s ∧ P1 = xcP f n I H S P D Q z s ∧ longV r0 = xcT f n I H S P s) ∧ e = .returned (.tuple #[.agg #[.slice A1 n1 c1, .int .i64 I1, .int .i64 H1, .int .i64 S1, .int .i64 P1, .string D, .string Q, .int .i64 z], .string r0]) ∧ n1 ≤ c1 ∧ w'.ownsRow base 97 4 (.slice A1 n1 c1) n1 (L1.map (Value.int .i64)) ∧ Below w.heap.size w w' := by
 obtain ⟨A1, c1, rfl, h1, h2, h3⟩ := h
 exact ⟨A1, c1, _, _, _, _, _, _, _, ⟨xc_N hgo, xc_L hgo, xc_I hgo, xc_H hgo, xc_S hgo, xc_P hgo, xc_T⟩, rfl, h1, h2, h3⟩
theorem stN_le {n : Nat} {k : Int} : stN n k ≤ n + 1 := by
 unfold stN
 split
 ·omega
 ·split <;> omega
theorem xc_len {f : Nat → Int} {n n1 : Nat} {I H S P I1 H1 S1 P1 : Int} {D Q : ByteArray} {z : Int} {s r0 : ByteArray} {L1 : List Int} (h : n1 = xcN f n I H S P D Q z s ∧ L1 = xcL f n I H S P D Q z s ∧ I1 = xcI f n I H S P D Q z s ∧ H1 = xcH f n I H S P D Q z s ∧ S1 = xcS f n I H S P D Q z s ∧ P1 = xcP f n I H S P D Q z s ∧ longV r0 = xcT f n I H S P s) (hg : (goodWorks f n I H S P && logOk D Q z) = true) (hn : n ≤ 1048576) : n1 ≤ 1048576 := by
 rw [Bool.and_eq_true] at hg
 have h6 := con_len hg.1
 rw [h.1, xcN, exN]
 split
 ·split
  ·have := @stN_le n (cV s); omega
  ·exact hn
 ·exact hn
theorem xcN_len {f : Nat → Int} {n : Nat} {I H S P : Int} {D Q : ByteArray} {z : Int} {s : ByteArray} (hn : n ≤ 1048576) : xcN f n I H S P D Q z s ≤ 1048576 := by
 unfold xcN
 split
 ·rename_i hk
  have hg : goodWorks f n I H S P = true := by
   rw [xcUp, xcGo, Bool.and_eq_true, Bool.and_eq_true, Bool.and_eq_true] at hk
   exact hk.1.1.1
  have h6 := con_len hg
  unfold exN
  split
  ·have := @stN_le n (cV s); omega
  ·exact hn
 ·exact hn
theorem exec_end {w w' : World} {f : Nat → Int} {n n1 c' : Nat} {I H S P I1 H1 S1 P1 : Int} {D Q : ByteArray} {z : Int} {s r0 rt : ByteArray} {L1 : List Int} {A' : Option Addr} (hgo : xcGo f n I H S P D Q z s = true) (hgc : (goodWorks f n I H S P && logOk D Q z) = true) (hgr : goodRec s ⟨#[]⟩ = true) (hz : z ≠ 60)
  (h : n1 = xcN f n I H S P D Q z s ∧ L1 = xcL f n I H S P D Q z s ∧ I1 = xcI f n I H S P D Q z s ∧ H1 = xcH f n I H S P D Q z s ∧ S1 = xcS f n I H S P D Q z s ∧ P1 = xcP f n I H S P D Q z s ∧ longV r0 = xcT f n I H S P s) (hrt : longV r0 = rt) (hc : n1 ≤ c') (hO : w'.ownsRow w.heap.size 97 4 (.slice A' n1 c') n1 (L1.map (Value.int .i64))) (hB : Below w.heap.size w w') :
  execPost w f n I H S P D Q z s (.returned (.tuple #[.agg #[.slice A' n1 c', .int .i64 I1, .int .i64 H1, .int .i64 S1, .int .i64 P1, .string D, .string (apP D Q z s rt), .int .i64 (apZ D Q z s rt)], .string rt])) w' := by
 obtain ⟨rfl, rfl, rfl, rfl, rfl, rfl, hr⟩ := h
 exact exec_yes hgo hgc hgr hz (hr.symm.trans hrt) hc hO hB
theorem sExecuteCommand_any (A : Option Addr) (n c lo hi : Nat) (f : Nat → Int) (I H S P : Int) (D Q : ByteArray) (z : Int) (s : ByteArray) (w : World) (hs : Sl w lo hi 4 A n f) (hn : n ≤ 1048576) (hnc : n ≤ c) (hnone : A = none → n = 0 ∧ c = 0) (hD : D.size ≤ 1048576) (hQ : Q.size ≤ 1048576) (hsz : s.size ≤ 1048576) :
  Calls Tryz.prog 10 #[.agg #[.slice A n c, .int .i64 I, .int .i64 H, .int .i64 S, .int .i64 P, .string D, .string Q, .int .i64 z], .string s] w (execPost w f n I H S P D Q z s) := by
 obtain ⟨hX, h2, h4⟩ := bl2 w (.cells #[.slice A n c, .int .i64 I, .int .i64 H, .int .i64 S, .int .i64 P, .string D, .string Q, .int .i64 z] 35) (.cells #[.slice none 0 0, .int .i64 0, .int .i64 0, .int .i64 0, .int .i64 0, .string ⟨#[]⟩, .string ⟨#[]⟩, .int .i64 0] 35)
 go_enter Tryz.func10, Tryz.ntmps10
 go_upto_region 1 with fail
 refine name_wp ?_
 intro w1 hw1
 rw [← hw1] at hX h2 h4
 clear hw1
 obtain ⟨g2, hg2⟩ : ∃ q, w.heap.size = q := ⟨_, rfl⟩
 rw [hg2] at h2 h4
 try rw [hg2]
 obtain ⟨g4, hg4⟩ : ∃ q, g2 + 1 = q := ⟨_, rfl⟩
 rw [hg4] at h4
 try rw [hg4]
 have HLE := lh (show w.heap.size ≤ g4 by omega)
 have hn24 : g2 ≠ g4 := by omega
 have l4 := (Array.getElem?_eq_some_iff.1 h4).1
 have HS := lh hs
 have HB := lh hX
 have H2 := lh h2
 have H4 := lh h4
 clear hs hX h2 h4
 obtain ⟨e0, e1, e2, e3, e4, e5, e6, e7⟩ := cells8 H2.out
 go_wp2_with fail
 refine (l28Own_any A n c lo hi f I H S P D Q z w1 (HS.out.below HB.out) hn hnc hnone).mono ?_
 rintro e w2 ⟨A', c', rfl, hc', hown, hb⟩
 have l4' := Nat.lt_of_lt_of_le l4 hb.size
 clear l4 e0 e1 e2 e3 e4 e5 e6 e7
 have HW := lh (ownsRow_monoP hown HB.out.size)
 clear hown
 have H2' := lh (rowC H2.out hb)
 have H4' := lh (rowC H4.out hb)
 have HB' := lh (HB.out.trans (hb.mono HB.out.size))
 clear H2 H4 HB
 have H2 := H2'
 have H4 := H4'
 have HB := HB'
 clear H2' H4' HB' hb
 go_upto_region 2 with fail
 refine name_wp ?_
 intro w3 hw3
 have hb := ba hw3
 have h6 := an hw3
 clear hw3
 obtain ⟨g6, hg6⟩ : ∃ q, w2.heap.size = q := ⟨_, rfl⟩
 rw [hg6] at h6 l4'
 try rw [hg6]
 have hn46 : g4 ≠ g6 := by omega
 have hn26 : g2 ≠ g6 := by omega
 have HL6 := lh (show w.heap.size ≤ g6 by have := HLE.out; omega)
 clear hg6 l4'
 have H6 := lh h6
 clear h6
 have H2' := lh (rowC H2.out hb)
 have H4' := lh (rowC H4.out hb)
 have HB' := lh (HB.out.trans (hb.mono HB.out.size))
 have HW' := lh (ownsRow_below HW.out hb)
 clear H2 H4 HB HW
 have H2 := H2'
 have H4 := H4'
 have HB := HB'
 have HW := HW'
 clear H2' H4' HB' HW' hb
 have h2 := H2.out
 obtain ⟨e0, e1, e2, e3, e4, e5, e6, e7⟩ := cells8 h2
 clear h2
 go_wp2_with fail
 refine (l28Good_any A n c lo hi f I H S P D Q z w3 (HS.out.below HB.out) hn hnc hD hQ).mono ?_
 obtain ⟨gc, hgc⟩ : ∃ b, (goodWorks f n I H S P && logOk D Q z) = b := ⟨_, rfl⟩
 rw [hgc]
 have HGC := lh hgc
 clear hgc
 rintro e w4 ⟨rfl, hb⟩
 clear e0 e1 e2 e3 e4 e5 e6 e7
 have H2' := lh (rowC H2.out hb)
 have H4' := lh (rowC H4.out hb)
 have H6' := lh (rowC H6.out hb)
 have HB' := lh (HB.out.trans (hb.mono HB.out.size))
 have HW' := lh (ownsRow_below HW.out hb)
 clear H2 H4 H6 HB HW
 have H2 := H2'
 have H4 := H4'
 have H6 := H6'
 have HB := HB'
 have HW := HW'
 clear H2' H4' H6' HB' HW' hb
 cases gc with
 | false =>
  as_aux_lemma =>
   have h4 := H4.out
   obtain ⟨e0, e1, e2, e3, e4, e5, e6, e7⟩ := cells8 H6.out
   go_upto_region 3 with fail
   go_wp2_with ((with_reducible refine wpList_isStore ?_); refine wpList_store2 g4 0 (.agg #[.slice A' n c', .int .i64 I, .int .i64 H, .int .i64 S, .int .i64 P, .string D, .string Q, .int .i64 z]) 35 _ #[.slice A' n c', .int .i64 I, .int .i64 H, .int .i64 S, .int .i64 P, .string D, .string Q, .int .i64 z] rfl rfl infoConE h4 (Nat.le_refl 8) (by simp [Value.cells, Value.oneCell']) rfl ?_)
   intro wz hh hgw
   have HHR := lh hh
   have HBZ := lh (HB.out.grown hgw HB.out.size (fun k hk => by cases hk; exact HLE.out))
   have HOZ := lh (own_other HW.out h4 (by decide) hgw)
   clear hh hgw
   go_wp2_with ((try simp only [Exit.inBlock, Exit.then]); refine ret_cell2 Tryz.results10 rfl rfl Tryz.underlying35 HHR.out infoConE rfl ?_; exact exec_no (by rw [xcGo, HGC.out]; rfl) (by rw [xcR, HGC.out]; rfl) hc' HOZ.out HBZ.out)
 | true =>
  go_wp2_with fail
  refine (l27Good_any s ⟨#[]⟩ (by omega) (by simp [ByteArray.size]) w4).mono ?_
  obtain ⟨gr, hgr⟩ : ∃ b, goodRec s ⟨#[]⟩ = b := ⟨_, rfl⟩
  rw [hgr]
  have HGR := lh hgr
  clear hgr
  rintro e w5 ⟨rfl, hb⟩
  have H2' := lh (rowC H2.out hb)
  have H4' := lh (rowC H4.out hb)
  have H6' := lh (rowC H6.out hb)
  have HB' := lh (HB.out.trans (hb.mono HB.out.size))
  have HW' := lh (ownsRow_below HW.out hb)
  clear H2 H4 H6 HB HW
  have H2 := H2'
  have H4 := H4'
  have H6 := H6'
  have HB := HB'
  have HW := HW'
  clear H2' H4' H6' HB' HW' hb
  cases gr with
  | false =>
   as_aux_lemma =>
    have h4 := H4.out
    obtain ⟨e0, e1, e2, e3, e4, e5, e6, e7⟩ := cells8 H6.out
    go_upto_region 5 with fail
    go_wp2_with ((with_reducible refine wpList_isStore ?_); refine wpList_store2 g4 0 (.agg #[.slice A' n c', .int .i64 I, .int .i64 H, .int .i64 S, .int .i64 P, .string D, .string Q, .int .i64 z]) 35 _ #[.slice A' n c', .int .i64 I, .int .i64 H, .int .i64 S, .int .i64 P, .string D, .string Q, .int .i64 z] rfl rfl infoConE h4 (Nat.le_refl 8) (by simp [Value.cells, Value.oneCell']) rfl ?_)
    intro wz hh hgw
    have HHR := lh hh
    have HBZ := lh (HB.out.grown hgw HB.out.size (fun k hk => by cases hk; exact HLE.out))
    have HOZ := lh (own_other HW.out h4 (by decide) hgw)
    clear hh hgw
    go_wp2_with ((try simp only [Exit.inBlock, Exit.then]); refine ret_cell2 Tryz.results10 rfl rfl Tryz.underlying35 HHR.out infoConE rfl ?_; exact exec_no (by rw [xcGo, HGC.out, HGR.out]; rfl) (by rw [xcR, HGC.out, HGR.out]; rfl) hc' HOZ.out HBZ.out)
  | true =>
   have h2 := H2.out
   obtain ⟨d0, d1, d2, d3, d4, d5, d6, d7⟩ := cells8 h2
   clear h2 d0 d1 d2 d3 d4 d5 d6
   by_cases hz60 : z = 60
   ·have hzb : (z == 60) = true := by simp [hz60]
    have HZ6 := lh hz60
    clear hz60
    have h4 := H4.out
    obtain ⟨e0, e1, e2, e3, e4, e5, e6, e7⟩ := cells8 H6.out
    go_upto_region 7 with fail
    go_wp2_with ((with_reducible refine wpList_isStore ?_); refine wpList_store2 g4 0 (.agg #[.slice A' n c', .int .i64 I, .int .i64 H, .int .i64 S, .int .i64 P, .string D, .string Q, .int .i64 z]) 35 _ #[.slice A' n c', .int .i64 I, .int .i64 H, .int .i64 S, .int .i64 P, .string D, .string Q, .int .i64 z] rfl rfl infoConE h4 (Nat.le_refl 8) (by simp [Value.cells, Value.oneCell']) rfl ?_)
    intro wz hh hgw
    have HHR := lh hh
    have HBZ := lh (HB.out.grown hgw HB.out.size (fun k hk => by cases hk; exact HLE.out))
    have HOZ := lh (own_other HW.out h4 (by decide) hgw)
    clear hh hgw
    go_wp2_with ((try simp only [Exit.inBlock, Exit.then]); refine ret_cell2 Tryz.results10 rfl rfl Tryz.underlying35 HHR.out infoConE rfl ?_; exact exec_no (by rw [xcGo, HGC.out, HGR.out]; simp [HZ6.out]) (by rw [xcR, HGC.out, HGR.out, if_pos HZ6.out]; rfl) hc' HOZ.out HBZ.out)
   ·have hzb : (z == 60) = false := by simp [hz60]
    have HGO : Hid (xcGo f n I H S P D Q z s = true) := by show _ = _; rw [xcGo, HGC.out, HGR.out]; simp [hz60]
    have HZ6 := lh hz60
    clear hz60
    have HGW : Hid (goodWorks (lf (cellsL f n)) n I H S P = true) := by
     show _ = _
     rw [good_cells]
     have h := HGC.out
     rw [Bool.and_eq_true] at h
     exact h.1
    obtain ⟨e0, e1, e2, e3, e4, e5, e6, e7⟩ := cells8 H6.out
    go_upto_region 8 with fail
    go_wp2_with fail
    refine (l28Run_any s hsz w.heap.size A' n c' (cellsL f n) I H S P D Q z w5 HW.out HB.out.size hc' HGW.out).mono ?_
    rintro e w6 hp
    obtain ⟨A1, c1, n1, L1, I1, H1, S1, P1, r0, HXE, rfl, hc1, hown1, hb⟩ := rf_xc HGO.out hp
    clear hp e0 e1 e2 e3 e4 e5 e6 e7 d7 hzb
    have HO1 := lh hown1
    clear hown1 HW
    have H2' := lh (rowC H2.out hb)
    have H4' := lh (rowC H4.out hb)
    have H6' := lh (rowC H6.out hb)
    have HB' := lh (HB.out.trans (hb.mono HB.out.size))
    clear H2 H4 H6 HB
    have H2 := H2'
    have H4 := H4'
    have H6 := H6'
    have HB := HB'
    clear H2' H4' H6' HB' hb
    go_upto_region 9 with fail
    refine name_wp ?_
    intro w7 hw7
    have hb := ba hw7
    have h7 := an hw7
    clear hw7
    obtain ⟨g7, hg7⟩ : ∃ q, w6.heap.size = q := ⟨_, rfl⟩
    rw [hg7] at h7
    try rw [hg7]
    clear hg7
    have H2' := lh (rowC H2.out hb)
    have H4' := lh (rowC H4.out hb)
    have H6' := lh (rowC H6.out hb)
    have HB' := lh (HB.out.trans (hb.mono HB.out.size))
    have HO1' := lh (ownsRow_below HO1.out hb)
    clear H2 H4 H6 HB HO1
    have H2 := H2'
    have H4 := H4'
    have H6 := H6'
    have HB := HB'
    have HO1 := HO1'
    clear H2' H4' H6' HB' HO1' hb
    obtain ⟨e0, e1, e2, e3, e4, e5, e6, e7⟩ := cells8 h7
    have HNK := lh (fun e : A1 = none => own_nilK HO1.out e)
    have HSL := lh (own_sl HO1.out)
    have hn1 : n1 ≤ 1048576 := xc_len HXE.out HGC.out hn
    go_wp2_with fail
    refine (l28Own_any A1 n1 c1 _ _ (lf L1) I1 H1 S1 P1 D Q z w7 HSL.out hn1 hc1 HNK.out).mono ?_
    rintro e w8 ⟨A2, c2, rfl, hc2, hown2, hb⟩
    have HEL : Hid (cellsL (lf L1) n1 = L1) := cellsL_lf (by simpa using HO1.out.1)
    rw [HEL.out] at hown2
    have HO2 := lh (ownsRow_monoP hown2 HB.out.size)
    clear hown2 HO1 HNK HSL e0 e1 e2 e3 e4 e5 e6 e7 h7
    have H2' := lh (rowC H2.out hb)
    have H4' := lh (rowC H4.out hb)
    have H6' := lh (rowC H6.out hb)
    have HB' := lh (HB.out.trans (hb.mono HB.out.size))
    clear H2 H4 H6 HB
    have H2 := H2'
    have H4 := H4'
    have H6 := H6'
    have HB := HB'
    clear H2' H4' H6' HB' hb
    have h6 := H6.out
    go_wp2_with ((with_reducible refine wpList_isStore ?_); refine wpList_store2 g6 0 (.agg #[.slice A2 n1 c2, .int .i64 I1, .int .i64 H1, .int .i64 S1, .int .i64 P1, .string D, .string Q, .int .i64 z]) 35 _ #[.slice A2 n1 c2, .int .i64 I1, .int .i64 H1, .int .i64 S1, .int .i64 P1, .string D, .string Q, .int .i64 z] rfl rfl infoConE h6 (Nat.le_refl 8) (by simp [Value.cells, Value.oneCell']) rfl ?_)
    intro w9 hh hgw
    have H4' := lh (rowGr H4.out hgw hn46)
    have H2' := lh (rowGr H2.out hgw hn26)
    have HO2' := lh (own_other HO2.out h6 (by decide) hgw)
    have HB' := lh (HB.out.grown hgw HB.out.size (fun k hk => by cases hk; exact HL6.out))
    clear hgw h6 H6 H4 H2 HO2 HB
    have H6 := lh hh
    have H4 := H4'
    have H2 := H2'
    have HO2 := HO2'
    have HB := HB'
    clear hh H4' H2' HO2' HB'
    go_upto_region 10 with fail
    simp only [Act.put]
    go_cut [38] from 9 (fun sx wx => sx = .bool (decide (200 < r0.size)) ∧ wx = w9)
    case first =>
     by_cases hl : 200 < r0.size
     ·have hli : (200 : Int) < (r0.size : Int) := by omega
      go_wp2_with fail
      go_meet
      case rel => exact ⟨by rw [decide_eq_true hl], rfl⟩
     ·have hli : ¬ ((200 : Int) < (r0.size : Int)) := by omega
      go_wp2_with fail
      go_meet
      case rel => exact ⟨by rw [decide_eq_false hl], rfl⟩
    case rest =>
    obtain ⟨rfl, hwc⟩ := hcut
    rw [hwc]
    clear hwc wc
    go_upto_if 38 with fail
    go_cut [8] from 9 (fun sx wx => sx = .string (longV r0) ∧ wx = w9)
    case first =>
     by_cases hl : 200 < r0.size
     ·have e : Hid (longV r0 = ⟨#[108, 111, 110, 103]⟩) := by show _ = _; rw [longV, if_pos hl]
      rw [decide_eq_true hl]
      go_wp2_with fail
      go_meet
      case rel => exact ⟨by rw [e.out], rfl⟩
     ·have e : Hid (longV r0 = r0) := by show _ = _; rw [longV, if_neg hl]
      rw [decide_eq_false hl]
      go_wp2_with fail
      go_meet
      case rel => exact ⟨by rw [e.out], rfl⟩
    case rest =>
    obtain ⟨rfl, hwc⟩ := hcut
    rw [hwc]
    clear hwc wc
    have hTs : (longV r0).size ≤ 200 := longV_size _
    generalize hxt : longV r0 = rt at hTs ⊢
    have HXT := lh hxt
    clear hxt
    have h2 := H2.out
    obtain ⟨d0, d1, d2, d3, d4, d5, d6, d7⟩ := cells8 h2
    clear h2 d0 d1 d2 d3 d4
    have hss : s.size ≤ 160 := by
     have h := (goodRec_facts HGR.out).2.1
     exact h
    go_wp2_with fail
    refine (sAppendRecord_any D Q z s rt hD hQ hsz (by omega) w9).mono ?_
    rintro e wa ⟨rfl, hb⟩
    clear d5 d6 d7
    have H4' := lh (rowC H4.out hb)
    have H6' := lh (rowC H6.out hb)
    have HB' := lh (HB.out.trans (hb.mono HB.out.size))
    have HO2' := lh (ownsRow_below HO2.out hb)
    clear H4 H6 HB HO2
    have H4 := H4'
    have H6 := H6'
    have HB := HB'
    have HO2 := HO2'
    clear H4' H6' HB' HO2' hb
    have h6 := H6.out
    go_wp2_with ((with_reducible refine wpList_isStore ?_); refine wpList_store2 g6 5 (.agg #[.string D, .string (apP D Q z s rt), .int .i64 (apZ D Q z s rt)]) 35 _ #[.slice A2 n1 c2, .int .i64 I1, .int .i64 H1, .int .i64 S1, .int .i64 P1, .string D, .string (apP D Q z s rt), .int .i64 (apZ D Q z s rt)] rfl rfl infoLogE h6 ((by decide : 5 + 3 ≤ 8)) (by simp [Value.cells, Value.oneCell']) rfl ?_)
    intro wb hh hgw
    have H6' := lh hh
    have h4 := rowGr H4.out hgw hn46
    have HOW := lh (own_other HO2.out h6 (by decide) hgw)
    have HBW := lh (HB.out.grown hgw HB.out.size (fun k hk => by cases hk; exact HL6.out))
    clear hh hgw h6 H6 H4 HO2 HB
    go_upto_region 13 with fail
    obtain ⟨e0, e1, e2, e3, e4, e5, e6, e7⟩ := cells8 H6'.out
    go_wp2_with ((with_reducible refine wpList_isStore ?_); refine wpList_store2 g4 0 (.agg #[.slice A2 n1 c2, .int .i64 I1, .int .i64 H1, .int .i64 S1, .int .i64 P1, .string D, .string (apP D Q z s rt), .int .i64 (apZ D Q z s rt)]) 35 _ #[.slice A2 n1 c2, .int .i64 I1, .int .i64 H1, .int .i64 S1, .int .i64 P1, .string D, .string (apP D Q z s rt), .int .i64 (apZ D Q z s rt)] rfl rfl infoConE h4 (Nat.le_refl 8) (by simp [Value.cells, Value.oneCell']) rfl ?_)
    intro wz hh hgw
    have HHR := lh hh
    have HBZ := lh (HBW.out.grown hgw HBW.out.size (fun k hk => by cases hk; exact HLE.out))
    have HOZ := lh (own_other HOW.out h4 (by decide) hgw)
    clear hh hgw
    go_wp2_with ((try simp only [Exit.inBlock, Exit.then]); refine ret_cell2 Tryz.results10 rfl rfl Tryz.underlying35 HHR.out infoConE rfl ?_; have hq := exec_end HGO.out HGC.out HGR.out HZ6.out HXE.out HXT.out hc2 HOZ.out HBZ.out; exact hq)
end Go.Proofs.YtpndjhelpoenpaaGreatDoor
