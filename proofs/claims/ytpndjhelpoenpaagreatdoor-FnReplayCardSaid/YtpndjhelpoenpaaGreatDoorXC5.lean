/-
  Texts of this claim, merged.
-/
import Derived.Test.YtpndjhelpoenpaaGreatDoorXC3
set_option linter.unusedVariables false
set_option linter.unusedSimpArgs false
set_option maxRecDepth 100000
set_option maxHeartbeats 8000000
namespace Go.Proofs.YtpndjhelpoenpaaGreatDoor
open Go.RowKit
attribute [local go_sem ↓] Go.wp_at_zero Go.wp_at_succ
theorem sReplayLog_any (hz : Int) (D Q : ByteArray) (z : Int) (hD : D.size ≤ 1048576) (hQ : Q.size ≤ 1048576) (w : World) :
  Calls Tryz.prog 22 #[.int .i64 hz, .agg (lV D Q z)] w (RlPost hz D Q z w) := by
 obtain ⟨hX, h3⟩ := bl1 w (.cells (lV D Q z) 33)
 go_enter Tryz.func22, Tryz.ntmps22
 go_upto_region 1 with fail
 refine z161 ?_
 revert hX h3
 refine z364 ?_
 intro w1 g3 hg3 l3 HB H3 ok hok
 have HNC := lh (fun W : World => sNewConsole_any hz W)
 go_wp2_with fail
 refine (HNC.out w1).mono ?_
 rintro e w2 hp
 obtain ⟨A0, cp, rfl, hcp, hown, hb⟩ := new_open hp
 clear hp HNC
 rw [hok]
 have HOK := lh hok
 clear hok
 have HB2 := lh (HB.out.trans (hb.mono HB.out.size))
 have H3' := lh (rowC H3.out hb)
 have HOW := lh (ownsRow_monoP hown (Nat.zero_le _))
 have hb2 := hb.size
 clear hb hown HB H3
 go_upto_region 2 with fail
 refine z295 ?_
 intro w3 hb h6 g6 hg6
 rw [hg6] at h6 hb2
 refine z365 ?_
 intro HLE l6 HB H3 H6 HO
 clear hb h6 HB2 H3' HOW hg3 hg6
 have hfit := newC_fit hz
 obtain ⟨lk, hlk⟩ : ∃ b, logOk D Q z = b := ⟨_, rfl⟩
 have HLK := lh hlk
 have HLG := lh (l27Log_any D Q z hD hQ)
 rw [hlk] at HLG
 have HLR := lh (sLogRecords_any D Q z hD hQ)
 rw [hlk] at HLR
 clear hlk
 cases ok with
 | false =>
  go_wp2_with fail
  go_ret2
  exact rl_none (by rw [rlOk, HOK.out]; rfl) HB.out
 | true =>
  obtain ⟨e0, e1, e2⟩ := cells3 H3.out
  go_wp2_with fail
  refine (HLG.out w3).mono ?_
  rintro e w5 ⟨rfl, hb⟩
  clear e0 e1 e2
  have H6_ := lh (rowC H6.out hb)
  have H3_ := lh (rowC H3.out hb)
  refine z366 ?_
  intro HB_ HO_ l6_
  clear H6 H3 HB HO l6 hb
  have H6 := H6_
  have H3 := H3_
  have HB := HB_
  have HO := HO_
  have l6 := l6_
  clear H6_ H3_ HB_ HO_ l6_
  clear HLG
  cases lk with
  | false =>
   go_wp2_with fail
   exact z367
  | true =>
   obtain ⟨e0, e1, e2⟩ := cells3 H3.out
   go_wp2_with fail
   refine (HLR.out w5).mono ?_
   rintro e w4 ⟨Aw, dw, rfl, hdw, _, hon, hb⟩
   obtain ⟨m, hm⟩ : ∃ q, lrN D Q z = q := ⟨_, rfl⟩
   rw [hm] at hon hdw
   try rw [hm]
   have hm60 : m ≤ 60 := by rw [← hm]; exact lrN_le D Q z
   have HMM := lh hm
   have HON := lh hon
   clear hon hm e0 e1 e2 HLR
   have h34 := hb.size
   have hl63 := l6
   have H6_ := lh (rowC H6.out hb)
   refine z366 ?_
   intro HB_ HO_ l6_
   clear H6 HB HO l6 hb
   have H6 := H6_
   have HB := HB_
   have HO := HO_
   have l6 := l6_
   clear H6_ HB_ HO_ l6_
   clear H3
   revert hcp hfit HON H6
   refine z368 ?_
   intro c0 hfit hcp F HON p ws HPK HWS HFZ HNN0 HSL1 HPP H6s
   go_wp2_with fail
   go_loopw [11] (fun iv wr => ∃ (k : Nat) (A' : Option Addr) (c' lo' hi' : Nat), k ≤ m ∧ iv = .int .i64 k ∧ wr.heap[g6]? = some (.cells (cB A' (csN c0 ws k).n c' (csN c0 ws k).I (csN c0 ws k).H (csN c0 ws k).S (csN c0 ws k).P (csN c0 ws k).D (csN c0 ws k).Q (csN c0 ws k).z) 35 (0, 0)) ∧ Sl wr lo' hi' 4 A' (csN c0 ws k).n (csN c0 ws k).f ∧ (csN c0 ws k).n ≤ c' ∧ (A' = none → (csN c0 ws k).n = 0 ∧ c' = 0) ∧ Hid (∀ j, j < k → p j = true) ∧ w4.grownBy wr (some g6)) (fun iv _ => m - (intOf iv).toNat)
   case atStart => exact z369
   case round =>
    obtain ⟨k, A', c', lo', hi', hk, rfl, hbx, hsl, hnc', hnn', hall, hgr⟩ := hrel
    have HBX := lh hbx
    have HSL := lh hsl
    have HNN' := lh hnn'
    have HALL := hall
    have HBR := lh (HB.out.grown hgr HB.out.size (fun k hk => by cases hk; exact HLE.out))
    have HGR := lh hgr
    have hrs := hgr.size
    clear hbx hsl hnn' hall hgr
    by_cases hlt : k < m
    ·have hki : (k : Int) < (m : Int) := by omega
     refine z236 ?_
     intro hk0
     obtain ⟨bw, ow, eB, hlo, hbw, hcw⟩ := HON.out.sl.here (by omega)
     revert Aw HON eB hcw
     refine z370 ?_
     intro hbw hwg HON HD0 HD1
     obtain ⟨c1, r, HC1, HR, HX0⟩ : ∃ (c1 : CS) (r : ByteArray), Hid (csN c0 ws (k + 1) = c1) ∧ Hid (rpN c0 ws k = r) ∧ Hid (∀ W : World, bW wr W → Calls Tryz.prog 10 #[.agg (cB A' (csN c0 ws k).n c' (csN c0 ws k).I (csN c0 ws k).H (csN c0 ws k).S (csN c0 ws k).P (csN c0 ws k).D (csN c0 ws k).Q (csN c0 ws k).z), .string (F (k * 2))] W fun e w' => ∃ (A' : Option Addr) (c' : Nat) (L : List Int), c1.f = lf L ∧ e = .returned (.tuple #[.agg (cB A' c1.n c' c1.I c1.H c1.S c1.P c1.D c1.Q c1.z), .string r]) ∧ c1.n ≤ c' ∧ w'.ownsRow W.heap.size 97 4 (.slice A' c1.n c') c1.n (L.map (Value.int .i64)) ∧ bW W w') := ⟨_, _, rfl, rfl, fun W hq => by rw [← HWS.out k]; exact sExec_cs (csN c0 ws k) (Fit.csN hfit ws k) A' c' lo' hi' (ws k) (by rw [HWS.out k]; exact HFZ.out _) W (HSL.out.below hq) hnc' HNN'.out⟩
     go_upto_region 9 with fail
     have HF : Hid (∀ w', wr.grownBy w' (some g6) → cE w' bw (ow + k * 2) (.string (F (k * 2)))) := fun w' hq => cellGr (cellGr HD0.out HGR.out hwg) hq hwg
     refine wp_region_held_drew (S := fun w' => wr.grownBy w' (some g6)) (by exact z12) (but_stays wr _ (grow_refl wr (some g6)) ((Below.refl _ wr).drew)) (fun jd => ?_)
     have hbd : bW wr wr.drew := (Below.refl _ wr).drew
     obtain ⟨v0, hv0⟩ : ∃ v, wr.drew = v := ⟨_, rfl⟩
     rw [hv0] at jd hbd ⊢
     clear hv0
     refine tj4 1 37 2 38 3 39 4 40 HF jd ?_
     refine tj 5 41 HF rfl jd ?_
     refine wpAnyH_ready (rs := [0]) (by exact z12) (by simp) ?_
     refine z356 ?_
     intro hr2 jd
     refine wpAnyH_ready (rs := [6]) (by exact z12) (by simp) ?_
     refine z73 ?_
     intro K hK
     refine (HX0.out v0 hbd).mono ?_
     rintro e v1 ⟨A2, c2, L2, hf, rfl, hnc2, hown, hbn⟩
     have hr3 := rowC hr2 hbn
     have HFF := lh hf
     refine z240 ?_
     intro hHeld2 jd
     clear hK K hHeld2 hf
     refine tj3 7 35 8 43 9 44 HF jd ?_
     refine wpAnyH_store (fuel := 1) (i := 10) rfl (by exact z12) g6 0 (.agg (cB A2 c1.n c2 c1.I c1.H c1.S c1.P c1.D c1.Q c1.z)) 35 _ rfl rfl infoConE (hr3) (by simp [Value.cells]) (by exact z143) (fun w' hg' => grow_trans jd hg') ?ks
     case ks =>
      intro v3 hh hgw hHeld3
      have hh : v3.heap[g6]? = some (.cells (cB A2 c1.n c2 c1.I c1.H c1.S c1.P c1.D c1.Q c1.z) 35 (0, 0)) := hh
      clear jd
      have jd := hHeld3
      clear hHeld3
      refine tj 11 10 HF rfl jd ?_
      refine z49 ?_
      have HHH := lh hh
      have hOD := own_other hown hr3 (by decide) hgw
      have HSD := lh (own_sl hOD)
      have HND := lh (fun e : A2 = none => own_nilK hOD e)
      have d1 := cellGr (cellGr HD1.out HGR.out hwg) jd hwg
      have HGE := lh (grow_trans HGR.out jd)
      clear hh hgw hr2 hr3 hown hOD hbn hbd jd HX0 HF HBX HSL HNN' HGR
      by_cases hpk : r = F (k * 2 + 1)
      ·have hpt : p k = true := by rw [HPK.out k, HR.out]; exact decide_eq_true hpk
       have hTB : (r.toList == (F (k * 2 + 1)).toList) = true := by rw [toList_beq, hpk]; simp
       have HPT := lh hpt
       clear hpk hpt
       go_wp2_with fail
       go_roundw
       case rel =>
        refine ⟨k + 1, A2, c2, v0.heap.size, v3.heap.size, by omega, by go_num, ?_⟩
        rw [HC1.out, HFF.out]
        exact z371
       case measure => simp [intOf]; omega
      ·have hpf : p k = false := by rw [HPK.out k, HR.out]; exact decide_eq_false hpk
       have hTB : (r.toList == (F (k * 2 + 1)).toList) = false := by rw [toList_beq]; simp [hpk]
       have HPF := lh hpf
       clear hpk hpf
       go_wp2_with fail
       go_ret2
       exact rl_some HOK.out HLK.out (by rw [HPP.out, HMM.out]; exact lead_stop HALL.out HPF.out hlt) (HB.out.grown HGE.out HB.out.size (fun k hk => by cases hk; exact HLE.out))
    exact z372
end Go.Proofs.YtpndjhelpoenpaaGreatDoor
namespace Go.Proofs.YtpndjhelpoenpaaGreatDoor
open Go.RowKit
theorem SplitString_any (s : ByteArray) (hs : s.size ≤ 4000) (w : World) :
  Calls Tryz.prog 27 (sV s ⟨#[10]⟩) w fun e w' => ∃ A c, e = .returned (.tuple #[.slice A (wordsV 10 s).length c, .bool true]) ∧ (wordsV 10 s).length ≤ c ∧ SlT w' w.heap.size w'.heap.size 1 A (wordsV 10 s).length (fun j => (wordsV 10 s).getD j ⟨#[]⟩) ∧ bW w w' := by
 have h4 : ¬ ((4000 : Int) < (s.size : Int)) := by omega
 go_enter Tryz.func27, Tryz.ntmps27
 go_wp2_with fail
 refine (l1Words_any s 10 (by omega) w).mono ?_
 rintro e w2 ⟨A, c, rfl, hc, hs, hb⟩
 go_wp2
 go_ret2
 exact ⟨A, c, rfl, hc, hs, hb⟩
end Go.Proofs.YtpndjhelpoenpaaGreatDoor
