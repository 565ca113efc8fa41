/-
  Texts of this claim, merged.
-/
import Derived.Test.YtpndjhelpoenpaaGreatDoorXC4
import Derived.Test.YtpndjhelpoenpaaGreatDoorXC5
import Derived.Test.YtpndjhelpoenpaaGreatDoorXC9
set_option linter.unusedVariables false
set_option linter.unusedSimpArgs false
set_option maxRecDepth 100000
set_option maxHeartbeats 8000000
namespace Go.Proofs.YtpndjhelpoenpaaGreatDoor
open Go.RowKit
theorem FnReplay_walk (A0 : Option Addr) (n0 c0 : Nat) (w : World) (hnc0 : n0 ≤ c0) (hcm0 : c0 ≤ maxLen) (hk0 : Code w A0 n0) (ht : Tab w) (hm : Mx w) (he : Er w) :
  Calls Tryz.prog 7 #[.slice A0 n0 c0] w fun e w' => e = .returned (.bool true) ∧ bW w w' := by
 by_cases hbig : 65536 < n0
 ·go_enter Tryz.func7, Tryz.ntmps7
  go_wp2_with fail
  refine (vBig_any A0 n0 c0 w).mono ?_
  rw [decide_eq_true hbig]
  rintro e w1 ⟨rfl, rfl⟩
  go_wp2
  go_ret
  exact ⟨rfl, Below.refl _ _⟩
 go_enter Tryz.func7, Tryz.ntmps7
 go_wp2_with fail
 refine (vBig_any A0 n0 c0 w).mono ?_
 rw [decide_eq_false hbig]
 rintro e wx ⟨rfl, hwx⟩
 rw [hwx]
 clear hwx wx
 go_wp2_with fail
 refine (DrawReplayLog_any A0 n0 c0 w hk0 (by omega)).mono ?_
 rintro e w1 ⟨hz, D, P, z, rfl, hD, hP, hB⟩
 have HT := lh ht
 have HM := lh hm
 have HE := lh he
 have HK : Hid (∀ w', bW w w' → Code w' A0 n0) := fun w' h => hk0.below h
 clear hk0 ht hm he
 have sz0 := hB.size
 have BX := hB
 clear hB
 go_upto_region 4 with fail
 refine name_wp ?_
 intro v1 hw
 have hb := ba hw
 have hr4 := an hw
 clear hw
 have sz1 := hb.size
 have BX := below_of BX hb BX.size
 clear hb
 have j4 := rowLt hr4
 obtain ⟨x4, hq4⟩ : ∃ q, w1.heap.size = q := ⟨_, rfl⟩
 rw [hq4] at hr4 j4
 try rw [hq4]
 have hqa4 := Nat.le_of_eq hq4
 clear hq4
 obtain ⟨rv, ro, HI, HS⟩ : ∃ (rv : Int) (ro : Bool), Hid (∀ W : World, Tab W → Mx W → Er W → Calls Tryz.prog 24 #[.int .i64 hz, .agg (lV D P z)] W fun e w' => e = .returned (.tuple #[.int .i64 rv, .bool ro]) ∧ bW W w') ∧ Hid (∀ W : World, Calls Tryz.prog 22 #[.int .i64 hz, .agg (lV D P z)] W fun e w' => e = .returned (.tuple #[.int .i64 rv, .bool ro]) ∧ bW W w') :=
  ⟨(rlV hz D P z : Int), rlOk hz D P z, fun W ht hm he => ReplayLog_any hz D P z hD hP W ht hm he, fun W => sReplayLog_any hz D P z hD hP W⟩
 obtain ⟨e0, e1, e2⟩ := cells3 hr4
 go_wp2_with fail
 refine (HI.out v1 (HT.out.below BX) (HM.out.below BX) (HE.out.below BX)).mono ?_
 rintro e v2 ⟨rfl, hb⟩
 clear e0 e1 e2
 have sz2 := hb.size
 have BX := below_of BX hb BX.size
 have hr4 := rowB hr4 hb
 clear hb
 obtain ⟨e0, e1, e2⟩ := cells3 hr4
 go_wp2_with fail
 refine (HS.out v2).mono ?_
 rintro e v3 ⟨rfl, hb⟩
 clear e0 e1 e2
 have sz3 := hb.size
 have BX := below_of BX hb BX.size
 have hr4 := rowB hr4 hb
 clear hb
 clear HI HS hD hP
 clear hr4
 have hrr : (rv != rv) = false := by simp
 have hoo : (ro != ro) = false := by simp
 go_wp2_with fail
 refine (DrawRunScript_any A0 n0 c0 v3 (HK.out _ BX) (by omega)).mono ?_
 rintro e v4 ⟨B0, m0, cm0, L0, I0, H0, S0, P0, D0, Q0, z0, s, rfl, _, _, _, hs, _, hb⟩
 clear hrr hoo
 have sz4 := hb.size
 have BX := below_of BX hb BX.size
 clear hb
 go_upto_region 9 with fail
 refine name_wp ?_
 intro v5 hw
 have hb := ba hw
 have hr9 := an hw
 clear hw
 have sz5 := hb.size
 have BX := below_of BX hb BX.size
 clear hb
 have j9 := rowLt hr9
 obtain ⟨x9, hq9⟩ : ∃ q, v4.heap.size = q := ⟨_, rfl⟩
 rw [hq9] at hr9 j9
 try rw [hq9]
 have hqa9 := Nat.le_of_eq hq9
 clear hq9
 clear hr9
 obtain ⟨cz, NL, mk, hnl, hfit, HMK, HR, HI, HS⟩ : ∃ (cz : CS) (NL : List Int) (mk : Bool), cz.f = lf NL ∧ Fit cz ∧ Hid (mk = true → inR hz 1 100000 = true) ∧ Hid (mk = true → RInv hz cz) ∧ Hid (∀ W : World, Calls Tryz.prog 31 #[.int .i64 hz] W fun e w' => ∃ (A' : Option Addr) (c' : Nat), e = .returned (.tuple #[.agg (cB A' cz.n c' cz.I cz.H cz.S cz.P cz.D cz.Q cz.z), .bool mk]) ∧ cz.n ≤ c' ∧ w'.ownsRow W.heap.size 97 4 (.slice A' cz.n c') cz.n (NL.map (Value.int .i64)) ∧ bW W w') ∧ Hid (∀ W : World, Calls Tryz.prog 32 #[.int .i64 hz] W fun e w' => ∃ (A' : Option Addr) (c' : Nat), e = .returned (.tuple #[.agg (cB A' cz.n c' cz.I cz.H cz.S cz.P cz.D cz.Q cz.z), .bool mk]) ∧ cz.n ≤ c' ∧ w'.ownsRow W.heap.size 97 4 (.slice A' cz.n c') cz.n (NL.map (Value.int .i64)) ∧ bW W w') :=
  ⟨newC hz, newL hz, inR hz 1 100000, rfl, newC_fit hz, fun h => h, fun h => rinv_new (new_good h), fun W => (NewConsole_any hz W).mono fun _ _ h => new_open h, fun W => (sNewConsole_any hz W).mono fun _ _ h => new_open h⟩
 go_wp2_with fail
 refine (HI.out v5).mono ?_
 rintro e v6 ⟨A11, c11, rfl, hc11, hown, hb⟩
 have sz6 := hb.size
 have BX := below_of BX hb BX.size
 clear hb
 have hn11 := fun e : A11 = none => own_nilK hown e
 have hs11 := own_sl hown
 rw [← hnl] at hs11
 clear hown
 go_upto_region 10 with fail
 refine name_wp ?_
 intro v7 hw
 have hb := ba hw
 have hr11 := an hw
 clear hw
 have sz7 := hb.size
 have BX := below_of BX hb BX.size
 have hs11 := hs11.below hb
 clear hb
 have j11 := rowLt hr11
 obtain ⟨x11, hq11⟩ : ∃ q, v6.heap.size = q := ⟨_, rfl⟩
 rw [hq11] at hr11 j11
 try rw [hq11]
 have hqa11 := Nat.le_of_eq hq11
 clear hq11
 go_wp2_with fail
 refine (HS.out v7).mono ?_
 rintro e v8 ⟨A13, c13, rfl, hc13, hown, hb⟩
 have sz8 := hb.size
 have BX := below_of BX hb BX.size
 have hr11 := rowB hr11 hb
 have hs11 := hs11.below hb
 clear hb
 have hn13 := fun e : A13 = none => own_nilK hown e
 have hs13 := own_sl hown
 rw [← hnl] at hs13
 clear hown
 go_upto_region 11 with fail
 refine name_wp ?_
 intro v9 hw
 have hb := ba hw
 have hr13 := an hw
 clear hw
 have sz9 := hb.size
 have BX := below_of BX hb BX.size
 have hr11 := rowB hr11 hb
 have hs11 := hs11.below hb
 have hs13 := hs13.below hb
 clear hb
 have j13 := rowLt hr13
 obtain ⟨x13, hq13⟩ : ∃ q, v8.heap.size = q := ⟨_, rfl⟩
 rw [hq13] at hr13 j13
 try rw [hq13]
 have hqa13 := Nat.le_of_eq hq13
 clear hq13
 clear HI HS
 obtain ⟨e0, e1, e2, e3, e4, e5, e6, e7⟩ := cells8 hr11
 obtain ⟨d0, d1, d2, d3, d4, d5, d6, d7⟩ := cells8 hr13
 have hmm : (mk != mk) = false := by simp
 go_wp2_with fail
 refine (vConsole_same A11 A13 cz.n c11 c13 _ _ _ _ cz.f cz.I cz.H cz.S cz.P cz.D cz.Q cz.z v9 hs11 hs13 hfit.1).mono ?_
 rintro e v10 ⟨rfl, hb⟩
 clear e0 e1 e2 e3 e4 e5 e6 e7
 clear d0 d1 d2 d3 d4 d5 d6 d7
 have sz10 := hb.size
 have BX := below_of BX hb BX.size
 have hr11 := rowB hr11 hb
 have hr13 := rowB hr13 hb
 have hs11 := hs11.below hb
 have hs13 := hs13.below hb
 clear hb
 clear hr13
 clear hs13 hc13 hn13 j13
 cases mk with
 | false =>
  go_wp2
  go_ret
  exact ⟨rfl, BX⟩
 | true =>
  have hin := HMK.out (by simp)
  have hri := HR.out (by simp)
  have HIN := lh hin
  have HRI := lh hri
  clear HMK HR hin hri hmm
  go_wp2_with fail
  refine (SplitString_any s (by omega) v10).mono ?_
  rintro e v11 ⟨A15, c15, rfl, _, hs15, hb⟩
  have sz11 := hb.size
  have BX := below_of BX hb BX.size
  have hr11 := rowB hr11 hb
  have hs11 := hs11.below hb
  clear hb
  have hnp := wordsV_pos 10 s
  have hnm := wordsV_le 10 s
  generalize (wordsV 10 s).length = nl at *
  have hws : ∀ j, ((wordsV 10 s).getD j ⟨#[]⟩).size ≤ 1048576 := fun j => Nat.le_trans (lnV_size s j) (by omega)
  obtain ⟨ws, hwe⟩ : ∃ q, (fun j => (wordsV 10 s).getD j (⟨#[]⟩ : ByteArray)) = q := ⟨_, rfl⟩
  rw [hwe] at hs15
  have hwz : ∀ j, (ws j).size ≤ 1048576 := fun j => by rw [← hwe]; exact hws j
  clear hwe hws
  obtain ⟨bw, ow, rfl, hbl, hbh, hcw⟩ := hs15.here (by omega)
  have HCW := lh hcw
  have hwg : bw ≠ x11 := by omega
  clear hcw hs15
  have H11 := lh hr11
  have HS1 := lh hs11
  have HBX := lh BX
  have l11 := rowLt hr11
  have hlx : w.heap.size ≤ x11 := by omega
  clear hr11 hs11 BX
  go_wp2_with fail
  go_loopw [17] (fun iv wr => ∃ (k : Nat) (A' : Option Addr) (c' lo' hi' : Nat), k ≤ nl ∧ iv = .int .i64 k ∧ wr.heap[x11]? = some (.cells (cB A' (csN cz ws k).n c' (csN cz ws k).I (csN cz ws k).H (csN cz ws k).S (csN cz ws k).P (csN cz ws k).D (csN cz ws k).Q (csN cz ws k).z) 35 (0, 0)) ∧ Sl wr lo' hi' 4 A' (csN cz ws k).n (csN cz ws k).f ∧ (csN cz ws k).n ≤ c' ∧ (A' = none → (csN cz ws k).n = 0 ∧ c' = 0) ∧ v11.grownBy wr (some x11)) (fun iv _ => nl - (intOf iv).toNat)
  case atStart => exact ⟨0, A11, c11, _, _, Nat.zero_le _, rfl, H11.out, HS1.out, hc11, hn11, grow_refl _ _⟩
  case round =>
   obtain ⟨k, A', c', lo', hi', hk, rfl, hbx, hsl, hnc', hnn', hgr⟩ := hrel
   have HBXX := lh hbx
   have HSL := lh hsl
   have HNN' := lh hnn'
   have HGR := lh hgr
   have hrs := hgr.size
   have HBR := lh (HBX.out.grown hgr HBX.out.size (fun k hk => by cases hk; exact hlx))
   clear hbx hsl hnn' hgr H11 HS1
   by_cases hlt : k < nl
   ·have hki : (k : Int) < (nl : Int) := by omega
    have hk0 : (0 : Int) ≤ (k : Int) := by omega
    obtain ⟨c1, r, HC1, HX0⟩ : ∃ (c1 : CS) (r : ByteArray), Hid (csN cz ws (k + 1) = c1) ∧ Hid (∀ W : World, bW wr W → Calls Tryz.prog 12 #[.agg (cB A' (csN cz ws k).n c' (csN cz ws k).I (csN cz ws k).H (csN cz ws k).S (csN cz ws k).P (csN cz ws k).D (csN cz ws k).Q (csN cz ws k).z), .string (ws k)] W fun e w' => ∃ (A' : Option Addr) (c' : Nat) (L : List Int), c1.f = lf L ∧ e = .returned (.tuple #[.agg (cB A' c1.n c' c1.I c1.H c1.S c1.P c1.D c1.Q c1.z), .string r]) ∧ c1.n ≤ c' ∧ w'.ownsRow W.heap.size 97 4 (.slice A' c1.n c') c1.n (L.map (Value.int .i64)) ∧ bW W w') := ⟨_, _, rfl, fun W hq => exec_cs (csN cz ws k) (Fit.csN hfit ws k) A' c' lo' hi' (ws k) (hwz k) W (HSL.out.below hq) hnc' HNN'.out (HT.out.below (HBR.out.trans (hq.mono HBR.out.size))) (HM.out.below (HBR.out.trans (hq.mono HBR.out.size))) (HE.out.below (HBR.out.trans (hq.mono HBR.out.size)))⟩
    go_upto_region 19 with fail
    have HF : Hid (∀ w', wr.grownBy w' (some x11) → cE w' bw (ow + k) (.string (ws k))) := fun w' hq => cellGr (cellGr (HCW.out k (by omega)) HGR.out hwg) hq hwg
    refine wp_region_held_drew (S := fun w' => wr.grownBy w' (some x11)) (by kernel_rfl) (but_stays wr _ (grow_refl wr (some x11)) ((Below.refl _ wr).drew)) (fun jd => ?_)
    have hbd : bW wr wr.drew := (Below.refl _ wr).drew
    obtain ⟨v0, hv0⟩ : ∃ v, wr.drew = v := ⟨_, rfl⟩
    rw [hv0] at jd hbd ⊢
    clear hv0
    refine tj4 1 93 2 94 3 95 4 96 HF jd ?_
    refine wpAnyH_ready (rs := [0]) (by kernel_rfl) (by simp) ?_
    refine (AllReadyH.cons rfl (fun K hK => ?_) AllReadyH.nil)
    have hr2 := rowC HBXX.out hbd
    obtain ⟨e0, e1, e2, e3, e4, e5, e6, e7⟩ := cells8 hr2
    go_simp
    refine hK.out _ _ jd (fun jd => ?_)
    clear hK K e0 e1 e2 e3 e4 e5 e6 e7
    refine wpAnyH_ready (rs := [5]) (by kernel_rfl) (by simp) ?_
    refine (AllReadyH.cons rfl (fun K hK => ?_) AllReadyH.nil)
    go_simp
    refine (HX0.out v0 hbd).mono ?_
    rintro e v1 ⟨A2, c2, L2, hf, rfl, hnc2, hown, hbn⟩
    have hr3 := rowC hr2 hbn
    have HFF := lh hf
    have hHeld2 := but_stays v0 v1 jd hbn
    refine hK.out _ _ hHeld2 (fun jd => ?_)
    clear hK K hHeld2 hf
    refine tj3 6 91 7 98 8 99 HF jd ?_
    refine wS0 9 x11 (cB A2 c1.n c2 c1.I c1.H c1.S c1.P c1.D c1.Q c1.z) 35 infoConE (hr3) (fun w' hg' => grow_trans jd hg') ?ks
    case ks =>
     intro v3 hh hgw hHeld3
     refine wpAnyH_done (by kernel_rfl) ?_ _
     have HXL := lh hh
     have hOD := own_other hown hr3 (by decide) hgw
     have HSD := lh (own_sl hOD)
     have HND := lh (fun e : A2 = none => own_nilK hOD e)
     have HGD := lh (grow_trans HGR.out hHeld3)
     clear hh hgw hr2 hr3 hown hbn hbd jd HX0 HF HBXX HSL HNN' HGR hOD hHeld3
     go_wp2
     go_roundw
     case rel =>
      refine ⟨k + 1, A2, c2, v0.heap.size, v3.heap.size, by omega, by go_num, ?_⟩
      rw [HC1.out, HFF.out]
      exact ⟨HXL.out, HSD.out, hnc2, HND.out, HGD.out⟩
     case measure => simp [intOf]; omega
   ·have hke : k = nl := by omega
    subst hke
    have hki : ¬ ((k : Int) < (k : Int)) := by omega
    obtain ⟨wl, hwl⟩ : ∃ v, wr = v := ⟨_, rfl⟩
    rw [hwl] at HBXX HBR
    try rw [hwl]
    clear HSL HNN' HGR hrs HCW hwl wr
    have BX := HBR.out
    have hr11 := HBXX.out
    clear HBR HBXX HBX
    have hRI := HRI.out.csN ws k
    have hFT := Fit.csN hfit ws k
    obtain ⟨ck, hck⟩ : ∃ c, csN cz ws k = c := ⟨_, rfl⟩
    rw [hck] at hRI hFT hr11 hnc'
    try rw [hck]
    clear hck HRI
    obtain ⟨av, ao, HA, HAV, HAO⟩ : ∃ (av : Int) (ao : Bool), Hid (∀ W : World, Tab W → Mx W → Er W → Calls Tryz.prog 24 #[.int .i64 hz, .agg (lV ck.D ck.Q ck.z)] W fun e w' => e = .returned (.tuple #[.int .i64 av, .bool ao]) ∧ bW W w') ∧ av = ck.z ∧ ao = true :=
     ⟨(rlV hz ck.D ck.Q ck.z : Int), rlOk hz ck.D ck.Q ck.z, fun W ht hm he => ReplayLog_any hz ck.D ck.Q ck.z hFT.2.1 hFT.2.2 W ht hm he, (rl_all HIN.out hRI).2, (rl_all HIN.out hRI).1⟩
    subst HAV HAO
    have HCR : Hid (∀ (j : Int), 0 ≤ j → j ≤ (ck.Q.size : Int) → ∃ (t D9 : ByteArray) (z9 r9 : Int), (∀ W : World, Tab W → Mx W → Calls Tryz.prog 34 #[.agg (lV ck.D ck.Q ck.z), .int .i64 j, .bool false] W fun e w' => e = .returned (.tuple #[.string t, .bool true]) ∧ bW W w') ∧
      (∀ W : World, Tab W → Mx W → Calls Tryz.prog 35 #[.string t] W fun e w' => e = .returned (.tuple #[.agg (lV D9 ⟨#[]⟩ z9), .int .i64 r9, .bool true]) ∧ bW W w') ∧
      (∀ W : World, Tab W → Mx W → Er W → Calls Tryz.prog 24 #[.int .i64 hz, .agg (lV D9 ⟨#[]⟩ z9)] W fun e w' => e = .returned (.tuple #[.int .i64 z9, .bool true]) ∧ bW W w')) := by
     intro j h0 h1
     obtain ⟨t, e1, e2, e3, e4, e5, e6, e7⟩ := rl_part HIN.out hRI h0 h1
     refine ⟨t, recD t, recC t, recR t, fun W ht hm => ?_, fun W ht hm => ?_, fun W ht hm he => ?_⟩
     ·have h := CrashLog_any ck.D ck.Q ck.z j false hFT.2.1 hFT.2.2 W ht hm
      rw [e1, e2] at h
      exact h
     ·have h := RecoverLog_any t (by omega) W ht hm
      rw [e4] at h
      exact h
     ·refine (ReplayLog_any hz (recD t) ⟨#[]⟩ (recC t) (by omega) (by decide) W ht hm he).mono fun e w' h => ?_
      unfold RlPost at h
      rw [e6, e7] at h
      exact h
    have hq30 : (ck.Q.size : Int) ≤ 1048576 := by have := hFT.2.2; omega
    clear hRI hFT HIN
    obtain ⟨e0, e1, e2, e3, e4, e5, e6, e7⟩ := cells8 hr11
    go_wp2_with fail
    refine (HA.out wl (HT.out.below BX) (HM.out.below BX) (HE.out.below BX)).mono ?_
    rintro e v12 ⟨rfl, hb⟩
    clear e0 e1 e2 e3 e4 e5 e6 e7
    have sz12 := hb.size
    have BX := below_of BX hb BX.size
    have hr11 := rowB hr11 hb
    clear hb
    obtain ⟨e0, e1, e2, e3, e4, e5, e6, e7⟩ := cells8 hr11
    obtain ⟨qn, hqn⟩ : ∃ q, ck.Q.size = q := ⟨_, rfl⟩
    rw [hqn] at hq30 HCR
    have HQN := lh hqn
    clear hqn
    have hm0 : 0 ≤ (qn : Int).tmod 7 := Int.tmod_nonneg _ (by omega)
    have hm1 : (qn : Int).tmod 7 ≤ (qn : Int) := by rw [Int.tmod_eq_emod_of_nonneg (by omega)]; omega
    have hmw : IntKind.i64.wrap ((qn : Int) - (qn : Int).tmod 7) = (qn : Int) - (qn : Int).tmod 7 := IntWalk.i64_in _ (by omega)
    have hqs : ((ck.Q.size : Nat) : Int) = (qn : Int) := by rw [HQN.out]
    obtain ⟨t, D9, z9, r9, h1, h2, h3⟩ := HCR.out ((qn : Int) - (qn : Int).tmod 7) (by omega) (by omega)
    have HC1 := lh h1
    have HC2 := lh h2
    have HC3 := lh h3
    clear h1 h2 h3 HCR
    go_wp2_with fail
    refine (HC1.out v12 (HT.out.below BX) (HM.out.below BX)).mono ?_
    rintro e v13 ⟨rfl, hb⟩
    clear e0 e1 e2 e3 e4 e5 e6 e7
    have sz13 := hb.size
    have BX := below_of BX hb BX.size
    have hr11 := rowB hr11 hb
    clear hb
    go_wp2_with fail
    refine (HC2.out v13 (HT.out.below BX) (HM.out.below BX)).mono ?_
    rintro e v14 ⟨rfl, hb⟩
    have sz14 := hb.size
    have BX := below_of BX hb BX.size
    have hr11 := rowB hr11 hb
    clear hb
    go_upto_region 23 with fail
    refine name_wp ?_
    intro v15 hw
    have hb := ba hw
    have hr22 := an hw
    clear hw
    have sz15 := hb.size
    have BX := below_of BX hb BX.size
    have hr11 := rowB hr11 hb
    clear hb
    have j22 := rowLt hr22
    obtain ⟨x22, hq22⟩ : ∃ q, v14.heap.size = q := ⟨_, rfl⟩
    rw [hq22] at hr22 j22
    try rw [hq22]
    have hqa22 := Nat.le_of_eq hq22
    clear hq22
    obtain ⟨e0, e1, e2⟩ := cells3 hr22
    go_wp2_with fail
    refine (HC3.out v15 (HT.out.below BX) (HM.out.below BX) (HE.out.below BX)).mono ?_
    rintro e v16 ⟨rfl, hb⟩
    clear e0 e1 e2
    have sz16 := hb.size
    have BX := below_of BX hb BX.size
    have hr11 := rowB hr11 hb
    have hr22 := rowB hr22 hb
    clear hb
    obtain ⟨e0, e1, e2⟩ := cells3 hr22
    obtain ⟨d0, d1, d2, d3, d4, d5, d6, d7⟩ := cells8 hr11
    clear hr22 hr11 HC1 HC2 HC3 HA
    go_wp2
    go_ret
    exact ⟨by simp, BX⟩
end Go.Proofs.YtpndjhelpoenpaaGreatDoor
