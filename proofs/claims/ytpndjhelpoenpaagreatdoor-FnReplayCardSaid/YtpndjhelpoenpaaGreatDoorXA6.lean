/-
  Texts of this claim, merged.
-/
import Derived.Test.YtpndjhelpoenpaaGreatDoorXA5
set_option linter.unusedVariables false
set_option linter.unusedSimpArgs false
set_option maxRecDepth 100000
set_option maxHeartbeats 8000000
namespace Go.Proofs.YtpndjhelpoenpaaGreatDoor
open Go.RowKit
attribute [local go_sem ↓] Go.wp_at_zero Go.wp_at_succ
theorem quiet_below {P : Program} {g : FuncId} {args : Array Value} {w : World} {v : Value} (h : Calls P g args w fun e w' => e = .returned v ∧ w = w') :
  Calls P g args w fun e w' => e = .returned v ∧ bW w w' := h.mono fun e w' ⟨he, hw⟩ => ⟨he, hw ▸ Below.refl _ _⟩
theorem Hid.and_ {α : Type} {Q R S : α → Prop} (h : Hid (∀ x, Q x → R x)) (h2 : ∀ x, Q x → S x) : Hid (∀ x, Q x → S x ∧ R x) := fun x hx => ⟨h2 x hx, h.out x hx⟩
def massV (wt s : Int) : Int := wrap64 (wt + s)
def okBrine (wt s : Int) : Bool := inR wt 0 1000000 && inR s 0 1000000
def okPan (i h wt s : Int) : Bool := inR i 1 99 && inR h 1 100000 && okBrine wt s && decide (massV wt s ≤ h)
def okPanAt (f : Nat → Int) (k : Nat) : Bool := okPan (f (k * 4)) (f (k * 4 + 1)) (f (k * 4 + 2)) (f (k * 4 + 3))
def panStep (f : Nat → Int) (k : Nat) : Bool := okPanAt f k && (decide (k = 0) || decide (f ((k - 1) * 4) < f (k * 4)))
def pansOk (f : Nat → Int) (n : Nat) : Bool := allTo (panStep f) n && decide (n ≤ 6)
theorem pansOk_no {f : Nat → Int} {n k : Nat} (hk : k < n) (h : panStep f k = false) : pansOk f n = false := by simp [pansOk, allTo_false hk h]
def sumW (g : Nat → Int) : Nat → Int
 | 0 => 0
 | k + 1 => wrap64 (sumW g k + g k)
def saltAt (f : Nat → Int) (k : Nat) : Int := f (k * 4 + 3)
def totalV (f : Nat → Int) (n : Nat) (H S P : Int) : Int := wrap64 (wrap64 (wrap64 (sumW (saltAt f) n + H) + S) + P)
def kilosOk (I H S P : Int) : Bool := inR I 0 1000000 && inR H 0 1000000 && inR S 0 1000000 && inR P 0 1000000
def goodWorks (f : Nat → Int) (n : Nat) (I H S P : Int) : Bool := pansOk f n && kilosOk I H S P && decide (I = totalV f n H S P)
theorem IsBrine_any (wt s : Int) (w : World) :
  Calls Tryz.prog 120 #[.agg (jV wt s)] w fun e w' => e = .returned (.bool (okBrine wt s)) ∧ bW w w' := by
 cases h1 : inR wt 0 1000000 <;> cases h2 : inR s 0 1000000
 all_goals
  go_enter Tryz.func120, Tryz.ntmps120
  go_wp2_with (go_at_call 70; refine (within_any _ _ _ _).mono ?_; rintro e w2 ⟨rfl, rfl⟩)
  go_ret
  exact ⟨ret_bool (by simp [okBrine, h1, h2]), by go_grown⟩
theorem l2Brine_any (wt s : Int) (w : World) :
  Calls Tryz.prog 158 #[.agg (jV wt s)] w fun e w' => e = .returned (.bool (okBrine wt s)) ∧ bW w w' := by
 cases h1 : inR wt 0 1000000 <;> cases h2 : inR s 0 1000000
 all_goals
  go_enter Tryz.func158, Tryz.ntmps158
  go_wp2_with (go_at_call 126; refine (l1In_any _ _ _ _).mono ?_; rintro e w2 ⟨rfl, rfl⟩)
  go_ret
  exact ⟨ret_bool (by simp [okBrine, h1, h2]), by go_grown⟩
theorem mass_any (wt s : Int) (w : World) :
  Calls Tryz.prog 121 #[.agg (jV wt s)] w fun e w' => e = .returned (.int .i64 (massV wt s)) ∧ bW w w' := by
 go_enter Tryz.func121, Tryz.ntmps121
 exact z36
theorem l2Mass_any (wt s : Int) (w : World) :
  Calls Tryz.prog 150 #[.agg (jV wt s)] w fun e w' => e = .returned (.int .i64 (massV wt s)) ∧ bW w w' := by
 go_enter Tryz.func150, Tryz.ntmps150
 exact z36
theorem saltInPans_any (A : Option Addr) (n c lo hi : Nat) (f : Nat → Int) (I H S P : Int) (w : World) (hs : Sl w lo hi 4 A n f) (hn : n ≤ 1048576) (hnc : n ≤ c) :
  Calls Tryz.prog 122 #[.agg (wB A n c I H S P)] w fun e w' => e = .returned (.int .i64 (sumW (saltAt f) n)) ∧ bW w w' := by
 refine z38 ?_
 intro HS
 clear hs
 go_enter Tryz.func122, Tryz.ntmps122
 go_wp2
 go_loopw [3, 9] (fun t i wr => ∃ k : Nat, k ≤ n ∧ i = .int .i64 k ∧ t = .int .i64 (sumW (saltAt f) k) ∧ bW (w.alloc (.cells (wB A n c I H S P) 32)) wr) (fun _ i _ => n - (intOf i).toNat)
 case atStart => exact z39
 case round =>
  obtain ⟨k, hk, rfl, rfl, hbel⟩ := hrel
  refine z40 ?_
  intro hbz b0
  by_cases hlt : k < n
  ·obtain ⟨b, off, rfl, hbw, HC⟩ := HS.out.open_ hbel (by omega)
   obtain ⟨c0, c1, c2, c3⟩ := cell4 HC hlt
   clear HC HS
   go_wp2
   go_roundw
   case rel => exact ⟨k + 1, by omega, by go_num, rfl, hbel.alloc hbel.size _⟩
   case measure => simp [intOf]; omega
  exact z41
theorem l25Salt_any (A : Option Addr) (n c lo hi : Nat) (f : Nat → Int) (I H S P : Int) (w : World) (hs : Sl w lo hi 4 A n f) (hn : n ≤ 1048576) (hnc : n ≤ c) :
  Calls Tryz.prog 125 #[.agg (wB A n c I H S P)] w fun e w' => e = .returned (.int .i64 (sumW (saltAt f) n)) ∧ bW w w' := by
 refine z38 ?_
 intro HS
 clear hs
 go_enter Tryz.func125, Tryz.ntmps125
 go_wp2
 go_loopw [3, 4] (fun t i wr => ∃ k : Nat, k ≤ n ∧ i = .int .i64 k ∧ t = .int .i64 (sumW (saltAt f) k) ∧ bW (w.alloc (.cells (wB A n c I H S P) 32)) wr) (fun _ i _ => n - (intOf i).toNat)
 case atStart => exact z39
 case round =>
  obtain ⟨k, hk, rfl, rfl, hbel⟩ := hrel
  refine z40 ?_
  intro hbz b0
  by_cases hlt : k < n
  ·obtain ⟨b, off, rfl, hbw, HC⟩ := HS.out.open_ hbel (by omega)
   obtain ⟨c0, c1, c2, c3⟩ := cell4 HC hlt
   clear HC HS
   go_wp2
   go_roundw
   case rel => exact ⟨k + 1, by omega, by go_num, rfl, hbel⟩
   case measure => simp [intOf]; omega
  exact z41
theorem l25Pans_any (A : Option Addr) (n c lo hi : Nat) (f : Nat → Int) (I H S P : Int) (w : World) (hs : Sl w lo hi 4 A n f) (hn : n ≤ 1048576) (hnc : n ≤ c) :
  Calls Tryz.prog 123 #[.agg (wB A n c I H S P)] w fun e w' => e = .returned (.bool (pansOk f n)) ∧ bW w w' := by
 refine z38 ?_
 intro HS
 clear hs
 go_enter Tryz.func123, Tryz.ntmps123
 go_wp2
 go_loopw [3] (fun i wr => ∃ k : Nat, k ≤ n ∧ i = .int .i64 k ∧ Hid (allTo (panStep f) k = true) ∧ bW (w.alloc (.cells (wB A n c I H S P) 32)) wr) (fun i _ => n - (intOf i).toNat)
 case atStart => exact z39
 case round =>
  obtain ⟨k, hk, rfl, hall, hbel⟩ := hrel
  refine z40 ?_
  intro hbz b0
  by_cases hlt : k < n
  ·obtain ⟨b, off, rfl, hbw, HC⟩ := HS.out.open_ hbel (by omega)
   refine z42 ?_
   intro c0 c1 c2 c3 hk0i hkni HF HP
   clear HC HS
   go_wp2
   refine wp_region_held_drew (S := fun w' => bW ((wr.alloc (.cells (iV (f (k * 4)) (f (k * 4 + 1)) (f (k * 4 + 2)) (f (k * 4 + 3))) 97))) w') (by exact z12) ((Below.refl _ _).drew) (fun jd => ?_)
   refine tj2 0 17 1 18 HF jd ?_
   refine wpAnyH_ready (rs := [2]) (by exact z12) (by simp) ?_
   refine z44 ?_
   intro K hK
   (go_at_call 126; refine (quiet_below (l1In_any _ _ _ _)).mono ?_; rintro e w2 ⟨rfl, hb2⟩)
   revert K hK hb2
   refine z45 ?_
   intro jd
   refine tj2 3 20 4 21 HF jd ?_
   cases h1 : inR (f (k * 4)) 1 99 with
   | false =>
    have h2 : True := trivial
    have h3 : True := trivial
    have hm : True := trivial
    refine z46 ?_
    intro hno
    refine wpAnyH_skips (by exact z12) (fun _ _ _ _ _ h => h) jd [(5, 22), (6, 23), (7, 24), (8, 25)] 31 4 _ _ rfl (by exact z12) ?_
    refine z47 ?_
    refine tj2 9 26 10 27 HF jd ?_
    refine wpAnyH_skips (by exact z12) (fun _ _ _ _ _ h => h) jd [(11, 28), (12, 29), (13, 30), (14, 31)] 25 4 _ _ rfl (by exact z12) ?_
    refine z47 ?_
    refine tj2 15 32 16 33 HF jd ?_
    refine wpAnyH_skips (by exact z12) (fun _ _ _ _ _ h => h) jd [(17, 34), (18, 35), (19, 36), (20, 37), (21, 38), (22, 39)] 17 6 _ _ rfl (by exact z12) ?_
    refine z47 ?_
    refine tj2 23 40 24 41 HF jd ?_
    refine z48 ?_
    refine z47 ?_
    refine tj 39 56 HF rfl jd ?_
    refine z49 ?_
    exact z50
   | true =>
    refine tj2 5 22 6 23 HF jd ?_
    refine wpAnyH_ready (rs := [7]) (by exact z12) (by simp) ?_
    refine z44 ?_
    intro K hK
    (go_at_call 126; refine (quiet_below (l1In_any _ _ _ _)).mono ?_; rintro e w2 ⟨rfl, hb2⟩)
    revert K hK hb2
    refine z45 ?_
    intro jd
    refine tj3 8 25 9 26 10 27 HF jd ?_
    cases h2 : inR (f (k * 4 + 1)) 1 100000 with
    | false =>
     have h3 : True := trivial
     have hm : True := trivial
     refine z46 ?_
     intro hno
     refine wpAnyH_skips (by exact z12) (fun _ _ _ _ _ h => h) jd [(11, 28), (12, 29), (13, 30), (14, 31)] 25 4 _ _ rfl (by exact z12) ?_
     refine z47 ?_
     refine tj2 15 32 16 33 HF jd ?_
     refine wpAnyH_skips (by exact z12) (fun _ _ _ _ _ h => h) jd [(17, 34), (18, 35), (19, 36), (20, 37), (21, 38), (22, 39)] 17 6 _ _ rfl (by exact z12) ?_
     refine z47 ?_
     refine tj2 23 40 24 41 HF jd ?_
     refine z48 ?_
     refine z47 ?_
     refine tj 39 56 HF rfl jd ?_
     refine z49 ?_
     exact z50
    | true =>
     refine tj2 11 28 12 29 HF jd ?_
     refine wpAnyH_ready (rs := [13]) (by exact z12) (by simp) ?_
     refine z44 ?_
     intro K hK
     (go_at_call 158; refine (l2Brine_any _ _ _).mono ?_; rintro e w2 ⟨rfl, hb2⟩)
     revert K hK hb2
     refine z45 ?_
     intro jd
     refine tj3 14 31 15 32 16 33 HF jd ?_
     cases h3 : okBrine (f (k * 4 + 2)) (f (k * 4 + 3)) with
     | false =>
      have hm : True := trivial
      refine z46 ?_
      intro hno
      refine wpAnyH_skips (by exact z12) (fun _ _ _ _ _ h => h) jd [(17, 34), (18, 35), (19, 36), (20, 37), (21, 38), (22, 39)] 17 6 _ _ rfl (by exact z12) ?_
      refine z47 ?_
      refine tj2 23 40 24 41 HF jd ?_
      refine z48 ?_
      refine z47 ?_
      refine tj 39 56 HF rfl jd ?_
      refine z49 ?_
      exact z50
     | true =>
      by_cases hm : massV (f (k * 4 + 2)) (f (k * 4 + 3)) ≤ f (k * 4 + 1)
      ·have hmd : ¬ (f (k * 4 + 1) < massV (f (k * 4 + 2)) (f (k * 4 + 3))) := by omega
       refine tj4 17 34 18 35 20 37 21 38 HF jd ?_
       refine wpAnyH_ready (rs := [19]) (by exact z12) (by simp) ?_
       refine z44 ?_
       intro K hK
       refine z51 ?_
       intro w2 hb2
       revert K hK hb2
       refine z45 ?_
       intro jd
       refine tj4 22 39 23 40 24 41 25 42 HF jd ?_
       refine tj2 26 43 27 44 HF jd ?_
       by_cases h0 : k = 0
       ·revert HP h0
        refine z52 ?_
        intro hok1 hk0b hk0c
        refine wpAnyH_skips (by exact z12) (fun _ _ _ _ _ h => h) jd [(28, 45), (29, 46), (30, 47), (31, 48), (32, 49), (33, 50), (34, 51), (35, 52), (36, 53), (37, 54)] 2 10 _ _ rfl (by exact z12) ?_
        refine z47 ?_
        refine tj2 38 55 39 56 HF jd ?_
        refine z49 ?_
        exact z53
       ·revert HF HP
        refine z54 ?_
        intro hk0 hkk hb0 hb1x hb3 hwk hk0b hk0c HF
        by_cases hlt2 : f ((k - 1) * 4) < f (k * 4)
        ·have hok1 : Hid (panStep f k = true) := by simp [Hid, panStep, okPanAt, okPan, h1, h2, h3, hm, hlt2]
         refine tj4 28 45 29 46 30 47 31 48 HF jd ?_
         refine tj4 32 49 33 50 34 51 35 52 HF jd ?_
         refine tj4 36 53 37 54 38 55 39 56 HF jd ?_
         refine z49 ?_
         exact z53
        ·have hno : Hid (pansOk f n = false) := pansOk_no hlt (by simp [panStep, okPanAt, okPan, h1, h2, h3, hm, hlt2]; omega)
         refine tj4 28 45 29 46 30 47 31 48 HF jd ?_
         refine tj4 32 49 33 50 34 51 35 52 HF jd ?_
         refine tj4 36 53 37 54 38 55 39 56 HF jd ?_
         refine z49 ?_
         exact z50
      ·have hmd : f (k * 4 + 1) < massV (f (k * 4 + 2)) (f (k * 4 + 3)) := by omega
       refine z46 ?_
       intro hno
       refine tj4 17 34 18 35 20 37 21 38 HF jd ?_
       refine wpAnyH_ready (rs := [19]) (by exact z12) (by simp) ?_
       refine z44 ?_
       intro K hK
       refine z51 ?_
       intro w2 hb2
       revert K hK hb2
       refine z45 ?_
       intro jd
       refine tj3 22 39 23 40 24 41 HF jd ?_
       refine z48 ?_
       refine z47 ?_
       refine tj 39 56 HF rfl jd ?_
       refine z49 ?_
       exact z50
  ·obtain rfl : n = k := by omega
   clear HS
   go_wp2
   go_ret
   exact ⟨ret_bool (by rw [Bool.eq_iff_iff]; simp [pansOk, hall.out]; omega), ((Below.refl _ w).alloc nL _).trans ((hbel).mono (by simp))⟩
end Go.Proofs.YtpndjhelpoenpaaGreatDoor
namespace Go.Proofs.YtpndjhelpoenpaaGreatDoor
open Go.RowKit
attribute [local go_sem ↓] Go.wp_at_zero Go.wp_at_succ
def Er (w : World) : Prop := (∃ ev, cE w 1 0 ev ∧ (ev = .nilIface ∨ ∃ te pe, ev = .iface te pe)) ∧ ∃ ev, cE w 2 0 ev ∧ (ev = .nilIface ∨ ∃ te pe, ev = .iface te pe)
theorem Er.below {w w' : World} (h : Er w) (hb : bW w w') : Er w' := by
 obtain ⟨⟨a, h1, h2⟩, b, h3, h4⟩ := h
 exact ⟨⟨a, kp hb h1, h2⟩, b, kp hb h3, h4⟩
theorem ParseInt_any (s : ByteArray) (hs : s.size ≤ 4000000) (w : World) (ht : Tab w) (he : Er w) :
  Calls Tryz.prog 93 #[.string s] w fun e w' => e = .returned (.tuple #[.int .i64 ((parseV s).getD 0), .bool (parseV s).isSome]) ∧ bW w w' := by
 rcases hA : Lib.atoiAll s.data.toList with v | _ | _
 rotate_left
 ·have hp : parseV s = none := parseV_no fun v h0 h1 h => by
   rw [← h, atoiAll_num h0 h1] at hA
   cases hA
  rw [hp]
  obtain ⟨ev, hv, hev⟩ := he.1
  go_enter Tryz.func93, Tryz.ntmps93
  go_wp2_with fail
  refine (Tryz.strconv_Atoi_syntax s (by omega) hA ev w hv hev).mono ?_
  rintro e w1 ⟨N, rfl, _, _, hb⟩
  go_wp2_with fail
  go_ret2
  exact ⟨rfl, hb⟩
 ·have hsat := Lib.atoiSat_bounds s.data.toList
  have hp : parseV s = none := parseV_no fun v h0 h1 h => by
   rw [← h, atoiAll_num h0 h1] at hA
   cases hA
  rw [hp]
  obtain ⟨ev, hv, hev⟩ := he.2
  go_enter Tryz.func93, Tryz.ntmps93
  go_wp2_with fail
  refine (Tryz.strconv_Atoi_range s (by omega) hA ev w hv hev).mono ?_
  rintro e w1 ⟨N, rfl, _, _, hb⟩
  go_wp2_with fail
  go_ret2
  exact ⟨rfl, hb⟩
 ·obtain ⟨v0, v1⟩ := Lib.atoiAll_bounds hA
  have hun : ∀ u : Int, -999999 ≤ u → u ≤ 999999 → numB u = s → u = v := fun u h0 h1 h => by
   rw [← h, atoiAll_num h0 h1] at hA
   exact Lib.NumEnd.ok.inj hA
  cases hin : inR v (-999999) 999999 with
  | false =>
   have hp : parseV s = none := parseV_no fun u h0 h1 h => by
    obtain rfl := hun u h0 h1 h
    simp [inR, h0, h1] at hin
   rw [hp]
   go_enter Tryz.func93, Tryz.ntmps93
   go_wp2_with fail
   refine z55 ?_
   intro w1 hb1
   go_wp2_with fail
   refine (within_any v (-999999) 999999 w1).mono ?_
   rw [hin]
   refine z56 ?_
   go_wp2_with fail
   go_ret2
   exact ⟨rfl, hb1⟩
  | true =>
   have hv : -999999 ≤ v ∧ v ≤ 999999 := by simpa [inR] using hin
   by_cases hE : numB v = s
   ·rw [parseV_yes hv.1 hv.2 hE]
    have hTB : ((numB v).toList == s.toList) = true := by rw [toList_beq, hE]; simp
    exact z57
   ·have hp : parseV s = none := parseV_no fun u h0 h1 h => by
     obtain rfl := hun u h0 h1 h
     exact hE h
    rw [hp]
    have hTB : ((numB v).toList == s.toList) = false := by rw [toList_beq]; simp [hE]
    exact z57
end Go.Proofs.YtpndjhelpoenpaaGreatDoor
namespace Go.Proofs.YtpndjhelpoenpaaGreatDoor
open Go
theorem iface_of_trod {H : Type} {enc : TypeId × Value → H} {P : Program} {w : World} {base : Nat} {sp : Nat → Bool} {held : Bool} {fuel : Nat} {t : TypeId} {ms : Array (String × TypeId)} {cs : List Value} {d : DataW H} {p : List MemPlace}
  (hu : P.underlying t = some (.interface ms)) (h : DataW.trod enc P w base sp held fuel t cs = some (d, p)) : ∃ ev, cs = [ev] ∧ (ev = .nilIface ∨ ∃ te pe, ev = .iface te pe) := by
 cases fuel with
 | zero => simp [DataW.trod] at h
 | succ fuel =>
  unfold DataW.trod at h
  rw [hu] at h
  split at h <;> first
   | exact ⟨_, rfl, Or.inl rfl⟩
   | exact ⟨_, rfl, Or.inr ⟨_, _, rfl⟩⟩
   | (cases h; done)
   | (rename_i heq; exact absurd heq (by simp))
   | (rename_i heq _; exact absurd heq (by simp))
   | (exfalso; simp_all; done)
theorem err_of_laid {P : Program} {w : World} {nm : String} {d : DataW Unit} {g : Nat} {t : TypeId} {ms : Array (String × TypeId)} (h : laidMet P [(nm, d)] w)
  (hg : P.globalNamed nm = some g) (ht : (P.globals[g]?).map (·.type) = some t) (hu : P.underlying t = some (.interface ms)) : ∃ ev, cE w g 0 ev ∧ (ev = .nilIface ∨ ∃ te pe, ev = .iface te pe) := by
 obtain ⟨ps, ⟨g', t', cs, fuel, p, q, hg', ht', hv, hd, _, _⟩, _, _⟩ := h
 obtain rfl := Option.some.inj (hg.symm.trans hg')
 obtain rfl := Option.some.inj (ht.symm.trans ht')
 obtain ⟨ev, e, hev⟩ := iface_of_trod hu hd
 refine ⟨ev, ?_, hev⟩
 rw [World.var?_cell hg hv 0]
 have h0 : cs.toList[0]? = some ev := by rw [e]; rfl
 simpa using h0
theorem Er.of_laid {w : World} {d e : DataW Unit} (h1 : laidMet Tryz.prog [("strconv.ErrSyntax", d)] w) (h2 : laidMet Tryz.prog [("strconv.ErrRange", e)] w) : Er w :=
 ⟨err_of_laid (g := 1) (t := 161) h1 (by exact z12) (by exact z12) Tryz.underlying161,
  err_of_laid (g := 2) (t := 161) h2 (by exact z12) (by exact z12) Tryz.underlying161⟩
end Go.Proofs.YtpndjhelpoenpaaGreatDoor
namespace Go.Proofs.YtpndjhelpoenpaaGreatDoor
open Go.RowKit
structure Cur (w : World) (g : Nat) (A : Option Addr) (n c p : Nat) : Prop where
 lt : g < w.heap.size
 c0 : cE w g 0 (.slice A n c)
 c1 : ∃ q : Nat, q ≤ p ∧ cI w g 1 q
 c2 : ∃ s : Int, cE w g 2 (.int .u64 s)
 fz : ∀ j : Nat, j < 3 → w.frozen? ⟨g, j, none⟩ = false
 code : 0 < n → ∃ b off, A = some ⟨b, off, none⟩ ∧ b < g ∧ ∀ j, j < n → ∃ z : Nat, z < 256 ∧ cE w b (off + j) (.int .u8 z)
theorem Cur.weaken {w : World} {g n c p q : Nat} {A : Option Addr} (h : Cur w g A n c p) (hpq : p ≤ q) : Cur w g A n c q :=
 ⟨h.lt, h.c0, by obtain ⟨x, h1, h2⟩ := h.c1; exact ⟨x, by omega, h2⟩, h.c2, h.fz, h.code⟩
theorem frozen_of_block {w w' : World} {a : Addr} (h : w'.heap[a.block]? = w.heap[a.block]?) : w'.frozen? a = w.frozen? a := by
 unfold World.frozen?; rw [h]
theorem Cur.below {w w' : World} {g n c p : Nat} {A : Option Addr} (h : Cur w g A n c p) (hb : bW w w') : Cur w' g A n c p := by
 have hg := h.lt
 refine ⟨Nat.lt_of_lt_of_le hg hb.size, (hb.cell (p := ⟨g, 0, none⟩) hg).trans h.c0, ?_, ?_, ?_, ?_⟩
 ·obtain ⟨x, h1, h2⟩ := h.c1; exact ⟨x, h1, kp hb h2⟩
 ·obtain ⟨x, h2⟩ := h.c2; exact ⟨x, kp hb h2⟩
 ·intro j hj; rw [frozen_of_block (a := ⟨g, j, none⟩) (hb.block g hg)]; exact h.fz j hj
 ·refine z58 ?_
  intro hn b off e h1 h2 j hj z hz hc
  exact ⟨z, hz, kp hb hc⟩
theorem Cur.fr {w w' : World} {g n c p lo hi : Nat} {A : Option Addr} (h : Cur w g A n c p) (hb : Fr lo hi w w') (hd : g < lo) : Cur w' g A n c p := by
 have hg := h.lt
 refine ⟨Nat.lt_of_lt_of_le hg hb.size, (World.cell?_of_block (a := ⟨g, 0, none⟩) (hb.block g hg (Or.inl hd))).trans h.c0, ?_, ?_, ?_, ?_⟩
 ·obtain ⟨x, h1, h2⟩ := h.c1; exact ⟨x, h1, (World.cell?_of_block (a := ⟨g, 1, none⟩) (hb.block g hg (Or.inl hd))).trans h2⟩
 ·obtain ⟨x, h2⟩ := h.c2; exact ⟨x, (World.cell?_of_block (a := ⟨g, 2, none⟩) (hb.block g hg (Or.inl hd))).trans h2⟩
 ·intro j hj; rw [frozen_of_block (a := ⟨g, j, none⟩) (hb.block g hg (Or.inl hd))]; exact h.fz j hj
 ·refine z58 ?_
  intro hn b off e h1 h2 j hj z hz hc
  exact ⟨z, hz, (World.cell?_of_block (a := ⟨b, off + j, none⟩) (hb.block b (by omega) (Or.inl (by omega)))).trans hc⟩
theorem Cur.keep {w w' : World} {g n c p : Nat} {A : Option Addr} (h : Cur w g A n c p) (hs : w.heap.size ≤ w'.heap.size) (hb : ∀ k, k ≤ g → w'.heap[k]? = w.heap[k]?) : Cur w' g A n c p := by
 have hg := hb g nL
 refine ⟨Nat.lt_of_lt_of_le h.lt hs, (World.cell?_of_block (a := ⟨g, 0, none⟩) hg).trans h.c0, ?_, ?_, ?_, ?_⟩
 ·obtain ⟨x, h1, h2⟩ := h.c1; exact ⟨x, h1, (World.cell?_of_block (a := ⟨g, 1, none⟩) hg).trans h2⟩
 ·obtain ⟨x, h2⟩ := h.c2; exact ⟨x, (World.cell?_of_block (a := ⟨g, 2, none⟩) hg).trans h2⟩
 ·intro j hj; rw [frozen_of_block (a := ⟨g, j, none⟩) hg]; exact h.fz j hj
 ·refine z58 ?_
  intro hn b off e h1 h2 j hj z hz hc
  exact ⟨z, hz, (World.cell?_of_block (a := ⟨b, off + j, none⟩) (hb b (by omega))).trans hc⟩
theorem Cur.app {w w' : World} {base g n c p size m : Nat} {e : TypeId} {v : Value} {xs : List Value} {A : Option Addr} (h : Cur w g A n c p) (hg : g < base) (hown : w.ownsRow base e size v m xs) (hgr : w.grownBy w' v.ownBlock) : Cur w' g A n c p :=
 h.keep hgr.size (fun k hk => hgr.block k (Nat.lt_of_le_of_lt hk h.lt) (fun e => by have := (hown.lt k e.symm).1; omega))
theorem Fr.app {W w w' : World} {g size m : Nat} {e : TypeId} {v : Value} {xs : List Value} (h : Fr g (g + 1) W w) (hown : w.ownsRow W.heap.size e size v m xs) (hgr : w.grownBy w' v.ownBlock) : Fr g (g + 1) W w' :=
 ⟨hgr.os.trans h.os, hgr.tape.trans h.tape, hgr.output.trans h.output, Nat.le_trans h.size hgr.size, fun k hk hx =>
  (hgr.block k (Nat.lt_of_lt_of_le hk h.size) (fun e => by have := (hown.lt k e.symm).1; omega)).trans (h.block k hk hx)⟩
theorem own_step {w w' : World} {base g size m : Nat} {e : TypeId} {v : Value} {xs : List Value} (hown : w.ownsRow base e size v m xs) (hg : g < base) (hf : Fr g (g + 1) w w') : w'.ownsRow base e size v m xs :=
 hown.kept (row := some g) ⟨hf.os, hf.tape, hf.output, hf.size, fun k hk hx => hf.block k hk (by
  have : k ≠ g := fun e => hx (by rw [e])
  omega)⟩ (by
  cases hv : v.ownBlock with
  | none => exact Or.inl rfl
  | some b =>
   refine Or.inr (fun e => ?_)
   have := (hown.lt b hv).1
   have := Option.some.inj e
   omega)
theorem Fr.setOwn {g j : Nat} {W w : World} (h : Fr g (g + 1) W w) {p : Addr} (hp : W.heap.size ≤ p.block) (u : Value) : Fr g (g + 1) W (w.setCell p u) :=
 ⟨h.os, h.tape, h.output, by simpa [World.setCell] using h.size, fun k hk hx => (Below.heap_setCell _ _ _ _ (by omega)).trans (h.block k hk hx)⟩
theorem Cur.setOwn {w : World} {g n c p : Nat} {A : Option Addr} (h : Cur w g A n c p) {q : Addr} (hq : g < q.block) (u : Value) : Cur (w.setCell q u) g A n c p :=
 h.keep (by simp [World.setCell]) (fun k hk => Below.heap_setCell _ _ _ _ (by omega))
theorem Cur.alloc {w : World} {g n c p : Nat} {A : Option Addr} (h : Cur w g A n c p) (o : Obj) : Cur (w.alloc o) g A n c p := h.below ((Below.refl _ w).alloc nL o)
theorem Fr.alloc' {lo hi : Nat} {a w : World} (h : Fr lo hi a w) (o : Obj) : Fr lo hi a (w.alloc o) := h.trans (Fr.of_below lo hi ((Below.refl _ w).alloc nL o))
def Blk (w : World) (r : Nat) (T : TypeId) (L : List Int) : Prop := w.heap[r]? = some (.cells (L.map (Value.int .i64)).toArray T (0, 0))
theorem Blk.lt {w : World} {r : Nat} {T : TypeId} {L : List Int} (h : Blk w r T L) : r < w.heap.size := (gL h)
theorem Blk.fr {w w' : World} {r g : Nat} {T : TypeId} {L : List Int} (h : Blk w r T L) (hf : Fr g (g + 1) w w') (hg : g < r) : Blk w' r T L := (hf.block r h.lt (Or.inr hg)).trans h
theorem Blk.alloc {w : World} {r : Nat} {T : TypeId} {L : List Int} (h : Blk w r T L) (o : Obj) : Blk (w.alloc o) r T L := ((Below.refl _ w).alloc nL o).block r h.lt |>.trans h
theorem Blk.cell {w : World} {r : Nat} {T : TypeId} {L : List Int} (h : Blk w r T L) {j : Nat} (hj : j < L.length) : cI w r j (L.getD j 0) := by
 rw [cell_of_row w r j _ _ (0, 0) h]
 simp [hj, List.getD]
theorem Blk.fz {w : World} {r : Nat} {T : TypeId} {L : List Int} (h : Blk w r T L) (j : Nat) : w.frozen? ⟨r, j, none⟩ = false := by
 unfold Blk at h; simp [World.frozen?, h]
theorem Blk.set {w : World} {r : Nat} {T : TypeId} {L : List Int} (h : Blk w r T L) (j : Nat) (z : Int) : Blk (w.setCell ⟨r, j, none⟩ (.int .i64 z)) r T (L.set j z) := by
 unfold Blk at h ⊢
 simp [World.setCell, Array.getElem?_modify, h, List.map_set]
theorem Blk.new {w : World} {T : TypeId} (L : List Int) {cs : Array Value} (hcs : cs = (L.map (Value.int .i64)).toArray) : Blk (w.alloc (.cells cs T)) w.heap.size T L := by
 subst hcs; exact heap_alloc_new w _
theorem Blk.other {w : World} {r : Nat} {T : TypeId} {L : List Int} (h : Blk w r T L) {q : Addr} (hq : r ≠ q.block) (u : Value) : Blk (w.setCell q u) r T L := (Below.heap_setCell _ _ _ _ hq).trans h
theorem Cur.step {w : World} {g n c p q p' : Nat} {A : Option Addr} (h : Cur w g A n c p) (hq : q ≤ p') (s : Int) :
  Cur ((w.setCell ⟨g, 1, none⟩ (.int .i64 q)).setCell ⟨g, 2, none⟩ (.int .u64 s)) g A n c p' := by
 obtain ⟨x1, _, h1⟩ := h.c1
 obtain ⟨x2, h2⟩ := h.c2
 refine ⟨by simpa [World.setCell] using h.lt, ?_, ⟨q, hq, ?_⟩, ⟨s, ?_⟩, ?_, ?_⟩
 ·rw [World.cell?_setCell_other _ _ _ _ (by simp), World.cell?_setCell_other _ _ _ _ (by simp)]; exact h.c0
 ·rw [World.cell?_setCell_other _ _ _ _ (by simp)]; exact World.cell?_setCell_same _ _ _ h1
 ·refine World.cell?_setCell_same (u := .int .u64 x2) _ _ _ ?_
  rw [World.cell?_setCell_other _ _ _ _ (by simp)]; exact h2
 ·intro j hj; simp only [World.frozen?_setCell]; exact h.fz j hj
 ·refine z58 ?_
  intro hn b off e h1 h2 j hj z hz hc
  refine ⟨z, hz, ?_⟩
  rw [World.cell?_setCell_other _ _ _ _ (by intro e; have := congrArg Addr.block e; simp at this; omega), World.cell?_setCell_other _ _ _ _ (by intro e; have := congrArg Addr.block e; simp at this; omega)]
  exact hc
theorem fr_step {w : World} (g : Nat) (u v : Value) : Fr g (g + 1) w ((w.setCell ⟨g, 1, none⟩ u).setCell ⟨g, 2, none⟩ v) :=
 ((Fr.refl g (g + 1) w).setCell (p := ⟨g, 1, none⟩) nL (by show g < g + 1; omega) u).setCell (p := ⟨g, 2, none⟩) nL (by show g < g + 1; omega) v
theorem Cur.drewN {w : World} {g n c p : Nat} {A : Option Addr} (h : Cur w g A n c p) (k : Nat) : Cur (w.drewN k) g A n c p := ⟨h.lt, h.c0, h.c1, h.c2, h.fz, h.code⟩
theorem Cur.done {w : World} {g n c p p' q : Nat} {A : Option Addr} (h : Cur w g A n c p) {z : Int} (hz : z = q) (hq : q ≤ p') (s : Int) (a b : Nat) :
  Cur ((((w.drewN a).setCell ⟨g, 1, none⟩ (.int .i64 z)).setCell ⟨g, 2, none⟩ (.int .u64 s)).drewN b) g A n c p' := by
 subst hz
 exact ((h.drewN a).step hq s).drewN b
theorem Fr.done {w : World} (g : Nat) (u v : Value) (a b : Nat) : Fr g (g + 1) w ((((w.drewN a).setCell ⟨g, 1, none⟩ u).setCell ⟨g, 2, none⟩ v).drewN b) :=
 have h := fr_step (w := w.drewN a) g u v
 ⟨h.os, h.tape, h.output, h.size, h.block⟩
theorem and_byte (x : Int) : ∃ z : Nat, z < 256 ∧ wrap64 (bits .and .u64 x 255) = (z : Int) := by
 have h : (BitVec.ofInt 64 x &&& BitVec.ofInt 64 255).toNat < 256 := by
  rw [BitVec.toNat_and]; exact Nat.lt_of_le_of_lt Nat.and_le_right (by decide)
 refine ⟨_, h, ?_⟩
 show wrap64 (IntKind.u64.wrap ((BitVec.ofInt 64 x &&& BitVec.ofInt 64 255).toNat : Int)) = _
 generalize (BitVec.ofInt 64 x &&& BitVec.ofInt 64 255).toNat = m at h
 have h1 : IntKind.u64.wrap (m : Int) = m := by
  simp [IntKind.wrap, IntKind.signed, IntKind.bits]; omega
 rw [h1]
 exact IntWalk.wrap64_in (m : Int) ⟨by omega, by omega⟩
theorem sl_lit (L : List Int) {cs : Array Value} {w : World} {T : TypeId} (hcs : cs = (L.map (Value.int .i64)).toArray) :
  Sl (w.alloc (.cells cs T)) w.heap.size (w.heap.size + 1) 1 (some ⟨w.heap.size, 0, none⟩) L.length (fun j => L.getD j 0) := by
 refine ⟨by simp, fun hn => ⟨w.heap.size, 0, rfl, Nat.le_refl _, by omega, fun j hj => ?_⟩⟩
 subst hcs
 have hj' : j < L.length := by omega
 simp [hj', List.getD]
def Code (w : World) (A : Option Addr) (n : Nat) : Prop := 0 < n → ∃ b off, A = some ⟨b, off, none⟩ ∧ b < w.heap.size ∧ ∀ j, j < n → ∃ z : Nat, z < 256 ∧ cE w b (off + j) (.int .u8 z)
theorem Code.below {w w' : World} {A : Option Addr} {n : Nat} (h : Code w A n) (hb : bW w w') : Code w' A n := fun hn => by
 obtain ⟨b, off, e, h1, h2⟩ := h hn
 refine ⟨b, off, e, Nat.lt_of_lt_of_le h1 hb.size, fun j hj => ?_⟩
 obtain ⟨z, hz, hc⟩ := h2 j hj
 exact ⟨z, hz, kp hb hc⟩
theorem Code.cur {w : World} {A : Option Addr} {n c : Nat} {T : TypeId} (h : Code w A n) : Cur (w.alloc (.cells #[.slice A n c, .int .i64 0, .int .u64 0] T)) w.heap.size A n c 0 := by
 refine ⟨by simp, by simp, ⟨0, Nat.le_refl _, by simp⟩, ⟨0, by simp⟩, fun j hj => by rw [World.frozen?, heap_alloc_new]; simp, fun hn => ?_⟩
 obtain ⟨b, off, e, h1, h2⟩ := h hn
 refine ⟨b, off, e, h1, fun j hj => ?_⟩
 obtain ⟨z, hz, hc⟩ := h2 j hj
 exact ⟨z, hz, (World.cell?_alloc_lt _ _ _ (by exact h1)).trans hc⟩
section
open Go.RowKit Go.ChangeShapes Go.WideShapes Go.Deep
variable {H : Type} {enc : TypeId × Value → H} {P : Program} {w : World} {base : Nat} {spare : Nat → Bool} {held : Bool}
theorem open_code {r : Reach} {b0 : Nat} {t e : TypeId} {v : Value} {d : DataW H} {ps : List MemPlace} (ht : P.underlying t = some (.slice e)) (he : P.underlying e = some (.int .u8)) (hC : P.cellsOf e = 1)
  (hval : Value.okWide P w r b0 t v) (hd : DataW.Trod enc P w base spare held t v d ps) :
  ∃ A len cap, v = .slice A len cap ∧ len ≤ cap ∧ cap ≤ maxLen ∧ Code w A len := by
 obtain ⟨a0, len0, cap0, rfl⟩ := okWide_slice ht hval
 obtain ⟨fuel, hf⟩ := hd
 rcases open_slice ht hf with ⟨hcs, _⟩ | ⟨a, len, cap, m', n, D, Pl, hcs, hbase, hl, hm, hmm, hx, hi⟩
 ·simp [Value.cells] at hcs
  obtain ⟨rfl, rfl, rfl⟩ := hcs
  exact ⟨none, 0, 0, rfl, Nat.le_refl _, Nat.zero_le _, fun h => absurd h (by omega)⟩
 ·simp [Value.cells] at hcs
  obtain ⟨rfl, rfl, rfl⟩ := hcs
  have hlm : len0 ≤ m' := by rw [hmm]; split <;> omega
  have key : ∀ j, j < len0 → ∃ z : Nat, z < 256 ∧ w.cell? (a.add j) = some (.int .u8 z) := by
   intro j hj
   obtain ⟨cs', hc, ht'⟩ := hi j (by omega)
   obtain ⟨_, hcl, hat⟩ := World.cells?_some hc
   have hcell := hat 0 (by omega)
   rw [Go.Deep.add_add, hC, Nat.mul_one, Nat.add_zero] at hcell
   obtain ⟨z, rfl, _, hwf⟩ := DataW.trod_int he ht'
   have hb : 0 ≤ z ∧ z ≤ 255 := by
    simp [Lit.wf, IntKind.min, IntKind.max, IntKind.signed, IntKind.bits] at hwf
    omega
   exact ⟨z.toNat, by omega, by rw [hcell]; simp; omega⟩
  refine ⟨some a, len0, cap0, rfl, hl, hm, fun hn => ?_⟩
  obtain ⟨z0, _, h0⟩ := key 0 hn
  have hspot : a.spot = none := by
   have := World.cell?_spot h0
   simpa [Addr.add] using this
  obtain ⟨b, off, spot⟩ := a
  simp only at hspot
  subst hspot
  refine ⟨b, off, rfl, ?_, fun j hj => ?_⟩
  ·have := World.block_lt_of_cell? w _ h0
   simpa [Addr.add] using this
  ·obtain ⟨z, hz, hc⟩ := key j hj
   exact ⟨z, hz, by rw [← hc, Addr.add_lit]⟩
end
theorem rowB {X w' : World} {g : Nat} {o : Obj} (hX : X.heap[g]? = some o) (h : bW X w') : w'.heap[g]? = some o :=
 (h.block g (gL hX)).trans hX
theorem rowLt {w : World} {r : Nat} {o : Obj} (h : w.heap[r]? = some o) : r < w.heap.size := (gL h)
theorem name_wp {P : Program} {c : Go.Code} {Q : Exit → Act → World → Prop} {a : Act} {W : World} (h : ∀ w2, w2 = W → c.wp P Q a w2) : c.wp P Q a W := h W rfl
attribute [local go_sem ↓] Go.wp_at_zero Go.wp_at_succ
def recCells : List (BA × BA) → List Value
 | [] => []
 | e :: L => .string e.1 :: .string e.2 :: recCells L
theorem recCells_app (L : List (BA × BA)) (e : BA × BA) : recCells (L ++ [e]) = recCells L ++ [.string e.1, .string e.2] := by
 induction L with
 | nil => rfl
 | cons x L ih => simp [recCells, ih]
def lenOf : Value → Nat
 | .slice _ n _ => n
 | _ => 0
theorem own_form {w : World} {base : Nat} {e : TypeId} {size : Nat} {v : Value} {n : Nat} {xs : List Value} (h : w.ownsRow base e size v n xs) : ∃ A c, v = .slice A n c ∧ n ≤ c ∧ c ≤ maxLen := by
 rcases h.2 with ⟨rfl, rfl⟩ | ⟨g, cap, cur, rfl, _, _, h1, h2, _⟩
 ·exact ⟨none, 0, rfl, Nat.le_refl _, by unfold maxLen; omega⟩
 ·exact ⟨_, cap, rfl, h1, h2⟩
theorem infoRec : (Tryz.prog.info? 70).map (fun i => (i.zero, i.size, i.bytes)) = some (some (.agg (sV ⟨#[]⟩ ⟨#[]⟩)), 2, 32) := by exact z12
theorem wpList_append_rec {ops : Array Oper} {rest : List Oper} {o : Oper} {a : Act} {Q : Exit → Act → World → Prop} (w : World) (hg : o.guard = none) (s x : Operand) (t : TypeId)
  (hop : o.op = Op.call { callee := Callee.builtin Builtin.append, args := #[s, x], argTypes := #[t, t] }) (base : Nat) (ht : Tryz.prog.underlying t = some (.slice 70)) (L : List (BA × BA)) (p q : BA) (v : Value) (hs : a.eval s = v)
  (hown : w.ownsRow base 70 2 v L.length (recCells L)) (b : Nat) (hx : a.eval x = .slice (some ⟨b, 0, none⟩) 1 1) (hc : cE w b 0 (.string p)) (hc1 : cE w b 1 (.string q)) (hlen : L.length ≤ 100000000) (hbase : base ≤ w.heap.size)
  (h : ∀ v' w', w'.ownsRow base 70 2 v' (L ++ [(p, q)]).length (recCells (L ++ [(p, q)])) → w.grownBy w' v.ownBlock → wpList Tryz.prog ops Q rest (a.put o.dst v') w') :
  wpList Tryz.prog ops Q (o :: rest) a w := by
 obtain ⟨i, hi, hz0, hz1, hz2⟩ := info_parts infoRec
 refine wpList_append_own w hg s x t hop base 70 i (.agg (sV ⟨#[]⟩ ⟨#[]⟩)) 2 32 ht hi hz0 hz1 hz2 rfl (by decide) v L.length (recCells L) hs hown ⟨b, 0, none⟩ 1 1 [.string p, .string q] hx rfl ?_ ?_ ?_ ?_ hbase ?_
 ·intro j u' hj
  match j, hj with
  | 0, hj => simp at hj; subst hj; simpa [Addr.add] using hc
  | 1, hj => simp at hj; subst hj; simpa [Addr.add] using hc1
 ·intro u' hu
  simp at hu
  rcases hu with rfl | rfl <;> rfl
 ·unfold maxLen; omega
 ·omega
 ·intro v' w' hown' hgrow _
  exact h v' w' (by rw [recCells_app]; simpa using hown') hgrow
theorem implText_size (s : BA) : (implText s).size ≤ s.size := by
 unfold implText
 split
 ·exact bef_size 35 s
 ·exact Nat.zero_le _
theorem aft_size (c : UInt8) (s : BA) : (aft c s).size ≤ s.size := by
 rw [← size_list (aft c s), aft_data, List.length_drop, ← size_list s]
 have := (List.dropWhile_sublist (fun x => x != c) (l := s.data.toList)).length_le
 omega
theorem readRecords_any (s : BA) (hs : s.size ≤ 4000000) (w : World) (ht : Tab w) (hm : Mx w) :
  Calls Tryz.prog 74 #[.string s] w fun e w' => ∃ v, e = .returned (.tuple #[v, .int .i64 ((readN s 60).2 : Nat)]) ∧ w'.ownsRow w.heap.size 70 2 v (readN s 60).1.length (recCells (readN s 60).1) ∧ bW w w' := by
 have HT := lh ht
 have HM := lh hm
 clear ht hm
 go_enter Tryz.func74, Tryz.ntmps74
 go_wp2_with fail
 go_loopw [4, 5] (fun v rd wr => ∃ m : Nat, m ≤ 60 ∧ Hid ((readN s m).1.length = m) ∧ rd = .int .i64 ((readN s m).2 : Nat) ∧ wr.ownsRow w.heap.size 70 2 v (readN s m).1.length (recCells (readN s m).1) ∧ bW w wr) (fun v _ _ => 60 - lenOf v)
 case atStart => exact ⟨0, by omega, rfl, rfl, World.ownsRow_nil _ _ _ _, Below.refl _ _⟩
 case round =>
  obtain ⟨m, hm60, hlm, rfl, hown, hB⟩ := hrel
  obtain ⟨hat, _⟩ := readN_at s m hm60
  have hsz := hB.size
  obtain ⟨A4, c4, hv4, _, _⟩ := own_form hown
  rw [hlm.out] at hv4
  revert hlm
  refine z59 ?_
  intro HST HYE HL hl HRN
  generalize hR : readN s m = RN at *
  obtain ⟨L, at_⟩ := RN
  simp only at *
  have HR := lh hR
  have HO : Hid (wr.ownsRow w.heap.size 70 2 u4 L.length (recCells L)) := hown
  clear hR HRN hown
  subst hv4
  have hat0 : (0 : Int) ≤ (at_ : Int) := by omega
  have hat1 : (at_ : Int) ≤ (s.size : Int) := by omega
  by_cases hlt : m < 60
  ·refine z60 ?_
   intro hmi hm0 X hX hst hxs hls
   go_wp2_with fail
   first | rw [hX] | skip
   refine (Cut_any X 10 (by omega) wr (HM.out.below hB)).mono ?_
   rintro e w1 ⟨rfl, hb1⟩
   clear hX
   have B1 := below_of hB hb1 hB.size
   cases hn : noByte X 10 with
   | true =>
    have hnone : Hid (stepR s m at_ = none) := by show _ = _; rw [hst.out, hn]; simp
    go_wp2_with fail
    go_ret2
    refine ⟨.slice A4 m c4, ?_, ?_, B1⟩
    ·have hq := HST.out 60 (by omega) hnone.out; rw [hq]; try rfl
    ·rw [HST.out 60 (by omega) hnone.out]; exact ownsRow_below HO.out hb1
   | false =>
    have hst2 : Hid (stepR s m at_ = (dec m (bef 10 X)).map fun e => (e, at_ + (bef 10 X).size + 1)) := by show _ = _; rw [hst.out, hn]; simp
    clear hst
    generalize hLN : bef 10 X = line at hst2 hls
    have HO1 := lh (ownsRow_below HO.out hb1)
    clear HO hb1
    have T1 := HT.out.below B1
    have M1 := HM.out.below B1
    go_wp2_with fail
    first | rw [hLN] | skip
    refine (VerifyChecksum_any line (by omega) w1 T1 M1).mono ?_
    rintro e w2 ⟨⟨bb, rfl⟩, hb2⟩
    have B2 := below_of B1 hb2 B1.size
    have hti := implText_size line
    have hid := lh (impl_dec (k := m) (line := line) (by omega) (by omega))
    generalize implText line = txt at hti hid
    have HO2 := lh (ownsRow_below HO1.out hb2)
    clear HO1 hb2 T1 M1
    go_wp2_with fail
    refine (Cut_any txt 32 (by omega) w2 (HM.out.below B2)).mono ?_
    rintro e w3 ⟨rfl, hb3⟩
    have B3 := below_of B2 hb3 B2.size
    have hrs := aft_size 32 txt
    generalize aft 32 txt = rst at hrs hid
    have HO3 := lh (ownsRow_below HO2.out hb3)
    clear HO2 hb3
    go_wp2_with fail
    refine (Cut_any rst 64 (by omega) w3 (HM.out.below B3)).mono ?_
    rintro e w4 ⟨rfl, hb4⟩
    have B4 := below_of B3 hb4 B3.size
    have hcs := bef_size 64 rst
    have hrs2 := aft_size 64 rst
    generalize bef 64 rst = cm at hcs hid
    generalize aft 64 rst = rp at hrs2 hid
    have HO4 := lh (ownsRow_below HO3.out hb4)
    clear HO3 hb4
    have hci : (cm.size : Int) ≤ 9223372036854775807 := by omega
    have hri : (rp.size : Int) ≤ 9223372036854775807 := by omega
    have hl1 : (line.size : Int) + 1 ≤ 9223372036854775807 := by omega
    have hl2 : line.size + 1 ≤ 9223372036854775807 := by omega
    have AL4 := (Below.refl _ w4).alloc nL (.cells (sV cm rp) 70)
    have B5 : bW w (w4.alloc (.cells (sV cm rp) 70)) := B4.alloc B4.size _
    have hin : inR (m : Int) 0 59 = true := by simp only [inR, decide_eq_true_eq]; omega
    have HE := lh (EncodeRecord_any m cm rp hci hri _ (HT.out.below B5))
    rw [hin] at HE
    simp only [Bool.true_and] at HE
    go_wp2_with fail
    refine HE.out.mono ?_
    clear HE
    cases hgd : goodRec cm rp with
    | false =>
     have hnone : Hid (stepR s m at_ = none) := by show _ = _; rw [hst2.out, hid.out, lineIs, hgd]; rfl
     rintro e w6 ⟨rfl, hb6⟩
     exact z61
    | true =>
     by_cases hsl : sealB (bodyB m cm rp) = line
     ·have hsome : Hid (stepR s m at_ = some ((cm, rp), at_ + line.size + 1)) := by show _ = _; rw [hst2.out, hid.out, lineIs, hgd, hsl]; simp
      have hcmp : ((lineB m cm rp).toList == (line ++ ⟨#[10]⟩).toList) = true := by rw [toList_beq, lineB, hsl]; simp
      have HC := lh hcmp
      clear hsl hcmp
      rintro e w6 ⟨rfl, hb6⟩
      obtain ⟨q0, q1⟩ := cells2 (bx (g := w4.heap.size) hb6)
      have HO6 := lh (ownsRow_below (ownsRow_below HO4.out AL4) hb6)
      have B6 := below_of B5 hb6 B5.size
      have hs6 := B6.size
      have hcmp := HC.out
      generalize lineB m cm rp = LB at hcmp
      clear HO4 hb6 AL4 B5 HC
      go_wp2_with (at_builtin; refine wpList_append_rec _ rfl _ _ 66 rfl w.heap.size Tryz.underlying66 L cm rp _ rfl (HO6.out.alloc _) _ rfl (by simp) (by simp) hl (by simp; omega) ?_; intro v' w7 hown7 hgrow7)
      go_roundw
      case rel => exact ⟨m + 1, by omega, by show _ = _; rw [HYE.out _ _ hsome.out]; simp [HL.out], by rw [HYE.out _ _ hsome.out]; go_num, by rw [HYE.out _ _ hsome.out]; exact hown7, below_app (B6.alloc hs6 _) (HO6.out.alloc _) hgrow7⟩
      case measure =>
       obtain ⟨A7, c7, rfl, _, _⟩ := own_form hown7
       have := HL.out
       simp [lenOf]; omega
     ·have hnone : Hid (stepR s m at_ = none) := by show _ = _; rw [hst2.out, hid.out, lineIs]; simp [hsl]
      have hcmp : ((lineB m cm rp).toList == (line ++ ⟨#[10]⟩).toList) = false := by
       rw [toList_beq]
       refine decide_eq_false (fun e => hsl ?_)
       have := congrArg (fun x : BA => x.data.toList) e
       simp only [lineB, Joins.data_append] at this
       exact ba_ext (List.append_cancel_right this)
      have HC := lh hcmp
      clear hsl hcmp
      rintro e w6 ⟨rfl, hb6⟩
      have hcmp := HC.out
      generalize lineB m cm rp = LB at hcmp
      clear HC
      exact z61
  exact z62
end Go.Proofs.YtpndjhelpoenpaaGreatDoor
