/-
  Texts of this claim, merged.
-/
import Derived.Test.YtpndjhelpoenpaaGreatDoorXA23
set_option linter.unusedVariables false
set_option linter.unusedSimpArgs false
set_option maxRecDepth 100000
set_option maxHeartbeats 8000000
namespace Go.Proofs.YtpndjhelpoenpaaGreatDoor
open Go.RowKit Go.Maps
attribute [local go_sem ↓] Go.wp_at_zero Go.wp_at_succ
noncomputable section
def okN (ws : Nat → ByteArray) (j : Nat) : Bool := (parseV (ws (j + 1))).isSome
def numV (ws : Nat → ByteArray) (j : Nat) : Int := (parseV (ws (j + 1))).getD 0
def numL (ws : Nat → ByteArray) (j : Nat) : List Int := (List.range j).map (numV ws)
end
def AnsPost (base : Nat) (L : List Int) (n : Nat) (I H S P : Int) (ok : Bool) (L1 : List Int) (n1 : Nat) (I1 H1 S1 P1 : Int) (r1 : ByteArray) (w : World) (e : Ending) (w' : World) : Prop :=
 ∃ A1 c1 L2 n2 I2 H2 S2 P2 r2, e = .returned (.tuple #[.agg (wB A1 n2 c1 I2 H2 S2 P2), .string r2, .bool ok]) ∧
  (ok = true → L2 = L1 ∧ n2 = n1 ∧ I2 = I1 ∧ H2 = H1 ∧ S2 = S1 ∧ P2 = P1 ∧ r2 = r1) ∧ n2 ≤ c1 ∧ w'.ownsRow base 97 4 (.slice A1 n2 c1) n2 (L2.map (Value.int .i64)) ∧ bW w w'
theorem numL_len (ws : Nat → ByteArray) (j : Nat) : (numL ws j).length = j := by simp [numL]
theorem numL_next {ws : Nat → ByteArray} {j : Nat} {v : Int} (h : parseV (ws (j + 1)) = some v) : numL ws (j + 1) = numL ws j ++ [v] := by
 unfold numL
 rw [List.range_succ, List.map_append, List.map_cons, List.map_nil]
 simp [numV, h]
theorem ans_no {base n c : Nat} {A : Option Addr} {L L1 : List Int} {I H S P : Int} {ok : Bool} {n1 : Nat} {I1 H1 S1 P1 : Int} {r1 : ByteArray} {w w' : World} (hok : ok = false) (hnc : n ≤ c)
  (hO : w'.ownsRow base 97 4 (.slice A n c) n (L.map (Value.int .i64))) (hB : bW w w') :
  AnsPost base L n I H S P ok L1 n1 I1 H1 S1 P1 r1 w (.returned (.tuple #[.agg (wB A n c I H S P), .string ⟨#[]⟩, .bool false])) w' :=
 ⟨A, c, L, n, I, H, S, P, ⟨#[]⟩, by rw [hok], fun h => (by rw [hok] at h; cases h), hnc, hO, hB⟩
theorem own_sl {w : World} {base m c' : Nat} {B' : Option Addr} {L : List Int} (h : w.ownsRow base 97 4 (.slice B' m c') m (L.map (Value.int .i64))) : Sl w base w.heap.size 4 B' m (lf L) := by
 obtain ⟨A2, c2, e, _, _, ho⟩ := own_of_row h
 cases e
 exact ho.sl
theorem own_nilK {w : World} {base n c : Nat} {A' : Option Addr} {xs : List Value} (h : w.ownsRow base 97 4 (.slice A' n c) n xs) (e : A' = none) : n = 0 ∧ c = 0 := by
 subst e
 rcases h.2 with ⟨h1, h2⟩ | ⟨g, cap, cur, h1, _⟩
 ·simp at h1; exact ⟨h2, h1.2⟩
 ·simp at h1
theorem wk_i64 {f : Nat → Int} {n : Nat} {I H S P : Int} (hg : goodWorks f n I H S P = true) : (-9223372036854775808 ≤ I ∧ I ≤ 9223372036854775807) ∧ (-9223372036854775808 ≤ H ∧ H ≤ 9223372036854775807) ∧ (-9223372036854775808 ≤ S ∧ S ≤ 9223372036854775807) ∧ (-9223372036854775808 ≤ P ∧ P ≤ 9223372036854775807) := by
 simp only [goodWorks, kilosOk, inR, Bool.and_eq_true, decide_eq_true_eq] at hg
 obtain ⟨⟨_, ⟨⟨hI, hH⟩, hS⟩, hP⟩, _⟩ := hg
 refine ⟨by omega, by omega, by omega, by omega⟩
theorem own_far {w w' : World} {lo hi n g k : Nat} {e : TypeId} {A' : Option Addr} {f : Nat → Int} (h : Own w lo hi e k A' n f) (hg : w.grownBy w' (some g)) (hd : g < lo ∨ hi ≤ g) : Own w' lo hi e k A' n f :=
 ⟨Nat.le_trans h.hi_le hg.size, fun hn => by
  exact z279⟩
theorem cellGr {w w' : World} {a : Addr} {v : Value} {g : Nat} (h : w.cell? a = some v) (hg : w.grownBy w' (some g)) (hne : a.block ≠ g) : w'.cell? a = some v :=
 (World.cell?_of_block (hg.block a.block (World.block_lt_of_cell? w _ h) (by simpa using hne))).trans h
theorem ex_no {ws : Nat → ByteArray} {j : Nat} {L : List Int} {n : Nat} {I H S P c x0 x1 x2 : Int} (hall : allTo (okN ws) j = true) (hc : c ≠ 0) (hst : isStep c = false) (hrk : rpOk (lf L) n c x0 x1 = false) : (allTo (okN ws) j && exOk (lf L) n I H S P c x0 x1 x2) = false := by
 rw [hall, Bool.true_and, exOk, if_neg hc, hst, hrk]; rfl
theorem ex_stop {ws : Nat → ByteArray} {j : Nat} {L : List Int} {n : Nat} {I H S P c x0 x1 x2 : Int} (hall : allTo (okN ws) j = true) (hc : c ≠ 0) (hst : isStep c = true) (hso : stOk (lf L) n I H S P c (exId c x0) (exTo c x1) (exZ c x0 x1 x2) = false) : (allTo (okN ws) j && exOk (lf L) n I H S P c x0 x1 x2) = false := by
 rw [hall, Bool.true_and, exOk, if_neg hc, hst, hso]; rfl
theorem cellsL_lf {L : List Int} {n : Nat} (h : L.length = n * 4) : cellsL (lf L) n = L := by
 apply List.ext_getElem?
 intro i
 by_cases hi : i < n * 4
 ·rw [cellsL_at _ _ _ hi, List.getElem?_eq_getElem (by omega)]
  simp [lf, List.getD_eq_getElem?_getD, h, hi]
 ·rw [List.getElem?_eq_none (by rw [cellsL_len]; omega), List.getElem?_eq_none (by omega)]
theorem ans_ask {ws : Nat → ByteArray} {j : Nat} {base n c : Nat} {A : Option Addr} {L : List Int} {I H S P k x0 x1 x2 : Int} {rr : ByteArray} {w w' : World} (hall : allTo (okN ws) j = true) (hc : k ≠ 0) (hst : isStep k = false) (hrk : rpOk (lf L) n k x0 x1 = true) (hrp : rpS (lf L) n I H S P k x0 x1 = rr) (hnc : n ≤ c)
  (hO : w'.ownsRow base 97 4 (.slice A n c) n (L.map (Value.int .i64))) (hB : bW w w') (hl : L.length = n * 4) :
  AnsPost base L n I H S P (allTo (okN ws) j && exOk (lf L) n I H S P k x0 x1 x2) (exL (lf L) n I H S P k x0 x1 x2) (exN (lf L) n I H S P k x0 x1 x2) (exI (lf L) n I H S P k x0 x1 x2) (exH (lf L) n I H S P k x0 x1 x2) (exS (lf L) n I H S P k x0 x1 x2) (exP (lf L) n I H S P k x0 x1 x2) (exR (lf L) n I H S P k x0 x1 x2) w (.returned (.tuple #[.agg (wB A n c I H S P), .string rr, .bool true])) w' := by
 have hgo : exGo (lf L) n I H S P k x0 x1 x2 = false := by rw [exGo, hst]; rfl
 have hok : exOk (lf L) n I H S P k x0 x1 x2 = true := by rw [exOk, if_neg hc, hst]; exact hrk
 have e1 : exL (lf L) n I H S P k x0 x1 x2 = L := by rw [exL, hgo]; exact cellsL_lf hl
 have e2 : exN (lf L) n I H S P k x0 x1 x2 = n := by rw [exN, hgo]; rfl
 have e3 : exI (lf L) n I H S P k x0 x1 x2 = I := by rw [exI, hgo]; rfl
 have e4 : exH (lf L) n I H S P k x0 x1 x2 = H := by rw [exH, hgo]; rfl
 have e5 : exS (lf L) n I H S P k x0 x1 x2 = S := by rw [exS, hgo]; rfl
 have e6 : exP (lf L) n I H S P k x0 x1 x2 = P := by rw [exP, hgo]; rfl
 refine ⟨A, c, L, n, I, H, S, P, rr, by rw [hall, hok]; rfl, fun _ => ⟨e1.symm, e2.symm, e3.symm, e4.symm, e5.symm, e6.symm, ?_⟩, hnc, hO, hB⟩
 rw [exR, if_pos hok, e1, e2, e3, e4, e5, e6, ← hrp, rpS, if_pos hrk]
theorem ans_step {ws : Nat → ByteArray} {j : Nat} {base n n1 c1 : Nat} {A1 : Option Addr} {L L1 : List Int} {I H S P I1 H1 S1 P1 k x0 x1 x2 : Int} {rr : ByteArray} {w w' : World} (hall : allTo (okN ws) j = true) (hc : k ≠ 0) (hst : isStep k = true) (hso : stOk (lf L) n I H S P k (exId k x0) (exTo k x1) (exZ k x0 x1 x2) = true)
  (hv : L1 = stL (lf L) n k (exId k x0) (exTo k x1) (exZ k x0 x1 x2) ∧ n1 = stN n k ∧ I1 = stI I k (exZ k x0 x1 x2) ∧ H1 = stH H k (exZ k x0 x1 x2) ∧ S1 = stS S k (exZ k x0 x1 x2) ∧ P1 = stP (lf L) n P k (exId k x0)) (hrk : rpOk (lf L1) n1 k x0 x1 = true) (hrp : rpS (lf L1) n1 I1 H1 S1 P1 k x0 x1 = rr) (hnc : n1 ≤ c1)
  (hO : w'.ownsRow base 97 4 (.slice A1 n1 c1) n1 (L1.map (Value.int .i64))) (hB : bW w w') :
  AnsPost base L n I H S P (allTo (okN ws) j && exOk (lf L) n I H S P k x0 x1 x2) (exL (lf L) n I H S P k x0 x1 x2) (exN (lf L) n I H S P k x0 x1 x2) (exI (lf L) n I H S P k x0 x1 x2) (exH (lf L) n I H S P k x0 x1 x2) (exS (lf L) n I H S P k x0 x1 x2) (exP (lf L) n I H S P k x0 x1 x2) (exR (lf L) n I H S P k x0 x1 x2) w (.returned (.tuple #[.agg (wB A1 n1 c1 I1 H1 S1 P1), .string rr, .bool true])) w' := by
 obtain ⟨q1, q2, q3, q4, q5, q6⟩ := hv
 have hgo : exGo (lf L) n I H S P k x0 x1 x2 = true := by rw [exGo, hst, hso]; rfl
 have hok : exOk (lf L) n I H S P k x0 x1 x2 = true := by rw [exOk, if_neg hc, hst]; exact hso
 have e1 : exL (lf L) n I H S P k x0 x1 x2 = L1 := by rw [exL, hgo, q1]; rfl
 have e2 : exN (lf L) n I H S P k x0 x1 x2 = n1 := by rw [exN, hgo, q2]; rfl
 have e3 : exI (lf L) n I H S P k x0 x1 x2 = I1 := by rw [exI, hgo, q3]; rfl
 have e4 : exH (lf L) n I H S P k x0 x1 x2 = H1 := by rw [exH, hgo, q4]; rfl
 have e5 : exS (lf L) n I H S P k x0 x1 x2 = S1 := by rw [exS, hgo, q5]; rfl
 have e6 : exP (lf L) n I H S P k x0 x1 x2 = P1 := by rw [exP, hgo, q6]; rfl
 refine ⟨A1, c1, L1, n1, I1, H1, S1, P1, rr, by rw [hall, hok]; rfl, fun _ => ⟨e1.symm, e2.symm, e3.symm, e4.symm, e5.symm, e6.symm, ?_⟩, hnc, hO, hB⟩
 rw [exR, if_pos hok, e1, e2, e3, e4, e5, e6, ← hrp, rpS, if_pos hrk]
theorem step_open {w w' : World} {f : Nat → Int} {n : Nat} {I H S P kd id to_ z : Int} {ok : Bool} {e : Ending} (h : stepPost w f n I H S P kd id to_ z ok e w') :
  ∃ (L1 : List Int) (n1 : Nat) (I1 H1 S1 P1 : Int) (A1 : Option Addr) (c1 : Nat), e = .returned (.tuple #[.agg (wB A1 n1 c1 I1 H1 S1 P1), .bool ok]) ∧ n1 ≤ c1 ∧ w'.ownsRow w.heap.size 97 4 (.slice A1 n1 c1) n1 (L1.map (Value.int .i64)) ∧ bW w w' ∧
   (ok = true → L1 = stL f n kd id to_ z ∧ n1 = stN n kd ∧ I1 = stI I kd z ∧ H1 = stH H kd z ∧ S1 = stS S kd z ∧ P1 = stP f n P kd id) := by
 obtain ⟨A', c', rfl, h1, _, h2, h3⟩ := h
 exact ⟨_, _, _, _, _, _, A', c', rfl, h1, h2, h3, fun h => by subst h; exact ⟨rfl, rfl, rfl, rfl, rfl, rfl⟩⟩
theorem answer_any (base : Nat) (A : Option Addr) (n c : Nat) (L : List Int) (I H S P : Int) (B : Option Addr) (m d lw hw : Nat) (ws : Nat → ByteArray) (w : World) (hO : w.ownsRow base 97 4 (.slice A n c) n (L.map (Value.int .i64))) (hbase : base ≤ w.heap.size) (hnc : n ≤ c) (hg : goodWorks (lf L) n I H S P = true) (hws : SlT w lw hw 1 B (m + 1) ws) (hmd : m + 1 ≤ d) (hm4 : m ≤ 4000000) (hsz : ∀ j, (ws j).size ≤ 4000000) (ht : Tab w) (he : Er w) :
  Calls Tryz.prog 49 #[.agg (wB A n c I H S P), .slice B (m + 1) d] w fun e w' => AnsPost base L n I H S P (allTo (okN ws) m && exOk (lf L) n I H S P (cmdN (ws 0) m) ((numL ws m).getD 0 0) ((numL ws m).getD 1 0) ((numL ws m).getD 2 0)) (exL (lf L) n I H S P (cmdN (ws 0) m) ((numL ws m).getD 0 0) ((numL ws m).getD 1 0) ((numL ws m).getD 2 0)) (exN (lf L) n I H S P (cmdN (ws 0) m) ((numL ws m).getD 0 0) ((numL ws m).getD 1 0) ((numL ws m).getD 2 0)) (exI (lf L) n I H S P (cmdN (ws 0) m) ((numL ws m).getD 0 0) ((numL ws m).getD 1 0) ((numL ws m).getD 2 0)) (exH (lf L) n I H S P (cmdN (ws 0) m) ((numL ws m).getD 0 0) ((numL ws m).getD 1 0) ((numL ws m).getD 2 0)) (exS (lf L) n I H S P (cmdN (ws 0) m) ((numL ws m).getD 0 0) ((numL ws m).getD 1 0) ((numL ws m).getD 2 0)) (exP (lf L) n I H S P (cmdN (ws 0) m) ((numL ws m).getD 0 0) ((numL ws m).getD 1 0) ((numL ws m).getD 2 0)) (exR (lf L) n I H S P (cmdN (ws 0) m) ((numL ws m).getD 0 0) ((numL ws m).getD 1 0) ((numL ws m).getD 2 0)) w e w' := by
 have hLl : L.length = n * 4 := by simpa using hO.1
 have hn6 := con_len hg
 obtain ⟨hX, h2, h4⟩ := bl2 w (.cells (wB A n c I H S P) 32) (.cells (wB none 0 0 0 0 0 0) 32)
 go_enter Tryz.func49, Tryz.ntmps49
 go_upto_region 1 with fail
 refine z161 ?_
 intro w1 hw1
 rw [← hw1] at hX h2 h4
 have hz1 : w1.heap.size = w.heap.size + 2 := by rw [hw1]; simp
 clear hw1
 have hO1 := ownsRow_below hO hX
 have hws1 := hws.below hX
 have ht1 := ht.below hX
 have he1 := he.below hX
 obtain ⟨b1, o1, eB, _, hb1, hc1⟩ := hws1.here (by omega)
 have hb1 := Nat.lt_of_lt_of_le hb1 hws1.hi_le
 subst eB
 obtain ⟨g2, hg2⟩ : ∃ q, w.heap.size = q := ⟨_, rfl⟩
 rw [hg2] at h2 h4
 try rw [hg2]
 obtain ⟨g4, hg4⟩ : ∃ q, g2 + 1 = q := ⟨_, rfl⟩
 rw [hg4] at h4
 try rw [hg4]
 have hn24 : g2 ≠ g4 := by omega
 have hn42 : g4 ≠ g2 := by omega
 have HG2 := lh hg2
 have HLT := lh (⟨by omega, by omega, by omega⟩ : g2 < g4 ∧ g4 < w1.heap.size ∧ w.heap.size ≤ g2)
 have HZ1 := lh hz1
 have HX := lh hX
 have H2 := lh h2
 have H4 := lh h4
 have HO := lh hO1
 have HT := lh ht1
 have HE := lh he1
 have HC := lh hc1
 have HM := lh hm4
 clear hg2 hg4 hz1 hX h2 h4 hO hO1 ht ht1 he he1 hws hws1 hc1
 have hk1 : (1 : Int) ≤ ((m + 1 : Nat) : Int) := by omega
 have hk2 : ((m + 1 : Nat) : Int) ≤ (d : Int) := by omega
 go_upto_region 2 with fail
 go_cut [23, 24, 25] from 22 (fun sa sb sc wx => ∃ o9 d9 : Nat, sa = .slice (some ⟨b1, o9, none⟩) m d9 ∧ sb = .int .i64 m ∧ sc = .int .i64 0 ∧ (0 < m → o9 = o1 + 1) ∧ wx = w1)
 case first =>
  by_cases hd : d = 1
  ·subst hd
   obtain rfl : m = 0 := by omega
   go_wp2_with fail
   go_meet
   case rel => exact ⟨_, _, rfl, rfl, rfl, fun h => by omega, rfl⟩
  ·go_wp2_with fail
   go_meet
   case rel => exact ⟨_, _, rfl, rfl, rfl, fun _ => rfl, rfl⟩
 case rest =>
 obtain ⟨o9, d9, rfl, rfl, rfl, ho9, hwc⟩ := hcut
 rw [hwc]
 clear hwc wc hk1 hk2
 have HO9 := lh ho9
 clear ho9
 go_wp2_with fail
 go_loopw [7, 25] (fun v kv wr => ∃ j : Nat, j ≤ m ∧ kv = .int .i64 j ∧ wr.ownsRow w1.heap.size 3 1 v j ((numL ws j).map (Value.int .i64)) ∧ Hid (allTo (okN ws) j = true) ∧ bW w1 wr) (fun _ kv _ => m - (intOf kv).toNat)
 case atStart => exact ⟨0, Nat.zero_le _, rfl, ⟨rfl, Or.inl ⟨rfl, rfl⟩⟩, by show _ = _; rfl, Below.refl _ _⟩
 case round =>
  obtain ⟨j, hj, rfl, hv, hok, hB⟩ := hrel
  have HV := lh hv
  clear hv
  have hjl : (numL ws j).length = j := numL_len ws j
  by_cases hlt : j < m
  ·have hki : (j : Int) < (m : Int) := by omega
   have hk0 : (0 : Int) ≤ (j : Int) := by omega
   have d0 : cE wr b1 (o9 + j) (.string (ws (j + 1))) := by
    have h := (hB.cell (p := ⟨b1, o1 + (j + 1), none⟩) hb1).trans (HC.out (j + 1) (by omega))
    rw [HO9.out (by omega), Nat.add_assoc, Nat.add_comm 1 j]
    exact h
   have HPI := ParseInt_any (ws (j + 1)) (hsz _) wr (HT.out.below hB) (HE.out.below hB)
   cases hp : parseV (ws (j + 1)) with
   | none =>
    rw [hp] at HPI
    have HPP := lh HPI
    have HNO := lh (allTo_false (p := okN ws) hlt (by simp [okN, hp]))
    have HB := lh hB
    clear hp HPI hB
    go_wp2_with fail
    refine HPP.out.mono ?_
    rintro e w2 ⟨rfl, hb⟩
    have hB := HB.out.trans (hb.mono HB.out.size)
    clear hb d0 HB HPP
    revert hB
    refine z280 ?_
    intro h4 e0 e1 e2 e3 e4 HBW HOW
    go_upto_region 7 with fail
    go_wp2_with (refine z281 ?_; refine z282 ?_)
    revert h4
    refine z283 ?_
    intro wq HQR HQ HOQ
    go_wp2_with ((refine z66 ?_); refine z284 ?_; exact ans_no (by rw [HNO.out]; rfl) hnc HOQ.out HQ.out)
   | some v =>
    rw [hp] at HPI
    have HPP := lh HPI
    have HNX := lh (numL_next (ws := ws) (j := j) hp)
    have HOK := lh (allTo_succ (p := okN ws) hok.out (by simp [okN, hp]))
    have HB := lh hB
    clear hp HPI hB
    go_wp2_with fail
    refine HPP.out.mono ?_
    rintro e w2 ⟨rfl, hb⟩
    have HB2 := lh (HB.out.trans (hb.mono HB.out.size))
    have HV2 := lh (ownsRow_below HV.out hb)
    clear hb d0 HB HPP HV
    go_wp2_with (at_builtin; refine wpList_append_int1 _ rfl _ _ 101 rfl w1.heap.size 3 Tryz.underlying101 infoIntP (numL ws j) v _ rfl (by rw [hjl]; exact HV2.out.alloc _) _ rfl (by simp) (by omega) (by have := HB2.out.size; simp; omega) ?_; intro v' w3 hown3 _ hgrow3)
    have hB3 := below_app (HB2.out.alloc HB2.out.size _) (HV2.out.alloc _) hgrow3
    have hO3 : w3.ownsRow w1.heap.size 3 1 v' (j + 1) ((numL ws (j + 1)).map (Value.int .i64)) := by
     rw [HNX.out]
     have h := hown3
     rw [List.length_append, hjl] at h
     exact h
    exact z285
  ·obtain rfl : j = m := by omega
   have hki : ¬ ((j : Int) < (j : Int)) := by omega
   have hall := hok.out
   clear hok
   obtain ⟨An, dn, eV, hjd, _, hon⟩ := own_of_row (zs := numL ws j) HV.out
   subst eV
   have HON := lh hon
   clear hon
   have hmm := @run_makeMap Tryz.prog
   go_upto_region 10 with fail
   go_cut [12] from 22 (fun s wx => ∃ M : Nat, s = .map (some M) ∧ wx.ownsMap Tryz.prog 9 (plainElem (H := Unit) Tryz.prog 3) M 14 mapD ∧ bW wr wx)
   case first =>
    clear HV
    go_wp2_with (refine wpList_insert_own _ rfl _ _ _ 125 rfl 9 3 (string_keyed Tryz.underlying9) Tryz.underlying125 (plainElem (H := Unit) Tryz.prog 3) wr.heap.size 0 (.map []) rfl (World.ownsMap_made _ _ _ _) (by unfold maxLen; omega) _ _ _ rfl rfl (WideMaps.keyOf_string_mk Tryz.underlying9 (by decide)) _ [] (plainElem_int Tryz.underlying3 (by decide)) ?_)
    intro y0 hm0 hq0
    have hb0 : bW wr y0 := (((Below.refl _ wr).alloc nL (.map #[] 0))).grown hq0 (((Below.refl _ wr).alloc nL (.map #[] 0))).size (fun k hk => by cases hk; exact z35)
    refine wpList_insert_own _ rfl _ _ _ 125 rfl 9 3 (string_keyed Tryz.underlying9) Tryz.underlying125 (plainElem (H := Unit) Tryz.prog 3) wr.heap.size 1 _ rfl hm0 (by unfold maxLen; omega) _ _ _ rfl rfl (WideMaps.keyOf_string_mk Tryz.underlying9 (by decide)) _ [] (plainElem_int Tryz.underlying3 (by decide)) ?_
    intro y1 hm1 hq1
    have hb1 : bW wr y1 := (hb0).grown hq1 (hb0).size (fun k hk => by cases hk; exact z35)
    refine wpList_insert_own _ rfl _ _ _ 125 rfl 9 3 (string_keyed Tryz.underlying9) Tryz.underlying125 (plainElem (H := Unit) Tryz.prog 3) wr.heap.size 2 _ rfl hm1 (by unfold maxLen; omega) _ _ _ rfl rfl (WideMaps.keyOf_string_mk Tryz.underlying9 (by decide)) _ [] (plainElem_int Tryz.underlying3 (by decide)) ?_
    intro y2 hm2 hq2
    have hb2 : bW wr y2 := (hb1).grown hq2 (hb1).size (fun k hk => by cases hk; exact z35)
    refine wpList_insert_own _ rfl _ _ _ 125 rfl 9 3 (string_keyed Tryz.underlying9) Tryz.underlying125 (plainElem (H := Unit) Tryz.prog 3) wr.heap.size 3 _ rfl hm2 (by unfold maxLen; omega) _ _ _ rfl rfl (WideMaps.keyOf_string_mk Tryz.underlying9 (by decide)) _ [] (plainElem_int Tryz.underlying3 (by decide)) ?_
    intro y3 hm3 hq3
    have hb3 : bW wr y3 := (hb2).grown hq3 (hb2).size (fun k hk => by cases hk; exact z35)
    refine wpList_insert_own _ rfl _ _ _ 125 rfl 9 3 (string_keyed Tryz.underlying9) Tryz.underlying125 (plainElem (H := Unit) Tryz.prog 3) wr.heap.size 4 _ rfl hm3 (by unfold maxLen; omega) _ _ _ rfl rfl (WideMaps.keyOf_string_mk Tryz.underlying9 (by decide)) _ [] (plainElem_int Tryz.underlying3 (by decide)) ?_
    intro y4 hm4 hq4
    have hb4 : bW wr y4 := (hb3).grown hq4 (hb3).size (fun k hk => by cases hk; exact z35)
    refine wpList_insert_own _ rfl _ _ _ 125 rfl 9 3 (string_keyed Tryz.underlying9) Tryz.underlying125 (plainElem (H := Unit) Tryz.prog 3) wr.heap.size 5 _ rfl hm4 (by unfold maxLen; omega) _ _ _ rfl rfl (WideMaps.keyOf_string_mk Tryz.underlying9 (by decide)) _ [] (plainElem_int Tryz.underlying3 (by decide)) ?_
    intro y5 hm5 hq5
    have hb5 : bW wr y5 := (hb4).grown hq5 (hb4).size (fun k hk => by cases hk; exact z35)
    refine wpList_insert_own _ rfl _ _ _ 125 rfl 9 3 (string_keyed Tryz.underlying9) Tryz.underlying125 (plainElem (H := Unit) Tryz.prog 3) wr.heap.size 6 _ rfl hm5 (by unfold maxLen; omega) _ _ _ rfl rfl (WideMaps.keyOf_string_mk Tryz.underlying9 (by decide)) _ [] (plainElem_int Tryz.underlying3 (by decide)) ?_
    intro y6 hm6 hq6
    have hb6 : bW wr y6 := (hb5).grown hq6 (hb5).size (fun k hk => by cases hk; exact z35)
    refine wpList_insert_own _ rfl _ _ _ 125 rfl 9 3 (string_keyed Tryz.underlying9) Tryz.underlying125 (plainElem (H := Unit) Tryz.prog 3) wr.heap.size 7 _ rfl hm6 (by unfold maxLen; omega) _ _ _ rfl rfl (WideMaps.keyOf_string_mk Tryz.underlying9 (by decide)) _ [] (plainElem_int Tryz.underlying3 (by decide)) ?_
    intro y7 hm7 hq7
    have hb7 : bW wr y7 := (hb6).grown hq7 (hb6).size (fun k hk => by cases hk; exact z35)
    refine wpList_insert_own _ rfl _ _ _ 125 rfl 9 3 (string_keyed Tryz.underlying9) Tryz.underlying125 (plainElem (H := Unit) Tryz.prog 3) wr.heap.size 8 _ rfl hm7 (by unfold maxLen; omega) _ _ _ rfl rfl (WideMaps.keyOf_string_mk Tryz.underlying9 (by decide)) _ [] (plainElem_int Tryz.underlying3 (by decide)) ?_
    intro y8 hm8 hq8
    have hb8 : bW wr y8 := (hb7).grown hq8 (hb7).size (fun k hk => by cases hk; exact z35)
    refine wpList_insert_own _ rfl _ _ _ 125 rfl 9 3 (string_keyed Tryz.underlying9) Tryz.underlying125 (plainElem (H := Unit) Tryz.prog 3) wr.heap.size 9 _ rfl hm8 (by unfold maxLen; omega) _ _ _ rfl rfl (WideMaps.keyOf_string_mk Tryz.underlying9 (by decide)) _ [] (plainElem_int Tryz.underlying3 (by decide)) ?_
    intro y9 hm9 hq9
    have hb9 : bW wr y9 := (hb8).grown hq9 (hb8).size (fun k hk => by cases hk; exact z35)
    refine wpList_insert_own _ rfl _ _ _ 125 rfl 9 3 (string_keyed Tryz.underlying9) Tryz.underlying125 (plainElem (H := Unit) Tryz.prog 3) wr.heap.size 10 _ rfl hm9 (by unfold maxLen; omega) _ _ _ rfl rfl (WideMaps.keyOf_string_mk Tryz.underlying9 (by decide)) _ [] (plainElem_int Tryz.underlying3 (by decide)) ?_
    intro y10 hm10 hq10
    have hb10 : bW wr y10 := (hb9).grown hq10 (hb9).size (fun k hk => by cases hk; exact z35)
    refine wpList_insert_own _ rfl _ _ _ 125 rfl 9 3 (string_keyed Tryz.underlying9) Tryz.underlying125 (plainElem (H := Unit) Tryz.prog 3) wr.heap.size 11 _ rfl hm10 (by unfold maxLen; omega) _ _ _ rfl rfl (WideMaps.keyOf_string_mk Tryz.underlying9 (by decide)) _ [] (plainElem_int Tryz.underlying3 (by decide)) ?_
    intro y11 hm11 hq11
    have hb11 : bW wr y11 := (hb10).grown hq11 (hb10).size (fun k hk => by cases hk; exact z35)
    refine wpList_insert_own _ rfl _ _ _ 125 rfl 9 3 (string_keyed Tryz.underlying9) Tryz.underlying125 (plainElem (H := Unit) Tryz.prog 3) wr.heap.size 12 _ rfl hm11 (by unfold maxLen; omega) _ _ _ rfl rfl (WideMaps.keyOf_string_mk Tryz.underlying9 (by decide)) _ [] (plainElem_int Tryz.underlying3 (by decide)) ?_
    intro y12 hm12 hq12
    have hb12 : bW wr y12 := (hb11).grown hq12 (hb11).size (fun k hk => by cases hk; exact z35)
    refine wpList_insert_own _ rfl _ _ _ 125 rfl 9 3 (string_keyed Tryz.underlying9) Tryz.underlying125 (plainElem (H := Unit) Tryz.prog 3) wr.heap.size 13 _ rfl hm12 (by unfold maxLen; omega) _ _ _ rfl rfl (WideMaps.keyOf_string_mk Tryz.underlying9 (by decide)) _ [] (plainElem_int Tryz.underlying3 (by decide)) ?_
    intro y13 hm13 hq13
    have hb13 : bW wr y13 := (hb12).grown hq13 (hb12).size (fun k hk => by cases hk; exact z35)
    go_wp2_with fail
    go_meet
    case rel => exact ⟨_, rfl, hm13, hb13⟩
   case rest =>
   obtain ⟨M, rfl, hmap, hbm⟩ := hcut
   obtain ⟨w5, hw5⟩ : ∃ v, wc = v := ⟨_, rfl⟩
   rw [hw5] at hmap hbm
   try rw [hw5]
   clear hw5 wc hmm
   have hB := hB.trans (hbm.mono hB.size)
   have HON := lh (HON.out.below hbm)
   have HMAP := lh hmap
   clear hbm hmap HV
   have d0 : cE w5 b1 o1 (.string (ws 0)) := (hB.cell (p := ⟨b1, o1, none⟩) hb1).trans (HC.out 0 (by omega))
   have HB := lh hB
   clear hB
   have hk0 : (0 : Int) < ((j + 1 : Nat) : Int) := by omega
   go_upto_region 11 with fail
   go_cut [13, 14] from 22 (fun sa sb wx => ∃ (cnt : Int) (kn : Bool), sa = .int .i64 cnt ∧ sb = .bool kn ∧ (kn && decide (cnt = (j : Int))) = decide (cmdN (ws 0) j ≠ 0) ∧ wx = w5)
   case first =>
    go_wp2_with (at_lookup; refine wpList_lookup_own_ok_int _ rfl _ _ 125 rfl 9 3 .i64 (string_keyed Tryz.underlying9) Tryz.underlying125 Tryz.underlying3 (by exact z12) M 14 mapD rfl HMAP.out _ _ rfl (WideMaps.keyOf_string_mk Tryz.underlying9 (by have := hsz 0; unfold maxLen; omega)) ?_)
    intro cnt hat _
    have hlk := lh (look_map (ws 0) j hat)
    go_wp2_with fail
    go_meet
    case rel => exact ⟨_, _, rfl, rfl, hlk.out, rfl⟩
   case rest =>
   obtain ⟨cnt, kn, rfl, rfl, hkn, hwc⟩ := hcut
   rw [hwc]
   clear hwc wc HMAP
   by_cases hc0 : cmdN (ws 0) j = 0
   ·have HNO := lh (by rw [hall, Bool.true_and]; simp [exOk, hc0] : (allTo (okN ws) j && exOk (lf L) n I H S P (cmdN (ws 0) j) ((numL ws j).getD 0 0) ((numL ws j).getD 1 0) ((numL ws j).getD 2 0)) = false)
    have hB := HB.out
    clear HB
    have hd0 : decide (cmdN (ws 0) j ≠ 0) = false := decide_eq_false (fun h => h hc0)
    rw [hd0] at hkn
    clear hd0
    cases kn with
    | false =>
     as_aux_lemma =>
      clear hkn d0
      revert hB
      refine z280 ?_
      intro h4 e0 e1 e2 e3 e4 HBW HOW
      go_upto_region 13 with fail
      go_wp2_with (refine z281 ?_; refine z282 ?_)
      revert h4
      refine z283 ?_
      intro wq HQR HQ HOQ
      go_wp2_with ((refine z66 ?_); refine z284 ?_; exact ans_no (HNO.out) hnc HOQ.out HQ.out)
    | true =>
     as_aux_lemma =>
      have hne : (cnt == (j : Int)) = false := by simpa using hkn
      clear hkn d0
      revert hB
      refine z280 ?_
      intro h4 e0 e1 e2 e3 e4 HBW HOW
      go_upto_region 13 with fail
      go_wp2_with (refine z281 ?_; refine z282 ?_)
      revert h4
      refine z283 ?_
      intro wq HQR HQ HOQ
      go_wp2_with ((refine z66 ?_); refine z284 ?_; exact ans_no (HNO.out) hnc HOQ.out HQ.out)
   ·have hd0 : decide (cmdN (ws 0) j ≠ 0) = true := decide_eq_true hc0
    rw [hd0, Bool.and_eq_true, decide_eq_true_eq] at hkn
    clear hd0
    obtain ⟨rfl, rfl⟩ := hkn
    have HC00 := lh hc0
    clear hc0
    obtain ⟨x0, hx0⟩ : ∃ x, (numL ws j).getD 0 0 = x := ⟨_, rfl⟩
    obtain ⟨x1, hx1⟩ : ∃ x, (numL ws j).getD 1 0 = x := ⟨_, rfl⟩
    obtain ⟨x2, hx2⟩ : ∃ x, (numL ws j).getD 2 0 = x := ⟨_, rfl⟩
    obtain ⟨cc, hcc⟩ : ∃ x, cmdN (ws 0) j = x := ⟨_, rfl⟩
    have HC0 := lh (hcc ▸ HC00.out : cc ≠ 0)
    have HX0 := lh hx0
    have HX1 := lh hx1
    have HX2 := lh hx2
    have HCC := lh hcc
    clear hx0 hx1 hx2 hcc
    have h2 := rowC H2.out HB.out
    obtain ⟨e0, e1, e2, e3, e4⟩ := cells5 h2
    clear h2
    go_upto_region 15 with fail
    refine z161 ?_
    intro w6 hw6
    have hb6 := ba hw6
    have h15 := an hw6
    clear hw6
    have l15 := (gL h15)
    have hs5 := HB.out.size
    obtain ⟨g15, hg15⟩ : ∃ q, w5.heap.size = q := ⟨_, rfl⟩
    rw [hg15] at h15 l15
    try rw [hg15]
    have hwr5 := HON.out.hi_le
    have HN15 := lh (show wr.heap.size ≤ g15 by omega)
    have HG15 := lh (show w1.heap.size ≤ g15 by omega)
    have HBN := lh (show b1 ≠ g15 by omega)
    clear hwr5
    clear hg15 hs5
    have HB6 := lh (HB.out.trans (hb6.mono HB.out.size))
    have HON6 := lh (HON.out.below hb6)
    have H15 := lh h15
    have d0 := kp hb6 d0
    clear e0 e1 e2 e3 e4 h15 hb6 HB HON
    obtain ⟨k0, k1, k2, k3, st, HST, HSF, HK⟩ : ∃ (k0 k1 k2 k3 : Int) (st : Bool), Hid (isStep cc = st) ∧ Hid (Calls Tryz.prog 94 #[.string (ws 0), .slice An j dn] w6 fun e w' => e = .returned (.tuple #[.agg (iV k0 k1 k2 k3), .bool st]) ∧ bW w6 w') ∧ Hid (st = true → k0 = cc ∧ k1 = exId cc x0 ∧ k2 = exTo cc x1 ∧ k3 = exZ cc x0 x1 x2) := by
     have h := stepFor_cmd (ws 0) An j dn _ _ _ w6 HON6.out.sl hjd HC00.out
     simp only [HX0.out, HX1.out, HX2.out, HCC.out] at h
     exact ⟨_, _, _, _, _, rfl, h, fun h => by rw [if_pos h, if_pos h, if_pos h, if_pos h]; exact ⟨rfl, rfl, rfl, rfl⟩⟩
    go_wp2_with fail
    refine HSF.out.mono ?_
    rintro e w7 ⟨rfl, hb7⟩
    clear HSF
    have HB7 := lh (HB6.out.trans (hb7.mono HB6.out.size))
    have HON7 := lh (HON6.out.below hb7)
    have h15 := rowC H15.out hb7
    have d0 := kp hb7 d0
    clear hb7 HB6 HON6 H15
    go_upto_region 16 with fail
    refine z161 ?_
    intro w8 hw8
    have hb8 := ba hw8
    have h16 := an hw8
    clear hw8
    have hs15 := (gL h15)
    obtain ⟨g16, hg16⟩ : ∃ q, w7.heap.size = q := ⟨_, rfl⟩
    rw [hg16] at h16 hs15
    try rw [hg16]
    have H16L := lh (show g15 < g16 from hs15)
    clear hg16 hs15
    have HB8 := lh (HB7.out.trans (hb8.mono HB7.out.size))
    have HON8 := lh (HON7.out.below hb8)
    have H15 := lh (rowC h15 hb8)
    have H16 := lh h16
    have D0 := lh (kp hb8 d0)
    clear h15 h16 d0 hb8 HB7 HON7 l15
    cases st with
    | false =>
     clear HK H16
     have hB := HB8.out
     have h15 := H15.out
     have hOW := ownsRow_below HO.out HB8.out
     have hsl := own_sl hOW
     have hb1W : b1 < w8.heap.size := Nat.lt_of_lt_of_le hb1 hB.size
     have HF : Hid (∀ w', bW w8 w' → _) := fun w' hq => And.intro (cells5 (rowC h15 hq)) ((hq.cell (p := ⟨b1, o1, none⟩) hb1W).trans D0.out)
     have HSL := lh hsl
     have HOW := lh hOW
     have HTW := lh (HT.out.below hB)
     have HBW0 := lh hB
     clear hB h15 hOW hsl hb1W
     obtain ⟨nb1, nb2, nb3, nb4⟩ := wk_i64 hg
     have hn1 := con_len hg
     obtain ⟨rk, hrk⟩ : ∃ b, rpOk (lf L) n cc x0 x1 = b := ⟨_, rfl⟩
     have HRC : Hid (∀ w', bW w8 w' → Calls Tryz.prog 96 #[.agg (wB A n c I H S P), .string (ws 0), .slice An j dn] w' fun e w'' => e = .returned (.tuple #[.string (rpS (lf L) n I H S P cc x0 x1), .bool rk]) ∧ bW w' w'') := fun w' hq => by
      rw [← hrk]
      have h := replyOf_cmd (ws 0) A n c _ _ (lf L) I H S P An j dn _ _ _ w' (HSL.out.below hq) (by omega) hnc (HON8.out.below hq).sl hjd (HTW.out.below hq) hg HC00.out nb1 nb2 nb3 nb4
      simp only [HX0.out, HX1.out, HX2.out, HCC.out] at h
      exact h
     have HRK := lh hrk
     clear hrk
     generalize hrp : rpS (lf L) n I H S P cc x0 x1 = rr at HRC
     have HRP := lh hrp
     clear hrp
     go_upto_region 21 with fail
     refine wp_region_class (C := fun w' => bW (w8) w') (by exact z12) (by exact z12) ((Below.refl _ _).drew) ?_
     refine tr 82 HF ?_
     refine z260 ?_
     refine wpQuiet_meet (d := 87) (v := ?_) ?_ ?_ (by rfl) ?_ ?_ ?_
     rotate_left
     rotate_left
     rotate_left
     ·exact z13
     ·intro wS hS
      refine (HRC.out wS hS).mono ?_
      exact z14
     refine z15 ?_
     refine z286 ?_
     intro wq jd hB h15 hOq
     clear HF HRC
     cases rk with
     | false =>
      as_aux_lemma =>
       have HNO : Hid ((allTo (okN ws) j && exOk (lf L) n I H S P cc x0 x1 x2) = false) := ex_no hall HC0.out HST.out HRK.out
       clear h15 hOq HSL HOW HBW0
       revert hB
       refine z280 ?_
       intro h4 e0 e1 e2 e3 e4 HBW HOW
       go_upto_region 23 with fail
       go_wp2_with (refine z281 ?_; refine z282 ?_)
       revert h4
       refine z283 ?_
       intro wq HQR HQ HOQ
       go_wp2_with ((refine z66 ?_); refine z284 ?_; exact ans_no (by rw [HCC.out, HX0.out, HX1.out, HX2.out]; exact HNO.out) hnc HOQ.out HQ.out)
     | true =>
      as_aux_lemma =>
       have h4 := rowC H4.out hB
       obtain ⟨e0, e1, e2, e3, e4⟩ := cells5 h15
       have HBQ := lh hB
       have HOQ0 := lh hOq
       clear hB h15 hOq
       go_upto_region 24 with fail
       go_wp2_with (refine z281 ?_; refine z282 ?_)
       revert h4
       refine z287 ?_
       intro wz HQR HQ HOQ
       go_wp2_with ((refine z66 ?_); refine z284 ?_; rw [HCC.out, HX0.out, HX1.out, HX2.out]; exact ans_ask hall HC0.out HST.out HRK.out HRP.out hnc HOQ.out HQ.out hLl)
    | true =>
     obtain ⟨q0, q1, q2, q3⟩ := HK.out rfl
     have q0 := q0.symm
     have q1 := q1.symm
     have q2 := q2.symm
     have q3 := q3.symm
     subst q0 q1 q2 q3
     have h2 := rowC H2.out HB8.out
     obtain ⟨e0, e1, e2, e3, e4⟩ := cells5 h2
     obtain ⟨s0, s1, s2, s3⟩ := cells4 H16.out
     clear h2 HK
     have HSL := lh (own_sl (ownsRow_below HO.out HB8.out))
     have HNK := lh (fun e : A = none => own_nilK HO.out e)
     go_wp2_with fail
     refine (StepWorks_any A n c _ _ (lf L) I H S P _ _ _ _ w8 HSL.out (by omega) hnc HNK.out).mono ?_
     rintro e w9 hp
     obtain ⟨so, hso⟩ : ∃ b, stOk (lf L) n I H S P cc (exId cc x0) (exTo cc x1) (exZ cc x0 x1 x2) = b := ⟨_, rfl⟩
     rw [hso] at hp
     have HSO := lh hso
     clear hso
     obtain ⟨L1, n1, I1, H1, S1, P1, A1, c1, rfl, hnc1, hown1, hb9, hv1⟩ := step_open hp
     clear hp e0 e1 e2 e3 e4 s0 s1 s2 s3 HSL HNK H16
     have HB9 := lh (HB8.out.trans (hb9.mono HB8.out.size))
     have HON9 := lh (HON8.out.below hb9)
     have h15 := rowC H15.out hb9
     have d0 := (hb9.cell (p := ⟨b1, o1, none⟩) (Nat.lt_of_lt_of_le hb1 HB8.out.size)).trans D0.out
     have hO1 := ownsRow_monoP hown1 (show base ≤ w8.heap.size by have := HX.out.size; have := HB8.out.size; omega)
     clear hb9 HB8 HON8 H15 D0 hown1
     go_upto_region 18 with fail
     refine z161 ?_
     intro wa hwa
     have hba := ba hwa
     have h18 := an hwa
     clear hwa
     have hs15 := (gL h15)
     obtain ⟨g18, hg18⟩ : ∃ q, w9.heap.size = q := ⟨_, rfl⟩
     rw [hg18] at h18 hs15
     try rw [hg18]
     have hn18 : g15 ≠ g18 := by omega
     clear hg18 hs15
     have HBA := lh (HB9.out.trans (hba.mono HB9.out.size))
     have HONA := lh (HON9.out.below hba)
     have h15 := rowC h15 hba
     have d0 := kp hba d0
     have hO1 := ownsRow_below hO1 hba
     clear hba HB9 HON9
     cases so with
     | false =>
      as_aux_lemma =>
       have HNO : Hid ((allTo (okN ws) j && exOk (lf L) n I H S P cc x0 x1 x2) = false) := ex_stop hall HC0.out HST.out HSO.out
       have hB := HBA.out
       clear h18 h15 d0 hO1
       revert hB
       refine z280 ?_
       intro h4 e0 e1 e2 e3 e4 HBW HOW
       go_upto_region 19 with fail
       go_wp2_with (refine z281 ?_; refine z282 ?_)
       revert h4
       refine z283 ?_
       intro wq HQR HQ HOQ
       go_wp2_with ((refine z66 ?_); refine z284 ?_; exact ans_no (by rw [HCC.out, HX0.out, HX1.out, HX2.out]; exact HNO.out) hnc HOQ.out HQ.out)
     | true =>
      have HTH0 := st_there HST.out HSO.out
      have hg1 := st_good HSO.out
      obtain ⟨e1, e2, e3, e4, e5, e6⟩ := hv1 rfl
      rw [← e1, ← e2] at HTH0
      rw [← e1, ← e2, ← e3, ← e4, ← e5, ← e6] at hg1
      have HTH := lh HTH0
      have HG1 := lh hg1
      have HV1 := lh (⟨e1, e2, e3, e4, e5, e6⟩ : _ ∧ _ ∧ _ ∧ _ ∧ _ ∧ _)
      clear hv1 e1 e2 e3 e4 e5 e6 HTH0 hg1
      obtain ⟨y0, y1, y2, y3, y4⟩ := cells5 h18
      have H15o := lh h15
      have HO18 := lh hO1
      have D0 := lh d0
      clear h15 h18 hO1 d0
      go_upto_region 20 with fail
      go_wp2_with (refine z281 ?_; refine wL0 g15 (wB A1 n1 c1 I1 H1 S1 P1) 32 infoWorks H15o.out ?_)
      intro wb hh hgw
      have hBB := HBA.out.grown hgw HBA.out.size (fun k hk => by cases hk; exact HG15.out)
      have HONB := lh (own_far HONA.out hgw (Or.inr HN15.out))
      have H15 := lh hh
      have HO1 := lh (own_other HO18.out H15o.out (by decide) hgw)
      have D0 := lh (cellGr D0.out hgw HBN.out)
      have HBB := lh hBB
      clear hgw hh hBB HBA HONA HO18
      have hB := HBB.out
      have h15 := H15.out
      have hOW := HO1.out
      have hsl := own_sl hOW
      have hb1W : b1 < wb.heap.size := Nat.lt_of_lt_of_le hb1 hB.size
      have HF : Hid (∀ w', bW wb w' → _) := fun w' hq => And.intro (cells5 (rowC h15 hq)) ((hq.cell (p := ⟨b1, o1, none⟩) hb1W).trans D0.out)
      have HSL := lh hsl
      have HOW := lh hOW
      have HTW := lh (HT.out.below hB)
      have HBW0 := lh hB
      clear hB h15 hOW hsl hb1W
      obtain ⟨nb1, nb2, nb3, nb4⟩ := wk_i64 HG1.out
      have hn1 := con_len HG1.out
      obtain ⟨rk, hrk⟩ : ∃ b, rpOk (lf L1) n1 cc x0 x1 = b := ⟨_, rfl⟩
      have HRC : Hid (∀ w', bW wb w' → Calls Tryz.prog 96 #[.agg (wB A1 n1 c1 I1 H1 S1 P1), .string (ws 0), .slice An j dn] w' fun e w'' => e = .returned (.tuple #[.string (rpS (lf L1) n1 I1 H1 S1 P1 cc x0 x1), .bool rk]) ∧ bW w' w'') := fun w' hq => by
       rw [← hrk]
       have h := replyOf_cmd (ws 0) A1 n1 c1 _ _ (lf L1) I1 H1 S1 P1 An j dn _ _ _ w' (HSL.out.below hq) (by omega) hnc1 (HONB.out.below hq).sl hjd (HTW.out.below hq) HG1.out HC00.out nb1 nb2 nb3 nb4
       simp only [HX0.out, HX1.out, HX2.out, HCC.out] at h
       exact h
      have HRK := lh hrk
      clear hrk
      generalize hrp : rpS (lf L1) n1 I1 H1 S1 P1 cc x0 x1 = rr at HRC
      have HRP := lh hrp
      clear hrp
      go_upto_region 21 with fail
      refine wp_region_class (C := fun w' => bW (wb) w') (by exact z12) (by exact z12) ((Below.refl _ _).drew) ?_
      refine tr 82 HF ?_
      refine z260 ?_
      refine wpQuiet_meet (d := 87) (v := ?_) ?_ ?_ (by rfl) ?_ ?_ ?_
      rotate_left
      rotate_left
      rotate_left
      ·exact z13
      ·intro wS hS
       refine (HRC.out wS hS).mono ?_
       exact z14
      refine z15 ?_
      refine z286 ?_
      intro wq jd hB h15 hOq
      clear HF HRC
      have hrt : rk = true := by rw [← HRK.out]; exact HTH.out
      subst hrt
      have h4 := rowC H4.out hB
      obtain ⟨e0, e1, e2, e3, e4⟩ := cells5 h15
      have HBQ := lh hB
      have HOQ0 := lh hOq
      clear hB h15 hOq
      go_upto_region 24 with fail
      go_wp2_with (refine z281 ?_; refine wL0 g4 (wB A1 n1 c1 I1 H1 S1 P1) 32 infoWorks h4 ?_)
      revert h4
      refine z287 ?_
      intro wz HQR HQ HOQ
      go_wp2_with ((refine z66 ?_); refine z284 ?_; rw [HCC.out, HX0.out, HX1.out, HX2.out]; exact ans_step hall HC0.out HST.out HSO.out HV1.out HRK.out HRP.out hnc1 HOQ.out HQ.out)
end Go.Proofs.YtpndjhelpoenpaaGreatDoor
namespace Go.Proofs.YtpndjhelpoenpaaGreatDoor
open Go.RowKit
noncomputable section
def wsV (s : ByteArray) (j : Nat) : ByteArray := (wordsV 32 s).getD j ⟨#[]⟩
def mV (s : ByteArray) : Nat := (wordsV 32 s).length - 1
def cV (s : ByteArray) : Int := cmdN (wsV s 0) (mV s)
def xV (s : ByteArray) (i : Nat) : Int := (numL (wsV s) (mV s)).getD i 0
def xcGo (f : Nat → Int) (n : Nat) (I H S P : Int) (D Q : ByteArray) (z : Int) (s : ByteArray) : Bool := (goodWorks f n I H S P && logOk D Q z) && (goodRec s ⟨#[]⟩ && decide (z ≠ 60))
def xcA (f : Nat → Int) (n : Nat) (I H S P : Int) (s : ByteArray) : Bool := allTo (okN (wsV s)) (mV s) && exOk (lf (cellsL f n)) n I H S P (cV s) (xV s 0) (xV s 1) (xV s 2)
def xcUp (f : Nat → Int) (n : Nat) (I H S P : Int) (D Q : ByteArray) (z : Int) (s : ByteArray) : Bool := xcGo f n I H S P D Q z s && xcA f n I H S P s
def xcL (f : Nat → Int) (n : Nat) (I H S P : Int) (D Q : ByteArray) (z : Int) (s : ByteArray) : List Int := if xcUp f n I H S P D Q z s then exL (lf (cellsL f n)) n I H S P (cV s) (xV s 0) (xV s 1) (xV s 2) else cellsL f n
def xcN (f : Nat → Int) (n : Nat) (I H S P : Int) (D Q : ByteArray) (z : Int) (s : ByteArray) : Nat := if xcUp f n I H S P D Q z s then exN (lf (cellsL f n)) n I H S P (cV s) (xV s 0) (xV s 1) (xV s 2) else n
def xcI (f : Nat → Int) (n : Nat) (I H S P : Int) (D Q : ByteArray) (z : Int) (s : ByteArray) : Int := if xcUp f n I H S P D Q z s then exI (lf (cellsL f n)) n I H S P (cV s) (xV s 0) (xV s 1) (xV s 2) else I
def xcH (f : Nat → Int) (n : Nat) (I H S P : Int) (D Q : ByteArray) (z : Int) (s : ByteArray) : Int := if xcUp f n I H S P D Q z s then exH (lf (cellsL f n)) n I H S P (cV s) (xV s 0) (xV s 1) (xV s 2) else H
def xcS (f : Nat → Int) (n : Nat) (I H S P : Int) (D Q : ByteArray) (z : Int) (s : ByteArray) : Int := if xcUp f n I H S P D Q z s then exS (lf (cellsL f n)) n I H S P (cV s) (xV s 0) (xV s 1) (xV s 2) else S
def xcP (f : Nat → Int) (n : Nat) (I H S P : Int) (D Q : ByteArray) (z : Int) (s : ByteArray) : Int := if xcUp f n I H S P D Q z s then exP (lf (cellsL f n)) n I H S P (cV s) (xV s 0) (xV s 1) (xV s 2) else P
def longV (r : ByteArray) : ByteArray := if 200 < r.size then ⟨#[108, 111, 110, 103]⟩ else r
def xcT (f : Nat → Int) (n : Nat) (I H S P : Int) (s : ByteArray) : ByteArray := longV (if xcA f n I H S P s then exR (lf (cellsL f n)) n I H S P (cV s) (xV s 0) (xV s 1) (xV s 2) else ⟨#[63]⟩)
def xcR (f : Nat → Int) (n : Nat) (I H S P : Int) (D Q : ByteArray) (z : Int) (s : ByteArray) : ByteArray :=
 if goodWorks f n I H S P && logOk D Q z then (if goodRec s ⟨#[]⟩ then (if z = 60 then ⟨#[102, 117, 108, 108]⟩ else xcT f n I H S P s) else ⟨#[98, 97, 100]⟩) else ⟨#[110, 111]⟩
def xcQ (f : Nat → Int) (n : Nat) (I H S P : Int) (D Q : ByteArray) (z : Int) (s : ByteArray) : ByteArray := if xcGo f n I H S P D Q z s then apP D Q z s (xcT f n I H S P s) else Q
def xcZ (f : Nat → Int) (n : Nat) (I H S P : Int) (D Q : ByteArray) (z : Int) (s : ByteArray) : Int := if xcGo f n I H S P D Q z s then apZ D Q z s (xcT f n I H S P s) else z
end
theorem longV_size (r : ByteArray) : (longV r).size ≤ 200 := by
 unfold longV
 split
 ·decide
 ·omega
theorem ws_len (s : ByteArray) : (wordsV 32 s).length = mV s + 1 := by
 have := wordsV_pos 32 s
 unfold mV
 omega
theorem wsV_size (s : ByteArray) (j : Nat) : (wsV s j).size ≤ s.size := by
 unfold wsV
 by_cases h : j < (wordsV 32 s).length
 ·rw [List.getD_eq_getElem?_getD, List.getElem?_eq_getElem h]
  exact wordsV_size (List.getElem_mem h)
 exact z288
theorem allTo_congr' {p q : Nat → Bool} : ∀ {n : Nat}, (∀ k, k < n → p k = q k) → allTo p n = allTo q n
 | 0, _ => rfl
 | n + 1, h => by
  unfold allTo
  rw [allTo_congr' (n := n) (fun k hk => h k (by omega)), h n (by omega)]
theorem goodWorks_congr' {f g : Nat → Int} {n : Nat} {I H S P : Int} (h : ∀ j, j < n * 4 → f j = g j) : goodWorks f n I H S P = goodWorks g n I H S P := by
 have h1 : pansOk f n = pansOk g n := by
  unfold pansOk
  congr 1
  refine allTo_congr' fun k hk => ?_
  simp only [panStep, okPanAt]
  rw [h (k * 4) (by omega), h (k * 4 + 1) (by omega), h (k * 4 + 2) (by omega), h (k * 4 + 3) (by omega), h ((k - 1) * 4) (by omega)]
 have h2 : ∀ m, m ≤ n → sumW (saltAt f) m = sumW (saltAt g) m := by
  intro m
  induction m with
  | zero => intro _; rfl
  | succ m ih =>
   intro hm
   simp only [sumW, saltAt]
   rw [ih (by omega)]
   have := h (m * 4 + 3) (by omega)
   simp only [this]
 unfold goodWorks totalV
 rw [h1, h2 n nL]
theorem good_cells {f : Nat → Int} {n : Nat} {I H S P : Int} : goodWorks (lf (cellsL f n)) n I H S P = goodWorks f n I H S P :=
 goodWorks_congr' (fun j hj => lf_cells f n hj)
end Go.Proofs.YtpndjhelpoenpaaGreatDoor
