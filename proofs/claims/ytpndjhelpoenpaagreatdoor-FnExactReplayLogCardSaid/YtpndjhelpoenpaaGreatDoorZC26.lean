/-
  Texts of this claim, merged.
-/
import Derived.Test.YtpndjhelpoenpaaGreatDoorZC25
import Derived.Deep.CutBlock
set_option linter.unusedVariables false
set_option linter.unusedSimpArgs false
set_option maxRecDepth 100000
set_option maxHeartbeats 8000000
namespace Go.Proofs.YtpndjhelpoenpaaGreatDoor
open Go.RowKit
attribute [local go_sem ↓] Go.wp_at_zero Go.wp_at_succ
def rfPost (base : Nat) (L : List Int) (n : Nat) (I H S P : Int) (D Q : ByteArray) (z : Int) (c x0 x1 x2 : Int) (w : World) (e : Ending) (w' : World) : Prop :=
 ∃ A1 c1, e = .returned (.tuple #[.agg #[.slice A1 (exN (lf L) n I H S P c x0 x1 x2) c1, .int .i64 (exI (lf L) n I H S P c x0 x1 x2), .int .i64 (exH (lf L) n I H S P c x0 x1 x2), .int .i64 (exS (lf L) n I H S P c x0 x1 x2), .int .i64 (exP (lf L) n I H S P c x0 x1 x2), .string D, .string Q, .int .i64 z], .string (exR (lf L) n I H S P c x0 x1 x2)]) ∧ (exN (lf L) n I H S P c x0 x1 x2) ≤ c1 ∧ w'.ownsRow base 97 4 (.slice A1 (exN (lf L) n I H S P c x0 x1 x2) c1) (exN (lf L) n I H S P c x0 x1 x2) ((exL (lf L) n I H S P c x0 x1 x2).map (Value.int .i64)) ∧ Below w.heap.size w w'
section
variable {base n cp n1 c1 : Nat} {A A1 : Option Addr} {L L1 : List Int} {I H S P I1 H1 S1 P1 z c x0 x1 x2 : Int} {D Q r : ByteArray} {w w' : World}
theorem rf_no (hgo : exGo (lf L) n I H S P c x0 x1 x2 = false) (hr : exR (lf L) n I H S P c x0 x1 x2 = r) (hLL : cellsL (lf L) n = L) (hnc : n ≤ cp)
  (hO : w'.ownsRow base 97 4 (.slice A n cp) n (L.map (Value.int .i64))) (hB : Below w.heap.size w w') :
  rfPost base L n I H S P D Q z c x0 x1 x2 w (.returned (.tuple #[.agg #[.slice A n cp, .int .i64 I, .int .i64 H, .int .i64 S, .int .i64 P, .string D, .string Q, .int .i64 z], .string r])) w' := by
 have e1 : (exL (lf L) n I H S P c x0 x1 x2) = L := by rw [exL, hgo]; exact hLL
 have e2 : (exN (lf L) n I H S P c x0 x1 x2) = n := by rw [exN, hgo]; rfl
 have e3 : (exI (lf L) n I H S P c x0 x1 x2) = I := by rw [exI, hgo]; rfl
 have e4 : (exH (lf L) n I H S P c x0 x1 x2) = H := by rw [exH, hgo]; rfl
 have e5 : (exS (lf L) n I H S P c x0 x1 x2) = S := by rw [exS, hgo]; rfl
 have e6 : (exP (lf L) n I H S P c x0 x1 x2) = P := by rw [exP, hgo]; rfl
 unfold rfPost
 rw [e1, e2, e3, e4, e5, e6, hr]
 exact ⟨A, cp, rfl, hnc, hO, hB⟩
theorem rf_yes (hgo : exGo (lf L) n I H S P c x0 x1 x2 = true)
  (hv : L1 = stL (lf L) n c (exId c x0) (exTo c x1) (exZ c x0 x1 x2) ∧ n1 = stN n c ∧ I1 = stI I c (exZ c x0 x1 x2) ∧ H1 = stH H c (exZ c x0 x1 x2) ∧ S1 = stS S c (exZ c x0 x1 x2) ∧ P1 = stP (lf L) n P c (exId c x0)) (hr : exR (lf L) n I H S P c x0 x1 x2 = r) (hnc : n1 ≤ c1)
  (hO : w'.ownsRow base 97 4 (.slice A1 n1 c1) n1 (L1.map (Value.int .i64))) (hB : Below w.heap.size w w') :
  rfPost base L n I H S P D Q z c x0 x1 x2 w (.returned (.tuple #[.agg #[.slice A1 n1 c1, .int .i64 I1, .int .i64 H1, .int .i64 S1, .int .i64 P1, .string D, .string Q, .int .i64 z], .string r])) w' := by
 obtain ⟨v1, v2, v3, v4, v5, v6⟩ := hv
 have e1 : (exL (lf L) n I H S P c x0 x1 x2) = L1 := by rw [exL, hgo, v1]; rfl
 have e2 : (exN (lf L) n I H S P c x0 x1 x2) = n1 := by rw [exN, hgo, v2]; rfl
 have e3 : (exI (lf L) n I H S P c x0 x1 x2) = I1 := by rw [exI, hgo, v3]; rfl
 have e4 : (exH (lf L) n I H S P c x0 x1 x2) = H1 := by rw [exH, hgo, v4]; rfl
 have e5 : (exS (lf L) n I H S P c x0 x1 x2) = S1 := by rw [exS, hgo, v5]; rfl
 have e6 : (exP (lf L) n I H S P c x0 x1 x2) = P1 := by rw [exP, hgo, v6]; rfl
 clear v1 v2 v3 v4 v5 v6
 unfold rfPost
 rw [e1, e2, e3, e4, e5, e6, hr]
 exact ⟨A1, c1, rfl, hnc, hO, hB⟩
theorem go_no (h : exOk (lf L) n I H S P c x0 x1 x2 = false) : exGo (lf L) n I H S P c x0 x1 x2 = false := by
 unfold exGo
 unfold exOk at h
 by_cases h0 : c = 0
 ·subst h0; rfl
 ·rw [if_neg h0] at h
  cases hs : isStep c with
  | false => rfl
  | true => rw [hs] at h; exact h
theorem exR_none (h : exOk (lf L) n I H S P c x0 x1 x2 = false) : exR (lf L) n I H S P c x0 x1 x2 = ⟨#[63]⟩ := by unfold exR; rw [h]; rfl
theorem exR_step (hc : isStep c = true) (hs : stOk (lf L) n I H S P c (exId c x0) (exTo c x1) (exZ c x0 x1 x2) = true)
  (hv : L1 = stL (lf L) n c (exId c x0) (exTo c x1) (exZ c x0 x1 x2) ∧ n1 = stN n c ∧ I1 = stI I c (exZ c x0 x1 x2) ∧ H1 = stH H c (exZ c x0 x1 x2) ∧ S1 = stS S c (exZ c x0 x1 x2) ∧ P1 = stP (lf L) n P c (exId c x0)) :
  exR (lf L) n I H S P c x0 x1 x2 = rpR (lf L1) n1 I1 H1 S1 P1 c x0 x1 := by
 obtain ⟨v1, v2, v3, v4, v5, v6⟩ := hv
 have hgo : exGo (lf L) n I H S P c x0 x1 x2 = true := by unfold exGo; rw [hc, hs]; rfl
 have hok : exOk (lf L) n I H S P c x0 x1 x2 = true := by
  unfold exOk
  by_cases h0 : c = 0
  ·subst h0; cases hc
  ·rw [if_neg h0, if_pos hc]; exact hs
 have e1 : (exL (lf L) n I H S P c x0 x1 x2) = L1 := by rw [exL, hgo, v1]; rfl
 have e2 : (exN (lf L) n I H S P c x0 x1 x2) = n1 := by rw [exN, hgo, v2]; rfl
 have e3 : (exI (lf L) n I H S P c x0 x1 x2) = I1 := by rw [exI, hgo, v3]; rfl
 have e4 : (exH (lf L) n I H S P c x0 x1 x2) = H1 := by rw [exH, hgo, v4]; rfl
 have e5 : (exS (lf L) n I H S P c x0 x1 x2) = S1 := by rw [exS, hgo, v5]; rfl
 have e6 : (exP (lf L) n I H S P c x0 x1 x2) = P1 := by rw [exP, hgo, v6]; rfl
 unfold exR
 rw [hok, e1, e2, e3, e4, e5, e6]
 rfl
theorem exR_ask (h0 : c ≠ 0) (hc : isStep c = false) (hLL : cellsL (lf L) n = L) (hr : rpOk (lf L) n c x0 x1 = true) : exR (lf L) n I H S P c x0 x1 x2 = rpR (lf L) n I H S P c x0 x1 := by
 have hgo : exGo (lf L) n I H S P c x0 x1 x2 = false := by unfold exGo; rw [hc]; rfl
 have hok : exOk (lf L) n I H S P c x0 x1 x2 = true := by
  unfold exOk
  rw [if_neg h0, hc]
  exact hr
 have e1 : (exL (lf L) n I H S P c x0 x1 x2) = L := by rw [exL, hgo]; exact hLL
 have e2 : (exN (lf L) n I H S P c x0 x1 x2) = n := by rw [exN, hgo]; rfl
 have e3 : (exI (lf L) n I H S P c x0 x1 x2) = I := by rw [exI, hgo]; rfl
 have e4 : (exH (lf L) n I H S P c x0 x1 x2) = H := by rw [exH, hgo]; rfl
 have e5 : (exS (lf L) n I H S P c x0 x1 x2) = S := by rw [exS, hgo]; rfl
 have e6 : (exP (lf L) n I H S P c x0 x1 x2) = P := by rw [exP, hgo]; rfl
 unfold exR
 rw [hok, e1, e2, e3, e4, e5, e6]
 rfl
theorem ok_ask (h0 : c ≠ 0) (hc : isStep c = false) : exOk (lf L) n I H S P c x0 x1 x2 = rpOk (lf L) n c x0 x1 := by
 unfold exOk
 rw [if_neg h0, hc]
 rfl
end
section
variable {base n cp n1 c1 : Nat} {A A1 : Option Addr} {L L1 : List Int} {I H S P I1 H1 S1 P1 z c x0 x1 x2 id tt zz : Int} {D Q r : ByteArray} {w w' : World}
theorem mk_ok (hi : id = exId c x0 ∧ tt = exTo c x1 ∧ zz = exZ c x0 x1 x2) (hc : isStep c = true) : exOk (lf L) n I H S P c x0 x1 x2 = stOk (lf L) n I H S P c id tt zz ∧ exGo (lf L) n I H S P c x0 x1 x2 = stOk (lf L) n I H S P c id tt zz := by
 obtain ⟨rfl, rfl, rfl⟩ := hi
 constructor
 ·unfold exOk
  by_cases h0 : c = 0
  ·subst h0; cases hc
  ·rw [if_neg h0, if_pos hc]
 ·unfold exGo
  rw [hc]
  rfl
theorem mk_no (hi : id = exId c x0 ∧ tt = exTo c x1 ∧ zz = exZ c x0 x1 x2) (hc : isStep c = true) (hso : stOk (lf L) n I H S P c id tt zz = false) (hLL : cellsL (lf L) n = L) (hnc : n ≤ cp)
  (hO : w'.ownsRow base 97 4 (.slice A n cp) n (L.map (Value.int .i64))) (hB : Below w.heap.size w w') :
  rfPost base L n I H S P D Q z c x0 x1 x2 w (.returned (.tuple #[.agg #[.slice A n cp, .int .i64 I, .int .i64 H, .int .i64 S, .int .i64 P, .string D, .string Q, .int .i64 z], .string ⟨#[63]⟩])) w' := by
 have h := mk_ok (L := L) (n := n) (I := I) (H := H) (S := S) (P := P) hi hc
 rw [hso] at h
 exact rf_no h.2 (exR_none h.1) hLL hnc hO hB
theorem mk_there (hi : id = exId c x0 ∧ tt = exTo c x1 ∧ zz = exZ c x0 x1 x2) (hc : isStep c = true) (hso : stOk (lf L) n I H S P c id tt zz = true) (h1 : L1 = stL (lf L) n c id tt zz) (h2 : n1 = stN n c) : rpOk (lf L1) n1 c x0 x1 = true := by
 obtain ⟨rfl, rfl, rfl⟩ := hi
 subst h1 h2
 exact st_there hc hso
theorem mk_yes (hi : id = exId c x0 ∧ tt = exTo c x1 ∧ zz = exZ c x0 x1 x2) (hc : isStep c = true) (hso : stOk (lf L) n I H S P c id tt zz = true)
  (hv : L1 = stL (lf L) n c id tt zz ∧ n1 = stN n c ∧ I1 = stI I c zz ∧ H1 = stH H c zz ∧ S1 = stS S c zz ∧ P1 = stP (lf L) n P c id) (hr : rpR (lf L1) n1 I1 H1 S1 P1 c x0 x1 = r) (hnc : n1 ≤ c1)
  (hO : w'.ownsRow base 97 4 (.slice A1 n1 c1) n1 (L1.map (Value.int .i64))) (hB : Below w.heap.size w w') :
  rfPost base L n I H S P D Q z c x0 x1 x2 w (.returned (.tuple #[.agg #[.slice A1 n1 c1, .int .i64 I1, .int .i64 H1, .int .i64 S1, .int .i64 P1, .string D, .string Q, .int .i64 z], .string r])) w' := by
 have h := mk_ok (L := L) (n := n) (I := I) (H := H) (S := S) (P := P) hi hc
 rw [hso] at h
 obtain ⟨rfl, rfl, rfl⟩ := hi
 exact rf_yes h.2 hv ((exR_step hc hso hv).trans hr) hnc hO hB
end
theorem own_formS {w : World} {base n c : Nat} {A' : Option Addr} {xs : List Value} (h : w.ownsRow base 97 4 (.slice A' n c) n xs) : ∀ ad, A' = some ad → ∃ b off, ad = ⟨b, off, none⟩ := by
 intro ad e
 subst e
 rcases h.2 with ⟨h1, h2⟩ | ⟨g, cap, cur, h1, _⟩
 ·simp at h1
 ·simp at h1; exact ⟨_, _, h1.1⟩
theorem l28Make_any (base : Nat) (A : Option Addr) (n cp : Nat) (L : List Int) (I H S P : Int) (D Q : ByteArray) (z : Int) (c x0 x1 x2 id tt zz : Int) (hi : id = exId c x0 ∧ tt = exTo c x1 ∧ zz = exZ c x0 x1 x2) (hc : isStep c = true) (w : World) (hO : w.ownsRow base 97 4 (.slice A n cp) n (L.map (Value.int .i64))) (hbase : base ≤ w.heap.size) (hnc : n ≤ cp) (hg : goodWorks (lf L) n I H S P = true) :
  Calls Tryz.prog 87 #[.agg #[.slice A n cp, .int .i64 I, .int .i64 H, .int .i64 S, .int .i64 P, .string D, .string Q, .int .i64 z], .agg #[.int .i64 c, .int .i64 id, .int .i64 tt, .int .i64 zz]] w (rfPost base L n I H S P D Q z c x0 x1 x2 w) := by
 have HI := lh hi
 have HCC := lh hc
 clear hi hc
 have hLl : L.length = n * 4 := by simpa using hO.1
 have HLL := lh (cellsL_lf hLl)
 have hn6 := con_len hg
 clear hLl
 obtain ⟨hX, h2, h3, h4⟩ := bl3 w (.cells #[.slice A n cp, .int .i64 I, .int .i64 H, .int .i64 S, .int .i64 P, .string D, .string Q, .int .i64 z] 35) (.cells #[.int .i64 c, .int .i64 id, .int .i64 tt, .int .i64 zz] 107) (.cells #[.slice none 0 0, .int .i64 0, .int .i64 0, .int .i64 0, .int .i64 0, .string ⟨#[]⟩, .string ⟨#[]⟩, .int .i64 0] 35)
 go_enter Tryz.func87, Tryz.ntmps87
 go_upto_region 1 with fail
 refine name_wp ?_
 intro w1 hw1
 rw [← hw1] at hX h2 h3 h4
 clear hw1
 obtain ⟨g2, hg2⟩ : ∃ q, w.heap.size = q := ⟨_, rfl⟩
 rw [hg2] at h2 h3 h4
 try rw [hg2]
 obtain ⟨g3, hg3⟩ : ∃ q, g2 + 1 = q := ⟨_, rfl⟩
 rw [hg3] at h3 h4
 try rw [hg3]
 obtain ⟨g4, hg4⟩ : ∃ q, g3 + 1 = q := ⟨_, rfl⟩
 rw [hg4] at h4
 try rw [hg4]
 have HLE := lh (show w.heap.size ≤ g4 by omega)
 have hn24 : g2 ≠ g4 := by omega
 have hn34 : g3 ≠ g4 := by omega
 have HO := lh (ownsRow_below hO hX)
 have HX := lh hX
 have H2 := lh h2
 have H3 := lh h3
 have H4 := lh h4
 have hb1 := hX.size
 have l3 := (Array.getElem?_eq_some_iff.1 h3).1
 have l4 := (Array.getElem?_eq_some_iff.1 h4).1
 clear hO hX h2 h3 h4
 have HNK := lh (fun e : A = none => own_nilK HO.out e)
 have HFM := lh (own_formS HO.out)
 have HSL := lh (own_sl HO.out)
 obtain ⟨e0, e1, e2, e3, e4, e5, e6, e7⟩ := cells8 H2.out
 obtain ⟨s0, s1, s2, s3⟩ := cells4 H3.out
 obtain ⟨so, hso⟩ : ∃ b, stOk (lf L) n I H S P c id tt zz = b := ⟨_, rfl⟩
 have HSO := lh hso
 have HW0 := sStepWorks_any A n cp _ _ (lf L) I H S P c id tt zz w1 HSL.out (by omega) hnc HNK.out HFM.out
 rw [hso] at HW0
 have HW := lh HW0
 clear HW0 hso HNK HFM HSL
 go_wp2_with fail
 refine HW.out.mono ?_
 rintro e w2 hp
 obtain ⟨L1, n1, I1, H1, S1, P1, A1, c1, rfl, hnc1, hown1, hb, hv⟩ := step_open hp
 clear hp HW e0 e1 e2 e3 e4 e5 e6 e7 s0 s1 s2 s3
 have HV := lh hv
 have HO2 := lh (ownsRow_below HO.out hb)
 have HO1 := lh (ownsRow_monoP hown1 (show base ≤ w1.heap.size by have := HX.out.size; omega))
 have HB := lh (HX.out.trans (hb.mono HX.out.size))
 have H2' := lh (rowC H2.out hb)
 have H3' := lh (rowC H3.out hb)
 have H4' := lh (rowC H4.out hb)
 have hb2 := hb.size
 clear hv hown1 hb H2 H3 H4 HO
 go_upto_region 2 with fail
 refine name_wp ?_
 intro w3 hw3
 have hb := ba hw3
 have h6 := an hw3
 clear hw3
 obtain ⟨g6, hg6⟩ : ∃ q, w2.heap.size = q := ⟨_, rfl⟩
 rw [hg6] at h6
 try rw [hg6]
 have HB3 := lh (HB.out.trans (hb.mono HB.out.size))
 have H2 := lh (rowC H2'.out hb)
 have H3 := lh (rowC H3'.out hb)
 have H4 := lh (rowC H4'.out hb)
 have HOo := lh (ownsRow_below HO2.out hb)
 have HOn := lh (ownsRow_below HO1.out hb)
 have H6 := lh h6
 have hn46 : g4 ≠ g6 := by omega
 have hn26 : g2 ≠ g6 := by omega
 have HL6 := lh (show w2.heap.size ≤ g6 by omega)
 clear hb h6 H2' H3' H4' HO2 HO1 HB
 cases so with
 | false =>
  have h2 := H2.out
  have h4 := H4.out
  obtain ⟨e0, e1, e2, e3, e4, e5, e6, e7⟩ := cells8 h2
  go_upto_region 3 with fail
  go_wp2_with ((with_reducible refine wpList_isStore ?_); refine wL0 g4 #[.slice A n cp, .int .i64 I, .int .i64 H, .int .i64 S, .int .i64 P, .string D, .string Q, .int .i64 z] 35 infoConE h4 ?_)
  intro wz hh hgw
  have HHR := lh hh
  have HBZ := lh (HB3.out.grown hgw HB3.out.size (fun k hk => by cases hk; exact HLE.out))
  have HOZ := lh (own_other HOo.out h4 (by decide) hgw)
  clear hh hgw
  go_wp2_with ((try simp only [Exit.inBlock, Exit.then]); refine ret_cell2 Tryz.results87 rfl rfl Tryz.underlying35 HHR.out infoConE rfl ?_; have hq := mk_no (D := D) (Q := Q) (z := z) HI.out HCC.out HSO.out HLL.out hnc HOZ.out HBZ.out; exact hq)
 | true =>
  have hv := HV.out rfl
  have HTH := lh (mk_there HI.out HCC.out HSO.out hv.1 hv.2.1)
  have hgd := st_good HSO.out
  rw [← hv.1, ← hv.2.1, ← hv.2.2.1, ← hv.2.2.2.1, ← hv.2.2.2.2.1, ← hv.2.2.2.2.2] at hgd
  have HVV := lh hv
  have hk := good_kilos hgd
  have hn1 := con_len hgd
  have HGD := lh hgd
  have HKK := lh hk
  clear hv hgd hk HV
  have h2 := H2.out
  obtain ⟨e0, e1, e2, e3, e4, e5, e6, e7⟩ := cells8 h2
  clear h2
  go_upto_region 5 with fail
  refine name_wp ?_
  intro w4 hw4
  have hb := ba hw4
  have h8 := an hw4
  clear hw4 e0 e1 e2 e3 e4 e5 e6 e7
  have l6 := (Array.getElem?_eq_some_iff.1 H6.out).1
  have hs3 := HB3.out.size
  obtain ⟨g8, hg8⟩ : ∃ q, w3.heap.size = q := ⟨_, rfl⟩
  rw [hg8] at h8 l6 hs3
  try rw [hg8]
  have HB4 := lh (HB3.out.trans (hb.mono HB3.out.size))
  have H3' := lh (rowC H3.out hb)
  have H4' := lh (rowC H4.out hb)
  have H6' := lh (rowC H6.out hb)
  have HOn' := lh (ownsRow_below HOn.out hb)
  have HL8 := lh (show w.heap.size ≤ g8 from hs3)
  have hl3 := (Array.getElem?_eq_some_iff.1 H3.out).1
  have hl4 := (Array.getElem?_eq_some_iff.1 H4.out).1
  rw [hg8] at hl3 hl4
  have hn68 : g6 ≠ g8 := by omega
  have hn38 : g3 ≠ g8 := by omega
  have hn48 : g4 ≠ g8 := by omega
  clear hb H2 H3 H4 H6 HOn HOo HB3 l6 hs3 hl3 hl4
  have h8' := h8
  obtain ⟨y0, y1, y2, y3, y4⟩ := cells5 H6'.out
  go_wp2_with ((with_reducible refine wpList_isStore ?_); refine wpList_store2 g8 0 (.agg #[.slice A1 n1 c1, .int .i64 I1, .int .i64 H1, .int .i64 S1, .int .i64 P1]) 35 _ #[.slice A1 n1 c1, .int .i64 I1, .int .i64 H1, .int .i64 S1, .int .i64 P1, .string D, .string Q, .int .i64 z] rfl rfl infoWorks h8 ((by decide : 0 + 5 ≤ 8)) (by simp [Value.cells, Value.oneCell']) rfl ?_)
  intro w5 hh hgw
  have H8 := lh hh
  have H3 := lh (rowGr H3'.out hgw hn38)
  have H4 := lh (rowGr H4'.out hgw hn48)
  have H6 := lh (rowGr H6'.out hgw hn68)
  have HON := lh (own_other HOn'.out h8' (by decide) hgw)
  have HB := lh (HB4.out.grown hgw HB4.out.size (fun k hk => by cases hk; exact HL8.out))
  clear hh hgw h8 h8' H3' H4' H6' HOn' HB4 y0 y1 y2 y3 y4
  have HSL := lh (own_sl HON.out)
  obtain ⟨r, hr⟩ : ∃ r, rpR (lf L1) n1 I1 H1 S1 P1 c x0 x1 = r := ⟨_, rfl⟩
  have HR := lh hr
  clear hr
  by_cases hk3 : c = 3
  ·as_aux_lemma =>
    have k3 : (c == 3) = true := by simp [hk3]
    have RR : Hid (panX (lf L1) n1 tt = r) := by
     show _ = _
     rw [← HR.out, hk3, HI.out.2.1, hk3]
     simp [rpR, exTo]
    have FND : Hid (0 ≤ findV (pid (lf L1)) tt n1 0) := by
     show _ ≤ _
     have h := HTH.out
     rw [HI.out.2.1, hk3]
     rw [hk3] at h
     simpa [rpOk, exTo] using h
    have HK3 := lh hk3
    clear hk3
    have HC : Hid (∀ W, Below w5.heap.size w5 W → Calls Tryz.prog 133 #[.agg #[.slice A1 n1 c1, .int .i64 I1, .int .i64 H1, .int .i64 S1, .int .i64 P1], .int .i64 tt] W fun e w' => e = .returned (.string r) ∧ Below W.heap.size W w') := fun W hb => by
     have h := l28Pan_any tt A1 n1 c1 _ _ (lf L1) I1 H1 S1 P1 W (HSL.out.below hb) (by omega) hnc1 HGD.out
     rw [if_pos FND.out] at h
     rw [RR.out] at h
     exact h
    obtain ⟨s0, s1, s2, s3⟩ := cells4 H3.out
    go_upto_region 8 with fail
    have HF : Hid (∀ w', w5.grownBy w' (some g4) → _) := fun w' hq => And.intro (cells8 (rowGr H8.out hq (Ne.symm hn48))) (And.intro (cells5 (rowGr H6.out hq (Ne.symm hn46))) (cells4 (rowGr H3.out hq hn34)))
    refine wp_region_held_drew (S := fun w' => w5.grownBy w' (some g4)) (by kernel_rfl) (but_stays w5 _ (grow_refl w5 (some g4)) ((Below.refl _ _).drew)) (fun jd => ?_)
    have hbd : Below w5.heap.size w5 w5.drew := (Below.refl _ _).drew
    obtain ⟨v0, hv0⟩ : ∃ v, w5.drew = v := ⟨_, rfl⟩
    rw [hv0] at jd hbd ⊢
    clear hv0
    refine tj4 0 26 1 27 2 28 3 29 HF jd ?_
    refine wpAnyH_ready (rs := [4]) (by kernel_rfl) (by simp) ?_
    refine (AllReadyH.cons rfl (fun K hK => ?_) AllReadyH.nil)
    go_simp
    refine (HC.out v0 hbd).mono ?_
    rintro e v1 ⟨rfl, hbn⟩
    have hr4 := rowC (rowC H4.out hbd) hbn
    have hOv := ownsRow_below (ownsRow_below HON.out hbd) hbn
    have hBv := (HB.out.trans (hbd.mono HB.out.size)).trans (hbn.mono (Nat.le_trans HB.out.size hbd.size))
    have hHeld2 := but_stays v0 v1 jd hbn
    refine hK.out _ _ hHeld2 (fun jd => ?_)
    clear hK K hHeld2
    refine wS0 5 g4 #[.slice A1 n1 c1, .int .i64 I1, .int .i64 H1, .int .i64 S1, .int .i64 P1, .string D, .string Q, .int .i64 z] 35 infoConE (hr4) (fun w' hg' => grow_trans jd hg') ?ks8
    case ks8 =>
     intro v3 hh hgw hHeld3
     clear jd
     have jd := hHeld3
     clear hHeld3
     refine tj 6 5 HF rfl jd ?_
     refine wpAnyH_done (by kernel_rfl) ?_ _
     have HHR := lh hh
     have HBZ := lh (hBv.grown hgw hBv.size (fun k hk => by cases hk; exact HLE.out))
     have HOZ := lh (own_other hOv hr4 (by decide) hgw)
     clear hh hgw hr4 hOv hBv jd hbd hbn HF HC
     go_wp2_with ((try simp only [Exit.inBlock, Exit.then]); refine ret_cell2 Tryz.results87 rfl rfl Tryz.underlying35 HHR.out infoConE rfl ?_; have hq := mk_yes (D := D) (Q := Q) (z := z) HI.out HCC.out HSO.out HVV.out HR.out hnc1 HOZ.out HBZ.out; exact hq)
  have k3 : (c == 3) = false := by simp [hk3]
  by_cases hk5 : c = 5
  ·as_aux_lemma =>
    have k5 : (c == 5) = true := by simp [hk5]
    have RR : Hid (numB H1 = r) := by
     show _ = _
     rw [← HR.out, hk5]
     simp [rpR]
    have HK5 := lh hk5
    clear hk5
    have HC : Hid (∀ W, Below w5.heap.size w5 W → Calls Tryz.prog 66 #[.int .i64 H1] W fun e w' => e = .returned (.string r) ∧ Below W.heap.size W w') := fun W hb => by
     have h := l1Num_any H1 HKK.out.2.1.1 (Int.le_trans HKK.out.2.1.2 (by decide)) W
     rw [RR.out] at h
     exact h
    obtain ⟨s0, s1, s2, s3⟩ := cells4 H3.out
    go_upto_region 10 with fail
    have HF : Hid (∀ w', w5.grownBy w' (some g4) → _) := fun w' hq => And.intro (cells8 (rowGr H8.out hq (Ne.symm hn48))) (And.intro (cells5 (rowGr H6.out hq (Ne.symm hn46))) (cells4 (rowGr H3.out hq hn34)))
    refine wp_region_held_drew (S := fun w' => w5.grownBy w' (some g4)) (by kernel_rfl) (but_stays w5 _ (grow_refl w5 (some g4)) ((Below.refl _ _).drew)) (fun jd => ?_)
    have hbd : Below w5.heap.size w5 w5.drew := (Below.refl _ _).drew
    obtain ⟨v0, hv0⟩ : ∃ v, w5.drew = v := ⟨_, rfl⟩
    rw [hv0] at jd hbd ⊢
    clear hv0
    refine tj3 0 33 1 34 2 35 HF jd ?_
    refine wpAnyH_ready (rs := [3]) (by kernel_rfl) (by simp) ?_
    refine (AllReadyH.cons rfl (fun K hK => ?_) AllReadyH.nil)
    go_simp
    refine (HC.out v0 hbd).mono ?_
    rintro e v1 ⟨rfl, hbn⟩
    have hr4 := rowC (rowC H4.out hbd) hbn
    have hOv := ownsRow_below (ownsRow_below HON.out hbd) hbn
    have hBv := (HB.out.trans (hbd.mono HB.out.size)).trans (hbn.mono (Nat.le_trans HB.out.size hbd.size))
    have hHeld2 := but_stays v0 v1 jd hbn
    refine hK.out _ _ hHeld2 (fun jd => ?_)
    clear hK K hHeld2
    refine wS0 4 g4 #[.slice A1 n1 c1, .int .i64 I1, .int .i64 H1, .int .i64 S1, .int .i64 P1, .string D, .string Q, .int .i64 z] 35 infoConE (hr4) (fun w' hg' => grow_trans jd hg') ?ks10
    case ks10 =>
     intro v3 hh hgw hHeld3
     clear jd
     have jd := hHeld3
     clear hHeld3
     refine tj 5 5 HF rfl jd ?_
     refine wpAnyH_done (by kernel_rfl) ?_ _
     have HHR := lh hh
     have HBZ := lh (hBv.grown hgw hBv.size (fun k hk => by cases hk; exact HLE.out))
     have HOZ := lh (own_other hOv hr4 (by decide) hgw)
     clear hh hgw hr4 hOv hBv jd hbd hbn HF HC
     go_wp2_with ((try simp only [Exit.inBlock, Exit.then]); refine ret_cell2 Tryz.results87 rfl rfl Tryz.underlying35 HHR.out infoConE rfl ?_; have hq := mk_yes (D := D) (Q := Q) (z := z) HI.out HCC.out HSO.out HVV.out HR.out hnc1 HOZ.out HBZ.out; exact hq)
  have k5 : (c == 5) = false := by simp [hk5]
  by_cases hk6 : c = 6
  ·as_aux_lemma =>
    have k6 : (c == 6) = true := by simp [hk6]
    have RR : Hid (numB S1 = r) := by
     show _ = _
     rw [← HR.out, hk6]
     simp [rpR]
    have HK6 := lh hk6
    clear hk6
    have HC : Hid (∀ W, Below w5.heap.size w5 W → Calls Tryz.prog 66 #[.int .i64 S1] W fun e w' => e = .returned (.string r) ∧ Below W.heap.size W w') := fun W hb => by
     have h := l1Num_any S1 HKK.out.2.2.1.1 (Int.le_trans HKK.out.2.2.1.2 (by decide)) W
     rw [RR.out] at h
     exact h
    obtain ⟨s0, s1, s2, s3⟩ := cells4 H3.out
    go_upto_region 12 with fail
    have HF : Hid (∀ w', w5.grownBy w' (some g4) → _) := fun w' hq => And.intro (cells8 (rowGr H8.out hq (Ne.symm hn48))) (And.intro (cells5 (rowGr H6.out hq (Ne.symm hn46))) (cells4 (rowGr H3.out hq hn34)))
    refine wp_region_held_drew (S := fun w' => w5.grownBy w' (some g4)) (by kernel_rfl) (but_stays w5 _ (grow_refl w5 (some g4)) ((Below.refl _ _).drew)) (fun jd => ?_)
    have hbd : Below w5.heap.size w5 w5.drew := (Below.refl _ _).drew
    obtain ⟨v0, hv0⟩ : ∃ v, w5.drew = v := ⟨_, rfl⟩
    rw [hv0] at jd hbd ⊢
    clear hv0
    refine tj3 0 39 1 40 2 41 HF jd ?_
    refine wpAnyH_ready (rs := [3]) (by kernel_rfl) (by simp) ?_
    refine (AllReadyH.cons rfl (fun K hK => ?_) AllReadyH.nil)
    go_simp
    refine (HC.out v0 hbd).mono ?_
    rintro e v1 ⟨rfl, hbn⟩
    have hr4 := rowC (rowC H4.out hbd) hbn
    have hOv := ownsRow_below (ownsRow_below HON.out hbd) hbn
    have hBv := (HB.out.trans (hbd.mono HB.out.size)).trans (hbn.mono (Nat.le_trans HB.out.size hbd.size))
    have hHeld2 := but_stays v0 v1 jd hbn
    refine hK.out _ _ hHeld2 (fun jd => ?_)
    clear hK K hHeld2
    refine wS0 4 g4 #[.slice A1 n1 c1, .int .i64 I1, .int .i64 H1, .int .i64 S1, .int .i64 P1, .string D, .string Q, .int .i64 z] 35 infoConE (hr4) (fun w' hg' => grow_trans jd hg') ?ks12
    case ks12 =>
     intro v3 hh hgw hHeld3
     clear jd
     have jd := hHeld3
     clear hHeld3
     refine tj 5 5 HF rfl jd ?_
     refine wpAnyH_done (by kernel_rfl) ?_ _
     have HHR := lh hh
     have HBZ := lh (hBv.grown hgw hBv.size (fun k hk => by cases hk; exact HLE.out))
     have HOZ := lh (own_other hOv hr4 (by decide) hgw)
     clear hh hgw hr4 hOv hBv jd hbd hbn HF HC
     go_wp2_with ((try simp only [Exit.inBlock, Exit.then]); refine ret_cell2 Tryz.results87 rfl rfl Tryz.underlying35 HHR.out infoConE rfl ?_; have hq := mk_yes (D := D) (Q := Q) (z := z) HI.out HCC.out HSO.out HVV.out HR.out hnc1 HOZ.out HBZ.out; exact hq)
  have k6 : (c == 6) = false := by simp [hk6]
  by_cases hk7 : c = 7
  ·as_aux_lemma =>
    have k7 : (c == 7) = true := by simp [hk7]
    have RR : Hid (numB P1 = r) := by
     show _ = _
     rw [← HR.out, hk7]
     simp [rpR]
    have HK7 := lh hk7
    clear hk7
    have HC : Hid (∀ W, Below w5.heap.size w5 W → Calls Tryz.prog 66 #[.int .i64 P1] W fun e w' => e = .returned (.string r) ∧ Below W.heap.size W w') := fun W hb => by
     have h := l1Num_any P1 HKK.out.2.2.2.1 (Int.le_trans HKK.out.2.2.2.2 (by decide)) W
     rw [RR.out] at h
     exact h
    obtain ⟨s0, s1, s2, s3⟩ := cells4 H3.out
    go_upto_region 14 with fail
    have HF : Hid (∀ w', w5.grownBy w' (some g4) → _) := fun w' hq => And.intro (cells8 (rowGr H8.out hq (Ne.symm hn48))) (And.intro (cells5 (rowGr H6.out hq (Ne.symm hn46))) (cells4 (rowGr H3.out hq hn34)))
    refine wp_region_held_drew (S := fun w' => w5.grownBy w' (some g4)) (by kernel_rfl) (but_stays w5 _ (grow_refl w5 (some g4)) ((Below.refl _ _).drew)) (fun jd => ?_)
    have hbd : Below w5.heap.size w5 w5.drew := (Below.refl _ _).drew
    obtain ⟨v0, hv0⟩ : ∃ v, w5.drew = v := ⟨_, rfl⟩
    rw [hv0] at jd hbd ⊢
    clear hv0
    refine tj3 0 45 1 46 2 47 HF jd ?_
    refine wpAnyH_ready (rs := [3]) (by kernel_rfl) (by simp) ?_
    refine (AllReadyH.cons rfl (fun K hK => ?_) AllReadyH.nil)
    go_simp
    refine (HC.out v0 hbd).mono ?_
    rintro e v1 ⟨rfl, hbn⟩
    have hr4 := rowC (rowC H4.out hbd) hbn
    have hOv := ownsRow_below (ownsRow_below HON.out hbd) hbn
    have hBv := (HB.out.trans (hbd.mono HB.out.size)).trans (hbn.mono (Nat.le_trans HB.out.size hbd.size))
    have hHeld2 := but_stays v0 v1 jd hbn
    refine hK.out _ _ hHeld2 (fun jd => ?_)
    clear hK K hHeld2
    refine wS0 4 g4 #[.slice A1 n1 c1, .int .i64 I1, .int .i64 H1, .int .i64 S1, .int .i64 P1, .string D, .string Q, .int .i64 z] 35 infoConE (hr4) (fun w' hg' => grow_trans jd hg') ?ks14
    case ks14 =>
     intro v3 hh hgw hHeld3
     clear jd
     have jd := hHeld3
     clear hHeld3
     refine tj 5 5 HF rfl jd ?_
     refine wpAnyH_done (by kernel_rfl) ?_ _
     have HHR := lh hh
     have HBZ := lh (hBv.grown hgw hBv.size (fun k hk => by cases hk; exact HLE.out))
     have HOZ := lh (own_other hOv hr4 (by decide) hgw)
     clear hh hgw hr4 hOv hBv jd hbd hbn HF HC
     go_wp2_with ((try simp only [Exit.inBlock, Exit.then]); refine ret_cell2 Tryz.results87 rfl rfl Tryz.underlying35 HHR.out infoConE rfl ?_; have hq := mk_yes (D := D) (Q := Q) (z := z) HI.out HCC.out HSO.out HVV.out HR.out hnc1 HOZ.out HBZ.out; exact hq)
  have k7 : (c == 7) = false := by simp [hk7]
  have hcc := HCC.out
  simp only [isStep, decide_eq_true_eq] at hcc
  have h124 : c = 1 ∨ c = 2 ∨ c = 4 := by omega
  have h6 : exId c x0 = x0 := by unfold exId; rw [if_neg hk6]
  clear hcc
  have RR : Hid (panX (lf L1) n1 id = r) := by
   show _ = _
   rw [← HR.out, HI.out.1, h6]
   rcases h124 with rfl | rfl | rfl <;> simp [rpR]
  have FND : Hid (0 ≤ findV (pid (lf L1)) id n1 0) := by
   show _ ≤ _
   have h := HTH.out
   rw [HI.out.1, h6]
   rcases h124 with rfl | rfl | rfl <;> simpa [rpOk] using h
  clear hk3 hk5 hk6 hk7 h124 h6
  have HC : Hid (∀ W, Below w5.heap.size w5 W → Calls Tryz.prog 133 #[.agg #[.slice A1 n1 c1, .int .i64 I1, .int .i64 H1, .int .i64 S1, .int .i64 P1], .int .i64 id] W fun e w' => e = .returned (.string r) ∧ Below W.heap.size W w') := fun W hb => by
   have h := l28Pan_any id A1 n1 c1 _ _ (lf L1) I1 H1 S1 P1 W (HSL.out.below hb) (by omega) hnc1 HGD.out
   rw [if_pos FND.out] at h
   rw [RR.out] at h
   exact h
  obtain ⟨s0, s1, s2, s3⟩ := cells4 H3.out
  go_upto_region 15 with fail
  have HF : Hid (∀ w', w5.grownBy w' (some g4) → _) := fun w' hq => And.intro (cells8 (rowGr H8.out hq (Ne.symm hn48))) (And.intro (cells5 (rowGr H6.out hq (Ne.symm hn46))) (cells4 (rowGr H3.out hq hn34)))
  refine wp_region_held_drew (S := fun w' => w5.grownBy w' (some g4)) (by kernel_rfl) (but_stays w5 _ (grow_refl w5 (some g4)) ((Below.refl _ _).drew)) (fun jd => ?_)
  have hbd : Below w5.heap.size w5 w5.drew := (Below.refl _ _).drew
  obtain ⟨v0, hv0⟩ : ∃ v, w5.drew = v := ⟨_, rfl⟩
  rw [hv0] at jd hbd ⊢
  clear hv0
  refine tj4 0 49 1 50 2 51 3 52 HF jd ?_
  refine wpAnyH_ready (rs := [4]) (by kernel_rfl) (by simp) ?_
  refine (AllReadyH.cons rfl (fun K hK => ?_) AllReadyH.nil)
  go_simp
  refine (HC.out v0 hbd).mono ?_
  rintro e v1 ⟨rfl, hbn⟩
  have hr4 := rowC (rowC H4.out hbd) hbn
  have hOv := ownsRow_below (ownsRow_below HON.out hbd) hbn
  have hBv := (HB.out.trans (hbd.mono HB.out.size)).trans (hbn.mono (Nat.le_trans HB.out.size hbd.size))
  have hHeld2 := but_stays v0 v1 jd hbn
  refine hK.out _ _ hHeld2 (fun jd => ?_)
  clear hK K hHeld2
  refine wS0 5 g4 #[.slice A1 n1 c1, .int .i64 I1, .int .i64 H1, .int .i64 S1, .int .i64 P1, .string D, .string Q, .int .i64 z] 35 infoConE (hr4) (fun w' hg' => grow_trans jd hg') ?ks15
  case ks15 =>
   intro v3 hh hgw hHeld3
   clear jd
   have jd := hHeld3
   clear hHeld3
   refine tj 6 5 HF rfl jd ?_
   refine wpAnyH_done (by kernel_rfl) ?_ _
   have HHR := lh hh
   have HBZ := lh (hBv.grown hgw hBv.size (fun k hk => by cases hk; exact HLE.out))
   have HOZ := lh (own_other hOv hr4 (by decide) hgw)
   clear hh hgw hr4 hOv hBv jd hbd hbn HF HC
   go_wp2_with ((try simp only [Exit.inBlock, Exit.then]); refine ret_cell2 Tryz.results87 rfl rfl Tryz.underlying35 HHR.out infoConE rfl ?_; have hq := mk_yes (D := D) (Q := Q) (z := z) HI.out HCC.out HSO.out HVV.out HR.out hnc1 HOZ.out HBZ.out; exact hq)
end Go.Proofs.YtpndjhelpoenpaaGreatDoor
