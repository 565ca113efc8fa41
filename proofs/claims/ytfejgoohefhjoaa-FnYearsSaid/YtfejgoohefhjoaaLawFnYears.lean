/-
  The walk of the law FnYears.
-/
import Derived.Test.YtfejgoohefhjoaaYearsP
import Derived.Test.YtfejgoohefhjoaaSAddC
import Derived.Test.YtfejgoohefhjoaaAddC
import Derived.Test.YtfejgoohefhjoaaDrawC
import Derived.Test.YtfejgoohefhjoaaRels
import Derived.Deep.Cut
namespace Go.Proofs.Ytfejgoohefhjoaa
open Go.RowKit
set_option linter.unusedVariables false
set_option linter.unusedSimpArgs false
set_option maxRecDepth 100000 in
set_option maxHeartbeats 4000000 in
theorem FnYears_walk (A0 : Option Addr) (n0 c0 : Nat) (w : World) (hnc0 : n0 ≤ c0) (hcm0 : c0 ≤ maxLen) (hk0 : Code w A0 n0) :
    Calls Try.prog 3 #[.slice A0 n0 c0] w fun e w' => e = .returned (.bool true) ∧ Below w.heap.size w w' := by
  by_cases hbig : 65536 < n0
  · go_enter Try.func3, Try.ntmps3
    go_wp2_with fail
    refine (rBig_any A0 n0 c0 w).mono ?_
    rw [decide_eq_true hbig]
    rintro e w1 ⟨rfl, rfl⟩
    go_wp2
    go_ret
    exact ⟨rfl, Below.refl _ _⟩
  go_enter Try.func3, Try.ntmps3
  go_wp2_with fail
  refine (rBig_any A0 n0 c0 w).mono ?_
  rw [decide_eq_false hbig]
  rintro e wx ⟨rfl, hwx⟩
  rw [hwx]
  clear hwx wx
  go_wp2_with fail
  refine (DrawYearsAbove_any A0 n0 c0 w hk0 (by omega)).mono ?_
  rintro e w1 ⟨A1, m, c1, f, z, rfl, hm, hd, hB⟩
  have HK : Hid (∀ w', Below w.heap.size w w' → Code w' A0 n0) := fun w' h => hk0.below h
  clear hk0
  have hlen : ∀ z, (yearsRes f m z).length ≤ 1048576 := fun z => by
    unfold yearsRes; split
    · have := pick_len (aboveB f m z (sumW (tonsAt f) m)) (yearAt f) m; unfold yearsList; omega
    · simp
  have HLEN := Lib.hid hlen
  clear hlen
  go_wp2_with fail
  refine (YearsAbove_any A1 m c1 _ _ f z _ hd.own.sl (by omega) hd.le).mono ?_
  rintro e w2 ⟨Ay, cy, rfl, hcy, hcym, hy, hb⟩
  have hB := below_of hB hb hB.size
  have hd := hd.below hb
  clear hb
  go_wp2_with fail
  refine (sYearsAbove_any A1 m c1 _ _ f z _ hd.own.sl (by omega) hd.le).mono ?_
  rintro e w3 ⟨As, cs, rfl, hcs, hcsm, hs, hb⟩
  have hB := below_of hB hb hB.size
  have hd := hd.below hb
  have hy := hy.below hb
  clear hb
  go_wp2_with fail
  refine (rInts_same _ _ _ _ _ _ _ _ _ _ _ hy.sl hs.sl (HLEN.out z)).mono ?_
  rintro e w4 ⟨rfl, hb⟩
  have hB := below_of hB hb hB.size
  have hd := hd.below hb
  have hy := hy.below hb
  clear hb
  clear hs hcs hcsm
  go_wp2_with fail
  refine (YearsAbove_any A1 m c1 _ _ f _ _ hd.own.sl (by omega) hd.le).mono ?_
  rintro e w5 ⟨Am, cm, rfl, hcm, hcmm, hmo, hb⟩
  have hB := below_of hB hb hB.size
  have hy := hy.below hb
  clear hb
  clear hd
  have hmore : Hid (yearsOk f m z = true → yearsOk f m (wrap64 (z + 1)) = true → ∀ k, k < (yearsRes f m (wrap64 (z + 1))).length → hasB (fun j => (yearsRes f m z).getD j 0) (yearsRes f m z).length ((yearsRes f m (wrap64 (z + 1))).getD k 0) = true) := fun h1 h2 k hk => by
    refine (hasB_list _ _).2 (years_more h1 h2 _ ?_)
    simp only [List.getD, List.getElem?_eq_getElem hk, Option.getD_some]
    exact List.getElem_mem hk
  generalize hgm : (fun j => (yearsRes f m (wrap64 (z + 1))).getD j 0) = gm at hmo
  have hgm2 : ∀ k, (yearsRes f m (wrap64 (z + 1))).getD k 0 = gm k := fun k => congrFun hgm k
  have HG2 := Lib.hid hgm2
  clear hgm hgm2
  have HY := Lib.hid hy
  have HM := Lib.hid hmo
  have HB := Lib.hid hB
  clear hy hmo hB
  go_upto_region 9 with fail
  go_cut [6, 8, 10, 73] from 35 (fun s6 s8 s10 s73 w' => s73 = .bool (yearsOk f m z && yearsOk f m (wrap64 (z + 1))) ∧ w' = w5)
  case first =>
    cases h1 : yearsOk f m z <;> cases h2 : yearsOk f m (wrap64 (z + 1))
    all_goals
      go_wp2
      go_meet
      case rel => exact ⟨by rw [h1, h2]; rfl, rfl⟩
  case rest =>
  obtain ⟨rfl, rfl⟩ := hcut
  generalize hb12 : (yearsOk f m z && yearsOk f m (wrap64 (z + 1))) = b12
  have HB12 := Lib.hid hb12
  clear hb12
  go_upto_if 73 with fail
  go_cut [73] from 35 (fun s73 w' => w' = wc)
  case first =>
    cases b12 with
    | false =>
      go_wp2
      go_meet
      case rel => rfl
    | true =>
    obtain ⟨h1, h2⟩ := (Bool.and_eq_true _ _).mp HB12.out
    have HH := Lib.hid (hmore.out h1 h2)
    clear hmore h1 h2
    go_wp2
    go_loop [11] (fun i => ∃ k : Nat, k ≤ (yearsRes f m (wrap64 (z + 1))).length ∧ i = .int .i64 k) (fun i => (yearsRes f m (wrap64 (z + 1))).length - (intOf i).toNat)
    case atStart => exact ⟨0, Nat.zero_le _, rfl⟩
    case round =>
      obtain ⟨k, hk, rfl⟩ := hrel
      by_cases hlt : k < (yearsRes f m (wrap64 (z + 1))).length
      · obtain ⟨b, off, eA, hbw, HC⟩ := HM.out.sl.open_ (Below.refl _ _) (by omega)
        have c0 := HC.out k (by omega)
        subst eA
        have hk0 : (0 : Int) ≤ (k : Int) := by omega
        have hk1 : (k : Int) < ((yearsRes f m (wrap64 (z + 1))).length : Int) := by omega
        have HX := Lib.hid (HH.out k hlt)
        rw [HG2.out] at HX
        have hml : (yearsRes f m (wrap64 (z + 1))).length ≤ 1048576 := HLEN.out _
        clear HC
        go_wp2_with fail
        refine (rHas_any _ _ _ _ _ _ _ _ HY.out.sl (HLEN.out z)).mono ?_
        rw [HX.out]
        rintro e w6 ⟨rfl, rfl⟩
        go_wp2
        go_round
        case rel => exact ⟨k + 1, by omega, by go_num⟩
        case measure => simp [intOf]; omega
      · have hk1 : ¬ ((k : Int) < ((yearsRes f m (wrap64 (z + 1))).length : Int)) := by omega
        go_wp2
        go_meet
        case rel => rfl
  case rest =>
  obtain rfl := hcut
  have hB := HB.out
  clear HY HM HB hmore HLEN HB12
  go_wp2_with fail
  refine (DrawAddCrop_any A0 n0 c0 _ (HK.out _ hB) (by omega)).mono ?_
  rintro e w7 ⟨A3, m3, c3, f3, a0, a1, a2, a3, a4, rfl, hm3, hd3, hb⟩
  have hB := below_of hB hb hB.size
  clear hb
  obtain ⟨r, hr⟩ : ∃ r : Nat → Int, r = (fun j => [a0, a1, a2, a3, a4].getD j 0) := ⟨_, rfl⟩
  have e0 : a0 = r 0 := by rw [hr]; rfl
  have e1 : a1 = r 1 := by rw [hr]; rfl
  have e2 : a2 = r 2 := by rw [hr]; rfl
  have e3 : a3 = r 3 := by rw [hr]; rfl
  have e4 : a4 = r 4 := by rw [hr]; rfl
  clear hr
  subst e0 e1 e2 e3 e4
  go_wp2_with fail
  refine nameC ?_
  intro w8 hw8
  have hX : Blk w8 w7.heap.size 33 [r 0, r 1, r 2, r 3, r 4] := by rw [hw8]; exact Blk.new [r 0, r 1, r 2, r 3, r 4] rfl
  have hb : Below w7.heap.size w7 w8 := by rw [hw8]; exact (Below.refl _ _).alloc (Nat.le_refl _) _
  have hB := below_of hB hb hB.size
  have hd3 := hd3.below hb
  clear hb hw8
  generalize w7.heap.size = bx at hX ⊢
  have hlen : addM f3 r m3 ≤ 1048576 := by have := addM_le f3 r m3; omega
  refine (AddCrop_any A3 m3 c3 _ _ f3 r _ hd3.own.sl (by omega) hd3.le hd3.max hd3.nil hd3.form).mono ?_
  rintro e w9 ⟨Ao, co, rfl, hco, hcom, ho, hb⟩
  have hX : Blk _ bx 33 [r 0, r 1, r 2, r 3, r 4] := (hb.block bx hX.lt).trans hX
  have hB := below_of hB hb hB.size
  have hd3 := hd3.below hb
  clear hb
  have x0 : w9.cell? ⟨bx, 0, none⟩ = some (.int .i64 (r 0)) := hX.cell (j := 0) (by simp)
  have x1 : w9.cell? ⟨bx, 1, none⟩ = some (.int .i64 (r 1)) := hX.cell (j := 1) (by simp)
  have x2 : w9.cell? ⟨bx, 2, none⟩ = some (.int .i64 (r 2)) := hX.cell (j := 2) (by simp)
  have x3 : w9.cell? ⟨bx, 3, none⟩ = some (.int .i64 (r 3)) := hX.cell (j := 3) (by simp)
  have x4 : w9.cell? ⟨bx, 4, none⟩ = some (.int .i64 (r 4)) := hX.cell (j := 4) (by simp)
  go_wp2_with fail
  clear x0 x1 x2 x3 x4
  refine (sAddCrop_any A3 m3 c3 _ _ f3 r _ hd3.own.sl (by omega) hd3.le hd3.max hd3.nil hd3.form).mono ?_
  rintro e w10 ⟨At, ct, rfl, hct, hctm, ht, hb⟩
  have hX : Blk _ bx 33 [r 0, r 1, r 2, r 3, r 4] := (hb.block bx hX.lt).trans hX
  have hB := below_of hB hb hB.size
  have hd3 := hd3.below hb
  have ho := ho.below hb
  clear hb
  go_wp2_with fail
  refine (rCrops_same _ _ _ _ _ _ _ _ _ _ _ ho.sl ht.sl hlen).mono ?_
  rintro e w11 ⟨rfl, hb⟩
  have hX : Blk _ bx 33 [r 0, r 1, r 2, r 3, r 4] := (hb.block bx hX.lt).trans hX
  have hB := below_of hB hb hB.size
  have hd3 := hd3.below hb
  have ho := ho.below hb
  clear hb
  clear ht hct hctm
  have HOK : Hid (addOk f3 r m3 = true → decW (accW (r 2) (tonsAt f3) m3) (tonsAt (addF f3 r m3)) (addM f3 r m3) = 0 ∧ goodRows (addF f3 r m3) (addM f3 r m3) = true) := fun h => by
    have e : addM f3 r m3 = addN f3 r m3 := by simp [addM, h]
    rw [e]
    refine ⟨add_tons h, ?_⟩
    simp only [addOk, Bool.and_eq_true] at h
    exact h.2
  have HB := Lib.hid hB
  have HD := Lib.hid hd3
  have HO := Lib.hid ho
  clear hB hd3 ho
  go_upto_if 113 with fail
  go_cut [15, 17] from 35 (fun s15 s17 w' => Below w11.heap.size w11 w')
  case first =>
    cases h1 : addOk f3 r m3 with
    | false =>
      go_wp2
      go_meet
      case rel => exact Below.refl _ _
    | true =>
    have HZ := Lib.hid (HOK.out h1)
    clear h1 HOK
    have x0 : w11.cell? ⟨bx, 0, none⟩ = some (.int .i64 (r 0)) := hX.cell (j := 0) (by simp)
    have x1 : w11.cell? ⟨bx, 1, none⟩ = some (.int .i64 (r 1)) := hX.cell (j := 1) (by simp)
    have x2 : w11.cell? ⟨bx, 2, none⟩ = some (.int .i64 (r 2)) := hX.cell (j := 2) (by simp)
    have x3 : w11.cell? ⟨bx, 3, none⟩ = some (.int .i64 (r 3)) := hX.cell (j := 3) (by simp)
    have x4 : w11.cell? ⟨bx, 4, none⟩ = some (.int .i64 (r 4)) := hX.cell (j := 4) (by simp)
    have hlt3 : (m3 : Int) ≤ 1048576 := by omega
    go_wp2_with fail
    go_loop [18, 19] (fun nv iv => ∃ k : Nat, k ≤ m3 ∧ iv = .int .i64 k ∧ nv = .int .i64 (accW (r 2) (tonsAt f3) k)) (fun _ iv => m3 - (intOf iv).toNat)
    case atStart => exact ⟨0, Nat.zero_le _, rfl, rfl⟩
    case round =>
    obtain ⟨k, hk, rfl, rfl⟩ := hrel
    by_cases hlt : k < m3
    · obtain ⟨b, off, eA, hbw, HC⟩ := HD.out.own.sl.open_ (Below.refl _ _) (by omega)
      obtain ⟨c0, c1, c2, c3, c4⟩ := cell5 HC hlt
      subst eA
      have hk0 : (0 : Int) ≤ (k : Int) := by omega
      have hk1 : (k : Int) < (m3 : Int) := by omega
      clear HC x0 x1 x2 x3 x4
      go_wp2
      go_round
      case rel => exact ⟨k + 1, by omega, by go_num, rfl⟩
      case measure => simp [intOf]; omega
    obtain rfl : k = m3 := by omega
    have hk1 : ¬ ((k : Int) < (k : Int)) := by omega
    generalize hS : accW (r 2) (tonsAt f3) k = S
    have HS := Lib.hid hS
    clear hS x0 x1 x2 x3 x4
    go_wp2_with fail
    go_loop [18, 20] (fun nv iv => ∃ j : Nat, j ≤ addM f3 r k ∧ iv = .int .i64 j ∧ nv = .int .i64 (decW S (tonsAt (addF f3 r k)) j)) (fun _ iv => addM f3 r k - (intOf iv).toNat)
    case atStart => exact ⟨0, Nat.zero_le _, rfl, rfl⟩
    case round =>
    obtain ⟨j, hj, rfl, rfl⟩ := hrel
    by_cases hlt : j < addM f3 r k
    · obtain ⟨b, off, eA, hbw, HC⟩ := HO.out.sl.open_ (Below.refl _ _) (by omega)
      obtain ⟨c0, c1, c2, c3, c4⟩ := cell5 HC hlt
      subst eA
      have hk0 : (0 : Int) ≤ (j : Int) := by omega
      have hj1 : (j : Int) < (addM f3 r k : Int) := by omega
      clear HC
      go_wp2
      go_round
      case rel => exact ⟨j + 1, by omega, by go_num, rfl⟩
      case measure => simp [intOf]; omega
    have hjM : j = addM f3 r k := by omega
    have hj1 : ¬ ((j : Int) < (addM f3 r k : Int)) := by omega
    have hz : decW S (tonsAt (addF f3 r k)) j = 0 := by rw [← HS.out, hjM]; exact HZ.out.1
    clear hjM
    go_wp2_with fail
    refine (AreCropRows_any _ _ _ _ _ _ _ HO.out.sl hlen hco).mono ?_
    rw [HZ.out.2]
    rintro e w12 ⟨rfl, hb⟩
    go_wp2
    go_meet
    case rel => exact hb
  case rest =>
  have hB := below_of HB.out hcut HB.out.size
  clear HD HO HB HOK hcut hX
  go_wp2_with fail
  refine (DrawPriceRuns_any A0 n0 c0 _ (HK.out _ hB) (by omega)).mono ?_
  rintro e w13 ⟨A5, m5, c5, f5, rfl, hm5, hd5, hb⟩
  have hB := below_of hB hb hB.size
  clear hb
  have hlen5 : (runsRes f5 m5).length ≤ 1048576 := runsRes_len f5 m5 (by omega)
  go_wp2_with fail
  refine (PriceRuns_any A5 m5 c5 _ _ f5 _ hd5.own.sl (by omega) hd5.le).mono ?_
  rintro e w14 ⟨Ar, cr, rfl, hcr, hcrm, hrr, hb⟩
  have hB := below_of hB hb hB.size
  have hd5 := hd5.below hb
  clear hb
  go_wp2_with fail
  refine (sPriceRuns_any A5 m5 c5 _ _ f5 _ hd5.own.sl (by omega) hd5.le).mono ?_
  rintro e w15 ⟨Aq, cq, rfl, hcq, hcqm, hqq, hb⟩
  have hB := below_of hB hb hB.size
  have hrr := hrr.below hb
  clear hb
  go_wp2_with fail
  refine (rTable_same _ _ _ _ _ _ _ _ _ _ _ hrr hqq hlen5).mono ?_
  rintro e w16 ⟨rfl, hb⟩
  have hB := below_of hB hb hB.size
  have hrr := hrr.below hb
  clear hb
  clear hqq hcq hcqm hd5
  have HR := Lib.hid hrr
  have HAP : Hid (∀ i, i < (runsRes f5 m5).length → lastOf (runsRes f5 m5) i < ((runsRes f5 m5).getD i (0, 0)).1 ∧ ((runsRes f5 m5).getD i (0, 0)).1 < ((runsRes f5 m5).getD i (0, 0)).2) := runs_apart f5 m5
  have HB := Lib.hid hB
  clear hrr hB
  go_wp2_with fail
  go_loopw [26, 27] (fun lv iv wr => (∃ k : Nat, k ≤ (runsRes f5 m5).length ∧ iv = .int .i64 k ∧ lv = .int .i64 (lastOf (runsRes f5 m5) k)) ∧ Below w16.heap.size w16 wr) (fun _ iv _ => (runsRes f5 m5).length - (intOf iv).toNat)
  case atStart => exact ⟨⟨0, Nat.zero_le _, rfl, rfl⟩, Below.refl _ _⟩
  case round =>
  obtain ⟨⟨k, hk, rfl, rfl⟩, hbel⟩ := hrel
  by_cases hlt : k < (runsRes f5 m5).length
  · obtain ⟨g, q, eA, hg, c0, hS0⟩ := HR.out.openR hbel hlt
    obtain ⟨_, _, eq0, hq1, hq2, hq3⟩ := hS0.here (by omega)
    simp only [Option.some.injEq, Addr.mk.injEq, and_true] at eq0
    obtain ⟨rfl, rfl⟩ := eq0
    have d0 : wr.cell? ⟨q, 0, none⟩ = some (.int .i64 ((runsRes f5 m5).getD k (0, 0)).1) := by
      have h := hq3 0 (by omega)
      simp only [flat2, show (k * 2 + 0) % 2 = 0 by omega, show (k * 2 + 0) / 2 = k by omega, if_true] at h
      exact h
    have d1 : wr.cell? ⟨q, 1, none⟩ = some (.int .i64 ((runsRes f5 m5).getD k (0, 0)).2) := by
      have h := hq3 1 (by omega)
      simp only [flat2, show ¬ (k * 2 + 1) % 2 = 0 by omega, show (k * 2 + 1) / 2 = k by omega, if_false] at h
      exact h
    obtain ⟨hap1, hap2⟩ := HAP.out k hlt
    have hl2 : lastOf (runsRes f5 m5) (k + 1) = ((runsRes f5 m5).getD k (0, 0)).2 := by simp [lastOf]
    have HL2 := Lib.hid hl2
    clear hl2 hq3 hS0
    subst eA
    generalize ((runsRes f5 m5).getD k (0, 0)).1 = pk at d0 hap1 hap2
    generalize hqk : ((runsRes f5 m5).getD k (0, 0)).2 = qk at d1 hap2
    have HQK := Lib.hid hqk
    clear hqk
    generalize hlk : lastOf (runsRes f5 m5) k = lk at hap1
    clear hlk
    have t1 : ¬ (pk ≤ lk) := by omega
    have t2 : ¬ (qk ≤ pk) := by omega
    have t1d : decide (pk ≤ lk) = false := by simp; omega
    have t2d : decide (qk ≤ pk) = false := by simp; omega
    clear hap1 hap2
    have hk0 : (0 : Int) ≤ (k : Int) := by omega
    have hk1 : (k : Int) < ((runsRes f5 m5).length : Int) := by omega
    go_wp2
    go_quiet (fail)
    go_wp2
    go_roundw
    case rel => exact ⟨⟨k + 1, by omega, by go_num, by rw [HL2.out, HQK.out]⟩, below_drewN hbel _⟩
    case measure => simp [intOf]; omega
  have hk1 : ¬ ((k : Int) < ((runsRes f5 m5).length : Int)) := by omega
  have hB := below_of HB.out hbel HB.out.size
  clear HR HAP HB hbel
  go_wp2_with fail
  refine (DrawTonsForDay_any A0 n0 c0 _ (HK.out _ hB) (by omega)).mono ?_
  rintro e w17 ⟨A6, m6, c6, f6, rfl, hm6, hd6, hb⟩
  have hB := below_of hB hb hB.size
  clear hb
  by_cases hc : goodRows f6 m6 = true ∧ sumW (daysAt f6) m6 ≠ 0
  · obtain ⟨hc1, hc2⟩ := hc
    have HC2 : Hid (sumW (daysAt f6) m6 ≠ 0) := hc2
    clear hc2
    go_wp2_with fail
    refine (TonsForDay_yes A6 m6 c6 _ _ f6 _ hd6.own.sl (by omega) hd6.le hc1 HC2.out).mono ?_
    rintro e w18 ⟨rfl, hb⟩
    have hB := below_of hB hb hB.size
    have hd6 := hd6.below hb
    clear hb
    go_wp2_with fail
    refine (sTonsForDay_yes A6 m6 c6 _ _ f6 _ hd6.own.sl (by omega) hd6.le hc1 HC2.out).mono ?_
    rintro e w19 ⟨rfl, hb⟩
    have hB := below_of hB hb hB.size
    clear hb
    go_wp2
    go_ret
    exact ⟨rfl, hB⟩
  · have hc' : Hid (goodRows f6 m6 = false ∨ sumW (daysAt f6) m6 = 0) := by cases hgd : goodRows f6 m6 with | false => exact Or.inl rfl | true => exact Or.inr (by simpa [hgd] using hc)
    clear hc
    go_wp2_with fail
    refine (TonsForDay_no A6 m6 c6 _ _ f6 _ hd6.own.sl (by omega) hd6.le hc'.out).mono ?_
    rintro e w18 ⟨rfl, hb⟩
    have hB := below_of hB hb hB.size
    have hd6 := hd6.below hb
    clear hb
    go_wp2_with fail
    refine (sTonsForDay_no A6 m6 c6 _ _ f6 _ hd6.own.sl (by omega) hd6.le hc'.out).mono ?_
    rintro e w19 ⟨rfl, hb⟩
    have hB := below_of hB hb hB.size
    clear hb
    go_wp2
    go_ret
    exact ⟨rfl, hB⟩
end Go.Proofs.Ytfejgoohefhjoaa
