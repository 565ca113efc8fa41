/-
  The walk of the law FnNests.
-/
import Derived.Test.YtcecpioiagfoiaaNestsP
import Derived.Test.YtcecpioiagfoiaaDrawN
import Derived.Deep.Cut
namespace Go.Proofs.Ytcecpioiagfoiaa
open Go.RowKit
set_option linter.unusedVariables false
set_option linter.unusedSimpArgs false
set_option maxRecDepth 100000 in
set_option maxHeartbeats 4000000 in
theorem FnNests_walk (A0 : Option Addr) (n0 c0 : Nat) (w : World) (hnc0 : n0 ≤ c0) (hcm0 : c0 ≤ maxLen) (hk0 : Code w A0 n0) :
    Calls Try.prog 3 #[.slice A0 n0 c0] w fun e w' => e = .returned (.bool true) ∧ Below w.heap.size w w' := by
  by_cases hbig : 65536 < n0
  · go_enter Try.func3, Try.ntmps3
    go_wp2_with fail
    refine (rBig_any A0 n0 c0 w).mono ?_
    rw [decide_eq_true hbig]
    rintro e w1 ⟨rfl, rfl⟩
    go_wp2
    go_ret
    exact ⟨rfl, Below.refl _ _⟩
  go_enter Try.func3, Try.ntmps3
  go_wp2_with fail
  refine (rBig_any A0 n0 c0 w).mono ?_
  rw [decide_eq_false hbig]
  rintro e wx ⟨rfl, hwx⟩
  rw [hwx]
  clear hwx wx
  go_wp2_with fail
  refine (DrawQuietPonds_any A0 n0 c0 w hk0 (by omega)).mono ?_
  rintro e w1 ⟨A1, m, c1, f, day, rfl, hm, hd, hB⟩
  have HK : Hid (∀ w', Below w.heap.size w w' → Code w' A0 n0) := fun w' h => hk0.below h
  clear hk0
  have hlq : (quietRes f m day).length ≤ 1048576 := by
    unfold quietRes; split
    · have := onceL_len (pick (aliveAt f day) (pondAt f) m); have := pick_len (aliveAt f day) (pondAt f) m; omega
    · simp
  have hla : (aliveRes f m day).length ≤ 1048576 := by
    unfold aliveRes; split
    · have := pick_len (aliveAt f day) (idAt f) m; omega
    · simp
  go_wp2_with fail
  refine (QuietPonds_any A1 m c1 _ _ f day _ hd.own.sl (by omega) hd.le).mono ?_
  rintro e w2 ⟨Aq, cq, rfl, hcq, hcqm, hq, hb⟩
  have hB := below_of hB hb hB.size
  have hd := hd.below hb
  clear hb
  go_wp2_with fail
  refine (sQuietPonds_any A1 m c1 _ _ f day _ hd.own.sl (by omega) hd.le).mono ?_
  rintro e w3 ⟨As, cs, rfl, hcs, hcsm, hs, hb⟩
  have hB := below_of hB hb hB.size
  have hd := hd.below hb
  have hq := hq.below hb
  clear hb
  go_wp2_with fail
  refine (rInts_same _ _ _ _ _ _ _ _ _ _ _ hq.sl hs.sl hlq).mono ?_
  rintro e w4 ⟨rfl, hb⟩
  have hB := below_of hB hb hB.size
  have hd := hd.below hb
  have hq := hq.below hb
  clear hb
  clear hs hcs hcsm
  go_wp2_with fail
  refine (AliveOn_any A1 m c1 _ _ f day _ hd.own.sl (by omega) hd.le).mono ?_
  rintro e w5 ⟨Aa, ca, rfl, hca, hcam, ha, hb⟩
  have hB := below_of hB hb hB.size
  have hd := hd.below hb
  have hq := hq.below hb
  clear hb
  go_wp2_with fail
  refine (sAliveOn_any A1 m c1 _ _ f day _ hd.own.sl (by omega) hd.le).mono ?_
  rintro e w6 ⟨Ab, cb, rfl, hcb, hcbm, hs, hb⟩
  have hB := below_of hB hb hB.size
  have hd := hd.below hb
  have hq := hq.below hb
  have ha := ha.below hb
  clear hb
  go_wp2_with fail
  refine (rInts_same _ _ _ _ _ _ _ _ _ _ _ ha.sl hs.sl hla).mono ?_
  rintro e w7 ⟨rfl, hb⟩
  have hB := below_of hB hb hB.size
  have hd := hd.below hb
  have hq := hq.below hb
  have ha := ha.below hb
  clear hb
  clear hs hcb hcbm
  have HD := Lib.hid hd
  have HQ := Lib.hid hq
  have HA := Lib.hid ha
  have HB := Lib.hid hB
  clear hd hq ha hB
  cases hok : aliveOk f m day with
  | false =>
    by_cases hm0 : 0 < m
    · have hmi : (0 : Int) < (m : Int) := by omega
      go_wp2_with fail
      go_loop [13] (fun iv => iv = .int .i64 0) (fun _ => 0)
      case atStart => rfl
      case round =>
      subst hrel
      have hB := HB.out
      clear HD HQ HA HB
      go_wp2_with fail
      refine (DrawLongestWork_any A0 n0 c0 _ (HK.out _ hB) (by omega)).mono ?_
      rintro e w9 ⟨A3, m3, c3, g, z0, z1, z2, rfl, hm3, hd, hb⟩
      have hB := below_of hB hb hB.size
      clear hb
      cases hsp : spanOk g m3 z0 z1 z2 with
      | false =>
        go_wp2_with fail
        refine (LongestWork_no A3 m3 c3 _ _ g z0 z1 z2 _ hd.own.sl (by omega) hd.le hsp).mono ?_
        rintro e wn1 ⟨rfl, hb⟩
        have hB := below_of hB hb hB.size
        have hd := hd.below hb
        clear hb
        go_wp2_with fail
        refine (sLongestWork_no A3 m3 c3 _ _ g z0 z1 z2 _ hd.own.sl (by omega) hd.le hsp).mono ?_
        rintro e wn2 ⟨rfl, hb⟩
        have hB := below_of hB hb hB.size
        have hd := hd.below hb
        clear hb
        go_wp2_with fail
        refine (WorkDays_no A3 m3 c3 _ _ g z0 z1 z2 _ hd.own.sl (by omega) hd.le hsp).mono ?_
        rintro e wn3 ⟨rfl, hb⟩
        have hB := below_of hB hb hB.size
        have hd := hd.below hb
        clear hb
        go_wp2_with fail
        refine (sWorkDays_no A3 m3 c3 _ _ g z0 z1 z2 _ hd.own.sl (by omega) hd.le hsp).mono ?_
        rintro e wn4 ⟨rfl, hb⟩
        have hB := below_of hB hb hB.size
        have hd := hd.below hb
        clear hb
        go_wp2
        go_ret
        exact ⟨rfl, hB⟩
      | true =>
        go_wp2_with fail
        refine (LongestWork_yes A3 m3 c3 _ _ g z0 z1 z2 _ hd.own.sl (by omega) hd.le hsp).mono ?_
        rintro e wn1 ⟨rfl, hb⟩
        have hB := below_of hB hb hB.size
        have hd := hd.below hb
        clear hb
        go_wp2_with fail
        refine (sLongestWork_yes A3 m3 c3 _ _ g z0 z1 z2 _ hd.own.sl (by omega) hd.le hsp).mono ?_
        rintro e wn2 ⟨rfl, hb⟩
        have hB := below_of hB hb hB.size
        have hd := hd.below hb
        clear hb
        go_wp2_with fail
        refine (WorkDays_yes A3 m3 c3 _ _ g z0 z1 z2 _ hd.own.sl (by omega) hd.le hsp).mono ?_
        rintro e wn3 ⟨rfl, hb⟩
        have hB := below_of hB hb hB.size
        have hd := hd.below hb
        clear hb
        go_wp2_with fail
        refine (sWorkDays_yes A3 m3 c3 _ _ g z0 z1 z2 _ hd.own.sl (by omega) hd.le hsp).mono ?_
        rintro e wn4 ⟨rfl, hb⟩
        have hB := below_of hB hb hB.size
        have hd := hd.below hb
        clear hb
        cases hlg : lgB g m3 z0 z1 z2 with
        | false =>
          go_wp2
          go_ret
          exact ⟨rfl, hB⟩
        | true =>
        obtain ⟨_, hsp2, hf0, hfl, hl4, hN, hND, haF, hLu⟩ := longest hlg
        have HW := fun lo W hs => WorkDays_yes A3 m3 c3 lo W.heap.size g z0 (lg1 g m3 z0 z1 z2) (lg2 g m3 z0 z1 z2) W hs (by omega) hd.le hsp2
        rw [hN] at HW hND
        have HW2 := Lib.hid HW
        clear HW hN hsp2 hlg
        generalize lg1 g m3 z0 z1 z2 = F at HW2 hf0 hfl hND haF ⊢
        generalize lg2 g m3 z0 z1 z2 = Z at HW2 hfl hl4 hND hLu ⊢
        generalize wdays (quietAt g m3 z0) z1 ((z2 - z1).toNat + 1) = DD at hND ⊢
        have t1 : wrap64 (Z - F) = Z - F := IntWalk.wrap64_in _ ⟨by omega, by omega⟩
        have t2 : wrap64 (Z - F + 1) = Z - F + 1 := IntWalk.wrap64_in _ ⟨by omega, by omega⟩
        have t3 : ¬ (DD < Z - F + 1) := by omega
        have t4 : ¬ (F < z1) := by omega
        have t5 : ¬ (z2 < Z) := by omega
        have t3d : decide (DD < Z - F + 1) = false := by simp; omega
        have t4d : decide (F < z1) = false := by simp; omega
        have t5d : decide (z2 < Z) = false := by simp; omega
        clear t3 t4 t5
        go_wp2_with fail
        refine (HW2.out _ _ (hd.own.sl)).mono ?_
        rintro e wn5 ⟨rfl, hb⟩
        have hB := below_of hB hb hB.size
        go_wp2
        go_ret
        exact ⟨rfl, hB⟩
    · obtain rfl : m = 0 := by omega
      go_wp2_with fail
      go_loop [13] (fun iv => iv = .int .i64 0) (fun _ => 0)
      case atStart => rfl
      case round =>
      subst hrel
      have hB := HB.out
      clear HD HQ HA HB
      go_wp2_with fail
      refine (DrawLongestWork_any A0 n0 c0 _ (HK.out _ hB) (by omega)).mono ?_
      rintro e w9 ⟨A3, m3, c3, g, z0, z1, z2, rfl, hm3, hd, hb⟩
      have hB := below_of hB hb hB.size
      clear hb
      cases hsp : spanOk g m3 z0 z1 z2 with
      | false =>
        go_wp2_with fail
        refine (LongestWork_no A3 m3 c3 _ _ g z0 z1 z2 _ hd.own.sl (by omega) hd.le hsp).mono ?_
        rintro e wn1 ⟨rfl, hb⟩
        have hB := below_of hB hb hB.size
        have hd := hd.below hb
        clear hb
        go_wp2_with fail
        refine (sLongestWork_no A3 m3 c3 _ _ g z0 z1 z2 _ hd.own.sl (by omega) hd.le hsp).mono ?_
        rintro e wn2 ⟨rfl, hb⟩
        have hB := below_of hB hb hB.size
        have hd := hd.below hb
        clear hb
        go_wp2_with fail
        refine (WorkDays_no A3 m3 c3 _ _ g z0 z1 z2 _ hd.own.sl (by omega) hd.le hsp).mono ?_
        rintro e wn3 ⟨rfl, hb⟩
        have hB := below_of hB hb hB.size
        have hd := hd.below hb
        clear hb
        go_wp2_with fail
        refine (sWorkDays_no A3 m3 c3 _ _ g z0 z1 z2 _ hd.own.sl (by omega) hd.le hsp).mono ?_
        rintro e wn4 ⟨rfl, hb⟩
        have hB := below_of hB hb hB.size
        have hd := hd.below hb
        clear hb
        go_wp2
        go_ret
        exact ⟨rfl, hB⟩
      | true =>
        go_wp2_with fail
        refine (LongestWork_yes A3 m3 c3 _ _ g z0 z1 z2 _ hd.own.sl (by omega) hd.le hsp).mono ?_
        rintro e wn1 ⟨rfl, hb⟩
        have hB := below_of hB hb hB.size
        have hd := hd.below hb
        clear hb
        go_wp2_with fail
        refine (sLongestWork_yes A3 m3 c3 _ _ g z0 z1 z2 _ hd.own.sl (by omega) hd.le hsp).mono ?_
        rintro e wn2 ⟨rfl, hb⟩
        have hB := below_of hB hb hB.size
        have hd := hd.below hb
        clear hb
        go_wp2_with fail
        refine (WorkDays_yes A3 m3 c3 _ _ g z0 z1 z2 _ hd.own.sl (by omega) hd.le hsp).mono ?_
        rintro e wn3 ⟨rfl, hb⟩
        have hB := below_of hB hb hB.size
        have hd := hd.below hb
        clear hb
        go_wp2_with fail
        refine (sWorkDays_yes A3 m3 c3 _ _ g z0 z1 z2 _ hd.own.sl (by omega) hd.le hsp).mono ?_
        rintro e wn4 ⟨rfl, hb⟩
        have hB := below_of hB hb hB.size
        have hd := hd.below hb
        clear hb
        cases hlg : lgB g m3 z0 z1 z2 with
        | false =>
          go_wp2
          go_ret
          exact ⟨rfl, hB⟩
        | true =>
        obtain ⟨_, hsp2, hf0, hfl, hl4, hN, hND, haF, hLu⟩ := longest hlg
        have HW := fun lo W hs => WorkDays_yes A3 m3 c3 lo W.heap.size g z0 (lg1 g m3 z0 z1 z2) (lg2 g m3 z0 z1 z2) W hs (by omega) hd.le hsp2
        rw [hN] at HW hND
        have HW2 := Lib.hid HW
        clear HW hN hsp2 hlg
        generalize lg1 g m3 z0 z1 z2 = F at HW2 hf0 hfl hND haF ⊢
        generalize lg2 g m3 z0 z1 z2 = Z at HW2 hfl hl4 hND hLu ⊢
        generalize wdays (quietAt g m3 z0) z1 ((z2 - z1).toNat + 1) = DD at hND ⊢
        have t1 : wrap64 (Z - F) = Z - F := IntWalk.wrap64_in _ ⟨by omega, by omega⟩
        have t2 : wrap64 (Z - F + 1) = Z - F + 1 := IntWalk.wrap64_in _ ⟨by omega, by omega⟩
        have t3 : ¬ (DD < Z - F + 1) := by omega
        have t4 : ¬ (F < z1) := by omega
        have t5 : ¬ (z2 < Z) := by omega
        have t3d : decide (DD < Z - F + 1) = false := by simp; omega
        have t4d : decide (F < z1) = false := by simp; omega
        have t5d : decide (z2 < Z) = false := by simp; omega
        clear t3 t4 t5
        go_wp2_with fail
        refine (HW2.out _ _ (hd.own.sl)).mono ?_
        rintro e wn5 ⟨rfl, hb⟩
        have hB := below_of hB hb hB.size
        go_wp2
        go_ret
        exact ⟨rfl, hB⟩
  | true =>
    have HOK := Lib.hid hok
    go_wp2_with fail
    go_loopw [13] (fun iv wr => (∃ i : Nat, i ≤ m ∧ iv = .int .i64 i) ∧ Below w7.heap.size w7 wr) (fun iv _ => m - (intOf iv).toNat)
    case atStart => exact ⟨⟨0, Nat.zero_le _, rfl⟩, Below.refl _ _⟩
    case round =>
    obtain ⟨⟨i, hi, rfl⟩, hbel⟩ := hrel
    by_cases hlt : i < m
    · have hsp := span_one HOK.out hlt
      have hqh := quiet_has HOK.out (f (i * 7 + 2))
      have hah := alive_has HOK.out hlt
      have hQ := HQ.out.below hbel
      have hA := HA.out.below hbel
      have hd := HD.out.below hbel
      obtain ⟨b, off, eA, hbw, HC⟩ := HD.out.own.sl.open_ hbel (by omega)
      obtain ⟨c0', c1', c2', c3', c4', c5', c6'⟩ := cell7 HC hlt
      subst eA
      have hi0 : (0 : Int) ≤ (i : Int) := by omega
      have hi1 : (i : Int) < (m : Int) := by omega
      have HW := fun W hs => WorkDays_yes (some ⟨b, off, none⟩) m c1 w.heap.size W.heap.size f (f (i * 7 + 2)) day day W hs (by omega) hd.le hsp
      rw [wdays_one] at HW
      have HW2 := Lib.hid HW
      have HHQ := fun W hs => rHas_any Aq (quietRes f m day).length cq w1.heap.size w2.heap.size (fun j => (quietRes f m day).getD j 0) (f (i * 7 + 2)) W hs hlq
      rw [hqh] at HHQ
      have HHQ2 := Lib.hid HHQ
      have HHA := fun W hs => rHas_any Aa (aliveRes f m day).length ca w4.heap.size w5.heap.size (fun j => (aliveRes f m day).getD j 0) (f (i * 7)) W hs hla
      generalize hasB (fun j => (aliveRes f m day).getD j 0) (aliveRes f m day).length (f (i * 7)) = ba at hah HHA
      have HHA2 := Lib.hid HHA
      generalize quietAt f m (f (i * 7 + 2)) day = bq at hah HW2 HHQ2
      have HQ1 := Lib.hid hQ
      have HA1 := Lib.hid hA
      have HD1 := Lib.hid hd
      clear HC hqh HW HHQ HHA hQ hA hd hsp c1' c3' c4' c5' c6'
      have hcase : (bq = true ∧ ba = true) ∨ ba = false := by cases ba with | false => exact Or.inr rfl | true => exact Or.inl ⟨hah rfl, rfl⟩
      clear hah
      rcases hcase with ⟨rfl, rfl⟩ | rfl
      · go_wp2_with fail
        refine (HHA2.out _ HA1.out.sl).mono ?_
        rintro e wx ⟨rfl, hwx⟩
        rw [hwx]
        clear hwx wx
        go_wp2_with fail
        refine (HHQ2.out _ HQ1.out.sl).mono ?_
        rintro e wx ⟨rfl, hwx⟩
        rw [hwx]
        clear hwx wx
        go_wp2_with fail
        refine (HW2.out _ HD1.out.own.sl).mono ?_
        rintro e w8 ⟨rfl, hb8⟩
        have HQ8 := Lib.hid (HQ1.out.below hb8)
        obtain ⟨_, hC8⟩ : True ∧ w8.cell? ⟨b, off + i * 7 + 2, none⟩ = some (.int .i64 (f (i * 7 + 2))) := ⟨trivial, (hb8.cell (p := ⟨b, off + i * 7 + 2, none⟩) hbw).trans c2'⟩
        clear c0' c2'
        go_wp2_with fail
        refine (HHQ2.out _ HQ8.out.sl).mono ?_
        rintro e wx ⟨rfl, hwx⟩
        rw [hwx]
        clear hwx wx
        go_wp2
        go_roundw
        case rel => exact ⟨⟨i + 1, by omega, by go_num⟩, below_of hbel hb8 hbel.size⟩
        case measure => simp [intOf]; omega
      · cases bq with
        | false =>
          go_wp2_with fail
          refine (HHA2.out _ HA1.out.sl).mono ?_
          rintro e wx ⟨rfl, hwx⟩
          rw [hwx]
          clear hwx wx
          go_wp2_with fail
          refine (HW2.out _ HD1.out.own.sl).mono ?_
          rintro e w8 ⟨rfl, hb8⟩
          have HQ8 := Lib.hid (HQ1.out.below hb8)
          obtain ⟨_, hC8⟩ : True ∧ w8.cell? ⟨b, off + i * 7 + 2, none⟩ = some (.int .i64 (f (i * 7 + 2))) := ⟨trivial, (hb8.cell (p := ⟨b, off + i * 7 + 2, none⟩) hbw).trans c2'⟩
          clear c0' c2'
          go_wp2_with fail
          refine (HHQ2.out _ HQ8.out.sl).mono ?_
          rintro e wx ⟨rfl, hwx⟩
          rw [hwx]
          clear hwx wx
          go_wp2
          go_roundw
          case rel => exact ⟨⟨i + 1, by omega, by go_num⟩, below_of hbel hb8 hbel.size⟩
          case measure => simp [intOf]; omega
        | true =>
          go_wp2_with fail
          refine (HHA2.out _ HA1.out.sl).mono ?_
          rintro e wx ⟨rfl, hwx⟩
          rw [hwx]
          clear hwx wx
          go_wp2_with fail
          refine (HW2.out _ HD1.out.own.sl).mono ?_
          rintro e w8 ⟨rfl, hb8⟩
          have HQ8 := Lib.hid (HQ1.out.below hb8)
          obtain ⟨_, hC8⟩ : True ∧ w8.cell? ⟨b, off + i * 7 + 2, none⟩ = some (.int .i64 (f (i * 7 + 2))) := ⟨trivial, (hb8.cell (p := ⟨b, off + i * 7 + 2, none⟩) hbw).trans c2'⟩
          clear c0' c2'
          go_wp2_with fail
          refine (HHQ2.out _ HQ8.out.sl).mono ?_
          rintro e wx ⟨rfl, hwx⟩
          rw [hwx]
          clear hwx wx
          go_wp2
          go_roundw
          case rel => exact ⟨⟨i + 1, by omega, by go_num⟩, below_of hbel hb8 hbel.size⟩
          case measure => simp [intOf]; omega
    have hi1 : ¬ ((i : Int) < (m : Int)) := by omega
    have hB := below_of HB.out hbel HB.out.size
    clear HD HQ HA HB hbel HOK
    go_wp2_with fail
    refine (DrawLongestWork_any A0 n0 c0 _ (HK.out _ hB) (by omega)).mono ?_
    rintro e w9 ⟨A3, m3, c3, g, z0, z1, z2, rfl, hm3, hd, hb⟩
    have hB := below_of hB hb hB.size
    clear hb
    cases hsp : spanOk g m3 z0 z1 z2 with
    | false =>
      go_wp2_with fail
      refine (LongestWork_no A3 m3 c3 _ _ g z0 z1 z2 _ hd.own.sl (by omega) hd.le hsp).mono ?_
      rintro e wn1 ⟨rfl, hb⟩
      have hB := below_of hB hb hB.size
      have hd := hd.below hb
      clear hb
      go_wp2_with fail
      refine (sLongestWork_no A3 m3 c3 _ _ g z0 z1 z2 _ hd.own.sl (by omega) hd.le hsp).mono ?_
      rintro e wn2 ⟨rfl, hb⟩
      have hB := below_of hB hb hB.size
      have hd := hd.below hb
      clear hb
      go_wp2_with fail
      refine (WorkDays_no A3 m3 c3 _ _ g z0 z1 z2 _ hd.own.sl (by omega) hd.le hsp).mono ?_
      rintro e wn3 ⟨rfl, hb⟩
      have hB := below_of hB hb hB.size
      have hd := hd.below hb
      clear hb
      go_wp2_with fail
      refine (sWorkDays_no A3 m3 c3 _ _ g z0 z1 z2 _ hd.own.sl (by omega) hd.le hsp).mono ?_
      rintro e wn4 ⟨rfl, hb⟩
      have hB := below_of hB hb hB.size
      have hd := hd.below hb
      clear hb
      go_wp2
      go_ret
      exact ⟨rfl, hB⟩
    | true =>
      go_wp2_with fail
      refine (LongestWork_yes A3 m3 c3 _ _ g z0 z1 z2 _ hd.own.sl (by omega) hd.le hsp).mono ?_
      rintro e wn1 ⟨rfl, hb⟩
      have hB := below_of hB hb hB.size
      have hd := hd.below hb
      clear hb
      go_wp2_with fail
      refine (sLongestWork_yes A3 m3 c3 _ _ g z0 z1 z2 _ hd.own.sl (by omega) hd.le hsp).mono ?_
      rintro e wn2 ⟨rfl, hb⟩
      have hB := below_of hB hb hB.size
      have hd := hd.below hb
      clear hb
      go_wp2_with fail
      refine (WorkDays_yes A3 m3 c3 _ _ g z0 z1 z2 _ hd.own.sl (by omega) hd.le hsp).mono ?_
      rintro e wn3 ⟨rfl, hb⟩
      have hB := below_of hB hb hB.size
      have hd := hd.below hb
      clear hb
      go_wp2_with fail
      refine (sWorkDays_yes A3 m3 c3 _ _ g z0 z1 z2 _ hd.own.sl (by omega) hd.le hsp).mono ?_
      rintro e wn4 ⟨rfl, hb⟩
      have hB := below_of hB hb hB.size
      have hd := hd.below hb
      clear hb
      cases hlg : lgB g m3 z0 z1 z2 with
      | false =>
        go_wp2
        go_ret
        exact ⟨rfl, hB⟩
      | true =>
      obtain ⟨_, hsp2, hf0, hfl, hl4, hN, hND, haF, hLu⟩ := longest hlg
      have HW := fun lo W hs => WorkDays_yes A3 m3 c3 lo W.heap.size g z0 (lg1 g m3 z0 z1 z2) (lg2 g m3 z0 z1 z2) W hs (by omega) hd.le hsp2
      rw [hN] at HW hND
      have HW2 := Lib.hid HW
      clear HW hN hsp2 hlg
      generalize lg1 g m3 z0 z1 z2 = F at HW2 hf0 hfl hND haF ⊢
      generalize lg2 g m3 z0 z1 z2 = Z at HW2 hfl hl4 hND hLu ⊢
      generalize wdays (quietAt g m3 z0) z1 ((z2 - z1).toNat + 1) = DD at hND ⊢
      have t1 : wrap64 (Z - F) = Z - F := IntWalk.wrap64_in _ ⟨by omega, by omega⟩
      have t2 : wrap64 (Z - F + 1) = Z - F + 1 := IntWalk.wrap64_in _ ⟨by omega, by omega⟩
      have t3 : ¬ (DD < Z - F + 1) := by omega
      have t4 : ¬ (F < z1) := by omega
      have t5 : ¬ (z2 < Z) := by omega
      have t3d : decide (DD < Z - F + 1) = false := by simp; omega
      have t4d : decide (F < z1) = false := by simp; omega
      have t5d : decide (z2 < Z) = false := by simp; omega
      clear t3 t4 t5
      go_wp2_with fail
      refine (HW2.out _ _ (hd.own.sl)).mono ?_
      rintro e wn5 ⟨rfl, hb⟩
      have hB := below_of hB hb hB.size
      go_wp2
      go_ret
      exact ⟨rfl, hB⟩
end Go.Proofs.Ytcecpioiagfoiaa
