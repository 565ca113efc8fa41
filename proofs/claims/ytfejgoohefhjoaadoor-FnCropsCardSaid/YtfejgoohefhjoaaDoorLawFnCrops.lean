/-
  The walk of the law FnCrops.
-/
import Derived.Test.YtfejgoohefhjoaaDoorCropsP
import Derived.Test.YtfejgoohefhjoaaDoorDrawC
import Derived.Test.YtfejgoohefhjoaaDoorDrawOne
import Derived.Test.YtfejgoohefhjoaaDoorRels
import Derived.Deep.Cut
namespace Go.Proofs.YtfejgoohefhjoaaDoor
open Go.RowKit
set_option linter.unusedVariables false
set_option linter.unusedSimpArgs false
theorem repR_size (f : Nat → Int) (n : Nat) : (repR f n).size ≤ 100000 := by
  unfold repR
  split
  · rename_i h
    have h1 := repTo_size h n (Nat.le_refl _)
    have h2 := rows_len h
    have h3 := sumR_ok h n (Nat.le_refl _)
    have h4 := numB_size (n := sumR f n) (by omega) (by omega)
    have h5 : (ByteArray.mk #[119, 111, 114, 116, 104, 32]).size = 6 := rfl
    simp only [ByteArray.size_append', h5]
    omega
  · exact Nat.zero_le _
theorem WorthOf_yes (A : Option Addr) (n c lo hi : Nat) (f : Nat → Int) (w : World) (hs : Sl w lo hi 5 A n f) (hn : n ≤ 1048576) (hnc : n ≤ c) (h : goodRows f n = true) :
    Calls Tryd.prog 6 #[.slice A n c] w fun e w' => ∃ A' c', e = .returned (.tuple #[.slice A' n c', .bool true]) ∧ n ≤ c' ∧ c' ≤ maxLen ∧ Own w' w.heap.size w'.heap.size 3 1 A' n (worthAt f) ∧ Below w.heap.size w w' := by
  refine (WorthOf_any A n c lo hi f w hs hn hnc).mono ?_
  rintro e w' ⟨A', c', rfl, h1, h2, h3, h4⟩
  have e1 : worthRes f n = worthList f n := by simp [worthRes, h]
  have el : (worthRes f n).length = n := by rw [e1, worthList_len]
  rw [el] at h1 h3 ⊢
  rw [h]
  refine ⟨A', c', rfl, h1, h2, h3.congr (fun j hj => ?_), h4⟩
  rw [e1]
  simp only [Nat.mul_one] at hj
  simp [worthList, List.getD, hj]
theorem sWorthOf_yes (A : Option Addr) (n c lo hi : Nat) (f : Nat → Int) (w : World) (hs : Sl w lo hi 5 A n f) (hn : n ≤ 1048576) (hnc : n ≤ c) (h : goodRows f n = true) :
    Calls Tryd.prog 7 #[.slice A n c] w fun e w' => ∃ A' c', e = .returned (.tuple #[.slice A' n c', .bool true]) ∧ n ≤ c' ∧ c' ≤ maxLen ∧ Own w' w.heap.size w'.heap.size 3 1 A' n (worthAt f) ∧ Below w.heap.size w w' := by
  refine (sWorthOf_any A n c lo hi f w hs hn hnc).mono ?_
  rintro e w' ⟨A', c', rfl, h1, h2, h3, h4⟩
  have e1 : worthRes f n = worthList f n := by simp [worthRes, h]
  have el : (worthRes f n).length = n := by rw [e1, worthList_len]
  rw [el] at h1 h3 ⊢
  rw [h]
  refine ⟨A', c', rfl, h1, h2, h3.congr (fun j hj => ?_), h4⟩
  rw [e1]
  simp only [Nat.mul_one] at hj
  simp [worthList, List.getD, hj]
theorem WorthOf_no (A : Option Addr) (n c lo hi : Nat) (f : Nat → Int) (w : World) (hs : Sl w lo hi 5 A n f) (hn : n ≤ 1048576) (hnc : n ≤ c) (h : goodRows f n = false ∨ n = 0) :
    Calls Tryd.prog 6 #[.slice A n c] w fun e w' => ∃ A' c', e = .returned (.tuple #[.slice A' 0 c', .bool (goodRows f n)]) ∧ 0 ≤ c' ∧ c' ≤ maxLen ∧ Own w' w.heap.size w'.heap.size 3 1 A' 0 (worthAt f) ∧ Below w.heap.size w w' := by
  refine (WorthOf_any A n c lo hi f w hs hn hnc).mono ?_
  rintro e w' ⟨A', c', rfl, h1, h2, h3, h4⟩
  have el : (worthRes f n).length = 0 := by
    rcases h with h | h
    · simp [worthRes, h]
    · subst h; unfold worthRes; split <;> simp [worthList]
  rw [el] at h1 h3 ⊢
  exact ⟨A', c', rfl, h1, h2, h3.congr (fun j hj => absurd hj (by omega)), h4⟩
theorem sWorthOf_no (A : Option Addr) (n c lo hi : Nat) (f : Nat → Int) (w : World) (hs : Sl w lo hi 5 A n f) (hn : n ≤ 1048576) (hnc : n ≤ c) (h : goodRows f n = false ∨ n = 0) :
    Calls Tryd.prog 7 #[.slice A n c] w fun e w' => ∃ A' c', e = .returned (.tuple #[.slice A' 0 c', .bool (goodRows f n)]) ∧ 0 ≤ c' ∧ c' ≤ maxLen ∧ Own w' w.heap.size w'.heap.size 3 1 A' 0 (worthAt f) ∧ Below w.heap.size w w' := by
  refine (sWorthOf_any A n c lo hi f w hs hn hnc).mono ?_
  rintro e w' ⟨A', c', rfl, h1, h2, h3, h4⟩
  have el : (worthRes f n).length = 0 := by
    rcases h with h | h
    · simp [worthRes, h]
    · subst h; unfold worthRes; split <;> simp [worthList]
  rw [el] at h1 h3 ⊢
  exact ⟨A', c', rfl, h1, h2, h3.congr (fun j hj => absurd hj (by omega)), h4⟩
set_option maxRecDepth 100000 in
set_option maxHeartbeats 4000000 in
theorem FnCrops_walk (A0 : Option Addr) (n0 c0 : Nat) (w : World) (hnc0 : n0 ≤ c0) (hcm0 : c0 ≤ maxLen) (hk0 : Code w A0 n0) (ht : Tab w) :
    Calls Tryd.prog 3 #[.slice A0 n0 c0] w fun e w' => e = .returned (.bool true) ∧ Below w.heap.size w w' := by
  by_cases hbig : 65536 < n0
  · go_enter Tryd.func3, Tryd.ntmps3
    go_wp2_with fail
    refine (rBig_any A0 n0 c0 w).mono ?_
    rw [decide_eq_true hbig]
    rintro e w1 ⟨rfl, rfl⟩
    go_wp2
    go_ret
    exact ⟨rfl, Below.refl _ _⟩
  go_enter Tryd.func3, Tryd.ntmps3
  go_wp2_with fail
  refine (rBig_any A0 n0 c0 w).mono ?_
  rw [decide_eq_false hbig]
  rintro e wx ⟨rfl, hwx⟩
  rw [hwx]
  clear hwx wx
  have HTT := Lib.hid ht
  go_wp2_with fail
  refine (DrawWorthOf_any A0 n0 c0 w hk0 (by omega)).mono ?_
  rintro e w1 ⟨A1, m, c1, f, rfl, hm, hd, hB⟩
  have HK : Hid (∀ w', Below w.heap.size w w' → Code w' A0 n0) := fun w' h => hk0.below h
  clear hk0
  by_cases hc : goodRows f m = true ∧ 0 < m
  · obtain ⟨hg, hm0⟩ := hc
    by_cases hm2 : 2 ≤ m
    · go_wp2_with fail
      refine (WorthOf_yes A1 m c1 _ _ f _ hd.own.sl (by omega) hd.le hg).mono ?_
      rintro e w2 ⟨Ay, cy, rfl, hcy, hcym, hy, hb⟩
      have hB := below_of hB hb hB.size
      have hd := hd.below hb
      clear hb
      go_wp2_with fail
      refine (sWorthOf_yes A1 m c1 _ _ f _ hd.own.sl (by omega) hd.le hg).mono ?_
      rintro e w3 ⟨As, cs, rfl, hcs, hcsm, hs, hb⟩
      have hB := below_of hB hb hB.size
      have hd := hd.below hb
      have hy := hy.below hb
      clear hb
      go_wp2_with fail
      refine (rInts_same _ _ _ _ _ _ _ _ _ _ _ hy.sl hs.sl (by omega)).mono ?_
      rintro e w4 ⟨rfl, hb⟩
      have hB := below_of hB hb hB.size
      have hd := hd.below hb
      have hy := hy.below hb
      clear hb
      clear hs hcs hcsm
      go_wp2_with fail
      refine (AreCropRows_any A1 m c1 _ _ f _ hd.own.sl (by omega) hd.le).mono ?_
      rw [hg]
      rintro e w5 ⟨rfl, hb⟩
      have hB := below_of hB hb hB.size
      have hd := hd.below hb
      have hy := hy.below hb
      clear hb
      go_wp2_with fail
      refine (BestCrop_yes A1 m c1 _ _ f _ hd.own.sl (by omega) hd.le hg hm0).mono ?_
      rintro e w6 ⟨rfl, hb⟩
      have hB := below_of hB hb hB.size
      have hd := hd.below hb
      have hy := hy.below hb
      clear hb
      go_wp2_with fail
      refine (sBestCrop_yes A1 m c1 _ _ f _ hd.own.sl (by omega) hd.le hg hm0).mono ?_
      rintro e w7 ⟨rfl, hb⟩
      have hB := below_of hB hb hB.size
      have hd := hd.below hb
      have hy := hy.below hb
      clear hb
      go_wp2_with fail
      refine (WorstFall_yes A1 m c1 _ _ f _ hd.own.sl (by omega) hd.le hg hm2).mono ?_
      rintro e w8 ⟨rfl, hb⟩
      have hB := below_of hB hb hB.size
      have hd := hd.below hb
      have hy := hy.below hb
      clear hb
      go_wp2_with fail
      refine (sWorstFall_yes A1 m c1 _ _ f _ hd.own.sl (by omega) hd.le hg hm2).mono ?_
      rintro e w9 ⟨rfl, hb⟩
      have hB := below_of hB hb hB.size
      have hd := hd.below hb
      have hy := hy.below hb
      clear hb
      generalize hX : f ((wsOut f m m).1 * 5) = X
      generalize hY : f ((wsOut f m m).2 * 5) = Y
      have HT : Hid (∀ i k, i < k → k < m → ¬ fallTo f X Y m < wrap64 (worthAt f i - worthAt f k)) := fun i k h1 h2 => by rw [← hX, ← hY]; exact fall_max hg hm2 i k h1 h2
      clear hX hY
      generalize hZ : f (bestTo f m * 5) = Z
      have HM : Hid (∀ i, i < m → ¬ mostTo f Z m < worthAt f i) := fun i h1 => by rw [← hZ]; exact most_max hg hm0 i h1
      clear hZ
      have HY := Lib.hid hy
      have HD := Lib.hid hd
      clear hy hd
      go_wp2_with fail
      go_loop [18, 19, 20] (fun mv fv iv => ∃ k : Nat, k ≤ m ∧ iv = .int .i64 k ∧ mv = .int .i64 (mostTo f Z k) ∧ fv = .int .i64 (fallTo f X Y k)) (fun _ _ iv => m - (intOf iv).toNat)
      case atStart => exact ⟨0, Nat.zero_le _, rfl, rfl, rfl⟩
      case round =>
      obtain ⟨k, hk, rfl, rfl, rfl⟩ := hrel
      by_cases hlt : k < m
      · obtain ⟨b, off, eA, hbw, HC⟩ := HD.out.own.sl.open_ (Below.refl _ _) (by omega)
        obtain ⟨c0, c1', c2, c3, c4⟩ := cell5 HC hlt
        obtain ⟨b2, off2, eA2, hbw2, HC2⟩ := HY.out.sl.open_ (Below.refl _ _) (by omega)
        have d0 := HC2.out k (by omega)
        subst eA eA2
        have hk0 : (0 : Int) ≤ (k : Int) := by omega
        have hk1 : (k : Int) < (m : Int) := by omega
        clear HC HC2 c1' c2 c3 c4
        have hs1 : mostTo f Z (k + 1) = if f (k * 5) = Z then worthAt f k else mostTo f Z k := rfl
        have hs2 : fallTo f X Y (k + 1) = if f (k * 5) = Y then wrap64 ((if f (k * 5) = X then wrap64 (fallTo f X Y k + worthAt f k) else fallTo f X Y k) - worthAt f k) else (if f (k * 5) = X then wrap64 (fallTo f X Y k + worthAt f k) else fallTo f X Y k) := rfl
        have HS1 := Lib.hid hs1
        have HS2 := Lib.hid hs2
        clear hs1 hs2
        by_cases e1 : f (k * 5) = Z <;> by_cases e2 : f (k * 5) = X <;> by_cases e3 : f (k * 5) = Y
        all_goals
          have E1 := Lib.hid e1
          have E2 := Lib.hid e2
          have E3 := Lib.hid e3
          first | (have t1 : (f (k * 5) == Z) = true := by simp [e1]) | (have t1 : (f (k * 5) == Z) = false := by simp [e1])
          first | (have t2 : (f (k * 5) == X) = true := by simp [e2]) | (have t2 : (f (k * 5) == X) = false := by simp [e2])
          first | (have t3 : (f (k * 5) == Y) = true := by simp [e3]) | (have t3 : (f (k * 5) == Y) = false := by simp [e3])
          clear e1 e2 e3
          go_wp2
          go_round
          case rel => exact ⟨k + 1, by omega, by go_num, by rw [HS1.out]; first | rw [if_pos E1.out] | rw [if_neg E1.out], by rw [HS2.out]; (first | rw [if_pos E3.out] | rw [if_neg E3.out]); (first | rw [if_pos E2.out] | rw [if_neg E2.out])⟩
          case measure => simp [intOf]; omega
      obtain rfl : k = m := by omega
      have hk1 : ¬ ((k : Int) < (k : Int)) := by omega
      generalize hMO : mostTo f Z k = MO at HM
      generalize hFO : fallTo f X Y k = FO at HT
      clear hMO hFO
      go_wp2_with fail
      go_loopw [21] (fun iv wr => (∃ i : Nat, i ≤ k ∧ iv = .int .i64 i) ∧ Below w9.heap.size w9 wr) (fun iv _ => k - (intOf iv).toNat)
      case atStart => exact ⟨⟨0, Nat.zero_le _, rfl⟩, Below.refl _ _⟩
      case round =>
      obtain ⟨⟨i, hi, rfl⟩, hbel⟩ := hrel
      by_cases hlt : i < k
      · obtain ⟨b2, off2, eA2, hbw2, HC2⟩ := HY.out.sl.open_ hbel (by omega)
        have d0 := HC2.out i (by omega)
        subst eA2
        have hi0 : (0 : Int) ≤ (i : Int) := by omega
        have hi1 : (i : Int) < (k : Int) := by omega
        have hm1 := HM.out i hlt
        have hm1d : decide (MO < worthAt f i) = false := by simp; omega
        have hiw : IntKind.i64.wrap ((i : Int) + 1) = ((i + 1 : Nat) : Int) := by rw [IntKind.wrap_i64]; omega
        clear HC2
        go_wp2_with fail
        go_loopw [22] (fun jv wr => (∃ j : Nat, i < j ∧ j ≤ k ∧ jv = .int .i64 j) ∧ Below w9.heap.size w9 wr) (fun jv _ => k - (intOf jv).toNat)
        case atStart => exact ⟨⟨i + 1, by omega, by omega, by first | rfl | (congr 1; omega)⟩, hbel⟩
        case round =>
        clear hbel d0
        obtain ⟨⟨j, hij, hj, rfl⟩, hbel⟩ := hrel
        by_cases hltj : j < k
        · obtain ⟨b2, off2, eA2, hbw2, HC2⟩ := HY.out.sl.open_ hbel (by omega)
          have d0 := HC2.out i (by omega)
          have d1 := HC2.out j (by omega)
          cases eA2
          have hj0 : (0 : Int) ≤ (j : Int) := by omega
          have hj1 : (j : Int) < (k : Int) := by omega
          clear HC2
          have hm2' := HT.out i j hij hltj
          have hm2d : decide (FO < wrap64 (worthAt f i - worthAt f j)) = false := by simp; omega
          go_wp2
          go_quiet (fail)
          go_wp2
          go_roundw
          case rel => exact ⟨⟨j + 1, by omega, by omega, by go_num⟩, below_drewN hbel _⟩
          case measure => simp [intOf]; omega
        · have hj1 : ¬ ((j : Int) < (k : Int)) := by omega
          go_wp2
          go_roundw
          case rel => exact ⟨⟨i + 1, by omega, by go_num⟩, hbel⟩
          case measure => simp [intOf]; omega
      have hi1 : ¬ ((i : Int) < (k : Int)) := by omega
      have hd := HD.out.below hbel
      have hB := below_of hB hbel hB.size
      clear HY HD HM HT hbel
      go_wp2_with fail
      refine (CropReport_any A1 k c1 _ _ f _ hd.own.sl (by omega) hd.le (ht.below hB)).mono ?_
      rintro e w10 ⟨rfl, hb⟩
      have hB := below_of hB hb hB.size
      have hd := hd.below hb
      clear hb
      go_wp2_with fail
      refine (sCropReport_any A1 k c1 _ _ f _ hd.own.sl (by omega) hd.le).mono ?_
      rintro e w11 ⟨rfl, hb⟩
      have hB := below_of hB hb hB.size
      clear hb
      clear hd
      have HNL : Hid (goodRows f k = true → nlTo (repR f k) (repR f k).size = k) := fun h => by rw [nlTo_all _ (Nat.le_refl _)]; exact nlIn_report h
      have hrs := repR_size f k
      obtain ⟨R, hR⟩ : ∃ R, R = repR f k := ⟨_, rfl⟩
      rw [← hR] at HNL hrs ⊢
      clear hR
      have HB := Lib.hid hB
      clear hB
      go_wp2_with fail
      go_loop [27, 28] (fun lv iv => ∃ i : Nat, i ≤ R.size ∧ iv = .int .i64 i ∧ lv = .int .i64 (nlTo R i : Nat)) (fun _ iv => R.size - (intOf iv).toNat)
      case atStart => exact ⟨0, Nat.zero_le _, rfl, rfl⟩
      case round =>
      obtain ⟨i, hi, rfl, rfl⟩ := hrel
      by_cases hlt : i < R.size
      · have hi0 : (0 : Int) ≤ (i : Int) := by omega
        have hi1 : (i : Int) < (R.size : Int) := by omega
        have HST := Lib.hid (nlTo_step R hlt)
        have hnl := nlTo_le R i
        have hlw : IntKind.i64.wrap ((nlTo R i : Int) + 1) = ((nlTo R i + 1 : Nat) : Int) := by rw [IntKind.wrap_i64]; omega
        go_wp2
        all_goals
          rename_i htest
          go_round
          case rel => exact ⟨i + 1, by omega, by go_num, by first | (rw [nl_yes hlt htest]; simp; done) | rw [nl_no hlt htest]⟩
          case measure => simp [intOf]; omega
      obtain rfl : i = R.size := by omega
      have hi1 : ¬ ((R.size : Int) < (R.size : Int)) := by omega
      have hB := HB.out
      have hnn := HNL.out hg
      generalize nlTo R R.size = nn at hnn ⊢
      subst hnn
      clear HNL HB
      go_wp2_with fail
      refine (DrawCropLine_any A0 n0 c0 _ (HK.out _ hB) (by omega)).mono ?_
      rintro e w12 ⟨a0, a1, a2, a3, a4, rfl, hb⟩
      have hB := below_of hB hb hB.size
      clear hb
      go_wp2_with fail
      refine nameC ?_
      intro w13 hw13
      have hX : Blk w13 w12.heap.size 36 [a0, a1, a2, a3, a4] := by rw [hw13]; exact Blk.new [a0, a1, a2, a3, a4] rfl
      have hb : Below w12.heap.size w12 w13 := by rw [hw13]; exact (Below.refl _ _).alloc (Nat.le_refl _) _
      have hB := below_of hB hb hB.size
      clear hb hw13
      generalize w12.heap.size = bx at hX ⊢
      have H1 := fun W ht => CropLine_any a0 a1 a2 a3 a4 W ht
      have H2 := fun W => sCropLine_any a0 a1 a2 a3 a4 W
      have H3 := fun W => IsCropRow_any a0 a1 a2 a3 a4 W
      generalize (if okRow a0 a1 a2 a3 a4 = true then lineText a0 a1 a2 a3 else ⟨#[]⟩) = ST at H1 H2
      generalize okRow a0 a1 a2 a3 a4 = bk at H1 H2 H3
      have H1 := Lib.hid H1
      have H2 := Lib.hid H2
      have H3 := Lib.hid H3
      refine (H1.out _ (ht.below hB)).mono ?_
      rintro e w14 ⟨rfl, hb⟩
      have hX : Blk _ bx 36 [a0, a1, a2, a3, a4] := (hb.block bx hX.lt).trans hX
      have hB := below_of hB hb hB.size
      clear hb
      have x0 : w14.cell? ⟨bx, 0, none⟩ = some (.int .i64 a0) := hX.cell (j := 0) (by simp)
      have x1 : w14.cell? ⟨bx, 1, none⟩ = some (.int .i64 a1) := hX.cell (j := 1) (by simp)
      have x2 : w14.cell? ⟨bx, 2, none⟩ = some (.int .i64 a2) := hX.cell (j := 2) (by simp)
      have x3 : w14.cell? ⟨bx, 3, none⟩ = some (.int .i64 a3) := hX.cell (j := 3) (by simp)
      have x4 : w14.cell? ⟨bx, 4, none⟩ = some (.int .i64 a4) := hX.cell (j := 4) (by simp)
      go_wp2_with fail
      clear x0 x1 x2 x3 x4
      refine (H2.out _).mono ?_
      rintro e w15 ⟨rfl, hb⟩
      have hX : Blk _ bx 36 [a0, a1, a2, a3, a4] := (hb.block bx hX.lt).trans hX
      have hB := below_of hB hb hB.size
      clear hb
      have x0 : w15.cell? ⟨bx, 0, none⟩ = some (.int .i64 a0) := hX.cell (j := 0) (by simp)
      have x1 : w15.cell? ⟨bx, 1, none⟩ = some (.int .i64 a1) := hX.cell (j := 1) (by simp)
      have x2 : w15.cell? ⟨bx, 2, none⟩ = some (.int .i64 a2) := hX.cell (j := 2) (by simp)
      have x3 : w15.cell? ⟨bx, 3, none⟩ = some (.int .i64 a3) := hX.cell (j := 3) (by simp)
      have x4 : w15.cell? ⟨bx, 4, none⟩ = some (.int .i64 a4) := hX.cell (j := 4) (by simp)
      go_wp2_with fail
      clear x0 x1 x2 x3 x4
      refine (H3.out _).mono ?_
      rintro e w16 ⟨rfl, hb⟩
      have hX : Blk _ bx 36 [a0, a1, a2, a3, a4] := (hb.block bx hX.lt).trans hX
      have hB := below_of hB hb hB.size
      clear hb
      go_wp2
      go_ret
      exact ⟨by first | rfl | simp, hB⟩
    · go_wp2_with fail
      refine (WorthOf_yes A1 m c1 _ _ f _ hd.own.sl (by omega) hd.le hg).mono ?_
      rintro e w2 ⟨Ay, cy, rfl, hcy, hcym, hy, hb⟩
      have hB := below_of hB hb hB.size
      have hd := hd.below hb
      clear hb
      go_wp2_with fail
      refine (sWorthOf_yes A1 m c1 _ _ f _ hd.own.sl (by omega) hd.le hg).mono ?_
      rintro e w3 ⟨As, cs, rfl, hcs, hcsm, hs, hb⟩
      have hB := below_of hB hb hB.size
      have hd := hd.below hb
      have hy := hy.below hb
      clear hb
      go_wp2_with fail
      refine (rInts_same _ _ _ _ _ _ _ _ _ _ _ hy.sl hs.sl (by omega)).mono ?_
      rintro e w4 ⟨rfl, hb⟩
      have hB := below_of hB hb hB.size
      have hd := hd.below hb
      have hy := hy.below hb
      clear hb
      clear hs hcs hcsm
      go_wp2_with fail
      refine (AreCropRows_any A1 m c1 _ _ f _ hd.own.sl (by omega) hd.le).mono ?_
      rw [hg]
      rintro e w5 ⟨rfl, hb⟩
      have hB := below_of hB hb hB.size
      have hd := hd.below hb
      have hy := hy.below hb
      clear hb
      go_wp2_with fail
      refine (BestCrop_yes A1 m c1 _ _ f _ hd.own.sl (by omega) hd.le hg hm0).mono ?_
      rintro e w6 ⟨rfl, hb⟩
      have hB := below_of hB hb hB.size
      have hd := hd.below hb
      have hy := hy.below hb
      clear hb
      go_wp2_with fail
      refine (sBestCrop_yes A1 m c1 _ _ f _ hd.own.sl (by omega) hd.le hg hm0).mono ?_
      rintro e w7 ⟨rfl, hb⟩
      have hB := below_of hB hb hB.size
      have hd := hd.below hb
      have hy := hy.below hb
      clear hb
      go_wp2_with fail
      refine (WorstFall_no A1 m c1 _ _ f _ hd.own.sl (by omega) hd.le (Or.inr (by omega))).mono ?_
      rintro e w8 ⟨rfl, hb⟩
      have hB := below_of hB hb hB.size
      have hd := hd.below hb
      have hy := hy.below hb
      clear hb
      go_wp2_with fail
      refine (sWorstFall_no A1 m c1 _ _ f _ hd.own.sl (by omega) hd.le (Or.inr (by omega))).mono ?_
      rintro e w9 ⟨rfl, hb⟩
      have hB := below_of hB hb hB.size
      have hd := hd.below hb
      have hy := hy.below hb
      clear hb
      obtain ⟨X, hX⟩ : ∃ X : Int, X = 0 := ⟨_, rfl⟩
      obtain ⟨Y, hY⟩ : ∃ Y : Int, Y = 0 := ⟨_, rfl⟩
      clear hX hY
      generalize hZ : f (bestTo f m * 5) = Z
      have HM : Hid (∀ i, i < m → ¬ mostTo f Z m < worthAt f i) := fun i h1 => by rw [← hZ]; exact most_max hg hm0 i h1
      clear hZ
      have HY := Lib.hid hy
      have HD := Lib.hid hd
      clear hy hd
      go_wp2_with fail
      go_loop [18, 19, 20] (fun mv fv iv => ∃ k : Nat, k ≤ m ∧ iv = .int .i64 k ∧ mv = .int .i64 (mostTo f Z k) ∧ fv = .int .i64 (fallTo f 0 0 k)) (fun _ _ iv => m - (intOf iv).toNat)
      case atStart => exact ⟨0, Nat.zero_le _, rfl, rfl, rfl⟩
      case round =>
      obtain ⟨k, hk, rfl, rfl, rfl⟩ := hrel
      by_cases hlt : k < m
      · obtain ⟨b, off, eA, hbw, HC⟩ := HD.out.own.sl.open_ (Below.refl _ _) (by omega)
        obtain ⟨c0, c1', c2, c3, c4⟩ := cell5 HC hlt
        obtain ⟨b2, off2, eA2, hbw2, HC2⟩ := HY.out.sl.open_ (Below.refl _ _) (by omega)
        have d0 := HC2.out k (by omega)
        subst eA eA2
        have hk0 : (0 : Int) ≤ (k : Int) := by omega
        have hk1 : (k : Int) < (m : Int) := by omega
        clear HC HC2 c1' c2 c3 c4
        have hs1 : mostTo f Z (k + 1) = if f (k * 5) = Z then worthAt f k else mostTo f Z k := rfl
        have hs2 : fallTo f 0 0 (k + 1) = if f (k * 5) = 0 then wrap64 ((if f (k * 5) = 0 then wrap64 (fallTo f 0 0 k + worthAt f k) else fallTo f 0 0 k) - worthAt f k) else (if f (k * 5) = 0 then wrap64 (fallTo f 0 0 k + worthAt f k) else fallTo f 0 0 k) := rfl
        have HS1 := Lib.hid hs1
        have HS2 := Lib.hid hs2
        clear hs1 hs2
        have e4 := year_of hg hlt
        have e2 : ¬ (f (k * 5) = 0) := by omega
        have e3 : ¬ (f (k * 5) = 0) := by omega
        by_cases e1 : f (k * 5) = Z
        all_goals
          have E1 := Lib.hid e1
          have E2 := Lib.hid e2
          have E3 := Lib.hid e3
          first | (have t1 : (f (k * 5) == Z) = true := by simp [e1]) | (have t1 : (f (k * 5) == Z) = false := by simp [e1])
          first | (have t2 : (f (k * 5) == 0) = true := by simp [e2]) | (have t2 : (f (k * 5) == 0) = false := by simp [e2])
          first | (have t3 : (f (k * 5) == 0) = true := by simp [e3]) | (have t3 : (f (k * 5) == 0) = false := by simp [e3])
          clear e1 e2 e3
          go_wp2
          go_round
          case rel => exact ⟨k + 1, by omega, by go_num, by rw [HS1.out]; first | rw [if_pos E1.out] | rw [if_neg E1.out], by rw [HS2.out]; (first | rw [if_pos E3.out] | rw [if_neg E3.out]); (first | rw [if_pos E2.out] | rw [if_neg E2.out])⟩
          case measure => simp [intOf]; omega
      obtain rfl : k = m := by omega
      have hk1 : ¬ ((k : Int) < (k : Int)) := by omega
      generalize hMO : mostTo f Z k = MO at HM
      generalize hFO : fallTo f 0 0 k = FO
      clear hMO hFO
      go_wp2_with fail
      go_loopw [21] (fun iv wr => (∃ i : Nat, i ≤ k ∧ iv = .int .i64 i) ∧ Below w9.heap.size w9 wr) (fun iv _ => k - (intOf iv).toNat)
      case atStart => exact ⟨⟨0, Nat.zero_le _, rfl⟩, Below.refl _ _⟩
      case round =>
      obtain ⟨⟨i, hi, rfl⟩, hbel⟩ := hrel
      by_cases hlt : i < k
      · obtain ⟨b2, off2, eA2, hbw2, HC2⟩ := HY.out.sl.open_ hbel (by omega)
        have d0 := HC2.out i (by omega)
        subst eA2
        have hi0 : (0 : Int) ≤ (i : Int) := by omega
        have hi1 : (i : Int) < (k : Int) := by omega
        have hm1 := HM.out i hlt
        have hm1d : decide (MO < worthAt f i) = false := by simp; omega
        have hiw : IntKind.i64.wrap ((i : Int) + 1) = ((i + 1 : Nat) : Int) := by rw [IntKind.wrap_i64]; omega
        clear HC2
        go_wp2_with fail
        go_loopw [22] (fun jv wr => (∃ j : Nat, i < j ∧ j ≤ k ∧ jv = .int .i64 j) ∧ Below w9.heap.size w9 wr) (fun jv _ => k - (intOf jv).toNat)
        case atStart => exact ⟨⟨i + 1, by omega, by omega, by first | rfl | (congr 1; omega)⟩, hbel⟩
        case round =>
        clear hbel d0
        obtain ⟨⟨j, hij, hj, rfl⟩, hbel⟩ := hrel
        by_cases hltj : j < k
        · obtain ⟨b2, off2, eA2, hbw2, HC2⟩ := HY.out.sl.open_ hbel (by omega)
          have d0 := HC2.out i (by omega)
          have d1 := HC2.out j (by omega)
          cases eA2
          have hj0 : (0 : Int) ≤ (j : Int) := by omega
          have hj1 : (j : Int) < (k : Int) := by omega
          clear HC2
          go_wp2
          go_quiet (fail)
          go_wp2
          go_roundw
          case rel => exact ⟨⟨j + 1, by omega, by omega, by go_num⟩, below_drewN hbel _⟩
          case measure => simp [intOf]; omega
        · have hj1 : ¬ ((j : Int) < (k : Int)) := by omega
          go_wp2
          go_roundw
          case rel => exact ⟨⟨i + 1, by omega, by go_num⟩, hbel⟩
          case measure => simp [intOf]; omega
      have hi1 : ¬ ((i : Int) < (k : Int)) := by omega
      have hd := HD.out.below hbel
      have hB := below_of hB hbel hB.size
      clear HY HD HM hbel
      go_wp2_with fail
      refine (CropReport_any A1 k c1 _ _ f _ hd.own.sl (by omega) hd.le (ht.below hB)).mono ?_
      rintro e w10 ⟨rfl, hb⟩
      have hB := below_of hB hb hB.size
      have hd := hd.below hb
      clear hb
      go_wp2_with fail
      refine (sCropReport_any A1 k c1 _ _ f _ hd.own.sl (by omega) hd.le).mono ?_
      rintro e w11 ⟨rfl, hb⟩
      have hB := below_of hB hb hB.size
      clear hb
      clear hd
      have HNL : Hid (goodRows f k = true → nlTo (repR f k) (repR f k).size = k) := fun h => by rw [nlTo_all _ (Nat.le_refl _)]; exact nlIn_report h
      have hrs := repR_size f k
      obtain ⟨R, hR⟩ : ∃ R, R = repR f k := ⟨_, rfl⟩
      rw [← hR] at HNL hrs ⊢
      clear hR
      have HB := Lib.hid hB
      clear hB
      go_wp2_with fail
      go_loop [27, 28] (fun lv iv => ∃ i : Nat, i ≤ R.size ∧ iv = .int .i64 i ∧ lv = .int .i64 (nlTo R i : Nat)) (fun _ iv => R.size - (intOf iv).toNat)
      case atStart => exact ⟨0, Nat.zero_le _, rfl, rfl⟩
      case round =>
      obtain ⟨i, hi, rfl, rfl⟩ := hrel
      by_cases hlt : i < R.size
      · have hi0 : (0 : Int) ≤ (i : Int) := by omega
        have hi1 : (i : Int) < (R.size : Int) := by omega
        have HST := Lib.hid (nlTo_step R hlt)
        have hnl := nlTo_le R i
        have hlw : IntKind.i64.wrap ((nlTo R i : Int) + 1) = ((nlTo R i + 1 : Nat) : Int) := by rw [IntKind.wrap_i64]; omega
        go_wp2
        all_goals
          rename_i htest
          go_round
          case rel => exact ⟨i + 1, by omega, by go_num, by first | (rw [nl_yes hlt htest]; simp; done) | rw [nl_no hlt htest]⟩
          case measure => simp [intOf]; omega
      obtain rfl : i = R.size := by omega
      have hi1 : ¬ ((R.size : Int) < (R.size : Int)) := by omega
      have hB := HB.out
      have hnn := HNL.out hg
      generalize nlTo R R.size = nn at hnn ⊢
      subst hnn
      clear HNL HB
      go_wp2_with fail
      refine (DrawCropLine_any A0 n0 c0 _ (HK.out _ hB) (by omega)).mono ?_
      rintro e w12 ⟨a0, a1, a2, a3, a4, rfl, hb⟩
      have hB := below_of hB hb hB.size
      clear hb
      go_wp2_with fail
      refine nameC ?_
      intro w13 hw13
      have hX : Blk w13 w12.heap.size 36 [a0, a1, a2, a3, a4] := by rw [hw13]; exact Blk.new [a0, a1, a2, a3, a4] rfl
      have hb : Below w12.heap.size w12 w13 := by rw [hw13]; exact (Below.refl _ _).alloc (Nat.le_refl _) _
      have hB := below_of hB hb hB.size
      clear hb hw13
      generalize w12.heap.size = bx at hX ⊢
      have H1 := fun W ht => CropLine_any a0 a1 a2 a3 a4 W ht
      have H2 := fun W => sCropLine_any a0 a1 a2 a3 a4 W
      have H3 := fun W => IsCropRow_any a0 a1 a2 a3 a4 W
      generalize (if okRow a0 a1 a2 a3 a4 = true then lineText a0 a1 a2 a3 else ⟨#[]⟩) = ST at H1 H2
      generalize okRow a0 a1 a2 a3 a4 = bk at H1 H2 H3
      have H1 := Lib.hid H1
      have H2 := Lib.hid H2
      have H3 := Lib.hid H3
      refine (H1.out _ (ht.below hB)).mono ?_
      rintro e w14 ⟨rfl, hb⟩
      have hX : Blk _ bx 36 [a0, a1, a2, a3, a4] := (hb.block bx hX.lt).trans hX
      have hB := below_of hB hb hB.size
      clear hb
      have x0 : w14.cell? ⟨bx, 0, none⟩ = some (.int .i64 a0) := hX.cell (j := 0) (by simp)
      have x1 : w14.cell? ⟨bx, 1, none⟩ = some (.int .i64 a1) := hX.cell (j := 1) (by simp)
      have x2 : w14.cell? ⟨bx, 2, none⟩ = some (.int .i64 a2) := hX.cell (j := 2) (by simp)
      have x3 : w14.cell? ⟨bx, 3, none⟩ = some (.int .i64 a3) := hX.cell (j := 3) (by simp)
      have x4 : w14.cell? ⟨bx, 4, none⟩ = some (.int .i64 a4) := hX.cell (j := 4) (by simp)
      go_wp2_with fail
      clear x0 x1 x2 x3 x4
      refine (H2.out _).mono ?_
      rintro e w15 ⟨rfl, hb⟩
      have hX : Blk _ bx 36 [a0, a1, a2, a3, a4] := (hb.block bx hX.lt).trans hX
      have hB := below_of hB hb hB.size
      clear hb
      have x0 : w15.cell? ⟨bx, 0, none⟩ = some (.int .i64 a0) := hX.cell (j := 0) (by simp)
      have x1 : w15.cell? ⟨bx, 1, none⟩ = some (.int .i64 a1) := hX.cell (j := 1) (by simp)
      have x2 : w15.cell? ⟨bx, 2, none⟩ = some (.int .i64 a2) := hX.cell (j := 2) (by simp)
      have x3 : w15.cell? ⟨bx, 3, none⟩ = some (.int .i64 a3) := hX.cell (j := 3) (by simp)
      have x4 : w15.cell? ⟨bx, 4, none⟩ = some (.int .i64 a4) := hX.cell (j := 4) (by simp)
      go_wp2_with fail
      clear x0 x1 x2 x3 x4
      refine (H3.out _).mono ?_
      rintro e w16 ⟨rfl, hb⟩
      have hX : Blk _ bx 36 [a0, a1, a2, a3, a4] := (hb.block bx hX.lt).trans hX
      have hB := below_of hB hb hB.size
      clear hb
      go_wp2
      go_ret
      exact ⟨by first | rfl | simp, hB⟩
  · have hno : goodRows f m = false ∨ m = 0 := by cases hgd : goodRows f m with | false => exact Or.inl rfl | true => exact Or.inr (by simp [hgd] at hc; omega)
    have hno2 : goodRows f m = false ∨ m < 2 := by rcases hno with h | h; · exact Or.inl h
                                                   · exact Or.inr (by omega)
    go_wp2_with fail
    refine (WorthOf_no A1 m c1 _ _ f _ hd.own.sl (by omega) hd.le hno).mono ?_
    rintro e w2 ⟨Ay, cy, rfl, hcy, hcym, hy, hb⟩
    have hB := below_of hB hb hB.size
    have hd := hd.below hb
    clear hb
    go_wp2_with fail
    refine (sWorthOf_no A1 m c1 _ _ f _ hd.own.sl (by omega) hd.le hno).mono ?_
    rintro e w3 ⟨As, cs, rfl, hcs, hcsm, hs, hb⟩
    have hB := below_of hB hb hB.size
    have hd := hd.below hb
    have hy := hy.below hb
    clear hb
    go_wp2_with fail
    refine (rInts_same _ _ _ _ _ _ _ _ _ _ _ hy.sl hs.sl (by omega)).mono ?_
    rintro e w4 ⟨rfl, hb⟩
    have hB := below_of hB hb hB.size
    have hd := hd.below hb
    have hy := hy.below hb
    clear hb
    clear hs hcs hcsm
    go_wp2_with fail
    refine (AreCropRows_any A1 m c1 _ _ f _ hd.own.sl (by omega) hd.le).mono ?_
    rintro e w5 ⟨rfl, hb⟩
    have hB := below_of hB hb hB.size
    have hd := hd.below hb
    have hy := hy.below hb
    clear hb
    go_wp2_with fail
    refine (BestCrop_no A1 m c1 _ _ f _ hd.own.sl (by omega) hd.le hno).mono ?_
    rintro e w6 ⟨rfl, hb⟩
    have hB := below_of hB hb hB.size
    have hd := hd.below hb
    have hy := hy.below hb
    clear hb
    go_wp2_with fail
    refine (sBestCrop_no A1 m c1 _ _ f _ hd.own.sl (by omega) hd.le hno).mono ?_
    rintro e w7 ⟨rfl, hb⟩
    have hB := below_of hB hb hB.size
    have hd := hd.below hb
    have hy := hy.below hb
    clear hb
    go_wp2_with fail
    refine (WorstFall_no A1 m c1 _ _ f _ hd.own.sl (by omega) hd.le hno2).mono ?_
    rintro e w8 ⟨rfl, hb⟩
    have hB := below_of hB hb hB.size
    have hd := hd.below hb
    have hy := hy.below hb
    clear hb
    go_wp2_with fail
    refine (sWorstFall_no A1 m c1 _ _ f _ hd.own.sl (by omega) hd.le hno2).mono ?_
    rintro e w9 ⟨rfl, hb⟩
    have hB := below_of hB hb hB.size
    have hd := hd.below hb
    have hy := hy.below hb
    clear hb
    clear hy
    have HD := Lib.hid hd
    clear hd
    go_wp2_with fail
    go_loop [20] (fun iv => iv = .int .i64 0) (fun _ => 0)
    case atStart => rfl
    case round =>
    subst hrel
    go_wp2_with fail
    go_loop [21] (fun iv => iv = .int .i64 0) (fun _ => 0)
    case atStart => rfl
    case round =>
    subst hrel
    have hd := HD.out
    clear HD
    go_wp2_with fail
    refine (CropReport_any A1 m c1 _ _ f _ hd.own.sl (by omega) hd.le (ht.below hB)).mono ?_
    rintro e w10 ⟨rfl, hb⟩
    have hB := below_of hB hb hB.size
    have hd := hd.below hb
    clear hb
    go_wp2_with fail
    refine (sCropReport_any A1 m c1 _ _ f _ hd.own.sl (by omega) hd.le).mono ?_
    rintro e w11 ⟨rfl, hb⟩
    have hB := below_of hB hb hB.size
    clear hb
    clear hd
    have HNL : Hid (goodRows f m = true → nlTo (repR f m) (repR f m).size = m) := fun h => by rw [nlTo_all _ (Nat.le_refl _)]; exact nlIn_report h
    have hrs := repR_size f m
    obtain ⟨R, hR⟩ : ∃ R, R = repR f m := ⟨_, rfl⟩
    rw [← hR] at HNL hrs ⊢
    clear hR
    have HB := Lib.hid hB
    clear hB
    go_wp2_with fail
    go_loop [27, 28] (fun lv iv => ∃ i : Nat, i ≤ R.size ∧ iv = .int .i64 i ∧ lv = .int .i64 (nlTo R i : Nat)) (fun _ iv => R.size - (intOf iv).toNat)
    case atStart => exact ⟨0, Nat.zero_le _, rfl, rfl⟩
    case round =>
    obtain ⟨i, hi, rfl, rfl⟩ := hrel
    by_cases hlt : i < R.size
    · have hi0 : (0 : Int) ≤ (i : Int) := by omega
      have hi1 : (i : Int) < (R.size : Int) := by omega
      have HST := Lib.hid (nlTo_step R hlt)
      have hnl := nlTo_le R i
      have hlw : IntKind.i64.wrap ((nlTo R i : Int) + 1) = ((nlTo R i + 1 : Nat) : Int) := by rw [IntKind.wrap_i64]; omega
      go_wp2
      all_goals
        rename_i htest
        go_round
        case rel => exact ⟨i + 1, by omega, by go_num, by first | (rw [nl_yes hlt htest]; simp; done) | rw [nl_no hlt htest]⟩
        case measure => simp [intOf]; omega
    obtain rfl : i = R.size := by omega
    have hi1 : ¬ ((R.size : Int) < (R.size : Int)) := by omega
    have hB := HB.out
    cases hgd : goodRows f m with
    | false =>
      clear HNL HB
      go_wp2_with fail
      refine (DrawCropLine_any A0 n0 c0 _ (HK.out _ hB) (by omega)).mono ?_
      rintro e w12 ⟨a0, a1, a2, a3, a4, rfl, hb⟩
      have hB := below_of hB hb hB.size
      clear hb
      go_wp2_with fail
      refine nameC ?_
      intro w13 hw13
      have hX : Blk w13 w12.heap.size 36 [a0, a1, a2, a3, a4] := by rw [hw13]; exact Blk.new [a0, a1, a2, a3, a4] rfl
      have hb : Below w12.heap.size w12 w13 := by rw [hw13]; exact (Below.refl _ _).alloc (Nat.le_refl _) _
      have hB := below_of hB hb hB.size
      clear hb hw13
      generalize w12.heap.size = bx at hX ⊢
      have H1 := fun W ht => CropLine_any a0 a1 a2 a3 a4 W ht
      have H2 := fun W => sCropLine_any a0 a1 a2 a3 a4 W
      have H3 := fun W => IsCropRow_any a0 a1 a2 a3 a4 W
      generalize (if okRow a0 a1 a2 a3 a4 = true then lineText a0 a1 a2 a3 else ⟨#[]⟩) = ST at H1 H2
      generalize okRow a0 a1 a2 a3 a4 = bk at H1 H2 H3
      have H1 := Lib.hid H1
      have H2 := Lib.hid H2
      have H3 := Lib.hid H3
      refine (H1.out _ (ht.below hB)).mono ?_
      rintro e w14 ⟨rfl, hb⟩
      have hX : Blk _ bx 36 [a0, a1, a2, a3, a4] := (hb.block bx hX.lt).trans hX
      have hB := below_of hB hb hB.size
      clear hb
      have x0 : w14.cell? ⟨bx, 0, none⟩ = some (.int .i64 a0) := hX.cell (j := 0) (by simp)
      have x1 : w14.cell? ⟨bx, 1, none⟩ = some (.int .i64 a1) := hX.cell (j := 1) (by simp)
      have x2 : w14.cell? ⟨bx, 2, none⟩ = some (.int .i64 a2) := hX.cell (j := 2) (by simp)
      have x3 : w14.cell? ⟨bx, 3, none⟩ = some (.int .i64 a3) := hX.cell (j := 3) (by simp)
      have x4 : w14.cell? ⟨bx, 4, none⟩ = some (.int .i64 a4) := hX.cell (j := 4) (by simp)
      go_wp2_with fail
      clear x0 x1 x2 x3 x4
      refine (H2.out _).mono ?_
      rintro e w15 ⟨rfl, hb⟩
      have hX : Blk _ bx 36 [a0, a1, a2, a3, a4] := (hb.block bx hX.lt).trans hX
      have hB := below_of hB hb hB.size
      clear hb
      have x0 : w15.cell? ⟨bx, 0, none⟩ = some (.int .i64 a0) := hX.cell (j := 0) (by simp)
      have x1 : w15.cell? ⟨bx, 1, none⟩ = some (.int .i64 a1) := hX.cell (j := 1) (by simp)
      have x2 : w15.cell? ⟨bx, 2, none⟩ = some (.int .i64 a2) := hX.cell (j := 2) (by simp)
      have x3 : w15.cell? ⟨bx, 3, none⟩ = some (.int .i64 a3) := hX.cell (j := 3) (by simp)
      have x4 : w15.cell? ⟨bx, 4, none⟩ = some (.int .i64 a4) := hX.cell (j := 4) (by simp)
      go_wp2_with fail
      clear x0 x1 x2 x3 x4
      refine (H3.out _).mono ?_
      rintro e w16 ⟨rfl, hb⟩
      have hX : Blk _ bx 36 [a0, a1, a2, a3, a4] := (hb.block bx hX.lt).trans hX
      have hB := below_of hB hb hB.size
      clear hb
      go_wp2
      go_ret
      exact ⟨by first | rfl | simp, hB⟩
    | true =>
      have hnn := HNL.out hgd
      generalize nlTo R R.size = nn at hnn ⊢
      subst hnn
      clear HNL HB
      go_wp2_with fail
      refine (DrawCropLine_any A0 n0 c0 _ (HK.out _ hB) (by omega)).mono ?_
      rintro e w12 ⟨a0, a1, a2, a3, a4, rfl, hb⟩
      have hB := below_of hB hb hB.size
      clear hb
      go_wp2_with fail
      refine nameC ?_
      intro w13 hw13
      have hX : Blk w13 w12.heap.size 36 [a0, a1, a2, a3, a4] := by rw [hw13]; exact Blk.new [a0, a1, a2, a3, a4] rfl
      have hb : Below w12.heap.size w12 w13 := by rw [hw13]; exact (Below.refl _ _).alloc (Nat.le_refl _) _
      have hB := below_of hB hb hB.size
      clear hb hw13
      generalize w12.heap.size = bx at hX ⊢
      have H1 := fun W ht => CropLine_any a0 a1 a2 a3 a4 W ht
      have H2 := fun W => sCropLine_any a0 a1 a2 a3 a4 W
      have H3 := fun W => IsCropRow_any a0 a1 a2 a3 a4 W
      generalize (if okRow a0 a1 a2 a3 a4 = true then lineText a0 a1 a2 a3 else ⟨#[]⟩) = ST at H1 H2
      generalize okRow a0 a1 a2 a3 a4 = bk at H1 H2 H3
      have H1 := Lib.hid H1
      have H2 := Lib.hid H2
      have H3 := Lib.hid H3
      refine (H1.out _ (ht.below hB)).mono ?_
      rintro e w14 ⟨rfl, hb⟩
      have hX : Blk _ bx 36 [a0, a1, a2, a3, a4] := (hb.block bx hX.lt).trans hX
      have hB := below_of hB hb hB.size
      clear hb
      have x0 : w14.cell? ⟨bx, 0, none⟩ = some (.int .i64 a0) := hX.cell (j := 0) (by simp)
      have x1 : w14.cell? ⟨bx, 1, none⟩ = some (.int .i64 a1) := hX.cell (j := 1) (by simp)
      have x2 : w14.cell? ⟨bx, 2, none⟩ = some (.int .i64 a2) := hX.cell (j := 2) (by simp)
      have x3 : w14.cell? ⟨bx, 3, none⟩ = some (.int .i64 a3) := hX.cell (j := 3) (by simp)
      have x4 : w14.cell? ⟨bx, 4, none⟩ = some (.int .i64 a4) := hX.cell (j := 4) (by simp)
      go_wp2_with fail
      clear x0 x1 x2 x3 x4
      refine (H2.out _).mono ?_
      rintro e w15 ⟨rfl, hb⟩
      have hX : Blk _ bx 36 [a0, a1, a2, a3, a4] := (hb.block bx hX.lt).trans hX
      have hB := below_of hB hb hB.size
      clear hb
      have x0 : w15.cell? ⟨bx, 0, none⟩ = some (.int .i64 a0) := hX.cell (j := 0) (by simp)
      have x1 : w15.cell? ⟨bx, 1, none⟩ = some (.int .i64 a1) := hX.cell (j := 1) (by simp)
      have x2 : w15.cell? ⟨bx, 2, none⟩ = some (.int .i64 a2) := hX.cell (j := 2) (by simp)
      have x3 : w15.cell? ⟨bx, 3, none⟩ = some (.int .i64 a3) := hX.cell (j := 3) (by simp)
      have x4 : w15.cell? ⟨bx, 4, none⟩ = some (.int .i64 a4) := hX.cell (j := 4) (by simp)
      go_wp2_with fail
      clear x0 x1 x2 x3 x4
      refine (H3.out _).mono ?_
      rintro e w16 ⟨rfl, hb⟩
      have hX : Blk _ bx 36 [a0, a1, a2, a3, a4] := (hb.block bx hX.lt).trans hX
      have hB := below_of hB hb hB.size
      clear hb
      go_wp2
      go_ret
      exact ⟨by first | rfl | simp, hB⟩
end Go.Proofs.YtfejgoohefhjoaaDoor
