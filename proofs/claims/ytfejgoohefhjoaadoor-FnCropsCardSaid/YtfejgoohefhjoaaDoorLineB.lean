/-
  CropReport: the report of rows, the same on both sides.
-/
import Derived.Test.YtfejgoohefhjoaaDoorLineA
namespace Go.Proofs.YtfejgoohefhjoaaDoor
open Go.RowKit
set_option linter.unusedVariables false
set_option linter.unusedSimpArgs false
attribute [local go_sem ↓] Go.wp_at_zero Go.wp_at_succ
def worthR (t l p : Int) : Int := (t - l) * p
theorem worthR_ok {y d t l p : Int} (h : okRow y d t l p = true) : 0 ≤ worthR t l p ∧ worthR t l p ≤ 10000000000 := by
  obtain ⟨_, _, _, _, _, h1, h2, h3, h4, h5⟩ := okRow_facts h
  unfold worthR
  have a : 0 ≤ t - l := by omega
  have b : t - l ≤ 1000000 := by omega
  refine ⟨Int.mul_nonneg a h4, Int.le_trans (Int.mul_le_mul b h5 h4 (by omega)) (by omega)⟩
theorem worthR_any (y d t l p : Int) (hok : okRow y d t l p = true) (w : World) :
    Calls Tryd.prog 21 #[.agg #[.int .i64 y, .int .i64 d, .int .i64 t, .int .i64 l, .int .i64 p]] w fun e w' => e = .returned (.int .i64 (worthR t l p)) ∧ Below w.heap.size w w' := by
  obtain ⟨_, _, _, _, h0, h1, h2, h3, h4, h5⟩ := okRow_facts hok
  obtain ⟨a, b⟩ := worthR_ok hok
  have hw1 : IntKind.i64.wrap (t - l) = t - l := IntWalk.i64_in _ (by omega)
  have hw2 : IntKind.i64.wrap ((t - l) * p) = (t - l) * p := IntWalk.i64_in _ (by unfold worthR at a b; omega)
  have hw3 : wrap64 ((t - l) * p) = (t - l) * p := by rw [← IntWalk.i64_left]; exact hw2
  unfold worthR
  clear hok a b
  go_enter Tryd.func21, Tryd.ntmps21
  go_wp2
  go_ret
  exact ⟨ret_int (by first | rfl | exact hw3 | (rw [← hw3]; rfl)), by go_grown⟩
theorem l26WorthR_any (y d t l p : Int) (hok : okRow y d t l p = true) (w : World) :
    Calls Tryd.prog 23 #[.agg #[.int .i64 y, .int .i64 d, .int .i64 t, .int .i64 l, .int .i64 p]] w fun e w' => e = .returned (.int .i64 (worthR t l p)) ∧ Below w.heap.size w w' := by
  obtain ⟨_, _, _, _, h0, h1, h2, h3, h4, h5⟩ := okRow_facts hok
  obtain ⟨a, b⟩ := worthR_ok hok
  have hw1 : IntKind.i64.wrap (t - l) = t - l := IntWalk.i64_in _ (by omega)
  have hw2 : IntKind.i64.wrap ((t - l) * p) = (t - l) * p := IntWalk.i64_in _ (by unfold worthR at a b; omega)
  have hw3 : wrap64 ((t - l) * p) = (t - l) * p := by rw [← IntWalk.i64_left]; exact hw2
  unfold worthR
  clear hok a b
  go_enter Tryd.func23, Tryd.ntmps23
  go_wp2
  go_ret
  exact ⟨ret_int (by first | rfl | exact hw3 | (rw [← hw3]; rfl)), by go_grown⟩
def lineAt (f : Nat → Int) (k : Nat) : ByteArray := lineText (f (k * 5)) (f (k * 5 + 1)) (f (k * 5 + 2)) (f (k * 5 + 3))
def worthRAt (f : Nat → Int) (k : Nat) : Int := worthR (f (k * 5 + 2)) (f (k * 5 + 3)) (f (k * 5 + 4))
def repTo (f : Nat → Int) : Nat → ByteArray
  | 0 => ⟨#[]⟩
  | k + 1 => repTo f k ++ (lineAt f k ++ ⟨#[10]⟩)
def sumR (f : Nat → Int) : Nat → Int
  | 0 => 0
  | k + 1 => sumR f k + worthRAt f k
theorem row_ok {f : Nat → Int} {n k : Nat} (h : goodRows f n = true) (hk : k < n) : okRow (f (k * 5)) (f (k * 5 + 1)) (f (k * 5 + 2)) (f (k * 5 + 3)) (f (k * 5 + 4)) = true := by
  simp only [goodRows, Bool.and_eq_true] at h
  have := allTo_at hk h.1
  simp only [stepOk, Bool.and_eq_true] at this
  exact this.1
theorem rows_len {f : Nat → Int} {n : Nat} (h : goodRows f n = true) : n ≤ 12 := by
  simp only [goodRows, Bool.and_eq_true, decide_eq_true_eq] at h
  exact h.2
theorem repTo_size {f : Nat → Int} {n : Nat} (h : goodRows f n = true) : ∀ k, k ≤ n → (repTo f k).size ≤ 121 * k := by
  intro k
  induction k with
  | zero => intro _; exact Nat.le_refl _
  | succ k ih =>
    intro hk
    have h1 := ih (by omega)
    have h2 := lineText_size (row_ok h (show k < n by omega))
    simp only [repTo, lineAt, ByteArray.size_append', ByteArray.size_mk', List.size_toArray, List.length_cons, List.length_nil]
    omega
theorem sumR_ok {f : Nat → Int} {n : Nat} (h : goodRows f n = true) : ∀ k, k ≤ n → 0 ≤ sumR f k ∧ sumR f k ≤ 10000000000 * (k : Int) := by
  intro k
  induction k with
  | zero => intro _; simp [sumR]
  | succ k ih =>
    intro hk
    have h1 := ih (by omega)
    have h2 := worthR_ok (row_ok h (show k < n by omega))
    simp only [sumR, worthRAt]
    omega
def repR (f : Nat → Int) (n : Nat) : ByteArray := if goodRows f n then (repTo f n ++ ⟨#[119, 111, 114, 116, 104, 32]⟩) ++ numB (sumR f n) else ⟨#[]⟩
set_option maxHeartbeats 1000000 in
theorem CropReport_any (A : Option Addr) (n c lo hi : Nat) (f : Nat → Int) (w : World) (hs : Sl w lo hi 5 A n f) (hn : n ≤ 1048576) (hnc : n ≤ c) (ht : Tab w) :
    Calls Tryd.prog 14 #[.slice A n c] w fun e w' => e = .returned (.tuple #[.string (repR f n), .bool (goodRows f n)]) ∧ Below w.heap.size w w' := by
  have HS : Hid (Sl w lo hi 5 A n f) := hs
  clear hs
  cases hg : goodRows f n with
  | false =>
    have hr : repR f n = ⟨#[]⟩ := by simp [repR, hg]
    rw [hr]
    go_enter Tryd.func14, Tryd.ntmps14
    go_wp2_with fail
    refine (AreCropRows_any A n c lo hi f w HS.out hn hnc).mono ?_
    rw [hg]
    rintro e w1 ⟨rfl, hb1⟩
    go_wp2_with fail
    go_ret2
    exact ⟨rfl, hb1⟩
  | true =>
    have hr : Hid (repR f n = (repTo f n ++ ⟨#[119, 111, 114, 116, 104, 32]⟩) ++ numB (sumR f n)) := by show _ = _; simp [repR, hg]
    have hn12 := rows_len hg
    
    go_enter Tryd.func14, Tryd.ntmps14
    go_wp2_with fail
    refine (AreCropRows_any A n c lo hi f w HS.out hn hnc).mono ?_
    rw [hg]
    rintro e w1 ⟨rfl, hb1⟩
    have HT : Hid (∀ w2, Below w.heap.size w w2 → Tab w2) := fun w2 hb => ht.below hb
    go_wp2_with fail
    go_loopw [4, 5, 13] (fun s u i wr => ∃ k : Nat, k ≤ n ∧ i = .int .i64 k ∧ s = .string (repTo f k) ∧ u = .int .i64 (sumR f k) ∧ Below w.heap.size w wr) (fun _ _ i _ => n - (intOf i).toNat)
    case atStart => exact ⟨0, Nat.zero_le _, rfl, rfl, rfl, hb1⟩
    case round =>
      obtain ⟨k, hk, rfl, rfl, rfl, hB⟩ := hrel
      have hz := repTo_size hg k hk
      obtain ⟨hu0, hu1⟩ := sumR_ok hg k hk
      by_cases hlt : k < n
      · obtain ⟨b, off, rfl, hbw, HC⟩ := HS.out.open_ hB (by omega)
        obtain ⟨c0, c1, c2, c3, c4⟩ := cell5 HC hlt
        have hok := row_ok hg hlt
        have hls := lineText_size hok
        obtain ⟨hv0, hv1⟩ := worthR_ok hok
        have hnx : Hid (repTo f (k + 1) = repTo f k ++ (lineText (f (k * 5)) (f (k * 5 + 1)) (f (k * 5 + 2)) (f (k * 5 + 3)) ++ ⟨#[10]⟩)) := rfl
        have hnu : Hid (sumR f (k + 1) = sumR f k + worthR (f (k * 5 + 2)) (f (k * 5 + 3)) (f (k * 5 + 4))) := rfl
        generalize sumR f k = u at *
        generalize repTo f k = s at *
        have HAL : Below wr.heap.size wr (wr.alloc (.cells #[.int .i64 (f (k * 5)), .int .i64 (f (k * 5 + 1)), .int .i64 (f (k * 5 + 2)), .int .i64 (f (k * 5 + 3)), .int .i64 (f (k * 5 + 4))] 36)) := (Below.refl _ wr).alloc (Nat.le_refl _) _
        have HK := Lib.hid (own_new5 wr 36 (f (k * 5)) (f (k * 5 + 1)) (f (k * 5 + 2)) (f (k * 5 + 3)) (f (k * 5 + 4)) (fun j => f (k * 5 + j)) rfl rfl rfl rfl rfl)
        clear HC HS
        go_wp2_with fail
        refine (cropLine_any _ _ _ _ (f (k * 5 + 4)) hok _ (HT.out _ (hB.alloc hB.size _))).mono ?_
        rintro e w2 ⟨rfl, hb2⟩
        obtain ⟨q0, q1, q2, q3, q4, _, _⟩ := (HK.out.below hb2).cells5
        simp only [Nat.add_zero] at q0
        have B2 := below_of hB (HAL.trans (hb2.mono (by simp))) hB.size
        clear HK c0 c1 c2 c3 c4
        go_wp2_with fail
        refine (worthR_any _ _ _ _ _ hok _).mono ?_
        rintro e w3 ⟨rfl, hb3⟩
        have B3 := below_of B2 hb3 B2.size
        generalize lineText (f (k * 5)) (f (k * 5 + 1)) (f (k * 5 + 2)) (f (k * 5 + 3)) = ln at *
        generalize worthR (f (k * 5 + 2)) (f (k * 5 + 3)) (f (k * 5 + 4)) = wv at *
        have hwr : IntKind.i64.wrap (u + wv) = u + wv := IntWalk.i64_in _ (by omega)
        go_wp2_with fail
        go_roundw
        case rel => exact ⟨k + 1, by omega, by go_num, by rw [hnx.out], by rw [hnu.out], B3⟩
        case measure => simp [intOf]; omega
      · obtain rfl : k = n := by omega
        have hzn := numB_size (n := sumR f k) (by omega) (by omega)
        have HE := Lib.hid hr.out
        clear HS hr
        go_wp2_with fail
        refine (decimal_any _ (by omega) (by omega) _ (HT.out _ hB)).mono ?_
        rintro e w4 ⟨rfl, hb4⟩
        generalize repTo f k = s at *
        generalize numB (sumR f k) = nb at *
        go_wp2_with fail
        go_ret2
        exact ⟨by first | (rw [HE.out]; rfl) | rw [HE.out], below_of hB hb4 hB.size⟩
set_option maxHeartbeats 1000000 in
theorem sCropReport_any (A : Option Addr) (n c lo hi : Nat) (f : Nat → Int) (w : World) (hs : Sl w lo hi 5 A n f) (hn : n ≤ 1048576) (hnc : n ≤ c) :
    Calls Tryd.prog 15 #[.slice A n c] w fun e w' => e = .returned (.tuple #[.string (repR f n), .bool (goodRows f n)]) ∧ Below w.heap.size w w' := by
  have HS : Hid (Sl w lo hi 5 A n f) := hs
  clear hs
  cases hg : goodRows f n with
  | false =>
    have hr : repR f n = ⟨#[]⟩ := by simp [repR, hg]
    rw [hr]
    go_enter Tryd.func15, Tryd.ntmps15
    go_wp2_with fail
    refine (l26Good_any A n c lo hi f w HS.out hn hnc).mono ?_
    rw [hg]
    rintro e w1 ⟨rfl, hb1⟩
    go_wp2_with fail
    go_ret2
    exact ⟨rfl, hb1⟩
  | true =>
    have hr : Hid (repR f n = (repTo f n ++ ⟨#[119, 111, 114, 116, 104, 32]⟩) ++ numB (sumR f n)) := by show _ = _; simp [repR, hg]
    have hn12 := rows_len hg
    
    go_enter Tryd.func15, Tryd.ntmps15
    go_wp2_with fail
    refine (l26Good_any A n c lo hi f w HS.out hn hnc).mono ?_
    rw [hg]
    rintro e w1 ⟨rfl, hb1⟩
    
    go_wp2_with fail
    go_loopw [4, 5, 6] (fun s u i wr => ∃ k : Nat, k ≤ n ∧ i = .int .i64 k ∧ s = .string (repTo f k) ∧ u = .int .i64 (sumR f k) ∧ Below w.heap.size w wr) (fun _ _ i _ => n - (intOf i).toNat)
    case atStart => exact ⟨0, Nat.zero_le _, rfl, rfl, rfl, hb1⟩
    case round =>
      obtain ⟨k, hk, rfl, rfl, rfl, hB⟩ := hrel
      have hz := repTo_size hg k hk
      obtain ⟨hu0, hu1⟩ := sumR_ok hg k hk
      by_cases hlt : k < n
      · obtain ⟨b, off, rfl, hbw, HC⟩ := HS.out.open_ hB (by omega)
        obtain ⟨c0, c1, c2, c3, c4⟩ := cell5 HC hlt
        have hok := row_ok hg hlt
        have hls := lineText_size hok
        obtain ⟨hv0, hv1⟩ := worthR_ok hok
        have hnx : Hid (repTo f (k + 1) = repTo f k ++ (lineText (f (k * 5)) (f (k * 5 + 1)) (f (k * 5 + 2)) (f (k * 5 + 3)) ++ ⟨#[10]⟩)) := rfl
        have hnu : Hid (sumR f (k + 1) = sumR f k + worthR (f (k * 5 + 2)) (f (k * 5 + 3)) (f (k * 5 + 4))) := rfl
        generalize sumR f k = u at *
        generalize repTo f k = s at *
        have HC2 := Lib.hid HC
        clear HC HS
        go_wp2_with fail
        refine (l26Line_any _ _ _ _ (f (k * 5 + 4)) hok _).mono ?_
        rintro e w2 ⟨rfl, hb2⟩
        have q0 := (hb2.cell (p := ⟨b, off + k * 5, none⟩) hbw).trans c0
        have q1 := (hb2.cell (p := ⟨b, off + k * 5 + 1, none⟩) hbw).trans c1
        have q2 := (hb2.cell (p := ⟨b, off + k * 5 + 2, none⟩) hbw).trans c2
        have q3 := (hb2.cell (p := ⟨b, off + k * 5 + 3, none⟩) hbw).trans c3
        have q4 := (hb2.cell (p := ⟨b, off + k * 5 + 4, none⟩) hbw).trans c4
        have B2 := below_of hB hb2 hB.size
        clear c0 c1 c2 c3 c4
        go_wp2_with fail
        refine (l26WorthR_any _ _ _ _ _ hok _).mono ?_
        rintro e w3 ⟨rfl, hb3⟩
        have B3 := below_of B2 hb3 B2.size
        generalize lineText (f (k * 5)) (f (k * 5 + 1)) (f (k * 5 + 2)) (f (k * 5 + 3)) = ln at *
        generalize worthR (f (k * 5 + 2)) (f (k * 5 + 3)) (f (k * 5 + 4)) = wv at *
        have hwr : IntKind.i64.wrap (u + wv) = u + wv := IntWalk.i64_in _ (by omega)
        go_wp2_with fail
        go_roundw
        case rel => exact ⟨k + 1, by omega, by go_num, by rw [hnx.out, ByteArray.append_assoc], by rw [hnu.out], B3⟩
        case measure => simp [intOf]; omega
      · obtain rfl : k = n := by omega
        have hzn := numB_size (n := sumR f k) (by omega) (by omega)
        have HE := Lib.hid hr.out
        clear HS hr
        go_wp2_with fail
        refine (l1Num_any _ hu0 (by omega) _).mono ?_
        rintro e w4 ⟨rfl, hb4⟩
        generalize repTo f k = s at *
        generalize numB (sumR f k) = nb at *
        go_wp2_with fail
        go_ret2
        exact ⟨by first | (rw [HE.out]; rfl) | rw [HE.out], below_of hB hb4 hB.size⟩
end Go.Proofs.YtfejgoohefhjoaaDoor
