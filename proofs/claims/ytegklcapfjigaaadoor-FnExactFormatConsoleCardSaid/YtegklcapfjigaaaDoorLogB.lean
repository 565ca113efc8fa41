/-
  The checksum and the seal of a text; the encoding of a record, the same on both sides.
-/
import Derived.Test.YtegklcapfjigaaaDoorLogA
import Derived.Test.YtegklcapfjigaaaDoorNum
namespace Go.Proofs.YtegklcapfjigaaaDoor
open Go.RowKit
set_option linter.unusedVariables false
set_option linter.unusedSimpArgs false
attribute [local go_sem ↓] Go.wp_at_zero Go.wp_at_succ
def sumTo (s : ByteArray) : Nat → Int
  | 0 => 7
  | k + 1 => (41 * sumTo s k + (byteAt s k).toNat + 1) % 999979
theorem sumTo_ok (s : ByteArray) (k : Nat) : 0 ≤ sumTo s k ∧ sumTo s k ≤ 999978 := by
  cases k with
  | zero => simp [sumTo]
  | succ k => simp only [sumTo]; omega
def sealB (s : ByteArray) : ByteArray := (s ++ ⟨#[35]⟩) ++ numB (sumTo s s.size)
theorem sealB_size (s : ByteArray) : (sealB s).size ≤ s.size + 22 := by
  have h := sumTo_ok s s.size
  have := numB_size (n := sumTo s s.size) (by omega) (by omega)
  simp only [sealB, ByteArray.size_append', ByteArray.size_mk', List.size_toArray, List.length_cons, List.length_nil]
  omega
def appOk (s : ByteArray) : Bool := decide (s.size ≤ 4000) && noByte s 35 && decide ((sealB s).size ≤ 4000)
def bodyB (k : Int) (c r : ByteArray) : ByteArray := ((numB k ++ ⟨#[32]⟩) ++ c ++ ⟨#[64]⟩) ++ r
def lineB (k : Int) (c r : ByteArray) : ByteArray := sealB (bodyB k c r) ++ ⟨#[10]⟩
theorem mem_append_data {a b : ByteArray} {c : UInt8} : c ∈ (a ++ b).data.toList ↔ c ∈ a.data.toList ∨ c ∈ b.data.toList := by
  rw [Joins.data_append, List.mem_append]
theorem dec_byte (u : Nat) : ∀ c ∈ Lib.decDigits u, 48 ≤ c.toNat ∧ c.toNat ≤ 57 := by
  induction u using Nat.strongRecOn with
  | _ u ih =>
    intro c hc
    have one : ∀ d, d < 10 → 48 ≤ (UInt8.ofNat (48 + d)).toNat ∧ (UInt8.ofNat (48 + d)).toNat ≤ 57 := by
      intro d hd
      rw [UInt8.toNat_ofNat']
      omega
    by_cases h : u < 10
    · rw [Lib.decDigits_one h] at hc
      simp only [List.mem_singleton] at hc
      subst hc
      exact one u h
    · rw [dec_step u h] at hc
      rcases List.mem_append.1 hc with hc | hc
      · exact ih _ (by omega) c hc
      · simp only [List.mem_singleton] at hc
        subst hc
        exact one _ (by omega)
theorem numB_byte {k : Int} (hk : 0 ≤ k) {c : UInt8} (hc : c ∈ (numB k).data.toList) : 48 ≤ c.toNat ∧ c.toNat ≤ 57 := by
  obtain ⟨n, rfl⟩ := Int.eq_ofNat_of_zero_le hk
  unfold numB at hc
  rw [Lib.itoa_nonneg] at hc
  exact dec_byte n c (by simpa using hc)
theorem plain_byte {s : ByteArray} (h : plain s = true) {c : UInt8} (hc : c ∈ s.data.toList) : 32 ≤ c.toNat ∧ c.toNat ≤ 126 ∧ c.toNat ≠ 35 := by
  obtain ⟨k, hk, e⟩ := List.getElem_of_mem hc
  have h1 := allTo_iff.1 h k (by rw [Array.length_toList] at hk; exact hk)
  simp only [plainB, decide_eq_true_eq] at h1
  have e2 : byteAt s k = c := by unfold byteAt; rw [getD_lt hk]; exact e
  rwa [e2] at h1
theorem goodRec_facts {c r : ByteArray} (h : goodRec c r = true) : 1 ≤ c.size ∧ c.size ≤ 160 ∧ r.size ≤ 200 ∧ plain c = true ∧ plain r = true ∧ noByte c 64 = true := by
  simp only [goodRec, Bool.and_eq_true, decide_eq_true_eq] at h
  obtain ⟨⟨⟨⟨⟨a, b⟩, c⟩, d⟩, e⟩, g⟩ := h
  exact ⟨a, b, c, d, e, g⟩
theorem bodyB_size {k : Int} {c r : ByteArray} (h0 : 0 ≤ k) (h1 : k ≤ 59) (h : goodRec c r = true) : (bodyB k c r).size ≤ 390 := by
  obtain ⟨_, a, b, _⟩ := goodRec_facts h
  have := numB_size (n := k) (by omega) (by omega)
  simp only [bodyB, ByteArray.size_append', ByteArray.size_mk', List.size_toArray, List.length_cons, List.length_nil]
  omega
theorem body_no {k : Int} {c r : ByteArray} (h0 : 0 ≤ k) (h : goodRec c r = true) : noByte (bodyB k c r) 35 = true := by
  obtain ⟨_, _, _, h2, h3, _⟩ := goodRec_facts h
  rw [noByte_iff]
  intro hm
  simp only [bodyB, mem_append_data] at hm
  rcases hm with (((hm | hm) | hm) | hm) | hm
  · have := numB_byte h0 hm; simp at this
  · simp at hm
  · have := plain_byte h2 hm; simp at this
  · simp at hm
  · have := plain_byte h3 hm; simp at this
theorem body_ok {k : Int} {c r : ByteArray} (h0 : 0 ≤ k) (h1 : k ≤ 59) (h : goodRec c r = true) : appOk (bodyB k c r) = true := by
  have h2 := bodyB_size h0 h1 h
  have h3 := sealB_size (bodyB k c r)
  simp only [appOk, Bool.and_eq_true, decide_eq_true_eq]
  exact ⟨⟨by omega, body_no h0 h⟩, by omega⟩
set_option maxHeartbeats 800000 in
theorem checksum_any (s : ByteArray) (hs : (s.size : Int) ≤ 9223372036854775807) (w : World) :
    Calls Tryd.prog 76 #[.string s] w fun e w' => e = .returned (.int .i64 (sumTo s s.size)) ∧ w = w' := by
  go_enter Tryd.func76, Tryd.ntmps76
  go_wp2_with fail
  go_loop [3, 7] (fun t i => ∃ k : Nat, k ≤ s.size ∧ i = .int .i64 k ∧ t = .int .i64 (sumTo s k)) (fun _ i => s.size - (intOf i).toNat)
  case atStart => exact ⟨0, Nat.zero_le _, rfl, rfl⟩
  case round =>
    obtain ⟨k, hk, rfl, rfl⟩ := hrel
    by_cases hlt : k < s.size
    · have hbk := byteAt_eq s k hlt
      have hk0 : (0 : Int) ≤ (k : Int) ∧ (k : Int) < (s.size : Int) := by omega
      obtain ⟨hk0, hk1⟩ := hk0
      have hst : Hid (sumTo s (k + 1) = (41 * sumTo s k + (byteAt s k).toNat + 1) % 999979) := rfl
      obtain ⟨hz0, hz1⟩ := sumTo_ok s k
      generalize sumTo s k = z at *
      generalize byteAt s k = c at *
      have hcc : c.toNat < 256 := UInt8.toNat_lt c
      have hmod : Int.tmod (41 * z + (c.toNat : Int) + 1) 999979 = (41 * z + (c.toNat : Int) + 1) % 999979 := Int.tmod_eq_emod_of_nonneg (by omega)
      go_wp2_with fail
      go_round
      case rel => exact ⟨k + 1, by omega, by go_num, by rw [hst.out]⟩
      case measure => simp [intOf]; omega
    · obtain rfl : k = s.size := by omega
      go_wp2_with fail
      go_ret
      exact ⟨rfl, rfl⟩
set_option maxHeartbeats 800000 in
theorem l1Sum_any (s : ByteArray) (hs : (s.size : Int) ≤ 9223372036854775807) (w : World) :
    Calls Tryd.prog 83 #[.string s] w fun e w' => e = .returned (.int .i64 (sumTo s s.size)) ∧ w = w' := by
  go_enter Tryd.func83, Tryd.ntmps83
  go_wp2_with fail
  go_loop [3, 4] (fun t i => ∃ k : Nat, k ≤ s.size ∧ i = .int .i64 k ∧ t = .int .i64 (sumTo s k)) (fun _ i => s.size - (intOf i).toNat)
  case atStart => exact ⟨0, Nat.zero_le _, rfl, rfl⟩
  case round =>
    obtain ⟨k, hk, rfl, rfl⟩ := hrel
    by_cases hlt : k < s.size
    · have hbk := byteAt_eq s k hlt
      have hk0 : (0 : Int) ≤ (k : Int) ∧ (k : Int) < (s.size : Int) := by omega
      obtain ⟨hk0, hk1⟩ := hk0
      have hst : Hid (sumTo s (k + 1) = (41 * sumTo s k + (byteAt s k).toNat + 1) % 999979) := rfl
      obtain ⟨hz0, hz1⟩ := sumTo_ok s k
      generalize sumTo s k = z at *
      generalize byteAt s k = c at *
      have hcc : c.toNat < 256 := UInt8.toNat_lt c
      have hmod : Int.tmod (41 * z + (c.toNat : Int) + 1) 999979 = (41 * z + (c.toNat : Int) + 1) % 999979 := Int.tmod_eq_emod_of_nonneg (by omega)
      go_wp2_with fail
      go_round
      case rel => exact ⟨k + 1, by omega, by go_num, by rw [hst.out]⟩
      case measure => simp [intOf]; omega
    · obtain rfl : k = s.size := by omega
      go_wp2_with fail
      go_ret
      exact ⟨rfl, rfl⟩
set_option maxHeartbeats 800000 in
theorem l1Seal_any (s : ByteArray) (hs : (s.size : Int) ≤ 9000000000000000000) (w : World) :
    Calls Tryd.prog 73 #[.string s] w fun e w' => e = .returned (.string (sealB s)) ∧ Below w.heap.size w w' := by
  have h := sumTo_ok s s.size
  have hz := numB_size (n := sumTo s s.size) (by omega) (by omega)
  have hsn : s.size ≤ 9000000000000000000 := by omega
  have he : Hid (sealB s = (s ++ ⟨#[35]⟩) ++ numB (sumTo s s.size)) := rfl
  go_enter Tryd.func73, Tryd.ntmps73
  go_wp2_with fail
  refine (l1Sum_any s (by omega) _).mono ?_
  rintro e w1 ⟨rfl, rfl⟩
  go_wp2_with fail
  refine (l1Num_any _ h.1 (by omega) _).mono ?_
  rintro e w2 ⟨rfl, hb2⟩
  go_wp2_with fail
  go_ret
  exact ⟨by first | (rw [he.out]; rfl) | rw [he.out], hb2⟩
set_option maxHeartbeats 1000000 in
theorem AppendChecksum_any (s : ByteArray) (hs : (s.size : Int) ≤ 9000000000000000000) (w : World) (ht : Tab w) :
    Calls Tryd.prog 65 #[.string s] w fun e w' => e = .returned (.tuple #[.string (if appOk s then sealB s else ⟨#[]⟩), .bool (appOk s)]) ∧ Below w.heap.size w w' := by
  have h := sumTo_ok s s.size
  have hz := numB_size (n := sumTo s s.size) (by omega) (by omega)
  have hix := noByte_index s 35
  have he : Hid (sealB s = (s ++ ⟨#[35]⟩) ++ numB (sumTo s s.size)) := rfl
  have hes : Hid ((sealB s).size = (s.size + 1) + (numB (sumTo s s.size)).size) := by show _ = _; simp only [sealB, ByteArray.size_append', ByteArray.size_mk', List.size_toArray, List.length_cons, List.length_nil]
  have hap : Hid (appOk s = (decide (s.size ≤ 4000) && noByte s 35 && decide ((sealB s).size ≤ 4000))) := rfl
  have CH := Lib.hid (checksum_any s (by omega))
  have DC := Lib.hid (decimal_any (sumTo s s.size) (by omega) (by omega) w ht)
  generalize hN : numB (sumTo s s.size) = N at *
  generalize hS : sumTo s s.size = Z at *
  clear h hN hS
  by_cases h1 : s.size ≤ 4000
  · have hd1 : decide (s.size ≤ 4000) = true := by simp [h1]
    have h1i : ¬ (4000 < (s.size : Int)) := by omega
    cases h2 : noByte s 35 with
    | false =>
      have ha : appOk s = false := by rw [hap.out, h2]; simp
      rw [ha]
      rw [h2] at hix
      go_enter Tryd.func65, Tryd.ntmps65
      go_wp2_with (go_at_call 75; refine (Tryd.strings_Contains_one _ 35 _).mono ?_; rw [hix]; rintro e w3 ⟨rfl, rfl⟩)
      go_ret2
      exact ⟨rfl, Below.refl _ _⟩
    | true =>
      rw [h2] at hix
      by_cases h3 : (sealB s).size ≤ 4000
      · have ha : appOk s = true := by rw [hap.out, h2, hd1]; simp [h3]
        rw [ha]
        have h3i : ¬ (4000 < ((s.size + 1 + N.size : Nat) : Int)) := by have := hes.out; omega
        have h3j : ¬ (4000 < (s.size : Int) + 1 + (N.size : Int)) := by omega
        have h3k : s.size + 1 + N.size ≤ 4000 := by have := hes.out; omega
        go_enter Tryd.func65, Tryd.ntmps65
        go_wp2_with (first | (go_at_call 75; refine (Tryd.strings_Contains_one _ 35 _).mono ?_; rw [hix]; rintro e w3 ⟨rfl, rfl⟩) | (go_at_call 76; refine (CH.out _).mono ?_; rintro e w4 ⟨rfl, rfl⟩) | (go_at_call 24; refine DC.out.mono ?_; rintro e w5 ⟨rfl, hb5⟩))
        go_ret2
        exact ⟨by first | (rw [he.out]; rfl) | rw [he.out], hb5⟩
      · have ha : appOk s = false := by rw [hap.out, h2, hd1]; simp; omega
        rw [ha]
        have h3i : 4000 < ((s.size + 1 + N.size : Nat) : Int) := by have := hes.out; omega
        have h3j : 4000 < (s.size : Int) + 1 + (N.size : Int) := by omega
        go_enter Tryd.func65, Tryd.ntmps65
        go_wp2_with (first | (go_at_call 75; refine (Tryd.strings_Contains_one _ 35 _).mono ?_; rw [hix]; rintro e w3 ⟨rfl, rfl⟩) | (go_at_call 76; refine (CH.out _).mono ?_; rintro e w4 ⟨rfl, rfl⟩) | (go_at_call 24; refine DC.out.mono ?_; rintro e w5 ⟨rfl, hb5⟩))
        go_ret2
        exact ⟨rfl, hb5⟩
  · have ha : appOk s = false := by rw [hap.out]; simp [h1]
    rw [ha]
    have h1i : 4000 < (s.size : Int) := by omega
    go_enter Tryd.func65, Tryd.ntmps65
    go_wp2_with fail
    go_ret2
    exact ⟨rfl, Below.refl _ _⟩
set_option maxHeartbeats 1000000 in
theorem l27Line_any (k : Int) (c r : ByteArray) (h0 : 0 ≤ k) (h1 : k ≤ 1000000) (hc : c.size ≤ 1048576) (hr : r.size ≤ 1048576) (w : World) :
    Calls Tryd.prog 63 #[.int .i64 k, .agg #[.string c, .string r]] w fun e w' => e = .returned (.string (lineB k c r)) ∧ Below w.heap.size w w' := by
  have HAL : Below w.heap.size w (w.alloc (.cells #[.string c, .string r] 84)) := (Below.refl _ w).alloc (Nat.le_refl _) _
  have hz := numB_size (n := k) (by omega) (by omega)
  have HF : Hid (∀ w', Below (w.alloc (.cells #[.string c, .string r] 84)).heap.size (w.alloc (.cells #[.string c, .string r] 84)) w' → w'.cell? ⟨w.heap.size, 0, none⟩ = some (.string c) ∧ w'.cell? ⟨w.heap.size, 1, none⟩ = some (.string r)) := by
    intro w' hq
    exact ⟨(hq.cell (p := ⟨w.heap.size, 0, none⟩) (by simp)).trans (by simp), (hq.cell (p := ⟨w.heap.size, 1, none⟩) (by simp)).trans (by simp)⟩
  have hsz : (bodyB k c r).size ≤ 3000000 := by
    simp only [bodyB, ByteArray.size_append', ByteArray.size_mk', List.size_toArray, List.length_cons, List.length_nil]; omega
  have hszi : ((bodyB k c r).size : Int) ≤ 9000000000000000000 := by omega
  have hss := sealB_size (bodyB k c r)
  go_enter Tryd.func63, Tryd.ntmps63
  go_wp2_with fail
  refine wp_region_class (C := fun w' => Below ((w.alloc (.cells #[.string c, .string r] 84))).heap.size ((w.alloc (.cells #[.string c, .string r] 84))) w') (by kernel_rfl) (by kernel_rfl) ((Below.refl _ _).drew) ?_
  refine wpQuiet_take (d := 5) (v := ?_) (by rfl) ?_ ?_
  rotate_left
  · intro wS hS
    have eF := HF.out wS hS
    go_simp
    try with_reducible rfl
  simp only [Act.put, List.setIfInBounds_toArray, List.set_cons_zero, List.set_cons_succ]
  refine wpQuiet_meet (d := 6) (v := ?_) ?_ ?_ (by rfl) ?_ ?_ ?_
  rotate_left
  rotate_left
  rotate_left
  · intro wS hS
    have eF := HF.out wS hS
    go_simp
    first | with_reducible rfl | (refine ⟨?_, ?_⟩ <;> with_reducible rfl)
  · intro wS hS
    refine (l1Num_any k (by omega) (by omega) wS).mono ?_
    rintro e w2 ⟨rfl, hb2⟩
    refine ⟨?_, hS.trans (hb2.mono hS.size)⟩
    with_reducible rfl
  simp only [Act.put, List.setIfInBounds_toArray, List.set_cons_zero, List.set_cons_succ]
  refine wpQuiet_take (d := 7) (v := ?_) (by rfl) ?_ ?_
  rotate_left
  · intro wS hS
    refine run_add_strP ⟨_, _, rfl, rfl, by simp only [ByteArray.size_append', ByteArray.size_mk', List.size_toArray, List.length_cons, List.length_nil]; omega, ?_⟩
    with_reducible rfl
  simp only [Act.put, List.setIfInBounds_toArray, List.set_cons_zero, List.set_cons_succ]
  refine wpQuiet_take (d := 8) (v := ?_) (by rfl) ?_ ?_
  rotate_left
  · intro wS hS
    have eF := HF.out wS hS
    go_simp
    try with_reducible rfl
  simp only [Act.put, List.setIfInBounds_toArray, List.set_cons_zero, List.set_cons_succ]
  refine wpQuiet_take (d := 9) (v := ?_) (by rfl) ?_ ?_
  rotate_left
  · intro wS hS
    have eF := HF.out wS hS
    go_simp
    try with_reducible rfl
  simp only [Act.put, List.setIfInBounds_toArray, List.set_cons_zero, List.set_cons_succ]
  refine wpQuiet_take (d := 10) (v := ?_) (by rfl) ?_ ?_
  rotate_left
  · intro wS hS
    refine run_add_strP ⟨_, _, rfl, rfl, by simp only [ByteArray.size_append', ByteArray.size_mk', List.size_toArray, List.length_cons, List.length_nil]; omega, ?_⟩
    with_reducible rfl
  simp only [Act.put, List.setIfInBounds_toArray, List.set_cons_zero, List.set_cons_succ]
  refine wpQuiet_take (d := 11) (v := ?_) (by rfl) ?_ ?_
  rotate_left
  · intro wS hS
    refine run_add_strP ⟨_, _, rfl, rfl, by simp only [ByteArray.size_append', ByteArray.size_mk', List.size_toArray, List.length_cons, List.length_nil]; omega, ?_⟩
    with_reducible rfl
  simp only [Act.put, List.setIfInBounds_toArray, List.set_cons_zero, List.set_cons_succ]
  refine wpQuiet_take (d := 12) (v := ?_) (by rfl) ?_ ?_
  rotate_left
  · intro wS hS
    have eF := HF.out wS hS
    go_simp
    try with_reducible rfl
  simp only [Act.put, List.setIfInBounds_toArray, List.set_cons_zero, List.set_cons_succ]
  refine wpQuiet_take (d := 13) (v := ?_) (by rfl) ?_ ?_
  rotate_left
  · intro wS hS
    have eF := HF.out wS hS
    go_simp
    try with_reducible rfl
  simp only [Act.put, List.setIfInBounds_toArray, List.set_cons_zero, List.set_cons_succ]
  refine wpQuiet_take (d := 14) (v := ?_) (by rfl) ?_ ?_
  rotate_left
  · intro wS hS
    refine run_add_strP ⟨_, _, rfl, rfl, by simp only [ByteArray.size_append', ByteArray.size_mk', List.size_toArray, List.length_cons, List.length_nil]; omega, ?_⟩
    with_reducible rfl
  simp only [Act.put, List.setIfInBounds_toArray, List.set_cons_zero, List.set_cons_succ]
  refine wpQuiet_meet (d := 15) (v := ?_) ?_ ?_ (by rfl) ?_ ?_ ?_
  rotate_left
  rotate_left
  rotate_left
  · intro wS hS
    have eF := HF.out wS hS
    go_simp
    first | with_reducible rfl | (refine ⟨?_, ?_⟩ <;> with_reducible rfl)
  · intro wS hS
    refine (l1Seal_any (bodyB k c r) hszi wS).mono ?_
    rintro e w2 ⟨rfl, hb2⟩
    refine ⟨?_, hS.trans (hb2.mono hS.size)⟩
    with_reducible rfl
  simp only [Act.put, List.setIfInBounds_toArray, List.set_cons_zero, List.set_cons_succ]
  refine wpQuiet_take (d := 16) (v := ?_) (by rfl) ?_ ?_
  rotate_left
  · intro wS hS
    refine run_add_strP ⟨_, _, rfl, rfl, by simp only [ByteArray.size_append', ByteArray.size_mk', List.size_toArray, List.length_cons, List.length_nil]; omega, ?_⟩
    with_reducible rfl
  simp only [Act.put, List.setIfInBounds_toArray, List.set_cons_zero, List.set_cons_succ]
  refine wpQuiet_take (d := 4) (v := ?_) (by rfl) ?_ ?_
  rotate_left
  · intro wS hS
    have eF := HF.out wS hS
    go_simp
    try with_reducible rfl
  simp only [Act.put, List.setIfInBounds_toArray, List.set_cons_zero, List.set_cons_succ]
  refine wpQuiet_nil (fun wq hHeld => ?_)
  go_wp2_with fail
  go_ret
  exact ⟨rfl, HAL.trans (hHeld.mono (by simp))⟩
set_option maxHeartbeats 1000000 in
theorem EncodeRecord_any (k : Int) (c r : ByteArray) (hc : (c.size : Int) ≤ 9223372036854775807) (hr : (r.size : Int) ≤ 9223372036854775807) (w : World) (ht : Tab w) :
    Calls Tryd.prog 59 #[.int .i64 k, .agg #[.string c, .string r]] w fun e w' => e = .returned (.tuple #[.string (if inR k 0 59 && goodRec c r then lineB k c r else ⟨#[]⟩), .bool (inR k 0 59 && goodRec c r)]) ∧ Below w.heap.size w w' := by
  have HAL : Below w.heap.size w (w.alloc (.cells #[.string c, .string r] 84)) := (Below.refl _ w).alloc (Nat.le_refl _) _
  have HT : Hid (Tab (w.alloc (.cells #[.string c, .string r] 84))) := ht.below HAL
  have HF : Hid (∀ w', Below (w.alloc (.cells #[.string c, .string r] 84)).heap.size (w.alloc (.cells #[.string c, .string r] 84)) w' → w'.cell? ⟨w.heap.size, 0, none⟩ = some (.string c) ∧ w'.cell? ⟨w.heap.size, 1, none⟩ = some (.string r)) := by
    intro w' hq
    exact ⟨(hq.cell (p := ⟨w.heap.size, 0, none⟩) (by simp)).trans (by simp), (hq.cell (p := ⟨w.heap.size, 1, none⟩) (by simp)).trans (by simp)⟩
  cases hk : inR k 0 59 with
  | false =>
    go_enter Tryd.func59, Tryd.ntmps59
    go_wp2_with (go_at_call 31; refine (within_any _ _ _ _).mono ?_; rw [hk]; rintro e w3 ⟨rfl, rfl⟩)
    go_ret2
    exact ⟨rfl, HAL⟩
  | true =>
    have hk2 : 0 ≤ k ∧ k ≤ 59 := by simpa [inR] using hk
    cases hg : goodRec c r with
    | false =>
      go_enter Tryd.func59, Tryd.ntmps59
      go_wp2_with (first | (go_at_call 31; refine (within_any _ _ _ _).mono ?_; rw [hk]; rintro e w3 ⟨rfl, rfl⟩) | (go_at_call 66; refine (IsValidRecord_any c r hc hr _).mono ?_; rw [hg]; rintro e w4 ⟨rfl, hb4⟩))
      go_ret2
      exact ⟨rfl, HAL.trans (hb4.mono (by simp))⟩
    | true =>
      obtain ⟨_, g1, g2, _⟩ := goodRec_facts hg
      have hz := numB_size (n := k) (by omega) (by omega)
      have hbs := bodyB_size hk2.1 hk2.2 hg
      have hbi : ((bodyB k c r).size : Int) ≤ 9000000000000000000 := by omega
      have hok := body_ok hk2.1 hk2.2 hg
      have hss := sealB_size (bodyB k c r)
      have AC := fun wS hT => AppendChecksum_any (bodyB k c r) hbi wS hT
      rw [hok] at AC
      simp only [if_true] at AC
      go_enter Tryd.func59, Tryd.ntmps59
      go_wp2_with (first | (go_at_call 31; refine (within_any _ _ _ _).mono ?_; rw [hk]; rintro e w3 ⟨rfl, rfl⟩) | (go_at_call 66; refine (IsValidRecord_any c r hc hr _).mono ?_; rw [hg]; rintro e w4 ⟨rfl, hb4⟩; refine Hid.out ?_))
      refine Lib.hid ?_
      have HT4 : Hid (Tab w4) := HT.out.below hb4
      have HF4 : Hid (∀ w', Below w4.heap.size w4 w' → w'.cell? ⟨w.heap.size, 0, none⟩ = some (.string c) ∧ w'.cell? ⟨w.heap.size, 1, none⟩ = some (.string r)) := fun w' hq => HF.out w' (hb4.trans (hq.mono hb4.size))
      clear HF HT
      have HF : Hid (∀ w', Below w4.heap.size w4 w' → w'.cell? ⟨w.heap.size, 0, none⟩ = some (.string c) ∧ w'.cell? ⟨w.heap.size, 1, none⟩ = some (.string r)) := HF4
      have HAC := Lib.hid AC
      clear AC HF4
      go_wp2_with fail
      refine wp_region_class (C := fun w' => Below (w4).heap.size (w4) w') (by kernel_rfl) (by kernel_rfl) ((Below.refl _ _).drew) ?_
      refine wpQuiet_take (d := 17) (v := ?_) (by rfl) ?_ ?_
      rotate_left
      · intro wS hS
        have eF := HF.out wS hS
        go_simp
        try with_reducible rfl
      simp only [Act.put, List.setIfInBounds_toArray, List.set_cons_zero, List.set_cons_succ]
      refine wpQuiet_meet (d := 18) (v := ?_) ?_ ?_ (by rfl) ?_ ?_ ?_
      rotate_left
      rotate_left
      rotate_left
      · intro wS hS
        have eF := HF.out wS hS
        go_simp
        first | with_reducible rfl | (refine ⟨?_, ?_⟩ <;> with_reducible rfl)
      · intro wS hS
        refine (decimal_any k (by omega) (by omega) wS (HT4.out.below hS)).mono ?_
        rintro e w2 ⟨rfl, hb2⟩
        refine ⟨?_, hS.trans (hb2.mono hS.size)⟩
        with_reducible rfl
      simp only [Act.put, List.setIfInBounds_toArray, List.set_cons_zero, List.set_cons_succ]
      refine wpQuiet_take (d := 19) (v := ?_) (by rfl) ?_ ?_
      rotate_left
      · intro wS hS
        refine run_add_strP ⟨_, _, rfl, rfl, by simp only [ByteArray.size_append', ByteArray.size_mk', List.size_toArray, List.length_cons, List.length_nil]; omega, ?_⟩
        with_reducible rfl
      simp only [Act.put, List.setIfInBounds_toArray, List.set_cons_zero, List.set_cons_succ]
      refine wpQuiet_take (d := 20) (v := ?_) (by rfl) ?_ ?_
      rotate_left
      · intro wS hS
        have eF := HF.out wS hS
        go_simp
        try with_reducible rfl
      simp only [Act.put, List.setIfInBounds_toArray, List.set_cons_zero, List.set_cons_succ]
      refine wpQuiet_take (d := 21) (v := ?_) (by rfl) ?_ ?_
      rotate_left
      · intro wS hS
        have eF := HF.out wS hS
        go_simp
        try with_reducible rfl
      simp only [Act.put, List.setIfInBounds_toArray, List.set_cons_zero, List.set_cons_succ]
      refine wpQuiet_take (d := 22) (v := ?_) (by rfl) ?_ ?_
      rotate_left
      · intro wS hS
        refine run_add_strP ⟨_, _, rfl, rfl, by simp only [ByteArray.size_append', ByteArray.size_mk', List.size_toArray, List.length_cons, List.length_nil]; omega, ?_⟩
        with_reducible rfl
      simp only [Act.put, List.setIfInBounds_toArray, List.set_cons_zero, List.set_cons_succ]
      refine wpQuiet_take (d := 23) (v := ?_) (by rfl) ?_ ?_
      rotate_left
      · intro wS hS
        refine run_add_strP ⟨_, _, rfl, rfl, by simp only [ByteArray.size_append', ByteArray.size_mk', List.size_toArray, List.length_cons, List.length_nil]; omega, ?_⟩
        with_reducible rfl
      simp only [Act.put, List.setIfInBounds_toArray, List.set_cons_zero, List.set_cons_succ]
      refine wpQuiet_take (d := 24) (v := ?_) (by rfl) ?_ ?_
      rotate_left
      · intro wS hS
        have eF := HF.out wS hS
        go_simp
        try with_reducible rfl
      simp only [Act.put, List.setIfInBounds_toArray, List.set_cons_zero, List.set_cons_succ]
      refine wpQuiet_take (d := 25) (v := ?_) (by rfl) ?_ ?_
      rotate_left
      · intro wS hS
        have eF := HF.out wS hS
        go_simp
        try with_reducible rfl
      simp only [Act.put, List.setIfInBounds_toArray, List.set_cons_zero, List.set_cons_succ]
      refine wpQuiet_take (d := 26) (v := ?_) (by rfl) ?_ ?_
      rotate_left
      · intro wS hS
        refine run_add_strP ⟨_, _, rfl, rfl, by simp only [ByteArray.size_append', ByteArray.size_mk', List.size_toArray, List.length_cons, List.length_nil]; omega, ?_⟩
        with_reducible rfl
      simp only [Act.put, List.setIfInBounds_toArray, List.set_cons_zero, List.set_cons_succ]
      refine wpQuiet_meet (d := 27) (v := ?_) ?_ ?_ (by rfl) ?_ ?_ ?_
      rotate_left
      rotate_left
      rotate_left
      · intro wS hS
        have eF := HF.out wS hS
        go_simp
        first | with_reducible rfl | (refine ⟨?_, ?_⟩ <;> with_reducible rfl)
      · intro wS hS
        refine (HAC.out wS (HT4.out.below hS)).mono ?_
        rintro e w2 ⟨rfl, hb2⟩
        refine ⟨?_, hS.trans (hb2.mono hS.size)⟩
        with_reducible rfl
      simp only [Act.put, List.setIfInBounds_toArray, List.set_cons_zero, List.set_cons_succ]
      refine wpQuiet_take (d := 16) (v := ?_) (by rfl) ?_ ?_
      rotate_left
      · intro wS hS
        have eF := HF.out wS hS
        go_simp
        try with_reducible rfl
      simp only [Act.put, List.setIfInBounds_toArray, List.set_cons_zero, List.set_cons_succ]
      refine wpQuiet_take (d := 28) (v := ?_) (by rfl) ?_ ?_
      rotate_left
      · intro wS hS
        have eF := HF.out wS hS
        go_simp
        try with_reducible rfl
      simp only [Act.put, List.setIfInBounds_toArray, List.set_cons_zero, List.set_cons_succ]
      refine wpQuiet_take (d := 29) (v := ?_) (by rfl) ?_ ?_
      rotate_left
      · intro wS hS
        have eF := HF.out wS hS
        go_simp
        try with_reducible rfl
      simp only [Act.put, List.setIfInBounds_toArray, List.set_cons_zero, List.set_cons_succ]
      refine wpQuiet_take (d := 6) (v := ?_) (by rfl) ?_ ?_
      rotate_left
      · intro wS hS
        have eF := HF.out wS hS
        go_simp
        try with_reducible rfl
      simp only [Act.put, List.setIfInBounds_toArray, List.set_cons_zero, List.set_cons_succ]
      refine wpQuiet_take (d := 7) (v := ?_) (by rfl) ?_ ?_
      rotate_left
      · intro wS hS
        have eF := HF.out wS hS
        go_simp
        try with_reducible rfl
      simp only [Act.put, List.setIfInBounds_toArray, List.set_cons_zero, List.set_cons_succ]
      refine wpQuiet_nil (fun wq hHeld => ?_)
      go_wp2_with fail
      go_ret2
      exact ⟨rfl, HAL.trans ((hb4.trans (hHeld.mono hb4.size)).mono (by simp))⟩
end Go.Proofs.YtegklcapfjigaaaDoor
