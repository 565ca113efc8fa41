/-
  Texts of this claim, merged.
-/
import Derived.Test.YtpndjhelpoenpaaGreatDoorZB1
import Derived.Lib.IndexMore
import Derived.Lib.IndexLaws
import Derived.Deep.RegionLaw
import Derived.HandedShaped
import Derived.Shelf.Vars
import Derived.Deep.Cut
import Derived.Lib.AtoiErrMem
import Derived.LaidLaws
import Derived.LaidMore
set_option linter.unusedVariables false
set_option linter.unusedSimpArgs false
set_option maxRecDepth 100000
set_option maxHeartbeats 8000000
namespace Go.Proofs.YtpndjhelpoenpaaGreatDoor
open Go.RowKit
attribute [local go_sem ↓] Go.wp_at_zero Go.wp_at_succ
def sumTo (s : ByteArray) : Nat → Int
 | 0 => 7
 | k + 1 => (41 * sumTo s k + (byteAt s k).toNat + 1) % 999979
theorem sumTo_ok (s : ByteArray) (k : Nat) : 0 ≤ sumTo s k ∧ sumTo s k ≤ 999978 := by
 cases k with
 | zero => simp [sumTo]
 | succ k => simp only [sumTo]; omega
def sealB (s : ByteArray) : ByteArray := (s ++ ⟨#[35]⟩) ++ numB (sumTo s s.size)
theorem sealB_size (s : ByteArray) : (sealB s).size ≤ s.size + 22 := by
 have h := sumTo_ok s s.size
 have := numB_size (n := sumTo s s.size) (by omega) (by omega)
 simp only [sealB, ByteArray.size_append', ByteArray.size_mk', List.size_toArray, List.length_cons, List.length_nil]
 omega
def appOk (s : ByteArray) : Bool := decide (s.size ≤ 4000) && noByte s 35 && decide ((sealB s).size ≤ 4000)
def bodyB (k : Int) (c r : ByteArray) : ByteArray := ((numB k ++ ⟨#[32]⟩) ++ c ++ ⟨#[64]⟩) ++ r
def lineB (k : Int) (c r : ByteArray) : ByteArray := sealB (bodyB k c r) ++ ⟨#[10]⟩
theorem mem_append_data {a b : ByteArray} {c : UInt8} : c ∈ (a ++ b).data.toList ↔ c ∈ a.data.toList ∨ c ∈ b.data.toList := by
 rw [Joins.data_append, List.mem_append]
theorem dec_byte (u : Nat) : ∀ c ∈ Lib.decDigits u, 48 ≤ c.toNat ∧ c.toNat ≤ 57 := by
 induction u using Nat.strongRecOn with
 | _ u ih =>
  intro c hc
  have one : ∀ d, d < 10 → 48 ≤ (UInt8.ofNat (48 + d)).toNat ∧ (UInt8.ofNat (48 + d)).toNat ≤ 57 := by
   intro d hd
   rw [UInt8.toNat_ofNat']
   omega
  by_cases h : u < 10
  ·rw [Lib.decDigits_one h] at hc
   simp only [List.mem_singleton] at hc
   subst hc
   exact one u h
  ·rw [dec_step u h] at hc
   rcases List.mem_append.1 hc with hc | hc
   ·exact ih _ (by omega) c hc
   ·simp only [List.mem_singleton] at hc
    subst hc
    exact one _ (by omega)
theorem numB_byte {k : Int} (hk : 0 ≤ k) {c : UInt8} (hc : c ∈ (numB k).data.toList) : 48 ≤ c.toNat ∧ c.toNat ≤ 57 := by
 obtain ⟨n, rfl⟩ := Int.eq_ofNat_of_zero_le hk
 unfold numB at hc
 rw [Lib.itoa_nonneg] at hc
 exact dec_byte n c (by simpa using hc)
theorem plain_byte {s : ByteArray} (h : plain s = true) {c : UInt8} (hc : c ∈ s.data.toList) : 32 ≤ c.toNat ∧ c.toNat ≤ 126 ∧ c.toNat ≠ 35 := by
 obtain ⟨k, hk, e⟩ := List.getElem_of_mem hc
 have h1 := allTo_iff.1 h k (by rw [Array.length_toList] at hk; exact hk)
 simp only [plainB, decide_eq_true_eq] at h1
 have e2 : byteAt s k = c := by unfold byteAt; rw [getD_lt hk]; exact e
 rwa [e2] at h1
theorem goodRec_facts {c r : ByteArray} (h : goodRec c r = true) : 1 ≤ c.size ∧ c.size ≤ 160 ∧ r.size ≤ 200 ∧ plain c = true ∧ plain r = true ∧ noByte c 64 = true := by
 simp only [goodRec, Bool.and_eq_true, decide_eq_true_eq] at h
 obtain ⟨⟨⟨⟨⟨a, b⟩, c⟩, d⟩, e⟩, g⟩ := h
 exact ⟨a, b, c, d, e, g⟩
theorem bodyB_size {k : Int} {c r : ByteArray} (h0 : 0 ≤ k) (h1 : k ≤ 59) (h : goodRec c r = true) : (bodyB k c r).size ≤ 390 := by
 obtain ⟨_, a, b, _⟩ := goodRec_facts h
 have := numB_size (n := k) (by omega) (by omega)
 simp only [bodyB, ByteArray.size_append', ByteArray.size_mk', List.size_toArray, List.length_cons, List.length_nil]
 omega
theorem body_no {k : Int} {c r : ByteArray} (h0 : 0 ≤ k) (h : goodRec c r = true) : noByte (bodyB k c r) 35 = true := by
 obtain ⟨_, _, _, h2, h3, _⟩ := goodRec_facts h
 rw [noByte_iff]
 intro hm
 simp only [bodyB, mem_append_data] at hm
 rcases hm with (((hm | hm) | hm) | hm) | hm
 ·have := numB_byte h0 hm; simp at this
 ·simp at hm
 ·have := plain_byte h2 hm; simp at this
 ·simp at hm
 ·have := plain_byte h3 hm; simp at this
theorem body_ok {k : Int} {c r : ByteArray} (h0 : 0 ≤ k) (h1 : k ≤ 59) (h : goodRec c r = true) : appOk (bodyB k c r) = true := by
 have h2 := bodyB_size h0 h1 h
 have h3 := sealB_size (bodyB k c r)
 simp only [appOk, Bool.and_eq_true, decide_eq_true_eq]
 exact ⟨⟨by omega, body_no h0 h⟩, by omega⟩
theorem checksum_any (s : ByteArray) (hs : (s.size : Int) ≤ 9223372036854775807) (w : World) :
  Calls Tryz.prog 178 #[.string s] w fun e w' => e = .returned (.int .i64 (sumTo s s.size)) ∧ w = w' := by
 go_enter Tryz.func178, Tryz.ntmps178
 go_wp2_with fail
 go_loop [3, 7] (fun t i => ∃ k : Nat, k ≤ s.size ∧ i = .int .i64 k ∧ t = .int .i64 (sumTo s k)) (fun _ i => s.size - (intOf i).toNat)
 case atStart => exact ⟨0, Nat.zero_le _, rfl, rfl⟩
 case round =>
  obtain ⟨k, hk, rfl, rfl⟩ := hrel
  by_cases hlt : k < s.size
  ·have hbk := byteAt_eq s k hlt
   have hk0 : (0 : Int) ≤ (k : Int) ∧ (k : Int) < (s.size : Int) := by omega
   obtain ⟨hk0, hk1⟩ := hk0
   have hst : Hid (sumTo s (k + 1) = (41 * sumTo s k + (byteAt s k).toNat + 1) % 999979) := rfl
   obtain ⟨hz0, hz1⟩ := sumTo_ok s k
   generalize sumTo s k = z at *
   generalize byteAt s k = c at *
   have hcc : c.toNat < 256 := UInt8.toNat_lt c
   have hmod : Int.tmod (41 * z + (c.toNat : Int) + 1) 999979 = (41 * z + (c.toNat : Int) + 1) % 999979 := Int.tmod_eq_emod_of_nonneg (by omega)
   go_wp2_with fail
   go_round
   case rel => exact ⟨k + 1, by omega, by go_num, by rw [hst.out]⟩
   case measure => simp [intOf]; omega
  ·obtain rfl : k = s.size := by omega
   go_wp2_with fail
   go_ret
   exact ⟨rfl, rfl⟩
theorem l1Sum_any (s : ByteArray) (hs : (s.size : Int) ≤ 9223372036854775807) (w : World) :
  Calls Tryz.prog 162 #[.string s] w fun e w' => e = .returned (.int .i64 (sumTo s s.size)) ∧ w = w' := by
 go_enter Tryz.func162, Tryz.ntmps162
 go_wp2_with fail
 go_loop [3, 4] (fun t i => ∃ k : Nat, k ≤ s.size ∧ i = .int .i64 k ∧ t = .int .i64 (sumTo s k)) (fun _ i => s.size - (intOf i).toNat)
 case atStart => exact ⟨0, Nat.zero_le _, rfl, rfl⟩
 case round =>
  obtain ⟨k, hk, rfl, rfl⟩ := hrel
  by_cases hlt : k < s.size
  ·have hbk := byteAt_eq s k hlt
   have hk0 : (0 : Int) ≤ (k : Int) ∧ (k : Int) < (s.size : Int) := by omega
   obtain ⟨hk0, hk1⟩ := hk0
   have hst : Hid (sumTo s (k + 1) = (41 * sumTo s k + (byteAt s k).toNat + 1) % 999979) := rfl
   obtain ⟨hz0, hz1⟩ := sumTo_ok s k
   generalize sumTo s k = z at *
   generalize byteAt s k = c at *
   have hcc : c.toNat < 256 := UInt8.toNat_lt c
   have hmod : Int.tmod (41 * z + (c.toNat : Int) + 1) 999979 = (41 * z + (c.toNat : Int) + 1) % 999979 := Int.tmod_eq_emod_of_nonneg (by omega)
   go_wp2_with fail
   go_round
   case rel => exact ⟨k + 1, by omega, by go_num, by rw [hst.out]⟩
   case measure => simp [intOf]; omega
  ·obtain rfl : k = s.size := by omega
   go_wp2_with fail
   go_ret
   exact ⟨rfl, rfl⟩
theorem l1Seal_any (s : ByteArray) (hs : (s.size : Int) ≤ 9000000000000000000) (w : World) :
  Calls Tryz.prog 134 #[.string s] w fun e w' => e = .returned (.string (sealB s)) ∧ Below w.heap.size w w' := by
 have h := sumTo_ok s s.size
 have hz := numB_size (n := sumTo s s.size) (by omega) (by omega)
 have hsn : s.size ≤ 9000000000000000000 := by omega
 have he : Hid (sealB s = (s ++ ⟨#[35]⟩) ++ numB (sumTo s s.size)) := rfl
 go_enter Tryz.func134, Tryz.ntmps134
 go_wp2_with fail
 refine (l1Sum_any s (by omega) _).mono ?_
 rintro e w1 ⟨rfl, rfl⟩
 go_wp2_with fail
 refine (l1Num_any _ h.1 (by omega) _).mono ?_
 rintro e w2 ⟨rfl, hb2⟩
 go_wp2_with fail
 go_ret
 exact ⟨by first | (rw [he.out]; rfl) | rw [he.out], hb2⟩
theorem AppendChecksum_any (s : ByteArray) (hs : (s.size : Int) ≤ 9000000000000000000) (w : World) (ht : Tab w) :
  Calls Tryz.prog 146 #[.string s] w fun e w' => e = .returned (.tuple #[.string (if appOk s then sealB s else ⟨#[]⟩), .bool (appOk s)]) ∧ Below w.heap.size w w' := by
 have h := sumTo_ok s s.size
 have hz := numB_size (n := sumTo s s.size) (by omega) (by omega)
 have hix := noByte_index s 35
 have he : Hid (sealB s = (s ++ ⟨#[35]⟩) ++ numB (sumTo s s.size)) := rfl
 have hes : Hid ((sealB s).size = (s.size + 1) + (numB (sumTo s s.size)).size) := by show _ = _; simp only [sealB, ByteArray.size_append', ByteArray.size_mk', List.size_toArray, List.length_cons, List.length_nil]
 have hap : Hid (appOk s = (decide (s.size ≤ 4000) && noByte s 35 && decide ((sealB s).size ≤ 4000))) := rfl
 have CH := lh (checksum_any s (by omega))
 have DC := lh (decimal_any (sumTo s s.size) (by omega) (by omega) w ht)
 generalize hN : numB (sumTo s s.size) = N at *
 generalize hS : sumTo s s.size = Z at *
 clear h hN hS
 by_cases h1 : s.size ≤ 4000
 ·have hd1 : decide (s.size ≤ 4000) = true := by simp [h1]
  have h1i : ¬ (4000 < (s.size : Int)) := by omega
  cases h2 : noByte s 35 with
  | false =>
   have ha : appOk s = false := by rw [hap.out, h2]; simp
   rw [ha]
   rw [h2] at hix
   go_enter Tryz.func146, Tryz.ntmps146
   go_wp2_with (go_at_call 92; refine (Tryz.strings_Contains_one _ 35 _).mono ?_; rw [hix]; rintro e w3 ⟨rfl, rfl⟩)
   go_ret2
   exact ⟨rfl, Below.refl _ _⟩
  | true =>
   rw [h2] at hix
   by_cases h3 : (sealB s).size ≤ 4000
   ·have ha : appOk s = true := by rw [hap.out, h2, hd1]; simp [h3]
    rw [ha]
    have h3i : ¬ (4000 < ((s.size + 1 + N.size : Nat) : Int)) := by have := hes.out; omega
    have h3j : ¬ (4000 < (s.size : Int) + 1 + (N.size : Int)) := by omega
    have h3k : s.size + 1 + N.size ≤ 4000 := by have := hes.out; omega
    go_enter Tryz.func146, Tryz.ntmps146
    go_wp2_with (first | (go_at_call 92; refine (Tryz.strings_Contains_one _ 35 _).mono ?_; rw [hix]; rintro e w3 ⟨rfl, rfl⟩) | (go_at_call 178; refine (CH.out _).mono ?_; rintro e w4 ⟨rfl, rfl⟩) | (go_at_call 65; refine DC.out.mono ?_; rintro e w5 ⟨rfl, hb5⟩))
    go_ret2
    exact ⟨by first | (rw [he.out]; rfl) | rw [he.out], hb5⟩
   ·have ha : appOk s = false := by rw [hap.out, h2, hd1]; simp; omega
    rw [ha]
    have h3i : 4000 < ((s.size + 1 + N.size : Nat) : Int) := by have := hes.out; omega
    have h3j : 4000 < (s.size : Int) + 1 + (N.size : Int) := by omega
    go_enter Tryz.func146, Tryz.ntmps146
    go_wp2_with (first | (go_at_call 92; refine (Tryz.strings_Contains_one _ 35 _).mono ?_; rw [hix]; rintro e w3 ⟨rfl, rfl⟩) | (go_at_call 178; refine (CH.out _).mono ?_; rintro e w4 ⟨rfl, rfl⟩) | (go_at_call 65; refine DC.out.mono ?_; rintro e w5 ⟨rfl, hb5⟩))
    go_ret2
    exact ⟨rfl, hb5⟩
 ·have ha : appOk s = false := by rw [hap.out]; simp [h1]
  rw [ha]
  have h1i : 4000 < (s.size : Int) := by omega
  go_enter Tryz.func146, Tryz.ntmps146
  go_wp2_with fail
  go_ret2
  exact ⟨rfl, Below.refl _ _⟩
theorem l27Line_any (k : Int) (c r : ByteArray) (h0 : 0 ≤ k) (h1 : k ≤ 1000000) (hc : c.size ≤ 1048576) (hr : r.size ≤ 1048576) (w : World) :
  Calls Tryz.prog 88 #[.int .i64 k, .agg #[.string c, .string r]] w fun e w' => e = .returned (.string (lineB k c r)) ∧ Below w.heap.size w w' := by
 have HAL : Below w.heap.size w (w.alloc (.cells #[.string c, .string r] 70)) := (Below.refl _ w).alloc (Nat.le_refl _) _
 have hz := numB_size (n := k) (by omega) (by omega)
 have HF : Hid (∀ w', Below (w.alloc (.cells #[.string c, .string r] 70)).heap.size (w.alloc (.cells #[.string c, .string r] 70)) w' → w'.cell? ⟨w.heap.size, 0, none⟩ = some (.string c) ∧ w'.cell? ⟨w.heap.size, 1, none⟩ = some (.string r)) := by
  intro w' hq
  exact (cells2 (bx (g := w.heap.size) hq))
 have hsz : (bodyB k c r).size ≤ 3000000 := by
  simp only [bodyB, ByteArray.size_append', ByteArray.size_mk', List.size_toArray, List.length_cons, List.length_nil]; omega
 have hszi : ((bodyB k c r).size : Int) ≤ 9000000000000000000 := by omega
 have hss := sealB_size (bodyB k c r)
 go_enter Tryz.func88, Tryz.ntmps88
 go_wp2_with fail
 refine wp_region_class (C := fun w' => Below ((w.alloc (.cells #[.string c, .string r] 70))).heap.size ((w.alloc (.cells #[.string c, .string r] 70))) w') (by kernel_rfl) (by kernel_rfl) ((Below.refl _ _).drew) ?_
 refine tr 5 HF ?_
 refine wpQuiet_meet (d := 6) (v := ?_) ?_ ?_ (by rfl) ?_ ?_ ?_
 rotate_left
 rotate_left
 rotate_left
 ·intro wS hS
  have eF := HF.out wS hS
  go_simp
  first | with_reducible rfl | (refine ⟨?_, ?_⟩ <;> with_reducible rfl)
 ·intro wS hS
  refine (l1Num_any k (by omega) (by omega) wS).mono ?_
  rintro e w2 ⟨rfl, hb2⟩
  refine ⟨?_, hS.trans (hb2.mono hS.size)⟩
  with_reducible rfl
 simp only [Act.put, p1, p2, p3]
 refine wpQuiet_take (d := 7) (v := ?_) (by rfl) ?_ ?_
 rotate_left
 ·intro wS hS
  refine run_add_strP ⟨_, _, rfl, rfl, by (try simp only [ByteArray.size_append', ByteArray.size_mk', List.size_toArray, List.length_cons, List.length_nil]); omega, ?_⟩
  with_reducible rfl
 simp only [Act.put, p1, p2, p3]
 refine tr 8 HF ?_
 refine tr 9 HF ?_
 refine wpQuiet_take (d := 10) (v := ?_) (by rfl) ?_ ?_
 rotate_left
 ·intro wS hS
  refine run_add_strP ⟨_, _, rfl, rfl, by (try simp only [ByteArray.size_append', ByteArray.size_mk', List.size_toArray, List.length_cons, List.length_nil]); omega, ?_⟩
  with_reducible rfl
 simp only [Act.put, p1, p2, p3]
 refine wpQuiet_take (d := 11) (v := ?_) (by rfl) ?_ ?_
 rotate_left
 ·intro wS hS
  refine run_add_strP ⟨_, _, rfl, rfl, by (try simp only [ByteArray.size_append', ByteArray.size_mk', List.size_toArray, List.length_cons, List.length_nil]); omega, ?_⟩
  with_reducible rfl
 simp only [Act.put, p1, p2, p3]
 refine tr 12 HF ?_
 refine tr 13 HF ?_
 refine wpQuiet_take (d := 14) (v := ?_) (by rfl) ?_ ?_
 rotate_left
 ·intro wS hS
  refine run_add_strP ⟨_, _, rfl, rfl, by (try simp only [ByteArray.size_append', ByteArray.size_mk', List.size_toArray, List.length_cons, List.length_nil]); omega, ?_⟩
  with_reducible rfl
 simp only [Act.put, p1, p2, p3]
 refine wpQuiet_meet (d := 15) (v := ?_) ?_ ?_ (by rfl) ?_ ?_ ?_
 rotate_left
 rotate_left
 rotate_left
 ·intro wS hS
  have eF := HF.out wS hS
  go_simp
  first | with_reducible rfl | (refine ⟨?_, ?_⟩ <;> with_reducible rfl)
 ·intro wS hS
  refine (l1Seal_any (bodyB k c r) hszi wS).mono ?_
  rintro e w2 ⟨rfl, hb2⟩
  refine ⟨?_, hS.trans (hb2.mono hS.size)⟩
  with_reducible rfl
 simp only [Act.put, p1, p2, p3]
 refine wpQuiet_take (d := 16) (v := ?_) (by rfl) ?_ ?_
 rotate_left
 ·intro wS hS
  refine run_add_strP ⟨_, _, rfl, rfl, by (try simp only [ByteArray.size_append', ByteArray.size_mk', List.size_toArray, List.length_cons, List.length_nil]); omega, ?_⟩
  with_reducible rfl
 simp only [Act.put, p1, p2, p3]
 refine tr 4 HF ?_
 refine wpQuiet_nil (fun wq jd => ?_)
 go_wp2_with fail
 go_ret
 exact ⟨rfl, HAL.trans (jd.mono (by simp))⟩
theorem EncodeRecord_any (k : Int) (c r : ByteArray) (hc : (c.size : Int) ≤ 9223372036854775807) (hr : (r.size : Int) ≤ 9223372036854775807) (w : World) (ht : Tab w) :
  Calls Tryz.prog 98 #[.int .i64 k, .agg #[.string c, .string r]] w fun e w' => e = .returned (.tuple #[.string (if inR k 0 59 && goodRec c r then lineB k c r else ⟨#[]⟩), .bool (inR k 0 59 && goodRec c r)]) ∧ Below w.heap.size w w' := by
 have HAL : Below w.heap.size w (w.alloc (.cells #[.string c, .string r] 70)) := (Below.refl _ w).alloc (Nat.le_refl _) _
 have HT : Hid (Tab (w.alloc (.cells #[.string c, .string r] 70))) := ht.below HAL
 have HF : Hid (∀ w', Below (w.alloc (.cells #[.string c, .string r] 70)).heap.size (w.alloc (.cells #[.string c, .string r] 70)) w' → w'.cell? ⟨w.heap.size, 0, none⟩ = some (.string c) ∧ w'.cell? ⟨w.heap.size, 1, none⟩ = some (.string r)) := by
  intro w' hq
  exact (cells2 (bx (g := w.heap.size) hq))
 cases hk : inR k 0 59 with
 | false =>
  go_enter Tryz.func98, Tryz.ntmps98
  go_wp2_with (go_at_call 70; refine (within_any _ _ _ _).mono ?_; rw [hk]; rintro e w3 ⟨rfl, rfl⟩)
  go_ret2
  exact ⟨rfl, HAL⟩
 | true =>
  have hk2 : 0 ≤ k ∧ k ≤ 59 := by simpa [inR] using hk
  cases hg : goodRec c r with
  | false =>
   go_enter Tryz.func98, Tryz.ntmps98
   go_wp2_with (first | (go_at_call 70; refine (within_any _ _ _ _).mono ?_; rw [hk]; rintro e w3 ⟨rfl, rfl⟩) | (go_at_call 48; refine (IsValidRecord_any c r hc hr _).mono ?_; rw [hg]; rintro e w4 ⟨rfl, hb4⟩))
   go_ret2
   exact ⟨rfl, HAL.trans (hb4.mono (by simp))⟩
  | true =>
   obtain ⟨_, g1, g2, _⟩ := goodRec_facts hg
   have hz := numB_size (n := k) (by omega) (by omega)
   have hbs := bodyB_size hk2.1 hk2.2 hg
   have hbi : ((bodyB k c r).size : Int) ≤ 9000000000000000000 := by omega
   have hok := body_ok hk2.1 hk2.2 hg
   have hss := sealB_size (bodyB k c r)
   have AC := fun wS hT => AppendChecksum_any (bodyB k c r) hbi wS hT
   rw [hok] at AC
   simp only [if_true] at AC
   go_enter Tryz.func98, Tryz.ntmps98
   go_wp2_with (first | (go_at_call 70; refine (within_any _ _ _ _).mono ?_; rw [hk]; rintro e w3 ⟨rfl, rfl⟩) | (go_at_call 48; refine (IsValidRecord_any c r hc hr _).mono ?_; rw [hg]; rintro e w4 ⟨rfl, hb4⟩; refine Hid.out ?_))
   refine lh ?_
   have HT4 : Hid (Tab w4) := HT.out.below hb4
   have HF4 : Hid (∀ w', Below w4.heap.size w4 w' → w'.cell? ⟨w.heap.size, 0, none⟩ = some (.string c) ∧ w'.cell? ⟨w.heap.size, 1, none⟩ = some (.string r)) := fun w' hq => HF.out w' (hb4.trans (hq.mono hb4.size))
   clear HF HT
   have HF : Hid (∀ w', Below w4.heap.size w4 w' → w'.cell? ⟨w.heap.size, 0, none⟩ = some (.string c) ∧ w'.cell? ⟨w.heap.size, 1, none⟩ = some (.string r)) := HF4
   have HAC := lh AC
   clear AC HF4
   go_wp2_with fail
   refine wp_region_class (C := fun w' => Below (w4).heap.size (w4) w') (by kernel_rfl) (by kernel_rfl) ((Below.refl _ _).drew) ?_
   refine tr 17 HF ?_
   refine wpQuiet_meet (d := 18) (v := ?_) ?_ ?_ (by rfl) ?_ ?_ ?_
   rotate_left
   rotate_left
   rotate_left
   ·intro wS hS
    have eF := HF.out wS hS
    go_simp
    first | with_reducible rfl | (refine ⟨?_, ?_⟩ <;> with_reducible rfl)
   ·intro wS hS
    refine (decimal_any k (by omega) (by omega) wS (HT4.out.below hS)).mono ?_
    rintro e w2 ⟨rfl, hb2⟩
    refine ⟨?_, hS.trans (hb2.mono hS.size)⟩
    with_reducible rfl
   simp only [Act.put, p1, p2, p3]
   refine wpQuiet_take (d := 19) (v := ?_) (by rfl) ?_ ?_
   rotate_left
   ·intro wS hS
    refine run_add_strP ⟨_, _, rfl, rfl, by (try simp only [ByteArray.size_append', ByteArray.size_mk', List.size_toArray, List.length_cons, List.length_nil]); omega, ?_⟩
    with_reducible rfl
   simp only [Act.put, p1, p2, p3]
   refine tr 20 HF ?_
   refine tr 21 HF ?_
   refine wpQuiet_take (d := 22) (v := ?_) (by rfl) ?_ ?_
   rotate_left
   ·intro wS hS
    refine run_add_strP ⟨_, _, rfl, rfl, by (try simp only [ByteArray.size_append', ByteArray.size_mk', List.size_toArray, List.length_cons, List.length_nil]); omega, ?_⟩
    with_reducible rfl
   simp only [Act.put, p1, p2, p3]
   refine wpQuiet_take (d := 23) (v := ?_) (by rfl) ?_ ?_
   rotate_left
   ·intro wS hS
    refine run_add_strP ⟨_, _, rfl, rfl, by (try simp only [ByteArray.size_append', ByteArray.size_mk', List.size_toArray, List.length_cons, List.length_nil]); omega, ?_⟩
    with_reducible rfl
   simp only [Act.put, p1, p2, p3]
   refine tr 24 HF ?_
   refine tr 25 HF ?_
   refine wpQuiet_take (d := 26) (v := ?_) (by rfl) ?_ ?_
   rotate_left
   ·intro wS hS
    refine run_add_strP ⟨_, _, rfl, rfl, by (try simp only [ByteArray.size_append', ByteArray.size_mk', List.size_toArray, List.length_cons, List.length_nil]); omega, ?_⟩
    with_reducible rfl
   simp only [Act.put, p1, p2, p3]
   refine wpQuiet_meet (d := 27) (v := ?_) ?_ ?_ (by rfl) ?_ ?_ ?_
   rotate_left
   rotate_left
   rotate_left
   ·intro wS hS
    have eF := HF.out wS hS
    go_simp
    first | with_reducible rfl | (refine ⟨?_, ?_⟩ <;> with_reducible rfl)
   ·intro wS hS
    refine (HAC.out wS (HT4.out.below hS)).mono ?_
    rintro e w2 ⟨rfl, hb2⟩
    refine ⟨?_, hS.trans (hb2.mono hS.size)⟩
    with_reducible rfl
   simp only [Act.put, p1, p2, p3]
   refine tr 16 HF ?_
   refine tr 28 HF ?_
   refine tr 29 HF ?_
   refine tr 6 HF ?_
   refine tr 7 HF ?_
   refine wpQuiet_nil (fun wq jd => ?_)
   go_wp2_with fail
   go_ret2
   exact ⟨rfl, HAL.trans ((hb4.trans (jd.mono hb4.size)).mono (by simp))⟩
end Go.Proofs.YtpndjhelpoenpaaGreatDoor
namespace Go.Proofs.YtpndjhelpoenpaaGreatDoor
open Go.RowKit
abbrev BA := ByteArray
theorem ba_ext {a b : BA} (h : a.data.toList = b.data.toList) : a = b := ByteArray.ext (Array.toList_inj.1 h)
theorem toList_beq (a b : BA) : (a.toList == b.toList) = decide (a = b) := by
 rw [ByteArray.toList_eq, ByteArray.toList_eq, Bool.eq_iff_iff]
 simp only [beq_iff_eq, decide_eq_true_eq]
 exact ⟨ba_ext, fun h => by rw [h]⟩
def bef (c : UInt8) (s : BA) : BA := ⟨(s.data.toList.takeWhile (· != c)).toArray⟩
def aft (c : UInt8) (s : BA) : BA := ⟨((s.data.toList.dropWhile (· != c)).drop 1).toArray⟩
theorem bef_data (c : UInt8) (s : BA) : (bef c s).data.toList = s.data.toList.takeWhile (· != c) := by simp [bef]
theorem aft_data (c : UInt8) (s : BA) : (aft c s).data.toList = (s.data.toList.dropWhile (· != c)).drop 1 := by simp [aft]
theorem take_all {c : UInt8} {l : List UInt8} (h : c ∉ l) : l.takeWhile (· != c) = l ∧ l.dropWhile (· != c) = [] := by
 induction l with
 | nil => simp
 | cons b l ih =>
  have hb : (b != c) = true := by simp; intro e; exact h (by simp [e])
  obtain ⟨i1, i2⟩ := ih (fun hm => h (by simp [hm]))
  rw [List.takeWhile_cons, List.dropWhile_cons, hb]
  simp [i1, i2]
theorem take_app {c : UInt8} {a b : List UInt8} (h : c ∉ a) : (a ++ c :: b).takeWhile (· != c) = a ∧ ((a ++ c :: b).dropWhile (· != c)).drop 1 = b := by
 induction a with
 | nil => simp
 | cons x a ih =>
  have hb : (x != c) = true := by simp; intro e; exact h (by simp [e])
  obtain ⟨i1, i2⟩ := ih (fun hm => h (by simp [hm]))
  rw [List.cons_append, List.takeWhile_cons, List.dropWhile_cons, hb]
  simp only [if_true, i1]
  exact ⟨trivial, i2⟩
theorem split_list {c : UInt8} {l : List UInt8} (h : c ∈ l) : l = l.takeWhile (· != c) ++ c :: (l.dropWhile (· != c)).drop 1 := by
  induction l with
  | nil => simp at h
  | cons b l ih =>
    rw [List.takeWhile_cons, List.dropWhile_cons]
    by_cases e : b = c
    · subst e; simp
    · have hb : (b != c) = true := by simpa using e
      have hm : c ∈ l := by rcases List.mem_cons.1 h with h | h; · exact absurd h.symm e
                            · exact h
      simp only [hb, if_true, List.cons_append]
      rw [← ih hm]
theorem app3_data (a b : BA) (c : UInt8) : ((a ++ ⟨#[c]⟩) ++ b).data.toList = a.data.toList ++ c :: b.data.toList := by
 rw [Joins.data_append, Joins.data_append]; simp
theorem bef_mk {a b : BA} {c : UInt8} (h : noByte a c = true) : bef c ((a ++ ⟨#[c]⟩) ++ b) = a := by
 apply ba_ext; rw [bef_data, app3_data]; exact (take_app ((noByte_iff a c).1 h)).1
theorem aft_mk {a b : BA} {c : UInt8} (h : noByte a c = true) : aft c ((a ++ ⟨#[c]⟩) ++ b) = b := by
 apply ba_ext; rw [aft_data, app3_data]; exact (take_app ((noByte_iff a c).1 h)).2
theorem bef_all {s : BA} {c : UInt8} (h : noByte s c = true) : bef c s = s := by
 apply ba_ext; rw [bef_data]; exact (take_all ((noByte_iff s c).1 h)).1
theorem split_eq {s : BA} {c : UInt8} (h : noByte s c = false) : s = (bef c s ++ ⟨#[c]⟩) ++ aft c s := by
 apply ba_ext
 rw [app3_data, bef_data, aft_data]
 refine split_list ?_
 refine Classical.byContradiction fun hn => ?_
 rw [(noByte_iff s c).2 hn] at h
 cases h
theorem size_app (a b : BA) : (a ++ b).size = a.size + b.size := by simp [ByteArray.size_append]
theorem bef_size (c : UInt8) (s : BA) : (bef c s).size ≤ s.size := by
 have h1 : (bef c s).size = (bef c s).data.toList.length := by rw [Array.length_toList]; rfl
 have h2 : s.size = s.data.toList.length := by rw [Array.length_toList]; rfl
 rw [h1, h2, bef_data]
 exact (List.takeWhile_sublist _).length_le
theorem bef_size_lt {c : UInt8} {s : BA} (h : noByte s c = false) : (bef c s).size + 1 + (aft c s).size = s.size := by
 have := congrArg ByteArray.size (split_eq h)
 simp only [size_app] at this
 have h1 : (ByteArray.mk #[c]).size = 1 := rfl
 omega
theorem size_list (s : BA) : s.data.toList.length = s.size := by rw [Array.length_toList]; rfl
theorem ext_left (a b : BA) : (a ++ b).extract 0 a.size = a := by
 apply ba_ext
 rw [Lib.extract_data, Joins.data_append]
 simp [size_list]
theorem ext_right {a b : BA} {n : Nat} (h : n = (a ++ b).size) : (a ++ b).extract a.size n = b := by
 subst h
 apply ba_ext
 rw [Lib.extract_data, Joins.data_append, size_app, ← size_list a, List.drop_left, List.take_of_length_le]
 rw [size_list]; omega
theorem cut_one (l : List UInt8) (c : UInt8) : Lib.cut l [c] = (l.takeWhile (· != c), (l.dropWhile (· != c)).drop 1, l.contains c) := by
 have key : ∀ l : List UInt8, (Lib.indexByte l c = -1 ∧ c ∉ l) ∨ (0 ≤ Lib.indexByte l c ∧ c ∈ l ∧ l.take (Lib.indexByte l c).toNat = l.takeWhile (· != c) ∧ l.drop ((Lib.indexByte l c).toNat + 1) = (l.dropWhile (· != c)).drop 1) := by
  intro l
  induction l with
  | nil => left; exact ⟨rfl, by simp⟩
  | cons b l ih =>
   by_cases e : b = c
   ·subst e
    right
    have : Lib.indexByte (b :: l) b = 0 := by simp [Lib.indexByte]
    rw [this]; simp
   ·have hb : (b == c) = false := by simpa using e
    have hb2 : (b != c) = true := by simpa using e
    rcases ih with ⟨i1, i2⟩ | ⟨i1, i2, i3, i4⟩
    ·left
     exact ⟨by simp [Lib.indexByte, hb, i1], by simp only [List.mem_cons, not_or]; exact ⟨fun h => e h.symm, i2⟩⟩
    ·right
     have hne : (Lib.indexByte l c == -1) = false := by simp; omega
     have h1 : Lib.indexByte (b :: l) c = Lib.indexByte l c + 1 := by simp only [Lib.indexByte, hb, hne]; rfl
     have h2 : (Lib.indexByte (b :: l) c).toNat = (Lib.indexByte l c).toNat + 1 := by rw [h1]; omega
     refine ⟨by omega, by simp [i2], ?_, ?_⟩
     ·rw [h2, List.take_succ_cons, List.takeWhile_cons, hb2, i3]; rfl
     ·rw [h2, List.drop_succ_cons, List.dropWhile_cons, hb2, i4]; rfl
 unfold Lib.cut
 rw [Lib.index_one]
 rcases key l with ⟨h1, h2⟩ | ⟨h1, h2, h3, h4⟩
 ·rw [if_neg (by omega), (take_all h2).1, (take_all h2).2]
  simp [h2]
 ·rw [if_pos h1, h3, show ([c] : List UInt8).length = 1 from rfl, h4]
  simp [h2]
theorem cut_bef (s : BA) (c : UInt8) : (⟨(Lib.cut s.data.toList [c]).1.toArray⟩ : BA) = bef c s ∧ (⟨(Lib.cut s.data.toList [c]).2.1.toArray⟩ : BA) = aft c s ∧ (Lib.cut s.data.toList [c]).2.2 = !noByte s c := by
 rw [cut_one]
 refine ⟨rfl, rfl, ?_⟩
 rw [← noByte_index, ← Lib.contains_iff_indexByte]
def parse (line : BA) : BA × BA := (bef 64 (aft 32 (bef 35 line)), aft 64 (aft 32 (bef 35 line)))
def lineIs (k : Int) (c r line : BA) : Bool := goodRec c r && decide (sealB (bodyB k c r) = line)
def dec (k : Int) (line : BA) : Option (BA × BA) := if lineIs k (parse line).1 (parse line).2 line then some (parse line) else none
theorem numB_no {k : Int} (hk : 0 ≤ k) : noByte (numB k) 32 = true := by
 rw [noByte_iff]
 intro hm
 have := numB_byte hk hm
 simp at this
theorem body_assoc (k : Int) (c r : BA) : bodyB k c r = (numB k ++ ⟨#[32]⟩) ++ ((c ++ ⟨#[64]⟩) ++ r) := by
 simp only [bodyB, ByteArray.append_assoc]
theorem line_parts {k : Int} {c r line : BA} (h0 : 0 ≤ k) (h : lineIs k c r line = true) : goodRec c r = true ∧ bef 35 line = bodyB k c r ∧ aft 32 (bodyB k c r) = (c ++ ⟨#[64]⟩) ++ r ∧ bef 64 ((c ++ ⟨#[64]⟩) ++ r) = c ∧ aft 64 ((c ++ ⟨#[64]⟩) ++ r) = r := by
 simp only [lineIs, Bool.and_eq_true, decide_eq_true_eq] at h
 obtain ⟨hg, hl⟩ := h
 obtain ⟨_, _, _, _, _, h64⟩ := goodRec_facts hg
 refine ⟨hg, ?_, ?_, bef_mk h64, aft_mk h64⟩
 ·rw [← hl]; exact bef_mk (body_no h0 hg)
 ·rw [body_assoc]; exact aft_mk (numB_no h0)
theorem parse_line {k : Int} {c r line : BA} (h0 : 0 ≤ k) (h : lineIs k c r line = true) : parse line = (c, r) := by
 obtain ⟨_, h1, h2, h3, h4⟩ := line_parts h0 h
 unfold parse
 rw [h1, h2, h3, h4]
theorem dec_of_is {k : Int} {c r line : BA} (h0 : 0 ≤ k) (h : lineIs k c r line = true) : dec k line = some (c, r) := by
 unfold dec
 rw [parse_line h0 h]
 simp [h]
theorem dec_some {k : Int} {line : BA} {e : BA × BA} (h : dec k line = some e) : lineIs k e.1 e.2 line = true := by
 unfold dec at h
 split at h
 ·rename_i h1
  obtain rfl := Option.some.inj h
  exact h1
 ·cases h
def implText (line : BA) : BA := if appOk (bef 35 line) && decide (sealB (bef 35 line) = line) then bef 35 line else ⟨#[]⟩
theorem impl_dec {k : Int} {line : BA} (h0 : 0 ≤ k) (h1 : k ≤ 59) :
  dec k line = if lineIs k (bef 64 (aft 32 (implText line))) (aft 64 (aft 32 (implText line))) line then some (bef 64 (aft 32 (implText line)), aft 64 (aft 32 (implText line))) else none := by
 split
 ·rename_i h; exact dec_of_is h0 h
 ·rename_i h
  cases hd : dec k line with
  | none => rfl
  | some e =>
   exfalso
   have hi := dec_some hd
   obtain ⟨p1, p2, p3, p4, p5⟩ := line_parts h0 hi
   have hl : sealB (bodyB k e.1 e.2) = line := by
    simp only [lineIs, Bool.and_eq_true, decide_eq_true_eq] at hi; exact hi.2
   have ht : implText line = bodyB k e.1 e.2 := by
    unfold implText
    rw [p2, body_ok h0 h1 p1, hl]
    simp
   rw [ht, p3, p4, p5] at h
   exact h hi
theorem spec_dec {k : Int} {line : BA} {c r : BA} (h0 : 0 ≤ k) (h : dec k line = some (c, r)) :
  bef 35 line = (numB k ++ ⟨#[32]⟩) ++ ((c ++ ⟨#[64]⟩) ++ r) ∧ bef 64 ((c ++ ⟨#[64]⟩) ++ r) = c := by
 have hi := dec_some h
 obtain ⟨p1, p2, p3, p4, p5⟩ := line_parts h0 hi
 exact ⟨by rw [p2, body_assoc], p4⟩
def stepR (all : BA) (m at_ : Nat) : Option ((BA × BA) × Nat) :=
 if noByte (all.extract at_ all.size) 10 then none else (dec m (bef 10 (all.extract at_ all.size))).map fun e => (e, at_ + (bef 10 (all.extract at_ all.size)).size + 1)
def readN (all : BA) : Nat → List (BA × BA) × Nat
 | 0 => ([], 0)
 | n + 1 => if (readN all n).1.length < n then readN all n else match stepR all n (readN all n).2 with
  | none => readN all n
  | some (e, a) => ((readN all n).1 ++ [e], a)
theorem readN_succ (all : BA) (n : Nat) : readN all (n + 1) = if (readN all n).1.length < n then readN all n else match stepR all n (readN all n).2 with
  | none => readN all n
  | some (e, a) => ((readN all n).1 ++ [e], a) := rfl
theorem readN_len (all : BA) (n : Nat) : (readN all n).1.length ≤ n := by
 induction n with
 | zero => simp [readN]
 | succ n ih =>
  rw [readN_succ]
  split
  ·omega
  ·split
   ·omega
   ·simp; omega
theorem readN_yes {all : BA} {m a : Nat} {e : BA × BA} (h : (readN all m).1.length = m) (hs : stepR all m (readN all m).2 = some (e, a)) : readN all (m + 1) = ((readN all m).1 ++ [e], a) := by
 rw [readN_succ, if_neg (by omega), hs]
theorem readN_stop {all : BA} {m n : Nat} (h : (readN all m).1.length = m) (hs : stepR all m (readN all m).2 = none) (hn : m ≤ n) : readN all n = readN all m := by
  induction n with
  | zero => obtain rfl : m = 0 := by omega
            rfl
  | succ n ih =>
    by_cases e : m = n + 1
    · subst e; rfl
    · have i := ih (by omega)
      rw [readN_succ]
      by_cases e2 : m = n
      · subst e2; rw [if_neg (by omega), hs]
      · rw [if_pos (by rw [i]; omega), i]
theorem stepR_at {all : BA} {m a b : Nat} {e : BA × BA} (ha : a ≤ all.size) (h0 : m ≤ 59) (h : stepR all m a = some (e, b)) : b ≤ all.size ∧ b ≤ a + 413 ∧ a < b := by
 unfold stepR at h
 split at h
 ·cases h
 ·rename_i hn
  have hn' : noByte (all.extract a all.size) 10 = false := by simpa using hn
  obtain ⟨e', he, h2⟩ := Option.map_eq_some_iff.1 h
  have hb := bef_size_lt hn'
  have hx : (all.extract a all.size).size = all.size - a := by simp [ByteArray.size_extract]
  have hi := dec_some he
  simp only [lineIs, Bool.and_eq_true, decide_eq_true_eq] at hi
  have h3 := sealB_size (bodyB m e'.1 e'.2)
  have h4 := bodyB_size (k := m) (by omega) (by omega) hi.1
  rw [hi.2] at h3
  obtain ⟨_, rfl⟩ := Prod.mk.inj h2
  omega
theorem readN_at (all : BA) (n : Nat) (hn : n ≤ 60) : (readN all n).2 ≤ all.size ∧ (readN all n).2 ≤ n * 413 := by
 induction n with
 | zero => exact ⟨Nat.zero_le _, Nat.zero_le _⟩
 | succ n ih =>
  obtain ⟨i1, i2⟩ := ih (by omega)
  have i3 : (readN all n).2 ≤ (n + 1) * 413 := Nat.le_trans i2 (Nat.mul_le_mul_right _ (Nat.le_succ n))
  rw [readN_succ]
  split
  ·exact ⟨i1, i3⟩
  ·split
   ·exact ⟨i1, i3⟩
   ·rename_i e a hs
    obtain ⟨s1, s2, _⟩ := stepR_at i1 (by omega) hs
    refine ⟨s1, Nat.le_trans s2 ?_⟩
    rw [Nat.succ_mul]
    exact Nat.add_le_add_right i2 413
theorem ownsRow_below {w w' : World} {base : Nat} {e : TypeId} {size : Nat} {v : Value} {n : Nat} {xs : List Value} (h : w.ownsRow base e size v n xs) (hb : Below w.heap.size w w') : w'.ownsRow base e size v n xs :=
 h.kept (row := none) ⟨hb.os, hb.tape, hb.output, hb.size, fun k hk _ => hb.block k hk⟩ (by cases hv : v.ownBlock <;> simp)
theorem wpList_append_int1 {P : Program} {ops : Array Oper} {rest : List Oper} {o : Oper} {a : Act} {Q : Exit → Act → World → Prop} (w : World) (hg : o.guard = none) (s x : Operand) (t : TypeId)
  (hop : o.op = Op.call { callee := Callee.builtin Builtin.append, args := #[s, x], argTypes := #[t, t] }) (base : Nat) (e : TypeId) (ht : P.underlying t = some (.slice e))
  (hinfo : (P.info? e).map (fun i => (i.zero, i.size, i.bytes)) = some (some (.int .i64 0), 1, 8)) (zs : List Int) (z : Int) (v : Value) (hs : a.eval s = v)
  (hown : w.ownsRow base e 1 v zs.length (zs.map (Value.int .i64))) (b : Nat) (hx : a.eval x = .slice (some ⟨b, 0, none⟩) 1 1) (hc : w.cell? ⟨b, 0, none⟩ = some (.int .i64 z)) (hlen : zs.length ≤ 100000000) (hbase : base ≤ w.heap.size)
  (h : ∀ v' w', w'.ownsRow base e 1 v' (zs ++ [z]).length ((zs ++ [z]).map (Value.int .i64)) → Below w.heap.size w w' ∨ (∃ g, v.ownBlock = some g ∧ w.grownBy w' (some g)) → w.grownBy w' v.ownBlock → wpList P ops Q rest (a.put o.dst v') w') :
  wpList P ops Q (o :: rest) a w := by
 obtain ⟨i, hi, hz0, hz1, hz2⟩ := info_parts hinfo
 refine wpList_append_own w hg s x t hop base e i (.int .i64 0) 1 8 ht hi hz0 hz1 hz2 rfl (by decide) v zs.length (zs.map (Value.int .i64)) hs hown ⟨b, 0, none⟩ 1 1 [.int .i64 z] hx rfl ?_ ?_ ?_ ?_ hbase ?_
 ·intro j u hj
  match j, hj with
  | 0, hj => simp at hj; subst hj; simpa [Addr.add] using hc
 ·intro u hu; simp at hu; subst hu; rfl
 ·unfold maxLen; omega
 ·omega
 ·intro v' w' hown' hgrow _
  refine h v' w' (by simpa using hown') ?_ hgrow
  cases hv : v.ownBlock with
  | none => rw [hv] at hgrow; exact Or.inl ⟨hgrow.os, hgrow.tape, hgrow.output, hgrow.size, fun k hk => hgrow.block k hk (by simp)⟩
  | some g => rw [hv] at hgrow; exact Or.inr ⟨g, rfl, hgrow⟩
theorem below_app {W w w' : World} {e : TypeId} {size : Nat} {v : Value} {n : Nat} {xs : List Value} (h : Below W.heap.size W w) (hown : w.ownsRow W.heap.size e size v n xs) (hg : w.grownBy w' v.ownBlock) : Below W.heap.size W w' :=
 h.grown hg h.size (fun k hk => (hown.lt k hk).1)
def IntsPost (e0 : TypeId) (w : World) (zs : List Int) (ok : Bool) (e : Ending) (w' : World) : Prop :=
 ∃ A c, e = .returned (.tuple #[.slice A zs.length c, .bool ok]) ∧ zs.length ≤ c ∧ c ≤ maxLen ∧ Own w' w.heap.size w'.heap.size e0 1 A zs.length (fun j => zs.getD j 0) ∧ Below w.heap.size w w'
theorem IntsPost.mk_ {e0 : TypeId} {w w' : World} {zs : List Int} {ok : Bool} {v : Value} (hown : w'.ownsRow w.heap.size e0 1 v zs.length (zs.map (Value.int .i64))) (hb : Below w.heap.size w w') :
  IntsPost e0 w zs ok (.returned (.tuple #[v, .bool ok])) w' := by
 obtain ⟨A, c, rfl, h1, h2, h3⟩ := own_of_row hown
 exact ⟨A, c, rfl, h1, h2, h3, hb⟩
theorem IntsPost.nil_ {e0 : TypeId} {w w' : World} {ok : Bool} (hb : Below w.heap.size w w') : IntsPost e0 w [] ok (.returned (.tuple #[.slice none 0 0, .bool ok])) w' :=
 ⟨none, 0, rfl, Nat.le_refl _, by unfold maxLen; omega, Own.none_ (Nat.le_refl _), hb⟩
attribute [local go_sem ↓] Go.wp_at_zero Go.wp_at_succ
def Mx (w : World) : Prop := ∃ m, w.cell? ⟨0, 0, none⟩ = some (.int .i64 m)
theorem Mx.below {w w' : World} (h : Mx w) (hb : Below w.heap.size w w') : Mx w' := by
 obtain ⟨m, hm⟩ := h
 exact ⟨m, kp hb hm⟩
theorem below_draws (w : World) (n : Nat) : Below w.heap.size w (w.drewN n) := below_drewN (Below.refl _ w) n
theorem Cut_any (s : BA) (c : UInt8) (hs : s.size < 4294967281) (w : World) (hm : Mx w) :
  Calls Tryz.prog 116 #[.string s, .string ⟨#[c]⟩] w fun e w' => e = .returned (.tuple #[.string (bef c s), .string (aft c s), .bool (!noByte s c)]) ∧ Below w.heap.size w w' := by
 obtain ⟨m, hm⟩ := hm
 refine (Tryz.strings_Cut s ⟨#[c]⟩ m w hs hm).mono ?_
 rintro e w' ⟨rfl, n, rfl⟩
 obtain ⟨h1, h2, h3⟩ := cut_bef s c
 refine ⟨?_, below_draws w n⟩
 have e1 : (ByteArray.mk #[c]).data.toList = [c] := rfl
 rw [e1, h1, h2, h3]
theorem VerifyChecksum_any (s : BA) (hs : s.size ≤ 4000000000) (w : World) (ht : Tab w) (hm : Mx w) :
  Calls Tryz.prog 117 #[.string s] w fun e w' => (∃ b, e = .returned (.tuple #[.string (implText s), .bool b])) ∧ Below w.heap.size w w' := by
 have hbs := bef_size 35 s
 have hi : Hid (implText s = if appOk (bef 35 s) && decide (sealB (bef 35 s) = s) then bef 35 s else ⟨#[]⟩) := rfl
 have hbi : ((bef 35 s).size : Int) ≤ 9000000000000000000 := by omega
 cases hA : appOk (bef 35 s) with
 | false =>
  have hi2 : Hid (implText s = ⟨#[]⟩) := by show _ = _; rw [hi.out, hA]; simp
  go_enter Tryz.func117, Tryz.ntmps117
  go_wp2_with fail
  refine (Cut_any s 35 (by omega) w hm).mono ?_
  rintro e w1 ⟨rfl, hb1⟩
  go_wp2_with fail
  refine (AppendChecksum_any (bef 35 s) hbi w1 (ht.below hb1)).mono ?_
  rw [hA]
  rintro e w2 ⟨rfl, hb2⟩
  go_wp2_with fail
  go_ret2
  exact ⟨⟨_, by rw [hi2.out]; rfl⟩, below_of hb1 hb2 hb1.size⟩
 | true =>
  by_cases hE : sealB (bef 35 s) = s
  ·have hi2 : Hid (implText s = bef 35 s) := by show _ = _; rw [hi.out, hA, hE]; simp
   have hTB : ((sealB (bef 35 s)).toList == s.toList) = true := by rw [toList_beq, hE]; simp
   clear hE
   go_enter Tryz.func117, Tryz.ntmps117
   go_wp2_with fail
   refine (Cut_any s 35 (by omega) w hm).mono ?_
   rintro e w1 ⟨rfl, hb1⟩
   go_wp2_with fail
   refine (AppendChecksum_any (bef 35 s) hbi w1 (ht.below hb1)).mono ?_
   rw [hA]
   rintro e w2 ⟨rfl, hb2⟩
   go_wp2_with fail
   go_ret2
   exact ⟨⟨_, by rw [hi2.out]; rfl⟩, below_of hb1 hb2 hb1.size⟩
  ·have hi2 : Hid (implText s = ⟨#[]⟩) := by show _ = _; rw [hi.out]; simp [hE]
   have hTB : ((sealB (bef 35 s)).toList == s.toList) = false := by rw [toList_beq]; simp [hE]
   clear hE
   go_enter Tryz.func117, Tryz.ntmps117
   go_wp2_with fail
   refine (Cut_any s 35 (by omega) w hm).mono ?_
   rintro e w1 ⟨rfl, hb1⟩
   go_wp2_with fail
   refine (AppendChecksum_any (bef 35 s) hbi w1 (ht.below hb1)).mono ?_
   rw [hA]
   rintro e w2 ⟨rfl, hb2⟩
   go_wp2_with fail
   go_ret2
   exact ⟨⟨_, by rw [hi2.out]; rfl⟩, below_of hb1 hb2 hb1.size⟩
theorem infoStr : (Tryz.prog.info? 9).map (fun i => (i.zero, i.size, i.bytes)) = some (some (.string ⟨#[]⟩), 1, 16) := by kernel_rfl
theorem wpList_append_str {ops : Array Oper} {rest : List Oper} {o : Oper} {a : Act} {Q : Exit → Act → World → Prop} (w : World) (hg : o.guard = none) (s x : Operand) (t : TypeId)
  (hop : o.op = Op.call { callee := Callee.builtin Builtin.append, args := #[s, x], argTypes := #[t, t] }) (base : Nat) (ht : Tryz.prog.underlying t = some (.slice 9)) (L : List BA) (u : BA) (v : Value) (hs : a.eval s = v)
  (hown : w.ownsRow base 9 1 v L.length (L.map Value.string)) (b : Nat) (hx : a.eval x = .slice (some ⟨b, 0, none⟩) 1 1) (hc : w.cell? ⟨b, 0, none⟩ = some (.string u)) (hlen : L.length ≤ 100000000) (hbase : base ≤ w.heap.size)
  (h : ∀ v' w', w'.ownsRow base 9 1 v' (L ++ [u]).length ((L ++ [u]).map Value.string) → w.grownBy w' v.ownBlock → wpList Tryz.prog ops Q rest (a.put o.dst v') w') :
  wpList Tryz.prog ops Q (o :: rest) a w := by
 obtain ⟨i, hi, hz0, hz1, hz2⟩ := info_parts infoStr
 refine wpList_append_own w hg s x t hop base 9 i (.string ⟨#[]⟩) 1 16 ht hi hz0 hz1 hz2 rfl (by decide) v L.length (L.map Value.string) hs hown ⟨b, 0, none⟩ 1 1 [.string u] hx rfl ?_ ?_ ?_ ?_ hbase ?_
 ·intro j u' hj
  match j, hj with
  | 0, hj => simp at hj; subst hj; simpa [Addr.add] using hc
 ·intro u' hu; simp at hu; subst hu; rfl
 ·unfold maxLen; omega
 ·omega
 ·intro v' w' hown' hgrow _
  exact h v' w' (by simpa using hown') hgrow
def SP (s : BA) (b : UInt8) (k F : Nat) (P : List BA) : Prop :=
 (allTo (fun j => decide (byteAt s j ≠ b)) k = true ∧ P = [] ∧ F = 0) ∨ (noByte s b = false ∧ 1 ≤ P.length ∧ P.headD ⟨#[]⟩ = bef b s)
theorem SP.next {s : BA} {b : UInt8} {k F : Nat} {P : List BA} (h : SP s b k F P) (hb : byteAt s k ≠ b) : SP s b (k + 1) F P := by
 rcases h with ⟨h1, h2⟩ | h
 ·exact .inl ⟨allTo_succ h1 (by simp [hb]), h2⟩
 ·exact .inr h
theorem list_at {l : List UInt8} {k : Nat} (h : k < l.length) : l = l.take k ++ l[k] :: l.drop (k + 1) := by
 rw [List.getElem_cons_drop, List.take_append_drop]
theorem SP.hit {s : BA} {b : UInt8} {k F : Nat} {P : List BA} (h : SP s b k F P) (hk : k < s.size) (hb : byteAt s k = b) : SP s b (k + 1) (k + 1) (P ++ [s.extract F k]) := by
 have hno : noByte s b = false := allTo_false hk (by simp [hb])
 rcases h with ⟨h1, rfl, rfl⟩ | ⟨_, h2, h3⟩
 ·right
  refine ⟨hno, by simp, ?_⟩
  simp only [List.nil_append, List.headD_cons]
  apply ba_ext
  rw [Lib.extract_data, bef_data]
  have hk' : k < s.data.toList.length := by rw [size_list]; exact hk
  have e : s.data.toList[k] = b := by rw [← hb]; unfold byteAt; rw [getD_lt hk']
  have hn : b ∉ s.data.toList.take k := by
   intro hm
   obtain ⟨j, hj, ej⟩ := List.getElem_of_mem hm
   rw [List.length_take] at hj
   have hjk : j < k := by omega
   have hj' : j < s.data.toList.length := by omega
   have := allTo_at hjk h1
   simp only [decide_eq_true_eq] at this
   apply this
   unfold byteAt
   rw [getD_lt hj', ← ej]
   simp
  have := (take_app (b := s.data.toList.drop (k + 1)) hn).1
  rw [← e, ← list_at hk'] at this
  rw [← e, this]
  simp
 ·right
  refine ⟨hno, by simp, ?_⟩
  rw [← h3]
  cases P with
  | nil => simp at h2
  | cons x P => rfl
theorem SP.fin {s : BA} {b : UInt8} {F : Nat} {P : List BA} (h : SP s b s.size F P) : 1 ≤ (P ++ [s.extract F s.size]).length ∧ (P ++ [s.extract F s.size]).headD ⟨#[]⟩ = bef b s ∧ noByte s b = decide ((P ++ [s.extract F s.size]).length < 2) := by
 rcases h with ⟨h1, rfl, rfl⟩ | ⟨h1, h2, h3⟩
 ·have h1' : noByte s b = true := h1
  refine ⟨by simp, ?_, by rw [h1']; rfl⟩
  rw [bef_all h1']
  simp only [List.nil_append, List.headD_cons]
  apply ba_ext
  rw [Lib.extract_data, List.drop_zero, List.take_of_length_le]
  rw [size_list]; omega
 ·refine ⟨by simp, ?_, ?_⟩
  ·rw [← h3]
   cases P with
   | nil => simp at h2
   | cons x P => rfl
  ·rw [h1, eq_comm]; simp; omega
theorem l1Split_any (s : BA) (b : UInt8) (hs : s.size ≤ 4000000) (w : World) :
  Calls Tryz.prog 56 #[.string s, .int .u8 (b.toNat : Int)] w fun e w' => ∃ (v : Value) (P : List BA), e = .returned v ∧ w'.ownsRow w.heap.size 9 1 v P.length (P.map Value.string) ∧ 1 ≤ P.length ∧ P.headD ⟨#[]⟩ = bef b s ∧ noByte s b = decide (P.length < 2) ∧ P.length ≤ 4000001 ∧ Below w.heap.size w w' := by
 go_enter Tryz.func56, Tryz.ntmps56
 go_wp2_with fail
 go_loopw [5, 6, 7] (fun v fr i wr => ∃ (k F : Nat) (P : List BA), k ≤ s.size ∧ F ≤ k ∧ i = .int .i64 k ∧ fr = .int .i64 F ∧ wr.ownsRow w.heap.size 9 1 v P.length (P.map Value.string) ∧ P.length ≤ k ∧ Below w.heap.size w wr ∧ Hid (SP s b k F P)) (fun _ _ i _ => s.size - (intOf i).toNat)
 case atStart => exact ⟨0, 0, [], Nat.zero_le _, Nat.le_refl _, rfl, rfl, World.ownsRow_made w #[] 0 (Nat.le_refl _) (by unfold maxLen; omega) rfl, Nat.le_refl _, (Below.refl _ w).alloc (Nat.le_refl _) _, Or.inl ⟨rfl, rfl, rfl⟩⟩
 case round =>
  obtain ⟨k, F, P, hk, hF, rfl, rfl, hown, hPl, hB, hSP⟩ := hrel
  have hsz := hB.size
  have hl : P.length ≤ 100000000 := by omega
  have HO : Hid (wr.ownsRow w.heap.size 9 1 u5 P.length (P.map Value.string)) := hown
  clear hown
  have hF0 : (0 : Int) ≤ (F : Int) := by omega
  by_cases hlt : k < s.size
  ·have hbk := byteAt_eq s k hlt
   have hk0 : (0 : Int) ≤ (k : Int) ∧ (k : Int) < (s.size : Int) ∧ (k : Int) ≤ (s.size : Int) ∧ (F : Int) ≤ (k : Int) := by omega
   obtain ⟨hk0, hk1, hk2, hk3⟩ := hk0
   by_cases hp : byteAt s k = b
   ·have hn := lh (hSP.out.hit hlt hp)
    rw [hp] at hbk
    clear hp
    generalize hX : s.extract F k = X at hn
    go_wp2_with (at_builtin; refine wpList_append_str _ rfl _ _ 42 rfl w.heap.size Tryz.underlying42 P X _ rfl (HO.out.alloc _) _ rfl (by simp [← hX]) hl (by simp; omega) ?_; intro v' w3 hown3 hgrow3)
    go_roundw
    case rel => exact ⟨k + 1, k + 1, P ++ [X], by omega, Nat.le_refl _, by go_num, by go_num, hown3, by simp; omega, below_app (hB.alloc hB.size _) (HO.out.alloc _) hgrow3, hn⟩
    case measure => simp [intOf]; omega
   ·have hn := lh (hSP.out.next hp)
    have hne : byteAt s k ≠ b := hp
    clear hp
    generalize byteAt s k = c at hbk hne
    have hn2 : c.toNat ≠ b.toNat := fun e => hne (UInt8.toNat_inj.1 e)
    have hn3 : ((c.toNat : Int) == (b.toNat : Int)) = false := by simp; omega
    go_wp2_with fail
    go_roundw
    case rel => exact ⟨k + 1, F, P, by omega, by omega, by go_num, rfl, HO.out, by omega, hB, hn⟩
    case measure => simp [intOf]; omega
  ·obtain rfl : k = s.size := by omega
   have hfin := lh hSP.out.fin
   clear hSP
   have hF1 : (F : Int) ≤ (s.size : Int) := by omega
   generalize hX : s.extract F s.size = X at hfin
   go_wp2_with (at_builtin; refine wpList_append_str _ rfl _ _ 42 rfl w.heap.size Tryz.underlying42 P X _ rfl (HO.out.alloc _) _ rfl (by simp [← hX]) hl (by simp; omega) ?_; intro v' w3 hown3 hgrow3)
   go_ret
   obtain ⟨f1, f2, f3⟩ := hfin.out
   exact ⟨_, P ++ [X], rfl, hown3, f1, f2, f3, by simp; omega, below_app (hB.alloc hB.size _) (HO.out.alloc _) hgrow3⟩
end Go.Proofs.YtpndjhelpoenpaaGreatDoor
namespace Go.Proofs.YtpndjhelpoenpaaGreatDoor
open Go
theorem wrap_and_shaped {H : Type} {enc : TypeId × Value → H} {a : Assume} {C : Checked} {os : Os} {f : FuncId} {fn : Func} {s : ChangeSpec} {conds : List PathCond} {apart fresh handsOn again : Bool} {X : World → Array Value → Prop}
  (hX : ∀ (w w' : World) (args : Array Value), w.heap = w'.heap → X w args → X w' args)
  (own : ownKnob C.prog.godebug = none) (started : os.Started) (noInit : C.prog.inits.idxOf? f = none) (hfn : C.prog.funcs[f]? = some fn)
  (witness : ∃ (w : World) (tape : Tape) (i : Input), w.os = os ∧ (w.forCall tape i).Shaped C.prog ∧ i.vars = [] ∧ Input.okWide C.prog (w.forCall tape i) .any w.heap.size f i ∧
   ((s.pre enc C.prog fn conds apart (w.forCall tape i).memory i.args ∧ X (w.forCall tape i).memory i.args) ∧ sizedMet enc C.prog fn (OpenSpec.ofChange s) apart (w.forCall tape i).memory i.args) ∧ a.holds C.prog (lone (Frame.enter C.prog f i.args .normal) [] (w.forCall tape i)))
  (contract : ∀ (W : World) (base : Nat) (args : Array Value) (ds gs : List (DataW H)) (before : List MemPlace),
   (∀ (j : Nat) t v, fn.params[j]? = some t → args[j]? = some v → Value.okWide C.prog W .any base t v) →
   DataW.Whole enc C.prog fn.params.toList s.vars apart W args.toList ds gs before → X W args → W.ShapedOpen C.prog →
   Calls C.prog f args W fun e W' => ∃ v, e = .returned v ∧ s.post enc C.prog fn apart fresh handsOn again W args v W') :
  ReturnsInHanded a C os f .any (fun w args => (s.pre enc C.prog fn conds apart w args ∧ X w args) ∧ sizedMet enc C.prog fn (OpenSpec.ofChange s) apart w args) (s.post enc C.prog fn apart fresh handsOn again) := by
 refine returnsInHanded_of_calls own started noInit witness ?_
 intro w tape i _ hsh _ hok hpre hholds
 obtain ⟨_, _, _, fn', hfn', _, _, _, _, hval⟩ := hok
 have e : fn' = fn := Option.some.inj (hfn'.symm.trans hfn)
 subst e
 obtain ⟨⟨⟨ds, gs, before, hw, hc⟩, hx⟩, hz⟩ := hpre
 have hw' := DataW.Whole.of_heap (w' := w.forCall tape i) (by rfl) hw
 refine (contract (w.forCall tape i) w.heap.size i.args ds gs before hval hw' (hX _ _ _ (by rfl) hx) hsh).mono fun e W' ⟨v, he, hp⟩ => ?_
 subst he
 exact ChangeSpec.post_blind hp
theorem Mx.of_shape {w : World} (h : w.ShapedOpen Tryz.prog) : Mx w :=
 cell_of_shapedOpen_int (g := 0) (zero := #[.int .i64 0]) (t := 3) h (of_decide_eq_true (by kernel_rfl)) (by kernel_rfl) rfl (by kernel_rfl) (by kernel_rfl) Tryz.underlying3
end Go.Proofs.YtpndjhelpoenpaaGreatDoor
namespace Go.Proofs.YtpndjhelpoenpaaGreatDoor
open Go.RowKit
theorem decFrom_snoc : ∀ (l : List UInt8) (acc n : Nat) (b : UInt8) (d : Nat), Lib.decFrom acc l = some n → Lib.digitVal b = some d → Lib.decFrom acc (l ++ [b]) = some (n * 10 + d)
 | [], acc, n, b, d, h, hb => by
  simp only [Lib.decFrom, Option.some.injEq] at h
  subst h
  simp [Lib.decFrom, hb]
 | a :: t, acc, n, b, d, h, hb => by
  simp only [List.cons_append, Lib.decFrom] at h ⊢
  cases ha : Lib.digitVal a with
  | none => simp [ha] at h
  | some e =>
   simp only [ha] at h ⊢
   exact decFrom_snoc t _ n b d h hb
theorem digitVal_fin : ∀ p : Fin 10, Lib.digitVal (UInt8.ofNat (48 + p.val)) = some p.val := by decide +kernel
theorem digitVal_dig {r : Nat} (h : r < 10) : Lib.digitVal (UInt8.ofNat (48 + r)) = some r := digitVal_fin ⟨r, h⟩
theorem decFrom_one {r : Nat} (h : r < 10) : Lib.decFrom 0 [UInt8.ofNat (48 + r)] = some r := by
 unfold Lib.decFrom
 rw [digitVal_dig h]
 simp [Lib.decFrom]
theorem decFrom_digits (k : Nat) : ∀ u, u ≤ k → Lib.decFrom 0 (Lib.decDigits u) = some u := by
 induction k with
 | zero =>
  intro u h
  obtain rfl : u = 0 := by omega
  rw [Lib.decDigits_one (by omega)]
  exact decFrom_one (by omega)
 | succ k ih =>
  intro u h
  by_cases h10 : u < 10
  ·rw [Lib.decDigits_one h10]
   exact decFrom_one h10
  ·rw [dec_step u h10, decFrom_snoc _ _ _ _ _ (ih (u / 10) (by omega)) (digitVal_dig (Nat.mod_lt _ (by omega)))]
   congr 1
   omega
theorem digits_cons (u : Nat) : ∃ b r, Lib.decDigits u = b :: r ∧ 48 ≤ b.toNat ∧ b.toNat ≤ 57 := by
 have h := decFrom_digits u u (Nat.le_refl _)
 cases e : Lib.decDigits u with
 | nil =>
  exfalso
  by_cases h10 : u < 10
  ·rw [Lib.decDigits_one h10] at e; cases e
  ·rw [dec_step u h10] at e; simp at e
 | cons b r =>
  rw [e] at h
  obtain ⟨d, hd⟩ := Lib.digit_of_decFrom _ _ _ h 0 b rfl
  obtain ⟨h1, h2, _⟩ := Lib.digitVal_eq hd
  exact ⟨b, r, rfl, h1, h2⟩
theorem decNat_digits (u : Nat) : Lib.decNat (Lib.decDigits u) = some u := by
 obtain ⟨b, r, e, _, _⟩ := digits_cons u
 have h := decFrom_digits u u (Nat.le_refl _)
 rw [e] at h ⊢
 simpa [Lib.decNat] using h
theorem atoi_itoa (v : Int) : Lib.atoi (Lib.itoa v) = some v := by
 by_cases h0 : 0 ≤ v
 ·obtain ⟨u, rfl⟩ := Int.eq_ofNat_of_zero_le h0
  rw [Lib.itoa_nonneg]
  have h := decNat_digits u
  obtain ⟨b, r, e, h1, h2⟩ := digits_cons u
  rw [e] at h ⊢
  have h45 : (b == 45) = false := by
   rw [beq_eq_false_iff_ne]
   rintro rfl
   simp at h1
  have h43 : (b == 43) = false := by
   rw [beq_eq_false_iff_ne]
   rintro rfl
   simp at h1
  simp [Lib.atoi, h45, h43, h]
 ·obtain ⟨u, hu, rfl⟩ : ∃ u : Nat, 1 ≤ u ∧ v = -(u : Int) := ⟨v.natAbs, by omega, by omega⟩
  rw [Lib.itoa_neg u hu]
  simp [Lib.atoi, decNat_digits u]
theorem numB_data (v : Int) : (numB v).data.toList = Lib.itoa v := rfl
theorem numB_inj {a b : Int} (h : numB a = numB b) : a = b := by
 have h1 := atoi_itoa a
 rw [← numB_data, h, numB_data, atoi_itoa b] at h1
 exact (Option.some.inj h1).symm
open Classical in
noncomputable def parseV (s : ByteArray) : Option Int := if h : ∃ v : Int, -999999 ≤ v ∧ v ≤ 999999 ∧ numB v = s then some h.choose else none
theorem parseV_yes {s : ByteArray} {v : Int} (h0 : -999999 ≤ v) (h1 : v ≤ 999999) (h : numB v = s) : parseV s = some v := by
 have hx : ∃ v : Int, -999999 ≤ v ∧ v ≤ 999999 ∧ numB v = s := ⟨v, h0, h1, h⟩
 unfold parseV
 rw [dif_pos hx]
 exact congrArg some (numB_inj (hx.choose_spec.2.2.trans h.symm))
theorem parseV_no {s : ByteArray} (h : ∀ v : Int, -999999 ≤ v → v ≤ 999999 → numB v = s → False) : parseV s = none := by
 unfold parseV
 rw [dif_neg]
 rintro ⟨v, h0, h1, e⟩
 exact h v h0 h1 e
theorem nDigits_le6 {u : Nat} (h : u ≤ 999999) : Lib.nDigits u ≤ 6 := by
 rcases Nat.lt_or_ge u 100000 with h5 | h5
 ·by_cases h0 : u < 10
  ·rw [Lib.nDigits_small h0]; omega
  rw [Lib.nDigits_big h0]
  by_cases h1 : u / 10 < 10
  ·rw [Lib.nDigits_small h1]; omega
  rw [Lib.nDigits_big h1]
  by_cases h2 : u / 10 / 10 < 10
  ·rw [Lib.nDigits_small h2]; omega
  rw [Lib.nDigits_big h2]
  by_cases h3 : u / 10 / 10 / 10 < 10
  ·rw [Lib.nDigits_small h3]; omega
  rw [Lib.nDigits_big h3]
  by_cases h4 : u / 10 / 10 / 10 / 10 < 10
  ·rw [Lib.nDigits_small h4]; omega
  ·omega
 ·rw [Lib.nDigits_unique 5 u (by omega) (by omega)]; omega
theorem itoa_short {v : Int} (h0 : -999999 ≤ v) (h1 : v ≤ 999999) : (Lib.itoa v).length ≤ 18 := by
 have h := numB_size (n := v) (by omega) (by omega)
 by_cases hv : 0 ≤ v
 ·obtain ⟨u, rfl⟩ := Int.eq_ofNat_of_zero_le hv
  rw [Lib.itoa_nonneg, Lib.decDigits_length]
  have := nDigits_le6 (u := u) (by omega)
  omega
 ·obtain ⟨u, hu, rfl⟩ : ∃ u : Nat, 1 ≤ u ∧ v = -(u : Int) := ⟨v.natAbs, by omega, by omega⟩
  rw [Lib.itoa_neg u hu, List.length_cons, Lib.decDigits_length]
  have := nDigits_le6 (u := u) (by omega)
  omega
theorem atoiAll_num {v : Int} (h0 : -999999 ≤ v) (h1 : v ≤ 999999) : Lib.atoiAll (numB v).data.toList = .ok v := by
 rw [numB_data, Lib.atoiAll_short _ (itoa_short h0 h1), atoi_itoa]
 rfl
def tailT (s : ByteArray) : ByteArray := if 1 < s.size ∧ byteAt s 0 = 45 then s.extract 1 s.size else s
theorem tailT_size (s : ByteArray) : (tailT s).size ≤ s.size := by
 unfold tailT
 split
 ·rw [ByteArray.size_extract]; omega
 ·exact Nat.le_refl _
theorem byte_zero {s : ByteArray} {b : UInt8} {r : List UInt8} (h : s.data.toList = b :: r) : byteAt s 0 = b := by unfold byteAt; rw [h]; rfl
theorem tail_num {s : ByteArray} {v : Int} (h0 : -999999 ≤ v) (h1 : v ≤ 999999) (h : numB v = s) :
  ∃ u : Nat, u ≤ 999999 ∧ (tailT s).data.toList = Lib.decDigits u ∧ ((v = (u : Int) ∧ ¬ (tailT s).size < s.size) ∨ (v = -(u : Int) ∧ 1 ≤ u ∧ (tailT s).size < s.size)) := by
 have hd : s.data.toList = Lib.itoa v := by rw [← h]; rfl
 by_cases hv : 0 ≤ v
 ·obtain ⟨u, rfl⟩ := Int.eq_ofNat_of_zero_le hv
  rw [Lib.itoa_nonneg] at hd
  obtain ⟨b, r, e, b0, b1⟩ := digits_cons u
  have hb : byteAt s 0 = b := byte_zero (hd.trans e)
  have ht : tailT s = s := by
   unfold tailT
   rw [if_neg]
   rintro ⟨_, e2⟩
   rw [hb] at e2
   subst e2
   simp at b0
  refine ⟨u, by omega, by rw [ht, hd], Or.inl ⟨rfl, by rw [ht]; omega⟩⟩
 ·obtain ⟨u, hu, rfl⟩ : ∃ u : Nat, 1 ≤ u ∧ v = -(u : Int) := ⟨v.natAbs, by omega, by omega⟩
  rw [Lib.itoa_neg u hu] at hd
  have hl := size_list s
  rw [hd, List.length_cons, Lib.decDigits_length] at hl
  have hp := Lib.nDigits_pos u
  have ht : tailT s = s.extract 1 s.size := by
   unfold tailT
   rw [if_pos ⟨by omega, byte_zero hd⟩]
  refine ⟨u, by omega, ?_, Or.inr ⟨rfl, hu, by rw [ht, ByteArray.size_extract]; omega⟩⟩
  rw [ht, Lib.extract_data, hd, List.drop_succ_cons, List.drop_zero, List.take_of_length_le (by rw [Lib.decDigits_length]; omega)]
theorem no_num_size {s : ByteArray} (h : ¬ (1 ≤ (tailT s).size ∧ (tailT s).size ≤ 6)) : parseV s = none := by
 refine parseV_no fun v h0 h1 e => h ?_
 obtain ⟨u, hu, ht, _⟩ := tail_num h0 h1 e
 have hl := size_list (tailT s)
 rw [ht, Lib.decDigits_length] at hl
 have := Lib.nDigits_pos u
 have := nDigits_le6 hu
 omega
theorem no_num_byte {s : ByteArray} {k : Nat} (hk : k < (tailT s).size) (h : (byteAt (tailT s) k).toNat < 48 ∨ 57 < (byteAt (tailT s) k).toNat) : parseV s = none := by
 refine parseV_no fun v h0 h1 e => ?_
 obtain ⟨u, hu, ht, _⟩ := tail_num h0 h1 e
 have hl := size_list (tailT s)
 have hb : (tailT s).data.toList[k]? = some (byteAt (tailT s) k) := by
  rw [List.getElem?_eq_getElem (by omega)]
  unfold byteAt
  rw [getD_lt (by omega)]
 obtain ⟨d, hd⟩ := Lib.digit_of_decFrom _ _ _ (by rw [ht]; exact decFrom_digits u u (Nat.le_refl _)) k _ hb
 have := Lib.digitVal_eq hd
 omega
theorem num_loop {s : ByteArray} {m : Nat} {n : Int} (hm : Lib.decFrom 0 (tailT s).data.toList = some m) (hn : n = if (tailT s).size < s.size then -(m : Int) else (m : Int)) (h6 : m ≤ 999999) :
  parseV s = if numB n = s then some n else none := by
 by_cases e : numB n = s
 ·rw [if_pos e, parseV_yes (by split at hn <;> omega) (by split at hn <;> omega) e]
 ·rw [if_neg e]
  refine parseV_no fun v h0 h1 e2 => e ?_
  obtain ⟨u, hu, ht, hc⟩ := tail_num h0 h1 e2
  rw [ht, decFrom_digits u u (Nat.le_refl _)] at hm
  obtain rfl := Option.some.inj hm
  rcases hc with ⟨rfl, hs⟩ | ⟨rfl, _, hs⟩
  ·rw [hn, if_neg hs]; exact e2
  ·rw [hn, if_pos hs]; exact e2
theorem dec_le6 {l : List UInt8} {k m : Nat} (h : Lib.decFrom 0 (l.take k) = some m) (hk : k ≤ 6) : m ≤ 999999 := by
 have h1 := Lib.decFrom_lt _ _ _ h
 have h2 : (l.take k).length ≤ 6 := by rw [List.length_take]; omega
 have h3 : 10 ^ (l.take k).length ≤ 10 ^ 6 := Nat.pow_le_pow_right (by omega) h2
 omega
theorem dec_next {s : ByteArray} {k m : Nat} (h : Lib.decFrom 0 (s.data.toList.take k) = some m) (hk : k < s.size) (h0 : 48 ≤ (byteAt s k).toNat) (h1 : (byteAt s k).toNat ≤ 57) :
  Lib.decFrom 0 (s.data.toList.take (k + 1)) = some (m * 10 + ((byteAt s k).toNat - 48)) := by
 refine Lib.decFrom_take _ k 0 m (byteAt s k) _ h ?_ (by unfold Lib.digitVal; rw [if_pos ⟨h0, h1⟩])
 have hl := size_list s
 rw [List.getElem?_eq_getElem (by omega)]
 unfold byteAt
 rw [getD_lt (by omega)]
theorem numB_neg {m : Nat} (h : 1 ≤ m) : numB (-(m : Int)) = ⟨#[45]⟩ ++ numB (m : Int) := by
 apply ByteArray.ext
 apply Array.toList_inj.1
 rw [numB_data, Lib.itoa_neg m h, Joins.data_append, numB_data, Lib.itoa_nonneg]
 rfl
end Go.Proofs.YtpndjhelpoenpaaGreatDoor
namespace Go.Proofs.YtpndjhelpoenpaaGreatDoor
def skipL : List (Nat × Nat) → Array Bool → Array Bool
 | [], l => l
 | (i, _) :: L, l => skipL L (l.setIfInBounds i true)
def skipA : List (Nat × Nat) → Act → Act
 | [], a => a
 | (_, d) :: L, a => skipA L (a.put (some d) undef)
def skipsOk (md : Region.Mode) (ops : Array Oper) : List (Nat × Nat) → Array Bool → Act → Bool
 | [], _, _ => true
 | (i, d) :: L, l, a => (match ops[i]? with
   | some o => (o.dst == some d) && !(Region.wanted o (yielded ops a.tmps))
   | none => false) && Region.free md ops l i && (Region.ready md ops l).contains i && skipsOk md ops L (l.setIfInBounds i true) (a.put (some d) undef)
theorem wpAnyH_skips {P : Program} {md : Region.Mode} {ops : Array Oper} {Q : Exit → Act → World → Prop} {S : World → Prop} {w : World} (hs : Region.noSelect ops = true)
  (hQ : ∀ c a (d : Nat) v w, Q (.panic c) (Act.put a (some d) v) w → Q (.panic c) a w) (hS : S w) (L : List (Nat × Nat)) : ∀ (fuel n : Nat) (l : Array Bool) (a : Act), L.length = n →
  skipsOk md ops L l a = true → wpAnyH P md ops Q S fuel (skipL L l) (skipA L a) w → wpAnyH P md ops Q S (fuel + n) l a w := by
 induction L with
 | nil =>
  intro fuel n l a hn _ h
  subst hn
  exact h
 | cons x L ih =>
  intro fuel n l a hn hok h
  obtain ⟨i, d⟩ := x
  subst hn
  simp only [skipsOk, Bool.and_eq_true] at hok
  obtain ⟨⟨⟨h1, h2⟩, h3⟩, h4⟩ := hok
  cases ho : ops[i]? with
  | none => rw [ho] at h1; simp at h1
  | some o =>
   rw [ho] at h1
   simp only [Bool.and_eq_true, beq_iff_eq, Bool.not_eq_true'] at h1
   obtain ⟨hd, hw⟩ := h1
   have := ih fuel L.length (l.setIfInBounds i true) (a.put (some d) undef) rfl h4 h
   rw [← hd] at this
   exact wpAnyH_take (fuel := fuel + L.length) ho hs h2 h3 (fun c a w hh => by rw [hd] at hh; exact hQ c a _ _ w hh) (Or.inr ⟨hw, rfl⟩) hS this
theorem wpAnyH_takeD {P : Program} {md : Region.Mode} {ops : Array Oper} {Q : Exit → Act → World → Prop} {S : World → Prop} {i d : Nat} {op : Op} {ty : TypeId} {pos : String} {af : Array Edge} {gd : Option (Nat × Bool)} {v : Value} {fuel : Nat} {listed : Array Bool} {a : Act} {w : World}
  (hi : ops[i]? = some ⟨some d, op, ty, pos, af, gd⟩) (hs : Region.noSelect ops = true) (hf : Region.free md ops listed i = true) (hr : (Region.ready md ops listed).contains i = true)
  (hQ : ∀ c a w, Q (.panic c) (a.put (some d) v) w → Q (.panic c) a w) (hwant : Region.wanted ⟨some d, op, ty, pos, af, gd⟩ (yielded ops a.tmps) = true)
  (hy : ∀ w, S w → (execOp a.eval ⟨some d, op, ty, pos, af, gd⟩).run P w = .ok (.value v) w) (hS : S w)
  (h : wpAnyH P md ops Q S fuel (listed.setIfInBounds i true) (a.put (some d) v) w) : wpAnyH P md ops Q S (fuel + 1) listed a w :=
 wpAnyH_take hi hs hf hr hQ (Or.inl ⟨hwant, hy⟩) hS h
end Go.Proofs.YtpndjhelpoenpaaGreatDoor
namespace Go.Proofs.YtpndjhelpoenpaaGreatDoor
open Go.RowKit
attribute [local go_sem ↓] Go.wp_at_zero Go.wp_at_succ
theorem quiet_below {P : Program} {g : FuncId} {args : Array Value} {w : World} {v : Value} (h : Calls P g args w fun e w' => e = .returned v ∧ w = w') :
  Calls P g args w fun e w' => e = .returned v ∧ Below w.heap.size w w' := h.mono fun e w' ⟨he, hw⟩ => ⟨he, hw ▸ Below.refl _ _⟩
theorem Hid.and_ {α : Type} {Q R S : α → Prop} (h : Hid (∀ x, Q x → R x)) (h2 : ∀ x, Q x → S x) : Hid (∀ x, Q x → S x ∧ R x) := fun x hx => ⟨h2 x hx, h.out x hx⟩
def massV (wt s : Int) : Int := wrap64 (wt + s)
def okBrine (wt s : Int) : Bool := inR wt 0 1000000 && inR s 0 1000000
def okPan (i h wt s : Int) : Bool := inR i 1 99 && inR h 1 100000 && okBrine wt s && decide (massV wt s ≤ h)
def okPanAt (f : Nat → Int) (k : Nat) : Bool := okPan (f (k * 4)) (f (k * 4 + 1)) (f (k * 4 + 2)) (f (k * 4 + 3))
def panStep (f : Nat → Int) (k : Nat) : Bool := okPanAt f k && (decide (k = 0) || decide (f ((k - 1) * 4) < f (k * 4)))
def pansOk (f : Nat → Int) (n : Nat) : Bool := allTo (panStep f) n && decide (n ≤ 6)
theorem pansOk_no {f : Nat → Int} {n k : Nat} (hk : k < n) (h : panStep f k = false) : pansOk f n = false := by simp [pansOk, allTo_false hk h]
def sumW (g : Nat → Int) : Nat → Int
 | 0 => 0
 | k + 1 => wrap64 (sumW g k + g k)
def saltAt (f : Nat → Int) (k : Nat) : Int := f (k * 4 + 3)
def totalV (f : Nat → Int) (n : Nat) (H S P : Int) : Int := wrap64 (wrap64 (wrap64 (sumW (saltAt f) n + H) + S) + P)
def kilosOk (I H S P : Int) : Bool := inR I 0 1000000 && inR H 0 1000000 && inR S 0 1000000 && inR P 0 1000000
def goodWorks (f : Nat → Int) (n : Nat) (I H S P : Int) : Bool := pansOk f n && kilosOk I H S P && decide (I = totalV f n H S P)
theorem IsBrine_any (wt s : Int) (w : World) :
  Calls Tryz.prog 120 #[.agg #[.int .i64 wt, .int .i64 s]] w fun e w' => e = .returned (.bool (okBrine wt s)) ∧ Below w.heap.size w w' := by
 cases h1 : inR wt 0 1000000 <;> cases h2 : inR s 0 1000000
 all_goals
  go_enter Tryz.func120, Tryz.ntmps120
  go_wp2_with (go_at_call 70; refine (within_any _ _ _ _).mono ?_; rintro e w2 ⟨rfl, rfl⟩)
  go_ret
  exact ⟨ret_bool (by simp [okBrine, h1, h2]), by go_grown⟩
theorem l2Brine_any (wt s : Int) (w : World) :
  Calls Tryz.prog 158 #[.agg #[.int .i64 wt, .int .i64 s]] w fun e w' => e = .returned (.bool (okBrine wt s)) ∧ Below w.heap.size w w' := by
 cases h1 : inR wt 0 1000000 <;> cases h2 : inR s 0 1000000
 all_goals
  go_enter Tryz.func158, Tryz.ntmps158
  go_wp2_with (go_at_call 126; refine (l1In_any _ _ _ _).mono ?_; rintro e w2 ⟨rfl, rfl⟩)
  go_ret
  exact ⟨ret_bool (by simp [okBrine, h1, h2]), by go_grown⟩
theorem mass_any (wt s : Int) (w : World) :
  Calls Tryz.prog 121 #[.agg #[.int .i64 wt, .int .i64 s]] w fun e w' => e = .returned (.int .i64 (massV wt s)) ∧ Below w.heap.size w w' := by
 go_enter Tryz.func121, Tryz.ntmps121
 go_wp2
 go_ret
 exact ⟨rfl, by go_grown⟩
theorem l2Mass_any (wt s : Int) (w : World) :
  Calls Tryz.prog 150 #[.agg #[.int .i64 wt, .int .i64 s]] w fun e w' => e = .returned (.int .i64 (massV wt s)) ∧ Below w.heap.size w w' := by
 go_enter Tryz.func150, Tryz.ntmps150
 go_wp2
 go_ret
 exact ⟨rfl, by go_grown⟩
theorem saltInPans_any (A : Option Addr) (n c lo hi : Nat) (f : Nat → Int) (I H S P : Int) (w : World) (hs : Sl w lo hi 4 A n f) (hn : n ≤ 1048576) (hnc : n ≤ c) :
  Calls Tryz.prog 122 #[.agg #[.slice A n c, .int .i64 I, .int .i64 H, .int .i64 S, .int .i64 P]] w fun e w' => e = .returned (.int .i64 (sumW (saltAt f) n)) ∧ Below w.heap.size w w' := by
 have HS : Hid (Sl (w.alloc (.cells #[.slice A n c, .int .i64 I, .int .i64 H, .int .i64 S, .int .i64 P] 32)) lo hi 4 A n f) := hs.below ((Below.refl _ w).alloc (Nat.le_refl _) _)
 clear hs
 go_enter Tryz.func122, Tryz.ntmps122
 go_wp2
 go_loopw [3, 9] (fun t i wr => ∃ k : Nat, k ≤ n ∧ i = .int .i64 k ∧ t = .int .i64 (sumW (saltAt f) k) ∧ Below (w.alloc (.cells #[.slice A n c, .int .i64 I, .int .i64 H, .int .i64 S, .int .i64 P] 32)).heap.size (w.alloc (.cells #[.slice A n c, .int .i64 I, .int .i64 H, .int .i64 S, .int .i64 P] 32)) wr) (fun _ i _ => n - (intOf i).toNat)
 case atStart => exact ⟨0, Nat.zero_le _, rfl, rfl, Below.refl _ _⟩
 case round =>
  obtain ⟨k, hk, rfl, rfl, hbel⟩ := hrel
  have hbz : w.heap.size < wr.heap.size := by have := hbel.size; simp at this; omega
  have b0 : wr.cell? ⟨w.heap.size, 0, none⟩ = some (.slice A n c) := (hbel.cell (p := ⟨w.heap.size, 0, none⟩) (by simp)).trans (by simp)
  by_cases hlt : k < n
  ·obtain ⟨b, off, rfl, hbw, HC⟩ := HS.out.open_ hbel (by omega)
   obtain ⟨c0, c1, c2, c3⟩ := cell4 HC hlt
   clear HC HS
   go_wp2
   go_roundw
   case rel => exact ⟨k + 1, by omega, by go_num, rfl, hbel.alloc hbel.size _⟩
   case measure => simp [intOf]; omega
  ·obtain rfl : n = k := by omega
   clear HS
   go_wp2
   go_ret
   exact ⟨rfl, ((Below.refl _ w).alloc (Nat.le_refl _) _).trans (hbel.mono (by simp))⟩
theorem l25Salt_any (A : Option Addr) (n c lo hi : Nat) (f : Nat → Int) (I H S P : Int) (w : World) (hs : Sl w lo hi 4 A n f) (hn : n ≤ 1048576) (hnc : n ≤ c) :
  Calls Tryz.prog 125 #[.agg #[.slice A n c, .int .i64 I, .int .i64 H, .int .i64 S, .int .i64 P]] w fun e w' => e = .returned (.int .i64 (sumW (saltAt f) n)) ∧ Below w.heap.size w w' := by
 have HS : Hid (Sl (w.alloc (.cells #[.slice A n c, .int .i64 I, .int .i64 H, .int .i64 S, .int .i64 P] 32)) lo hi 4 A n f) := hs.below ((Below.refl _ w).alloc (Nat.le_refl _) _)
 clear hs
 go_enter Tryz.func125, Tryz.ntmps125
 go_wp2
 go_loopw [3, 4] (fun t i wr => ∃ k : Nat, k ≤ n ∧ i = .int .i64 k ∧ t = .int .i64 (sumW (saltAt f) k) ∧ Below (w.alloc (.cells #[.slice A n c, .int .i64 I, .int .i64 H, .int .i64 S, .int .i64 P] 32)).heap.size (w.alloc (.cells #[.slice A n c, .int .i64 I, .int .i64 H, .int .i64 S, .int .i64 P] 32)) wr) (fun _ i _ => n - (intOf i).toNat)
 case atStart => exact ⟨0, Nat.zero_le _, rfl, rfl, Below.refl _ _⟩
 case round =>
  obtain ⟨k, hk, rfl, rfl, hbel⟩ := hrel
  have hbz : w.heap.size < wr.heap.size := by have := hbel.size; simp at this; omega
  have b0 : wr.cell? ⟨w.heap.size, 0, none⟩ = some (.slice A n c) := (hbel.cell (p := ⟨w.heap.size, 0, none⟩) (by simp)).trans (by simp)
  by_cases hlt : k < n
  ·obtain ⟨b, off, rfl, hbw, HC⟩ := HS.out.open_ hbel (by omega)
   obtain ⟨c0, c1, c2, c3⟩ := cell4 HC hlt
   clear HC HS
   go_wp2
   go_roundw
   case rel => exact ⟨k + 1, by omega, by go_num, rfl, hbel⟩
   case measure => simp [intOf]; omega
  ·obtain rfl : n = k := by omega
   clear HS
   go_wp2
   go_ret
   exact ⟨rfl, ((Below.refl _ w).alloc (Nat.le_refl _) _).trans (hbel.mono (by simp))⟩
theorem l25Pans_any (A : Option Addr) (n c lo hi : Nat) (f : Nat → Int) (I H S P : Int) (w : World) (hs : Sl w lo hi 4 A n f) (hn : n ≤ 1048576) (hnc : n ≤ c) :
  Calls Tryz.prog 123 #[.agg #[.slice A n c, .int .i64 I, .int .i64 H, .int .i64 S, .int .i64 P]] w fun e w' => e = .returned (.bool (pansOk f n)) ∧ Below w.heap.size w w' := by
 have HS : Hid (Sl (w.alloc (.cells #[.slice A n c, .int .i64 I, .int .i64 H, .int .i64 S, .int .i64 P] 32)) lo hi 4 A n f) := hs.below ((Below.refl _ w).alloc (Nat.le_refl _) _)
 clear hs
 go_enter Tryz.func123, Tryz.ntmps123
 go_wp2
 go_loopw [3] (fun i wr => ∃ k : Nat, k ≤ n ∧ i = .int .i64 k ∧ Hid (allTo (panStep f) k = true) ∧ Below (w.alloc (.cells #[.slice A n c, .int .i64 I, .int .i64 H, .int .i64 S, .int .i64 P] 32)).heap.size (w.alloc (.cells #[.slice A n c, .int .i64 I, .int .i64 H, .int .i64 S, .int .i64 P] 32)) wr) (fun i _ => n - (intOf i).toNat)
 case atStart => exact ⟨0, Nat.zero_le _, rfl, rfl, Below.refl _ _⟩
 case round =>
  obtain ⟨k, hk, rfl, hall, hbel⟩ := hrel
  have hbz : w.heap.size < wr.heap.size := by have := hbel.size; simp at this; omega
  have b0 : wr.cell? ⟨w.heap.size, 0, none⟩ = some (.slice A n c) := (hbel.cell (p := ⟨w.heap.size, 0, none⟩) (by simp)).trans (by simp)
  by_cases hlt : k < n
  ·obtain ⟨b, off, rfl, hbw, HC⟩ := HS.out.open_ hbel (by omega)
   obtain ⟨c0, c1, c2, c3⟩ := cell4 HC hlt
   have hk0i : (0 : Int) ≤ (k : Int) := by omega
   have hkni : (k : Int) < (n : Int) := by omega
   have HF : Hid (∀ w', Below (wr.alloc (.cells #[.int .i64 (f (k * 4)), .int .i64 (f (k * 4 + 1)), .int .i64 (f (k * 4 + 2)), .int .i64 (f (k * 4 + 3))] 97)).heap.size (wr.alloc (.cells #[.int .i64 (f (k * 4)), .int .i64 (f (k * 4 + 1)), .int .i64 (f (k * 4 + 2)), .int .i64 (f (k * 4 + 3))] 97)) w' → w'.cell? ⟨wr.heap.size, 0, none⟩ = some (.int .i64 (f (k * 4))) ∧ w'.cell? ⟨wr.heap.size, 1, none⟩ = some (.int .i64 (f (k * 4 + 1))) ∧ w'.cell? ⟨wr.heap.size, 2, none⟩ = some (.int .i64 (f (k * 4 + 2))) ∧ w'.cell? ⟨wr.heap.size, 3, none⟩ = some (.int .i64 (f (k * 4 + 3))) ∧ w'.cell? ⟨w.heap.size, 0, none⟩ = some (.slice (some ⟨b, off, none⟩) n c)) := fun w' hq => ⟨(hq.cell (p := ⟨wr.heap.size, 0, none⟩) (by simp)).trans (by simp), (hq.cell (p := ⟨wr.heap.size, 1, none⟩) (by simp)).trans (by simp), (hq.cell (p := ⟨wr.heap.size, 2, none⟩) (by simp)).trans (by simp), (hq.cell (p := ⟨wr.heap.size, 3, none⟩) (by simp)).trans (by simp), (hq.cell (p := ⟨w.heap.size, 0, none⟩) (by simp; omega)).trans ((World.cell?_alloc_lt _ _ _ hbz).trans b0)⟩
   have HP : Hid (0 < k → ∀ w', Below (wr.alloc (.cells #[.int .i64 (f (k * 4)), .int .i64 (f (k * 4 + 1)), .int .i64 (f (k * 4 + 2)), .int .i64 (f (k * 4 + 3))] 97)).heap.size (wr.alloc (.cells #[.int .i64 (f (k * 4)), .int .i64 (f (k * 4 + 1)), .int .i64 (f (k * 4 + 2)), .int .i64 (f (k * 4 + 3))] 97)) w' → w'.cell? ⟨b, off + (k - 1) * 4, none⟩ = some (.int .i64 (f ((k - 1) * 4)))) := fun hk0 w' hq => (hq.cell (p := ⟨b, off + (k - 1) * 4, none⟩) (by simp; omega)).trans ((World.cell?_alloc_lt _ _ _ hbw).trans (HC.out _ (by omega)))
   clear HC HS
   go_wp2
   refine wp_region_held_drew (S := fun w' => Below ((wr.alloc (.cells #[.int .i64 (f (k * 4)), .int .i64 (f (k * 4 + 1)), .int .i64 (f (k * 4 + 2)), .int .i64 (f (k * 4 + 3))] 97))).heap.size ((wr.alloc (.cells #[.int .i64 (f (k * 4)), .int .i64 (f (k * 4 + 1)), .int .i64 (f (k * 4 + 2)), .int .i64 (f (k * 4 + 3))] 97))) w') (by kernel_rfl) ((Below.refl _ _).drew) (fun jd => ?_)
   refine tj2 0 17 1 18 HF jd ?_
   refine wpAnyH_ready (rs := [2]) (by kernel_rfl) (by simp) ?_
   refine AllReadyH.cons rfl (fun K hK => ?_) AllReadyH.nil
   go_simp
   (go_at_call 126; refine (quiet_below (l1In_any _ _ _ _)).mono ?_; rintro e w2 ⟨rfl, hb2⟩)
   refine hK.out _ _ (jd.trans (hb2.mono jd.size)) (fun jd => ?_)
   clear hK K hb2
   refine tj2 3 20 4 21 HF jd ?_
   cases h1 : inR (f (k * 4)) 1 99 with
   | false =>
    have h2 : True := trivial
    have h3 : True := trivial
    have hm : True := trivial
    have hno : Hid (pansOk f n = false) := pansOk_no hlt (by simp [panStep, okPanAt, okPan, h1, h2, h3, hm])
    refine wpAnyH_skips (by kernel_rfl) (fun _ _ _ _ _ h => h) jd [(5, 22), (6, 23), (7, 24), (8, 25)] 31 4 _ _ rfl (by kernel_rfl) ?_
    simp only [skipL, skipA, Act.put, p1, p2, p3]
    refine tj2 9 26 10 27 HF jd ?_
    refine wpAnyH_skips (by kernel_rfl) (fun _ _ _ _ _ h => h) jd [(11, 28), (12, 29), (13, 30), (14, 31)] 25 4 _ _ rfl (by kernel_rfl) ?_
    simp only [skipL, skipA, Act.put, p1, p2, p3]
    refine tj2 15 32 16 33 HF jd ?_
    refine wpAnyH_skips (by kernel_rfl) (fun _ _ _ _ _ h => h) jd [(17, 34), (18, 35), (19, 36), (20, 37), (21, 38), (22, 39)] 17 6 _ _ rfl (by kernel_rfl) ?_
    simp only [skipL, skipA, Act.put, p1, p2, p3]
    refine tj2 23 40 24 41 HF jd ?_
    refine wpAnyH_skips (by kernel_rfl) (fun _ _ _ _ _ h => h) jd [(25, 42), (26, 43), (27, 44), (28, 45), (29, 46), (30, 47), (31, 48), (32, 49), (33, 50), (34, 51), (35, 52), (36, 53), (37, 54), (38, 55)] 1 14 _ _ rfl (by kernel_rfl) ?_
    simp only [skipL, skipA, Act.put, p1, p2, p3]
    refine tj 39 56 HF rfl jd ?_
    refine wpAnyH_done (by kernel_rfl) ?_ _
    go_wp2
    go_ret
    exact ⟨ret_bool hno.out.symm, ((Below.refl _ w).alloc (Nat.le_refl _) _).trans ((below_of hbel (((Below.refl _ wr).alloc (Nat.le_refl _) _).trans (jd.mono (by simp))) hbel.size).mono (by simp))⟩
   | true =>
    refine tj2 5 22 6 23 HF jd ?_
    refine wpAnyH_ready (rs := [7]) (by kernel_rfl) (by simp) ?_
    refine AllReadyH.cons rfl (fun K hK => ?_) AllReadyH.nil
    go_simp
    (go_at_call 126; refine (quiet_below (l1In_any _ _ _ _)).mono ?_; rintro e w2 ⟨rfl, hb2⟩)
    refine hK.out _ _ (jd.trans (hb2.mono jd.size)) (fun jd => ?_)
    clear hK K hb2
    refine tj3 8 25 9 26 10 27 HF jd ?_
    cases h2 : inR (f (k * 4 + 1)) 1 100000 with
    | false =>
     have h3 : True := trivial
     have hm : True := trivial
     have hno : Hid (pansOk f n = false) := pansOk_no hlt (by simp [panStep, okPanAt, okPan, h1, h2, h3, hm])
     refine wpAnyH_skips (by kernel_rfl) (fun _ _ _ _ _ h => h) jd [(11, 28), (12, 29), (13, 30), (14, 31)] 25 4 _ _ rfl (by kernel_rfl) ?_
     simp only [skipL, skipA, Act.put, p1, p2, p3]
     refine tj2 15 32 16 33 HF jd ?_
     refine wpAnyH_skips (by kernel_rfl) (fun _ _ _ _ _ h => h) jd [(17, 34), (18, 35), (19, 36), (20, 37), (21, 38), (22, 39)] 17 6 _ _ rfl (by kernel_rfl) ?_
     simp only [skipL, skipA, Act.put, p1, p2, p3]
     refine tj2 23 40 24 41 HF jd ?_
     refine wpAnyH_skips (by kernel_rfl) (fun _ _ _ _ _ h => h) jd [(25, 42), (26, 43), (27, 44), (28, 45), (29, 46), (30, 47), (31, 48), (32, 49), (33, 50), (34, 51), (35, 52), (36, 53), (37, 54), (38, 55)] 1 14 _ _ rfl (by kernel_rfl) ?_
     simp only [skipL, skipA, Act.put, p1, p2, p3]
     refine tj 39 56 HF rfl jd ?_
     refine wpAnyH_done (by kernel_rfl) ?_ _
     go_wp2
     go_ret
     exact ⟨ret_bool hno.out.symm, ((Below.refl _ w).alloc (Nat.le_refl _) _).trans ((below_of hbel (((Below.refl _ wr).alloc (Nat.le_refl _) _).trans (jd.mono (by simp))) hbel.size).mono (by simp))⟩
    | true =>
     refine tj2 11 28 12 29 HF jd ?_
     refine wpAnyH_ready (rs := [13]) (by kernel_rfl) (by simp) ?_
     refine AllReadyH.cons rfl (fun K hK => ?_) AllReadyH.nil
     go_simp
     (go_at_call 158; refine (l2Brine_any _ _ _).mono ?_; rintro e w2 ⟨rfl, hb2⟩)
     refine hK.out _ _ (jd.trans (hb2.mono jd.size)) (fun jd => ?_)
     clear hK K hb2
     refine tj3 14 31 15 32 16 33 HF jd ?_
     cases h3 : okBrine (f (k * 4 + 2)) (f (k * 4 + 3)) with
     | false =>
      have hm : True := trivial
      have hno : Hid (pansOk f n = false) := pansOk_no hlt (by simp [panStep, okPanAt, okPan, h1, h2, h3, hm])
      refine wpAnyH_skips (by kernel_rfl) (fun _ _ _ _ _ h => h) jd [(17, 34), (18, 35), (19, 36), (20, 37), (21, 38), (22, 39)] 17 6 _ _ rfl (by kernel_rfl) ?_
      simp only [skipL, skipA, Act.put, p1, p2, p3]
      refine tj2 23 40 24 41 HF jd ?_
      refine wpAnyH_skips (by kernel_rfl) (fun _ _ _ _ _ h => h) jd [(25, 42), (26, 43), (27, 44), (28, 45), (29, 46), (30, 47), (31, 48), (32, 49), (33, 50), (34, 51), (35, 52), (36, 53), (37, 54), (38, 55)] 1 14 _ _ rfl (by kernel_rfl) ?_
      simp only [skipL, skipA, Act.put, p1, p2, p3]
      refine tj 39 56 HF rfl jd ?_
      refine wpAnyH_done (by kernel_rfl) ?_ _
      go_wp2
      go_ret
      exact ⟨ret_bool hno.out.symm, ((Below.refl _ w).alloc (Nat.le_refl _) _).trans ((below_of hbel (((Below.refl _ wr).alloc (Nat.le_refl _) _).trans (jd.mono (by simp))) hbel.size).mono (by simp))⟩
     | true =>
      by_cases hm : massV (f (k * 4 + 2)) (f (k * 4 + 3)) ≤ f (k * 4 + 1)
      ·have hmd : ¬ (f (k * 4 + 1) < massV (f (k * 4 + 2)) (f (k * 4 + 3))) := by omega
       refine tj4 17 34 18 35 20 37 21 38 HF jd ?_
       refine wpAnyH_ready (rs := [19]) (by kernel_rfl) (by simp) ?_
       refine AllReadyH.cons rfl (fun K hK => ?_) AllReadyH.nil
       go_simp
       (go_at_call 150; refine (l2Mass_any _ _ _).mono ?_; rintro e w2 ⟨rfl, hb2⟩)
       refine hK.out _ _ (jd.trans (hb2.mono jd.size)) (fun jd => ?_)
       clear hK K hb2
       refine tj4 22 39 23 40 24 41 25 42 HF jd ?_
       refine tj2 26 43 27 44 HF jd ?_
       by_cases h0 : k = 0
       ·have hok1 : Hid (panStep f k = true) := by simp only [Hid, panStep, okPanAt, okPan, h1, h2, h3, hm, Bool.true_and, Bool.or_eq_true, decide_eq_true_eq, decide_true]; exact Or.inl h0
        have hk0b : decide ((0 : Int) < (k : Int)) = false := by simp; omega
        have hk0c : decide (0 < k) = false := by simp; omega
        clear h0 HP
        try simp only [hk0b, hk0c]
        refine wpAnyH_skips (by kernel_rfl) (fun _ _ _ _ _ h => h) jd [(28, 45), (29, 46), (30, 47), (31, 48), (32, 49), (33, 50), (34, 51), (35, 52), (36, 53), (37, 54)] 2 10 _ _ rfl (by kernel_rfl) ?_
        simp only [skipL, skipA, Act.put, p1, p2, p3]
        refine tj2 38 55 39 56 HF jd ?_
        refine wpAnyH_done (by kernel_rfl) ?_ _
        go_wp2
        go_roundw
        case rel => exact ⟨k + 1, by omega, by go_num, allTo_succ hall.out hok1.out, below_of hbel (((Below.refl _ wr).alloc (Nat.le_refl _) _).trans (jd.mono (by simp))) hbel.size⟩
        case measure => simp [intOf]; omega
       ·have hk0 : 0 < k := by omega
        have hkk : ((k : Int) - 1).toNat = k - 1 := by omega
        have hb0 : (0 : Int) ≤ (k : Int) - 1 := by omega
        have hb1x : (1 : Int) ≤ (k : Int) := by omega
        have hb3 : (k : Int) - 1 < (n : Int) := by omega
        have hwk : IntKind.i64.wrap ((k : Int) - 1) = (k : Int) - 1 := IntWalk.i64_in _ (by omega)
        have hk0b : decide ((0 : Int) < (k : Int)) = true := by simp; omega
        have hk0c : decide (0 < k) = true := by simp; omega
        replace HF := Hid.and_ HF (HP.out hk0)
        clear HP
        try simp only [hk0b, hk0c]
        by_cases hlt2 : f ((k - 1) * 4) < f (k * 4)
        ·have hok1 : Hid (panStep f k = true) := by simp [Hid, panStep, okPanAt, okPan, h1, h2, h3, hm, hlt2]
         refine tj4 28 45 29 46 30 47 31 48 HF jd ?_
         refine tj4 32 49 33 50 34 51 35 52 HF jd ?_
         refine tj4 36 53 37 54 38 55 39 56 HF jd ?_
         refine wpAnyH_done (by kernel_rfl) ?_ _
         go_wp2
         go_roundw
         case rel => exact ⟨k + 1, by omega, by go_num, allTo_succ hall.out hok1.out, below_of hbel (((Below.refl _ wr).alloc (Nat.le_refl _) _).trans (jd.mono (by simp))) hbel.size⟩
         case measure => simp [intOf]; omega
        ·have hno : Hid (pansOk f n = false) := pansOk_no hlt (by simp [panStep, okPanAt, okPan, h1, h2, h3, hm, hlt2]; omega)
         refine tj4 28 45 29 46 30 47 31 48 HF jd ?_
         refine tj4 32 49 33 50 34 51 35 52 HF jd ?_
         refine tj4 36 53 37 54 38 55 39 56 HF jd ?_
         refine wpAnyH_done (by kernel_rfl) ?_ _
         go_wp2
         go_ret
         exact ⟨ret_bool hno.out.symm, ((Below.refl _ w).alloc (Nat.le_refl _) _).trans ((below_of hbel (((Below.refl _ wr).alloc (Nat.le_refl _) _).trans (jd.mono (by simp))) hbel.size).mono (by simp))⟩
      ·have hmd : f (k * 4 + 1) < massV (f (k * 4 + 2)) (f (k * 4 + 3)) := by omega
       have hno : Hid (pansOk f n = false) := pansOk_no hlt (by simp [panStep, okPanAt, okPan, h1, h2, h3, hm])
       refine tj4 17 34 18 35 20 37 21 38 HF jd ?_
       refine wpAnyH_ready (rs := [19]) (by kernel_rfl) (by simp) ?_
       refine AllReadyH.cons rfl (fun K hK => ?_) AllReadyH.nil
       go_simp
       (go_at_call 150; refine (l2Mass_any _ _ _).mono ?_; rintro e w2 ⟨rfl, hb2⟩)
       refine hK.out _ _ (jd.trans (hb2.mono jd.size)) (fun jd => ?_)
       clear hK K hb2
       refine tj3 22 39 23 40 24 41 HF jd ?_
       refine wpAnyH_skips (by kernel_rfl) (fun _ _ _ _ _ h => h) jd [(25, 42), (26, 43), (27, 44), (28, 45), (29, 46), (30, 47), (31, 48), (32, 49), (33, 50), (34, 51), (35, 52), (36, 53), (37, 54), (38, 55)] 1 14 _ _ rfl (by kernel_rfl) ?_
       simp only [skipL, skipA, Act.put, p1, p2, p3]
       refine tj 39 56 HF rfl jd ?_
       refine wpAnyH_done (by kernel_rfl) ?_ _
       go_wp2
       go_ret
       exact ⟨ret_bool hno.out.symm, ((Below.refl _ w).alloc (Nat.le_refl _) _).trans ((below_of hbel (((Below.refl _ wr).alloc (Nat.le_refl _) _).trans (jd.mono (by simp))) hbel.size).mono (by simp))⟩
  ·obtain rfl : n = k := by omega
   clear HS
   go_wp2
   go_ret
   exact ⟨ret_bool (by rw [Bool.eq_iff_iff]; simp [pansOk, hall.out]; omega), ((Below.refl _ w).alloc (Nat.le_refl _) _).trans ((hbel).mono (by simp))⟩
end Go.Proofs.YtpndjhelpoenpaaGreatDoor
namespace Go.Proofs.YtpndjhelpoenpaaGreatDoor
open Go.RowKit
attribute [local go_sem ↓] Go.wp_at_zero Go.wp_at_succ
def Er (w : World) : Prop := (∃ ev, w.cell? ⟨1, 0, none⟩ = some ev ∧ (ev = .nilIface ∨ ∃ te pe, ev = .iface te pe)) ∧ ∃ ev, w.cell? ⟨2, 0, none⟩ = some ev ∧ (ev = .nilIface ∨ ∃ te pe, ev = .iface te pe)
theorem Er.below {w w' : World} (h : Er w) (hb : Below w.heap.size w w') : Er w' := by
 obtain ⟨⟨a, h1, h2⟩, b, h3, h4⟩ := h
 exact ⟨⟨a, kp hb h1, h2⟩, b, kp hb h3, h4⟩
theorem ParseInt_any (s : ByteArray) (hs : s.size ≤ 4000000) (w : World) (ht : Tab w) (he : Er w) :
  Calls Tryz.prog 93 #[.string s] w fun e w' => e = .returned (.tuple #[.int .i64 ((parseV s).getD 0), .bool (parseV s).isSome]) ∧ Below w.heap.size w w' := by
 rcases hA : Lib.atoiAll s.data.toList with v | _ | _
 rotate_left
 ·have hp : parseV s = none := parseV_no fun v h0 h1 h => by
   rw [← h, atoiAll_num h0 h1] at hA
   cases hA
  rw [hp]
  obtain ⟨ev, hv, hev⟩ := he.1
  go_enter Tryz.func93, Tryz.ntmps93
  go_wp2_with fail
  refine (Tryz.strconv_Atoi_syntax s (by omega) hA ev w hv hev).mono ?_
  rintro e w1 ⟨N, rfl, _, _, hb⟩
  go_wp2_with fail
  go_ret2
  exact ⟨rfl, hb⟩
 ·have hsat := Lib.atoiSat_bounds s.data.toList
  have hp : parseV s = none := parseV_no fun v h0 h1 h => by
   rw [← h, atoiAll_num h0 h1] at hA
   cases hA
  rw [hp]
  obtain ⟨ev, hv, hev⟩ := he.2
  go_enter Tryz.func93, Tryz.ntmps93
  go_wp2_with fail
  refine (Tryz.strconv_Atoi_range s (by omega) hA ev w hv hev).mono ?_
  rintro e w1 ⟨N, rfl, _, _, hb⟩
  go_wp2_with fail
  go_ret2
  exact ⟨rfl, hb⟩
 ·obtain ⟨v0, v1⟩ := Lib.atoiAll_bounds hA
  have hun : ∀ u : Int, -999999 ≤ u → u ≤ 999999 → numB u = s → u = v := fun u h0 h1 h => by
   rw [← h, atoiAll_num h0 h1] at hA
   exact Lib.NumEnd.ok.inj hA
  cases hin : inR v (-999999) 999999 with
  | false =>
   have hp : parseV s = none := parseV_no fun u h0 h1 h => by
    obtain rfl := hun u h0 h1 h
    simp [inR, h0, h1] at hin
   rw [hp]
   go_enter Tryz.func93, Tryz.ntmps93
   go_wp2_with fail
   refine (Tryz.strconv_Atoi_ok s (by omega) v hA w).mono ?_
   rintro e w1 ⟨rfl, hW⟩
   have hb1 : Below w.heap.size w w1 := by
    rcases hW with rfl | ⟨t, rfl⟩
    ·exact Below.refl _ _
    ·exact Lib.bytesWorld_below _ _ _
   clear hW
   go_wp2_with fail
   refine (within_any v (-999999) 999999 w1).mono ?_
   rw [hin]
   rintro e w2 ⟨rfl, rfl⟩
   go_wp2_with fail
   go_ret2
   exact ⟨rfl, hb1⟩
  | true =>
   have hv : -999999 ≤ v ∧ v ≤ 999999 := by simpa [inR] using hin
   by_cases hE : numB v = s
   ·rw [parseV_yes hv.1 hv.2 hE]
    have hTB : ((numB v).toList == s.toList) = true := by rw [toList_beq, hE]; simp
    clear hE
    go_enter Tryz.func93, Tryz.ntmps93
    go_wp2_with fail
    refine (Tryz.strconv_Atoi_ok s (by omega) v hA w).mono ?_
    rintro e w1 ⟨rfl, hW⟩
    have hb1 : Below w.heap.size w w1 := by
     rcases hW with rfl | ⟨t, rfl⟩
     ·exact Below.refl _ _
     ·exact Lib.bytesWorld_below _ _ _
    clear hW
    go_wp2_with fail
    refine (within_any v (-999999) 999999 w1).mono ?_
    rw [hin]
    rintro e w2 ⟨rfl, rfl⟩
    go_wp2_with fail
    refine (decimal_any v (by omega) (by omega) w1 (ht.below hb1)).mono ?_
    rintro e w2 ⟨rfl, hb2⟩
    go_wp2_with fail
    go_ret2
    exact ⟨rfl, below_of hb1 hb2 hb1.size⟩
   ·have hp : parseV s = none := parseV_no fun u h0 h1 h => by
     obtain rfl := hun u h0 h1 h
     exact hE h
    rw [hp]
    have hTB : ((numB v).toList == s.toList) = false := by rw [toList_beq]; simp [hE]
    clear hE
    go_enter Tryz.func93, Tryz.ntmps93
    go_wp2_with fail
    refine (Tryz.strconv_Atoi_ok s (by omega) v hA w).mono ?_
    rintro e w1 ⟨rfl, hW⟩
    have hb1 : Below w.heap.size w w1 := by
     rcases hW with rfl | ⟨t, rfl⟩
     ·exact Below.refl _ _
     ·exact Lib.bytesWorld_below _ _ _
    clear hW
    go_wp2_with fail
    refine (within_any v (-999999) 999999 w1).mono ?_
    rw [hin]
    rintro e w2 ⟨rfl, rfl⟩
    go_wp2_with fail
    refine (decimal_any v (by omega) (by omega) w1 (ht.below hb1)).mono ?_
    rintro e w2 ⟨rfl, hb2⟩
    go_wp2_with fail
    go_ret2
    exact ⟨rfl, below_of hb1 hb2 hb1.size⟩
end Go.Proofs.YtpndjhelpoenpaaGreatDoor
namespace Go.Proofs.YtpndjhelpoenpaaGreatDoor
open Go
theorem iface_of_trod {H : Type} {enc : TypeId × Value → H} {P : Program} {w : World} {base : Nat} {sp : Nat → Bool} {held : Bool} {fuel : Nat} {t : TypeId} {ms : Array (String × TypeId)} {cs : List Value} {d : DataW H} {p : List MemPlace}
  (hu : P.underlying t = some (.interface ms)) (h : DataW.trod enc P w base sp held fuel t cs = some (d, p)) : ∃ ev, cs = [ev] ∧ (ev = .nilIface ∨ ∃ te pe, ev = .iface te pe) := by
 cases fuel with
 | zero => simp [DataW.trod] at h
 | succ fuel =>
  unfold DataW.trod at h
  rw [hu] at h
  split at h <;> first
   | exact ⟨_, rfl, Or.inl rfl⟩
   | exact ⟨_, rfl, Or.inr ⟨_, _, rfl⟩⟩
   | (cases h; done)
   | (rename_i heq; exact absurd heq (by simp))
   | (rename_i heq _; exact absurd heq (by simp))
   | (exfalso; simp_all; done)
theorem err_of_laid {P : Program} {w : World} {nm : String} {d : DataW Unit} {g : Nat} {t : TypeId} {ms : Array (String × TypeId)} (h : laidMet P [(nm, d)] w)
  (hg : P.globalNamed nm = some g) (ht : (P.globals[g]?).map (·.type) = some t) (hu : P.underlying t = some (.interface ms)) : ∃ ev, w.cell? ⟨g, 0, none⟩ = some ev ∧ (ev = .nilIface ∨ ∃ te pe, ev = .iface te pe) := by
 obtain ⟨ps, ⟨g', t', cs, fuel, p, q, hg', ht', hv, hd, _, _⟩, _, _⟩ := h
 obtain rfl := Option.some.inj (hg.symm.trans hg')
 obtain rfl := Option.some.inj (ht.symm.trans ht')
 obtain ⟨ev, e, hev⟩ := iface_of_trod hu hd
 refine ⟨ev, ?_, hev⟩
 rw [World.var?_cell hg hv 0]
 have h0 : cs.toList[0]? = some ev := by rw [e]; rfl
 simpa using h0
theorem Er.of_laid {w : World} {d e : DataW Unit} (h1 : laidMet Tryz.prog [("strconv.ErrSyntax", d)] w) (h2 : laidMet Tryz.prog [("strconv.ErrRange", e)] w) : Er w :=
 ⟨err_of_laid (g := 1) (t := 161) h1 (by kernel_rfl) (by kernel_rfl) Tryz.underlying161,
  err_of_laid (g := 2) (t := 161) h2 (by kernel_rfl) (by kernel_rfl) Tryz.underlying161⟩
end Go.Proofs.YtpndjhelpoenpaaGreatDoor
namespace Go.Proofs.YtpndjhelpoenpaaGreatDoor
open Go.RowKit Go.ChangeShapes Go.WideShapes Go.Deep
section
variable {H : Type} {enc : TypeId × Value → H} {P : Program} {w : World} {base : Nat} {spare : Nat → Bool} {held : Bool}
theorem flat_slice_cell {t e : TypeId} {c0 : Value} {fuel : Nat} {x : DataW H × List MemPlace} (m size : Nat) (ht : P.underlying t = some (.slice e)) (hfl : flatTy P m e = true) (hC : P.cellsOf e = size)
  (hf : DataW.trod enc P w base spare held fuel t [c0] = some x) (hsz : 0 < size) :
  ∃ A len cap f, c0 = .slice A len cap ∧ len ≤ cap ∧ cap ≤ maxLen ∧ Sl w base w.heap.size size A len f ∧ (∀ j, j < len * size → I64 (f j)) := by
 rcases open_slice ht hf with ⟨hcs, _⟩ | ⟨a, len, cap, m', n, D, Pl, hcs, hbase, hl, hm, hmm, hx, hi⟩
 ·simp at hcs
  subst hcs
  exact ⟨none, 0, 0, fun _ => 0, rfl, Nat.le_refl _, Nat.zero_le _, ⟨Nat.le_refl _, fun h => absurd h (by omega)⟩, fun j hj => absurd hj (by omega)⟩
 ·simp at hcs
  subst hcs
  have hlm : len ≤ m' := by rw [hmm]; split <;> omega
  have key : ∀ j, j < len * size → ∃ z, w.cell? (a.add j) = some (.int .i64 z) ∧ I64 z := by
   intro j hj
   have hq : j / size < len := by rw [Nat.div_lt_iff_lt_mul hsz]; exact hj
   obtain ⟨cs', hc, ht'⟩ := hi (j / size) (by omega)
   obtain ⟨_, hcl, hat⟩ := World.cells?_some hc
   have hr : j % size < P.cellsOf e := by rw [hC]; exact Nat.mod_lt _ hsz
   have hcell := hat (j % size) hr
   rw [Go.Deep.add_add, hC, Nat.div_add_mod' j size] at hcell
   have hv : cs'[j % size]? = some (cs'[j % size]'(by omega)) := List.getElem?_eq_getElem (by omega)
   obtain ⟨z, hz, hw⟩ := flat_cells m e n cs' _ hfl ht' (j % size) _ hv
   exact ⟨z, by rw [hcell, hv, hz], hw⟩
  refine ⟨some a, len, cap, fun j => match w.cell? (a.add j) with | some (.int _ z) => z | _ => 0, rfl, hl, hm, ⟨Nat.le_refl _, ?_⟩, ?_⟩
  ·intro hn
   obtain ⟨z0, h0, _⟩ := key 0 (Nat.mul_pos hn hsz)
   have hspot : a.spot = none := by
    have := World.cell?_spot h0
    simpa [Addr.add] using this
   obtain ⟨b, off, spot⟩ := a
   simp only at hspot
   subst hspot
   refine ⟨b, off, rfl, hbase, ?_, ?_⟩
   ·have := World.block_lt_of_cell? w _ h0
    simpa [Addr.add] using this
   ·intro j hj
    obtain ⟨z, hz, _⟩ := key j hj
    show _ = some (Value.int .i64 (match w.cell? (Addr.add ⟨b, off, none⟩ j) with | some (.int _ z) => z | _ => 0))
    rw [hz, ← hz, Addr.add_lit]
  ·intro j hj
   obtain ⟨z, hz, hw⟩ := key j hj
   simp only [hz]
   exact hw
end
end Go.Proofs.YtpndjhelpoenpaaGreatDoor
namespace Go.Proofs.YtpndjhelpoenpaaGreatDoor
open Go.RowKit Go.ChangeShapes Go.WideShapes Go.Deep
section
variable {H : Type} {enc : TypeId × Value → H} {P : Program} {w : World} {base : Nat} {spare : Nat → Bool} {held : Bool}
end
end Go.Proofs.YtpndjhelpoenpaaGreatDoor
namespace Go.Proofs.YtpndjhelpoenpaaGreatDoor
open Go.RowKit Go.ChangeShapes Go.WideShapes Go.Deep
section
variable {H : Type} {enc : TypeId × Value → H} {P : Program} {w : World} {base : Nat} {spare : Nat → Bool} {held : Bool}
theorem open_console {r : Reach} {b0 : Nat} {t e : TypeId} {gw gl g0 g1 g2 g3 g4 l0 l1 l2 : Field} {v : Value} {d : DataW H} {ps : List MemPlace} (m size : Nat)
  (ht : P.underlying t = some (.struct #[gw, gl])) (hCt : P.cellsOf t = 8) (ow : gw.offset = 0) (ol : gl.offset = 5) (kw : P.cellsOf gw.type = 5) (kl : P.cellsOf gl.type = 3)
  (hw : P.underlying gw.type = some (.struct #[g0, g1, g2, g3, g4]))
  (o0 : g0.offset = 0) (o1 : g1.offset = 1) (o2 : g2.offset = 2) (o3 : g3.offset = 3) (o4 : g4.offset = 4) (k0 : P.cellsOf g0.type = 1) (k1 : P.cellsOf g1.type = 1) (k2 : P.cellsOf g2.type = 1) (k3 : P.cellsOf g3.type = 1) (k4 : P.cellsOf g4.type = 1)
  (t0 : P.underlying g0.type = some (.slice e)) (t1 : P.underlying g1.type = some (.int .i64)) (t2 : P.underlying g2.type = some (.int .i64)) (t3 : P.underlying g3.type = some (.int .i64)) (t4 : P.underlying g4.type = some (.int .i64))
  (hl : P.underlying gl.type = some (.struct #[l0, l1, l2])) (p0 : l0.offset = 0) (p1 : l1.offset = 1) (p2 : l2.offset = 2) (m0 : P.cellsOf l0.type = 1) (m1 : P.cellsOf l1.type = 1) (m2 : P.cellsOf l2.type = 1)
  (u0 : P.underlying l0.type = some .string) (u1 : P.underlying l1.type = some .string) (u2 : P.underlying l2.type = some (.int .i64))
  (hfl : flatTy P m e = true) (hC : P.cellsOf e = size) (hval : Value.okWide P w r b0 t v) (hd : DataW.Trod enc P w base spare held t v d ps) (hsz : 0 < size) :
  ∃ A len cap f z1 z2 z3 z4, ∃ (s0 s1 : ByteArray) (z : Int), v = .agg #[.slice A len cap, .int .i64 z1, .int .i64 z2, .int .i64 z3, .int .i64 z4, .string s0, .string s1, .int .i64 z] ∧ len ≤ cap ∧ cap ≤ maxLen ∧ Sl w base w.heap.size size A len f ∧ s0.size ≤ maxLen ∧ s1.size ≤ maxLen := by
 obtain ⟨cs, rfl, hs8⟩ := okWide_struct ht hval
 obtain ⟨fuel, hf⟩ := hd
 obtain ⟨xs, n, _, _, hlen, hxl, hg⟩ := DataW.trod_struct ht hf
 rw [hCt] at hs8
 obtain ⟨l⟩ := cs
 obtain ⟨c0, c1, c2, c3, c4, c5, c6, c7, rfl⟩ : ∃ c0 c1 c2 c3 c4 c5 c6 c7, l = [c0, c1, c2, c3, c4, c5, c6, c7] := by
  match l, hs8 with
  | [c0, c1, c2, c3, c4, c5, c6, c7], _ => exact ⟨c0, c1, c2, c3, c4, c5, c6, c7, rfl⟩
 have hxl2 : xs.length = 2 := by simpa using hxl
 have qw := hg 0 gw rfl
 have ql := hg 1 gl rfl
 rw [ow, kw, List.getElem?_eq_getElem (by omega)] at qw
 rw [ol, kl, List.getElem?_eq_getElem (by omega)] at ql
 have qw' : DataW.trod enc P w base spare held n gw.type [c0, c1, c2, c3, c4] = some (xs[0]'(by omega)) := by simpa [Value.cells] using qw
 have ql' : DataW.trod enc P w base spare held n gl.type [c5, c6, c7] = some (xs[1]'(by omega)) := by simpa [Value.cells] using ql
 obtain ⟨ys, n1, _, _, _, hyl, hgw⟩ := DataW.trod_struct hw qw'
 obtain ⟨zs, n2, _, _, _, hzl, hgl⟩ := DataW.trod_struct hl ql'
 have hyl5 : ys.length = 5 := by simpa using hyl
 have hzl3 : zs.length = 3 := by simpa using hzl
 have q0 := hgw 0 g0 rfl
 have q1 := hgw 1 g1 rfl
 have q2 := hgw 2 g2 rfl
 have q3 := hgw 3 g3 rfl
 have q4 := hgw 4 g4 rfl
 have r0 := hgl 0 l0 rfl
 have r1 := hgl 1 l1 rfl
 have r2 := hgl 2 l2 rfl
 rw [o0, k0, List.getElem?_eq_getElem (by omega)] at q0
 rw [o1, k1, List.getElem?_eq_getElem (by omega)] at q1
 rw [o2, k2, List.getElem?_eq_getElem (by omega)] at q2
 rw [o3, k3, List.getElem?_eq_getElem (by omega)] at q3
 rw [o4, k4, List.getElem?_eq_getElem (by omega)] at q4
 rw [p0, m0, List.getElem?_eq_getElem (by omega)] at r0
 rw [p1, m1, List.getElem?_eq_getElem (by omega)] at r1
 rw [p2, m2, List.getElem?_eq_getElem (by omega)] at r2
 obtain ⟨A, len, cap, f, rfl, h1, h2, h3, h4⟩ := flat_slice_cell (c0 := c0) m size t0 hfl hC (by simpa using q0) hsz
 obtain ⟨z1, e1, _, w1⟩ := DataW.trod_int t1 (by simpa using q1)
 obtain ⟨z2, e2, _, w2⟩ := DataW.trod_int t2 (by simpa using q2)
 obtain ⟨z3, e3, _, w3⟩ := DataW.trod_int t3 (by simpa using q3)
 obtain ⟨z4, e4, _, w4⟩ := DataW.trod_int t4 (by simpa using q4)
 obtain ⟨s0, e5, _, w5⟩ := DataW.trod_string u0 (by simpa using r0)
 obtain ⟨s1, e6, _, w6⟩ := DataW.trod_string u1 (by simpa using r1)
 obtain ⟨z, e7, _, w7⟩ := DataW.trod_int u2 (by simpa using r2)
 simp only [List.cons.injEq, and_true] at e1 e2 e3 e4 e5 e6 e7
 subst e1 e2 e3 e4 e5 e6 e7
 exact ⟨A, len, cap, f, z1, z2, z3, z4, s0, s1, z, rfl, h1, h2, h3, w5, w6⟩
end
end Go.Proofs.YtpndjhelpoenpaaGreatDoor
