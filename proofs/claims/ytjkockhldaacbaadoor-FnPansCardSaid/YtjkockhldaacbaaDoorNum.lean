/-
  The decimal numeral of a number: the program's decimal and the reference's l1Num return the same text. The library's table of powers reads as it was laid.
-/
import Derived.Test.YtjkockhldaacbaaDoorPk1
import Derived.Test.YtjkockhldaacbaaDoorProg
import Derived.Test.YtjkockhldaacbaaDoorShelf
import Derived.Lib.ItoaLen
import Derived.Lib.ItoaMem
import Derived.Lib.AppendIntMem
import Derived.Lib.SmallJoins
import Derived.Lib.Strings
import Derived.BigGuardPart
import Derived.Handy
import Derived.Deep.RegionWith
import Derived.Deep.RegionHeld3
import Derived.Deep.DrawnRows
namespace Go.Proofs.YtjkockhldaacbaaDoor
open Go.RowKit
set_option linter.unusedVariables false
set_option linter.unusedSimpArgs false
attribute [local go_sem ↓] Go.wp_at_zero Go.wp_at_succ
/-- A sum of two texts, at a step. -/
theorem run_add_str {P : Program} {w : World} {d : Option Nat} {t t1 : TypeId} {ty : TypeId} {pos : String} {af : Array Edge} {gd : Option (Nat × Bool)} {a : Act} {x y : Operand} {s u : ByteArray} (hx : a.eval x = .string s) (hy : a.eval y = .string u)
    (h : s.size + u.size ≤ 9223372036854775807) : (execOp a.eval ⟨d, .binOp .add t x y t1, ty, pos, af, gd⟩).run P w = .ok (.value (.string (s ++ u))) w := by
  simp [execOp, hx, hy, binOp, eqGuard_add, run_string_add_sum w s u h, Result.andThen]
theorem run_add_strP {P : Program} {w : World} {d : Option Nat} {t t1 : TypeId} {ty : TypeId} {pos : String} {af : Array Edge} {gd : Option (Nat × Bool)} {a : Act} {x y : Operand} {v : Value}
    (h : ∃ s u : ByteArray, a.eval x = .string s ∧ a.eval y = .string u ∧ s.size + u.size ≤ 9223372036854775807 ∧ v = .string (s ++ u)) : (execOp a.eval ⟨d, .binOp .add t x y t1, ty, pos, af, gd⟩).run P w = .ok (.value v) w := by
  obtain ⟨s, u, hx, hy, h, rfl⟩ := h
  exact run_add_str hx hy h
def numB (n : Int) : ByteArray := ⟨(Lib.itoa n).toArray⟩
theorem numB_size {n : Int} (h0 : -9223372036854775808 ≤ n) (h1 : n ≤ 9223372036854775807) : (numB n).size ≤ 21 := by
  have := Lib.itoa_length_le n h0 h1
  show (Lib.itoa n).toArray.size ≤ 21
  simpa using this
theorem numB_one {n : Nat} (h : n < 10) : numB (n : Int) = ⟨#[UInt8.ofNat (48 + n)]⟩ := by
  unfold numB; rw [Lib.itoa_nonneg, Lib.decDigits_one h]
theorem dec_step (u : Nat) (h : ¬ u < 10) : Lib.decDigits u = Lib.decDigits (u / 10) ++ [UInt8.ofNat (48 + u % 10)] := by rw [Lib.decDigits, dif_neg h]
theorem numB_step {q r : Nat} (hr : r < 10) (hq : 0 < q) : numB (q : Int) ++ ⟨#[UInt8.ofNat (48 + r)]⟩ = numB ((10 * q + r : Nat) : Int) := by
  unfold numB
  rw [Lib.itoa_nonneg, Lib.itoa_nonneg]
  rw [dec_step (10 * q + r) (by omega), show (10 * q + r) / 10 = q by omega, show (10 * q + r) % 10 = r by omega]
  exact ByteArray.mk_append_mk (Lib.decDigits q) [UInt8.ofNat (48 + r)]
theorem dig_fin : ∀ p : Fin 10, ((ByteArray.mk #[48, 49, 50, 51, 52, 53, 54, 55, 56, 57]).data.toList.drop p.val).take 1 = [UInt8.ofNat (48 + p.val)] := by decide +kernel
theorem dig_one {r r1 : Nat} (h : r < 10) (h1 : r1 = r + 1) : (ByteArray.mk #[48, 49, 50, 51, 52, 53, 54, 55, 56, 57]).extract r r1 = ⟨#[UInt8.ofNat (48 + r)]⟩ := by
  subst h1
  apply ByteArray.ext
  apply Array.toList_inj.1
  rw [Lib.extract_data, show r + 1 - r = 1 by omega]
  exact dig_fin ⟨r, h⟩
/-- The library's table reads as it was laid. -/
def Tab (w : World) : Prop := Lib.TabIs Tryd.prog w "internal/strconv.uint64pow10" .u64 Lib.pow10Tab
theorem Tab.below {w w' : World} (h : Tab w) (hb : Below w.heap.size w w') : Tab w' := (Lib.tabBelow_of_tabIs h) w' hb
theorem decimal_any (n : Int) (h0 : -9223372036854775808 ≤ n) (h1 : n ≤ 9223372036854775807) (w : World) (ht : Tab w) :
    Calls Tryd.prog 45 #[.int .i64 n] w fun e w' => e = .returned (.string (numB n)) ∧ Below w.heap.size w w' := by
  go_enter Tryd.func45, Tryd.ntmps45
  go_wp2_with fail
  refine (Tryd.strconv_Itoa n h0 h1 w ht).mono ?_
  rintro e w1 ⟨rfl, k, os, rfl⟩
  have hb := Lib.below_grow w.heap.size w (Nat.le_refl _) k os
  generalize Sort.grow (w.drewN k) os = w2 at hb ⊢
  go_wp2
  go_ret
  exact ⟨rfl, hb⟩
set_option maxHeartbeats 200000 in
theorem l1Num_nat (k : Nat) : ∀ (n : Nat) (w : World), n ≤ k → (n : Int) ≤ 9223372036854775807 →
    Calls Tryd.prog 70 #[.int .i64 n] w fun e w' => e = .returned (.string (numB n)) ∧ Below w.heap.size w w' := by
  induction k with
  | zero =>
    intro n w hk hn
    obtain rfl : n = 0 := by omega
    go_enter Tryd.func70, Tryd.ntmps70
    go_wp2_with fail
    go_ret
    exact ⟨by rw [numB_one (n := 0) (by omega)]; rfl, Below.refl _ _⟩
  | succ k ih =>
    intro n w hk hn
    have IH := Lib.hid ih
    clear ih
    by_cases h10 : n < 10
    · have hi10 : (n : Int) < 10 := by omega
      have hi0 : ¬ ((n : Int) < 0) := by omega
      have hw1 : IntKind.i64.wrap ((n : Int) + 1) = ((n + 1 : Nat) : Int) := by rw [IntWalk.i64_in _ (by omega)]; omega
      have hn0 : (0 : Int) ≤ (n : Int) := by omega
      have hn1 : (n : Int) ≤ ((n + 1 : Nat) : Int) := by omega
      have hlei : ((n + 1 : Nat) : Int) ≤ 10 := by omega
      have hdg : ∀ r1, r1 = n + 1 → (ByteArray.mk #[48, 49, 50, 51, 52, 53, 54, 55, 56, 57]).extract n r1 = ⟨#[UInt8.ofNat (48 + n)]⟩ := fun r1 h => dig_one h10 h
      generalize hr1 : n + 1 = n1 at *
      have HD := Lib.hid (hdg n1 rfl)
      clear hdg
      go_enter Tryd.func70, Tryd.ntmps70
      go_wp2_with fail
      go_ret
      exact ⟨by rw [numB_one h10, ← HD.out]; first | rfl | simp [HD.out], Below.refl _ _⟩
    · obtain ⟨q, r, rfl, hr⟩ : ∃ q r, n = 10 * q + r ∧ r < 10 := ⟨n / 10, n % 10, by omega, by omega⟩
      have hi10 : ¬ (((10 * q + r : Nat) : Int) < 10) := by omega
      have hi0 : ¬ (((10 * q + r : Nat) : Int) < 0) := by omega
      have hq : Int.tdiv ((10 * q + r : Nat) : Int) 10 = (q : Int) := by rw [Int.tdiv_eq_ediv_of_nonneg (by omega)]; omega
      have hrr : Int.tmod ((10 * q + r : Nat) : Int) 10 = (r : Int) := by rw [Int.tmod_eq_emod_of_nonneg (by omega)]; omega
      have hw1 : IntKind.i64.wrap ((r : Int) + 1) = ((r + 1 : Nat) : Int) := by rw [IntWalk.i64_in _ (by omega)]; omega
      have hwq : IntKind.i64.wrap (q : Int) = (q : Int) := IntWalk.i64_in _ (by omega)
      have hwr : IntKind.i64.wrap (r : Int) = (r : Int) := IntWalk.i64_in _ (by omega)
      have hr00 : (0 : Int) ≤ (r : Int) := by omega
      have hr01 : (r : Int) ≤ ((r + 1 : Nat) : Int) := by omega
      have hr02 : ((r + 1 : Nat) : Int) ≤ 10 := by omega
      have hle : r + 1 ≤ 10 := by omega
      have hsq : (numB q).size ≤ 21 := numB_size (by omega) (by omega)
      have hst : numB (q : Int) ++ ⟨#[UInt8.ofNat (48 + r)]⟩ = numB ((10 * q + r : Nat) : Int) := numB_step hr (by omega)
      have hdg : ∀ r1, r1 = r + 1 → (ByteArray.mk #[48, 49, 50, 51, 52, 53, 54, 55, 56, 57]).extract r r1 = ⟨#[UInt8.ofNat (48 + r)]⟩ := fun r1 h => dig_one hr h
      have hqk : q ≤ k := by omega
      have hqn : (q : Int) ≤ 9223372036854775807 := by omega
      have hr0 : r ≤ r + 1 := by omega
      generalize hr1 : r + 1 = r1 at *
      generalize hN : 10 * q + r = N at *
      have hdg1 : (ByteArray.mk #[48, 49, 50, 51, 52, 53, 54, 55, 56, 57]).extract r r1 = ⟨#[UInt8.ofNat (48 + r)]⟩ := hdg r1 rfl
      clear hdg
      have HF : Hid (∀ w' : World, Below w.heap.size w w' → True) := fun _ _ => trivial
      go_enter Tryd.func70, Tryd.ntmps70
      go_wp2_with fail
      refine wp_region_class (C := fun w' => Below (w).heap.size (w) w') (by kernel_rfl) (by kernel_rfl) ((Below.refl _ _).drew) ?_
      refine tq (v := ?_) 15 HF ?_ ?_
      rotate_left; · (intro _ _ _; go_simp; try with_reducible rfl)
      simp only [Act.put, p1, p2, p3]
      refine tq (v := ?_) 16 HF ?_ ?_
      rotate_left; · (intro _ _ _; go_simp; try with_reducible rfl)
      simp only [Act.put, p1, p2, p3]
      refine wpQuiet_meet (d := 17) (v := ?_) ?_ ?_ (by rfl) ?_ ?_ ?_
      rotate_left
      rotate_left
      rotate_left
      · intro wS hS
        have eF := HF.out wS hS
        go_simp
        first | with_reducible rfl | (refine ⟨?_, ?_⟩ <;> with_reducible rfl)
      · intro wS hS
        refine (IH.out q wS hqk hqn).mono ?_
        rintro e w2 ⟨rfl, hb2⟩
        refine ⟨?_, hS.trans (hb2.mono hS.size)⟩
        with_reducible rfl
      simp only [Act.put, p1, p2, p3]
      refine tq (v := ?_) 18 HF ?_ ?_
      rotate_left; · (intro _ _ _; go_simp; try with_reducible rfl)
      simp only [Act.put, p1, p2, p3]
      refine tq (v := ?_) 19 HF ?_ ?_
      rotate_left; · (intro _ _ _; go_simp; try with_reducible rfl)
      simp only [Act.put, p1, p2, p3]
      refine tq (v := ?_) 20 HF ?_ ?_
      rotate_left; · (intro _ _ _; go_simp; try with_reducible rfl)
      simp only [Act.put, p1, p2, p3]
      refine tq (v := ?_) 21 HF ?_ ?_
      rotate_left; · (intro _ _ _; go_simp; try with_reducible rfl)
      simp only [Act.put, p1, p2, p3]
      refine tq (v := ?_) 22 HF ?_ ?_
      rotate_left; · (intro _ _ _; go_simp; try with_reducible rfl)
      simp only [Act.put, p1, p2, p3]
      refine tq (v := ?_) 23 HF ?_ ?_
      rotate_left; · (intro _ _ _; go_simp; try with_reducible rfl)
      simp only [Act.put, p1, p2, p3]
      refine wpQuiet_take (d := 24) (v := ?_) (by rfl) ?_ ?_
      rotate_left
      · intro wS hS
        refine run_add_strP ⟨_, _, rfl, rfl, by (try simp only [ByteArray.size_append', ByteArray.size_mk', List.size_toArray, List.length_cons, List.length_nil]); omega, ?_⟩
        with_reducible rfl
      simp only [Act.put, p1, p2, p3]
      refine tq (v := ?_) 2 HF ?_ ?_
      rotate_left; · (intro _ _ _; go_simp; try with_reducible rfl)
      simp only [Act.put, p1, p2, p3]
      refine wpQuiet_nil (fun wq hHeld => ?_)
      go_wp2
      go_ret
      exact ⟨by rw [← hst]; first | rfl | simp, hHeld⟩
theorem l1Num_any (n : Int) (h0 : 0 ≤ n) (h1 : n ≤ 9223372036854775807) (w : World) :
    Calls Tryd.prog 70 #[.int .i64 n] w fun e w' => e = .returned (.string (numB n)) ∧ Below w.heap.size w w' := by
  obtain ⟨m, rfl⟩ := Int.eq_ofNat_of_zero_le h0
  exact l1Num_nat m m w (Nat.le_refl _) h1
end Go.Proofs.YtjkockhldaacbaaDoor
