/-
  Texts of this claim, merged.
-/
import Derived.Test.YtpndjhelpoenpaaGreatDoorXA3
set_option linter.unusedVariables false
set_option linter.unusedSimpArgs false
set_option maxRecDepth 100000
set_option maxHeartbeats 8000000
namespace Go.Proofs.YtpndjhelpoenpaaGreatDoor
open Go.RowKit
attribute [local go_sem ↓] Go.wp_at_zero Go.wp_at_succ
theorem run_add_str {P : Program} {w : World} {d : Option Nat} {t t1 : TypeId} {ty : TypeId} {pos : String} {af : Array Edge} {gd : Option (Nat × Bool)} {a : Act} {x y : Operand} {s u : ByteArray} (hx : a.eval x = .string s) (hy : a.eval y = .string u)
  (h : s.size + u.size ≤ 9223372036854775807) : (execOp a.eval ⟨d, .binOp .add t x y t1, ty, pos, af, gd⟩).run P w = .ok (.value (.string (s ++ u))) w := by
 simp [execOp, hx, hy, binOp, eqGuard_add, run_string_add_sum w s u h, Result.andThen]
theorem run_add_strP {P : Program} {w : World} {d : Option Nat} {t t1 : TypeId} {ty : TypeId} {pos : String} {af : Array Edge} {gd : Option (Nat × Bool)} {a : Act} {x y : Operand} {v : Value}
  (h : ∃ s u : ByteArray, a.eval x = .string s ∧ a.eval y = .string u ∧ s.size + u.size ≤ 9223372036854775807 ∧ v = .string (s ++ u)) : (execOp a.eval ⟨d, .binOp .add t x y t1, ty, pos, af, gd⟩).run P w = .ok (.value v) w := by
 obtain ⟨s, u, hx, hy, h, rfl⟩ := h
 exact run_add_str hx hy h
def numB (n : Int) : ByteArray := ⟨(Lib.itoa n).toArray⟩
theorem numB_size {n : Int} (h0 : -9223372036854775808 ≤ n) (h1 : n ≤ 9223372036854775807) : (numB n).size ≤ 21 := by
 have := Lib.itoa_length_le n h0 h1
 show (Lib.itoa n).toArray.size ≤ 21
 simpa using this
theorem numB_one {n : Nat} (h : n < 10) : numB (n : Int) = ⟨#[UInt8.ofNat (48 + n)]⟩ := by
 unfold numB; rw [Lib.itoa_nonneg, Lib.decDigits_one h]
theorem dec_step (u : Nat) (h : ¬ u < 10) : Lib.decDigits u = Lib.decDigits (u / 10) ++ [UInt8.ofNat (48 + u % 10)] := by rw [Lib.decDigits, dif_neg h]
theorem numB_step {q r : Nat} (hr : r < 10) (hq : 0 < q) : numB (q : Int) ++ ⟨#[UInt8.ofNat (48 + r)]⟩ = numB ((10 * q + r : Nat) : Int) := by
 unfold numB
 rw [Lib.itoa_nonneg, Lib.itoa_nonneg]
 rw [dec_step (10 * q + r) (by omega), show (10 * q + r) / 10 = q by omega, show (10 * q + r) % 10 = r by omega]
 exact ByteArray.mk_append_mk (Lib.decDigits q) [UInt8.ofNat (48 + r)]
theorem dig_fin : ∀ p : Fin 10, ((ByteArray.mk #[48, 49, 50, 51, 52, 53, 54, 55, 56, 57]).data.toList.drop p.val).take 1 = [UInt8.ofNat (48 + p.val)] := by exact z11
theorem dig_one {r r1 : Nat} (h : r < 10) (h1 : r1 = r + 1) : (ByteArray.mk #[48, 49, 50, 51, 52, 53, 54, 55, 56, 57]).extract r r1 = ⟨#[UInt8.ofNat (48 + r)]⟩ := by
 subst h1
 apply ByteArray.ext
 apply Array.toList_inj.1
 rw [Lib.extract_data, show r + 1 - r = 1 by omega]
 exact dig_fin ⟨r, h⟩
def Tab (w : World) : Prop := Lib.TabIs Tryz.prog w "internal/strconv.uint64pow10" .u64 Lib.pow10Tab
theorem Tab.below {w w' : World} (h : Tab w) (hb : bW w w') : Tab w' := (Lib.tabBelow_of_tabIs h) w' hb
theorem decimal_any (n : Int) (h0 : -9223372036854775808 ≤ n) (h1 : n ≤ 9223372036854775807) (w : World) (ht : Tab w) :
  Calls Tryz.prog 65 #[.int .i64 n] w fun e w' => e = .returned (.string (numB n)) ∧ bW w w' := by
 go_enter Tryz.func65, Tryz.ntmps65
 go_wp2_with fail
 refine (Tryz.strconv_Itoa n h0 h1 w ht).mono ?_
 rintro e w1 ⟨rfl, k, os, rfl⟩
 have hb := Lib.below_grow w.heap.size w nL k os
 generalize Sort.grow (w.drewN k) os = w2 at hb ⊢
 go_wp2
 go_ret
 exact ⟨rfl, hb⟩
theorem l1Num_nat (k : Nat) : ∀ (n : Nat) (w : World), n ≤ k → (n : Int) ≤ 9223372036854775807 →
  Calls Tryz.prog 66 #[.int .i64 n] w fun e w' => e = .returned (.string (numB n)) ∧ bW w w' := by
 induction k with
 | zero =>
  intro n w hk hn
  obtain rfl : n = 0 := by omega
  go_enter Tryz.func66, Tryz.ntmps66
  go_wp2_with fail
  go_ret
  exact ⟨by rw [numB_one (n := 0) (by omega)]; rfl, Below.refl _ _⟩
 | succ k ih =>
  intro n w hk hn
  have IH := lh ih
  clear ih
  by_cases h10 : n < 10
  ·have hi10 : (n : Int) < 10 := by omega
   have hi0 : ¬ ((n : Int) < 0) := by omega
   have hw1 : IntKind.i64.wrap ((n : Int) + 1) = ((n + 1 : Nat) : Int) := by rw [IntWalk.i64_in _ (by omega)]; omega
   have hn0 : (0 : Int) ≤ (n : Int) := by omega
   have hn1 : (n : Int) ≤ ((n + 1 : Nat) : Int) := by omega
   have hlei : ((n + 1 : Nat) : Int) ≤ 10 := by omega
   have hdg : ∀ r1, r1 = n + 1 → (ByteArray.mk #[48, 49, 50, 51, 52, 53, 54, 55, 56, 57]).extract n r1 = ⟨#[UInt8.ofNat (48 + n)]⟩ := fun r1 h => dig_one h10 h
   generalize hr1 : n + 1 = n1 at *
   have HD := lh (hdg n1 rfl)
   clear hdg
   go_enter Tryz.func66, Tryz.ntmps66
   go_wp2_with fail
   go_ret
   exact ⟨by rw [numB_one h10, ← HD.out]; first | rfl | simp [HD.out], Below.refl _ _⟩
  ·obtain ⟨q, r, rfl, hr⟩ : ∃ q r, n = 10 * q + r ∧ r < 10 := ⟨n / 10, n % 10, by omega, by omega⟩
   have hi10 : ¬ (((10 * q + r : Nat) : Int) < 10) := by omega
   have hi0 : ¬ (((10 * q + r : Nat) : Int) < 0) := by omega
   have hq : Int.tdiv ((10 * q + r : Nat) : Int) 10 = (q : Int) := by rw [Int.tdiv_eq_ediv_of_nonneg (by omega)]; omega
   have hrr : Int.tmod ((10 * q + r : Nat) : Int) 10 = (r : Int) := by rw [Int.tmod_eq_emod_of_nonneg (by omega)]; omega
   have hw1 : IntKind.i64.wrap ((r : Int) + 1) = ((r + 1 : Nat) : Int) := by rw [IntWalk.i64_in _ (by omega)]; omega
   have hwq : IntKind.i64.wrap (q : Int) = (q : Int) := IntWalk.i64_in _ (by omega)
   have hwr : IntKind.i64.wrap (r : Int) = (r : Int) := IntWalk.i64_in _ (by omega)
   have hr00 : (0 : Int) ≤ (r : Int) := by omega
   have hr01 : (r : Int) ≤ ((r + 1 : Nat) : Int) := by omega
   have hr02 : ((r + 1 : Nat) : Int) ≤ 10 := by omega
   have hle : r + 1 ≤ 10 := by omega
   have hsq : (numB q).size ≤ 21 := numB_size (by omega) (by omega)
   have hst : numB (q : Int) ++ ⟨#[UInt8.ofNat (48 + r)]⟩ = numB ((10 * q + r : Nat) : Int) := numB_step hr (by omega)
   have hdg : ∀ r1, r1 = r + 1 → (ByteArray.mk #[48, 49, 50, 51, 52, 53, 54, 55, 56, 57]).extract r r1 = ⟨#[UInt8.ofNat (48 + r)]⟩ := fun r1 h => dig_one hr h
   have hqk : q ≤ k := by omega
   have hqn : (q : Int) ≤ 9223372036854775807 := by omega
   have hr0 : r ≤ r + 1 := by omega
   generalize hr1 : r + 1 = r1 at *
   generalize hN : 10 * q + r = N at *
   have hdg1 : (ByteArray.mk #[48, 49, 50, 51, 52, 53, 54, 55, 56, 57]).extract r r1 = ⟨#[UInt8.ofNat (48 + r)]⟩ := hdg r1 rfl
   clear hdg
   have HF : Hid (∀ w' : World, bW w w' → True) := fun _ _ => trivial
   go_enter Tryz.func66, Tryz.ntmps66
   go_wp2_with fail
   refine wp_region_class (C := fun w' => bW (w) w') (by exact z12) (by exact z12) ((Below.refl _ _).drew) ?_
   refine tr 15 HF ?_
   refine tr 16 HF ?_
   refine wpQuiet_meet (d := 17) (v := ?_) ?_ ?_ (by rfl) ?_ ?_ ?_
   rotate_left
   rotate_left
   rotate_left
   ·exact z13
   ·intro wS hS
    refine (IH.out q wS hqk hqn).mono ?_
    exact z14
   refine z15 ?_
   refine tr 18 HF ?_
   refine z16 ?_
   refine wpQuiet_take (d := 24) (v := ?_) (by rfl) ?_ ?_
   rotate_left
   ·exact z17
   refine z15 ?_
   refine tr 2 HF ?_
   refine wpQuiet_nil (fun wq jd => ?_)
   go_wp2
   go_ret
   exact ⟨by rw [← hst]; first | rfl | simp, jd⟩
theorem l1Num_any (n : Int) (h0 : 0 ≤ n) (h1 : n ≤ 9223372036854775807) (w : World) :
  Calls Tryz.prog 66 #[.int .i64 n] w fun e w' => e = .returned (.string (numB n)) ∧ bW w w' := by
 obtain ⟨m, rfl⟩ := Int.eq_ofNat_of_zero_le h0
 exact l1Num_nat m m w nL h1
end Go.Proofs.YtpndjhelpoenpaaGreatDoor
namespace Go.Proofs.YtpndjhelpoenpaaGreatDoor
open Go.RowKit
theorem kp {a b : World} {p : Addr} {v : Value} (h : Below a.heap.size a b) (e : a.cell? p = some v) : b.cell? p = some v := (h.cell (World.block_lt_of_cell? _ _ e)).trans e
theorem n1 (w : World) (o : Obj) : (w.alloc o).heap[w.heap.size]? = some o := heap_alloc_new w o
theorem n2 (w : World) (o p : Obj) : ((w.alloc o).alloc p).heap[w.heap.size]? = some o := by rw [heap_alloc_old _ _ (by simp)]; exact heap_alloc_new w o
theorem n3 (w : World) (o p : Obj) : ((w.alloc o).alloc p).heap[w.heap.size + 1]? = some p := by simpa using heap_alloc_new (w.alloc o) p
theorem bl1 (w : World) (o : Obj) : Below w.heap.size w (w.alloc o) ∧ (w.alloc o).heap[w.heap.size]? = some o := ⟨(Below.refl _ w).alloc (Nat.le_refl _) _, n1 w o⟩
theorem bl2 (w : World) (o p : Obj) : Below w.heap.size w ((w.alloc o).alloc p) ∧ ((w.alloc o).alloc p).heap[w.heap.size]? = some o ∧ ((w.alloc o).alloc p).heap[w.heap.size + 1]? = some p := ⟨((Below.refl _ w).alloc (Nat.le_refl _) _).alloc (by simp) _, n2 w o p, n3 w o p⟩
theorem n4 (w : World) (o p q : Obj) : (((w.alloc o).alloc p).alloc q).heap[w.heap.size]? = some o := by rw [heap_alloc_old _ _ (by simp <;> omega)]; exact n2 w o p
theorem n5 (w : World) (o p q : Obj) : (((w.alloc o).alloc p).alloc q).heap[w.heap.size + 1]? = some p := by rw [heap_alloc_old _ _ (by simp)]; exact n3 w o p
theorem n6 (w : World) (o p q : Obj) : (((w.alloc o).alloc p).alloc q).heap[w.heap.size + 1 + 1]? = some q := by simpa using heap_alloc_new ((w.alloc o).alloc p) q
theorem bx {a b : World} {g : Nat} {o : Obj} (h : Below a.heap.size a b) (e : a.heap[g]? = some o := by first | exact n1 _ _ | exact n2 _ _ _ | exact n3 _ _ _ | exact n4 _ _ _ _ | exact n5 _ _ _ _ | exact n6 _ _ _ _) : b.heap[g]? = some o := (h.block g (Array.getElem?_eq_some_iff.1 e).1).trans e
theorem fz {w : World} {g : Nat} {cs : Array Value} {T : TypeId} (h : w.heap[g]? = some (.cells cs T (0, 0))) : ∀ j, w.frozen? ⟨g, j, none⟩ = false := fun j => frozen_of_row w g j _ _ h
theorem ba {a b : World} {o : Obj} (h : b = a.alloc o) : Below a.heap.size a b := by rw [h]; exact (Below.refl _ _).alloc (Nat.le_refl _) _
theorem an {a b : World} {o : Obj} (h : b = a.alloc o) : b.heap[a.heap.size]? = some o := by rw [h]; exact heap_alloc_new _ _
theorem bl3 (w : World) (o p q : Obj) : Below w.heap.size w (((w.alloc o).alloc p).alloc q) ∧ (((w.alloc o).alloc p).alloc q).heap[w.heap.size]? = some o ∧ (((w.alloc o).alloc p).alloc q).heap[w.heap.size + 1]? = some p ∧ (((w.alloc o).alloc p).alloc q).heap[w.heap.size + 1 + 1]? = some q := ⟨(((Below.refl _ w).alloc (Nat.le_refl _) _).alloc (by simp) _).alloc (by simp <;> omega) _, n4 w o p q, n5 w o p q, n6 w o p q⟩
theorem wq0 {u v : ByteArray} (hu : u = v) (h : (v.toList == ([108, 101, 97, 100] : List UInt8)) = false) : (u.toList == ([108, 101, 97, 100] : List UInt8)) = false := by rw [hu]; exact h
theorem wq1 {u v : ByteArray} (hu : u = v) (h : (v.toList == ([115, 104, 105, 112] : List UInt8)) = false) : (u.toList == ([115, 104, 105, 112] : List UInt8)) = false := by rw [hu]; exact h
theorem wq2 {u v : ByteArray} (hu : u = v) (h : (v.toList == ([114, 97, 107, 101] : List UInt8)) = false) : (u.toList == ([114, 97, 107, 101] : List UInt8)) = false := by rw [hu]; exact h
theorem wq3 {u v : ByteArray} (hu : u = v) (h : (v.toList == ([115, 104, 117, 116] : List UInt8)) = false) : (u.toList == ([115, 104, 117, 116] : List UInt8)) = false := by rw [hu]; exact h
theorem wq4 {u v : ByteArray} (hu : u = v) (h : (v.toList == ([98, 117, 105, 108, 100] : List UInt8)) = false) : (u.toList == ([98, 117, 105, 108, 100] : List UInt8)) = false := by rw [hu]; exact h
theorem wq5 {u v : ByteArray} (hu : u = v) (h : (v.toList == ([116, 97, 107, 101] : List UInt8)) = false) : (u.toList == ([116, 97, 107, 101] : List UInt8)) = false := by rw [hu]; exact h
theorem wq6 {u v : ByteArray} (hu : u = v) (h : (v.toList == ([104, 101, 97, 112] : List UInt8)) = false) : (u.toList == ([104, 101, 97, 112] : List UInt8)) = false := by rw [hu]; exact h
theorem wq7 {u v : ByteArray} (hu : u = v) (h : (v.toList == ([105, 110] : List UInt8)) = false) : (u.toList == ([105, 110] : List UInt8)) = false := by rw [hu]; exact h
theorem wq8 {u v : ByteArray} (hu : u = v) (h : (v.toList == ([100, 114, 121] : List UInt8)) = false) : (u.toList == ([100, 114, 121] : List UInt8)) = false := by rw [hu]; exact h
theorem wq9 {u v : ByteArray} (hu : u = v) (h : (v.toList == ([112, 97, 110, 115] : List UInt8)) = false) : (u.toList == ([112, 97, 110, 115] : List UInt8)) = false := by rw [hu]; exact h
theorem wq10 {u v : ByteArray} (hu : u = v) (h : (v.toList == ([109, 97, 121] : List UInt8)) = false) : (u.toList == ([109, 97, 121] : List UInt8)) = false := by rw [hu]; exact h
theorem wq11 {u v : ByteArray} (hu : u = v) (h : (v.toList == ([111, 114, 100, 101, 114] : List UInt8)) = false) : (u.toList == ([111, 114, 100, 101, 114] : List UInt8)) = false := by rw [hu]; exact h
theorem wq12 {u v : ByteArray} (hu : u = v) (h : (v.toList == ([109, 111, 114, 101] : List UInt8)) = false) : (u.toList == ([109, 111, 114, 101] : List UInt8)) = false := by rw [hu]; exact h
theorem within_any (n lo hi : Int) (w : World) : Calls Tryz.prog 70 #[.int .i64 n, .int .i64 lo, .int .i64 hi] w fun e w' => e = .returned (.bool (inR n lo hi)) ∧ w = w' := by
 go_enter Tryz.func70, Tryz.ntmps70
 exact z19
theorem l1In_any (n lo hi : Int) (w : World) : Calls Tryz.prog 126 #[.int .i64 n, .int .i64 lo, .int .i64 hi] w fun e w' => e = .returned (.bool (inR n lo hi)) ∧ w = w' := by
 go_enter Tryz.func126, Tryz.ntmps126
 exact z19
theorem isId_any (n : Int) (w : World) : Calls Tryz.prog 119 #[.int .i64 n] w fun e w' => e = .returned (.bool (inR n 1 99)) ∧ w = w' := by
 go_enter Tryz.func119, Tryz.ntmps119
 exact z19
theorem isKilos_any (n : Int) (w : World) : Calls Tryz.prog 118 #[.int .i64 n] w fun e w' => e = .returned (.bool (inR n 0 1000000)) ∧ w = w' := by
 go_enter Tryz.func118, Tryz.ntmps118
 exact z19
theorem l21Kilos_any (n : Int) (w : World) : Calls Tryz.prog 124 #[.int .i64 n] w fun e w' => e = .returned (.bool (inR n 0 1000000)) ∧ w = w' := by
 go_enter Tryz.func124, Tryz.ntmps124
 exact z19
attribute [local go_sem ↓] Go.wp_at_zero Go.wp_at_succ
theorem getD_lt {l : List UInt8} {k : Nat} (h : k < l.length) : l.getD k 0 = l[k] := by simp [List.getD, h]
def byteAt (s : ByteArray) (k : Nat) : UInt8 := s.data.toList.getD k 0
theorem byteAt_eq (s : ByteArray) (k : Nat) (h : k < s.size) : s[k]'h = byteAt s k := by
 unfold byteAt
 have h' : k < s.data.toList.length := by rw [Array.length_toList]; exact h
 rw [getD_lt h', Array.getElem_toList]
 rfl
def plainB (c : UInt8) : Bool := decide (32 ≤ c.toNat ∧ c.toNat ≤ 126 ∧ c.toNat ≠ 35)
def plain (s : ByteArray) : Bool := allTo (fun j => plainB (byteAt s j)) s.size
def noByte (s : ByteArray) (c : UInt8) : Bool := allTo (fun j => decide (byteAt s j ≠ c)) s.size
theorem allTo_iff {p : Nat → Bool} : ∀ {n : Nat}, allTo p n = true ↔ ∀ k, k < n → p k = true := by
 intro n
 constructor
 ·intro h k hk; exact allTo_at hk h
 ·induction n with
  | zero => intro _; rfl
  | succ n ih => intro h; exact allTo_succ (ih (fun k hk => h k (by omega))) (h n (by omega))
theorem noByte_iff (s : ByteArray) (c : UInt8) : noByte s c = true ↔ c ∉ s.data.toList := by
 unfold noByte
 rw [allTo_iff]
 constructor
 ·intro h hm
  obtain ⟨k, hk, e⟩ := List.getElem_of_mem hm
  have h1 := h k (by rw [Array.length_toList] at hk; exact hk)
  simp only [decide_eq_true_eq] at h1
  exact h1 (by unfold byteAt; rw [getD_lt hk]; exact e)
 ·intro h k hk
  simp only [decide_eq_true_eq]
  intro e
  have h' : k < s.data.toList.length := by rw [Array.length_toList]; exact hk
  exact h (by rw [← e]; unfold byteAt; rw [getD_lt h']; exact List.getElem_mem h')
theorem noByte_index (s : ByteArray) (c : UInt8) : decide (0 ≤ Lib.indexByte s.data.toList c) = !noByte s c := by
 rw [← Lib.contains_iff_indexByte]
 cases h : noByte s c with
 | true => simpa using (noByte_iff s c).1 h
 | false =>
  have h1 : ¬ (c ∉ s.data.toList) := fun hn => by rw [(noByte_iff s c).2 hn] at h; cases h
  simpa using h1
def goodRec (c r : ByteArray) : Bool := decide (1 ≤ c.size ∧ c.size ≤ 160) && decide (r.size ≤ 200) && plain c && plain r && noByte c 64
theorem isPlain_any (s : ByteArray) (hs : (s.size : Int) ≤ 9223372036854775807) (w : World) :
  Calls Tryz.prog 91 #[.string s] w fun e w' => e = .returned (.bool (plain s)) ∧ w = w' := by
 go_enter Tryz.func91, Tryz.ntmps91
 go_wp2_with fail
 go_loop [6] (fun i => ∃ k : Nat, k ≤ s.size ∧ i = .int .i64 k ∧ Hid (allTo (fun j => plainB (byteAt s j)) k = true)) (fun i => s.size - (intOf i).toNat)
 case atStart => exact z20
 case round =>
  obtain ⟨k, hk, rfl, hall⟩ := hrel
  by_cases hlt : k < s.size
  ·refine z21 ?_
   intro hbk hk0 hk1
   cases hp : plainB (byteAt s k) with
   | false =>
    revert hbk hp
    refine z22 ?_
    intro hno c hbk hp'
    have hcc : c.toNat < 256 := UInt8.toNat_lt c
    go_wp2_with (fail)
    all_goals
     first
     | (go_ret; exact ⟨ret_bool (by rw [plain]; exact hno.out.symm), rfl⟩)
     | (exfalso; omega)
   | true =>
    revert hbk hp
    refine z23 ?_
    intro hyes c hbk hp1 hp2 hp3 hq1 hq2 hq3
    have hcc : c.toNat < 256 := UInt8.toNat_lt c
    go_wp2_with (fail)
    exact z24
  ·obtain rfl : k = s.size := by omega
   go_wp2_with fail
   go_ret
   exact ⟨ret_bool (by rw [plain]; exact hall.out.symm), rfl⟩
theorem l27Plain_any (s : ByteArray) (m : Int) (hs : (s.size : Int) ≤ 9223372036854775807) (w : World) :
  Calls Tryz.prog 81 #[.string s, .int .i64 m] w fun e w' => e = .returned (.bool (plain s && decide ((s.size : Int) ≤ m))) ∧ w = w' := by
 go_enter Tryz.func81, Tryz.ntmps81
 go_wp2_with fail
 go_loop [5] (fun i => ∃ k : Nat, k ≤ s.size ∧ i = .int .i64 k ∧ Hid (allTo (fun j => plainB (byteAt s j)) k = true)) (fun i => s.size - (intOf i).toNat)
 case atStart => exact z20
 case round =>
  obtain ⟨k, hk, rfl, hall⟩ := hrel
  by_cases hlt : k < s.size
  ·refine z21 ?_
   intro hbk hk0 hk1
   cases hp : plainB (byteAt s k) with
   | false =>
    revert hbk hp
    refine z22 ?_
    intro hno c hbk hp'
    have hin : inR (c.toNat : Int) 32 126 = decide (32 ≤ c.toNat ∧ c.toNat ≤ 126) := by rw [Bool.eq_iff_iff]; simp only [inR, decide_eq_true_eq]; omega
    have hcc : c.toNat < 256 := UInt8.toNat_lt c
    go_wp2_with (go_at_call 126; refine (l1In_any _ _ _ _).mono ?_; rintro e w3 ⟨rfl, rfl⟩)
    all_goals
     first
     | (go_ret; exact ⟨ret_bool (by rw [plain, hno.out]; rfl), rfl⟩)
     | (exfalso; omega)
   | true =>
    revert hbk hp
    refine z23 ?_
    intro hyes c hbk hp1 hp2 hp3 hq1 hq2 hq3
    have hin : inR (c.toNat : Int) 32 126 = true := by simp only [inR, decide_eq_true_eq]; omega
    have hcc : c.toNat < 256 := UInt8.toNat_lt c
    go_wp2_with (go_at_call 126; refine (l1In_any _ _ _ _).mono ?_; rintro e w3 ⟨rfl, rfl⟩)
    exact z24
  ·obtain rfl : k = s.size := by omega
   go_wp2_with fail
   go_ret
   exact ⟨ret_bool (by rw [plain, hall.out, Bool.true_and]), rfl⟩
theorem l1Stands_any (s : ByteArray) (b : UInt8) (hs : (s.size : Int) ≤ 9223372036854775807) (w : World) :
  Calls Tryz.prog 82 #[.string s, .int .u8 (b.toNat : Int)] w fun e w' => e = .returned (.bool (!noByte s b)) ∧ w = w' := by
 go_enter Tryz.func82, Tryz.ntmps82
 go_wp2_with fail
 go_loop [5] (fun i => ∃ k : Nat, k ≤ s.size ∧ i = .int .i64 k ∧ Hid (allTo (fun j => decide (byteAt s j ≠ b)) k = true)) (fun i => s.size - (intOf i).toNat)
 case atStart => exact z20
 case round =>
  obtain ⟨k, hk, rfl, hall⟩ := hrel
  by_cases hlt : k < s.size
  ·refine z21 ?_
   intro hbk hk0 hk1
   by_cases hp : byteAt s k = b
   ·have hno : Hid (noByte s b = false) := allTo_false hlt (by simp [hp])
    rw [hp] at hbk
    clear hp hall
    go_wp2_with fail
    go_ret
    exact ⟨ret_bool (by rw [hno.out]; rfl), rfl⟩
   ·have hyes : Hid (allTo (fun j => decide (byteAt s j ≠ b)) (k + 1) = true) := allTo_succ hall.out (by simp [hp])
    have hne : byteAt s k ≠ b := hp
    clear hp hall
    generalize byteAt s k = c at hbk hne
    have hn2 : c.toNat ≠ b.toNat := fun e => hne (UInt8.toNat_inj.1 e)
    have hn3 : ((c.toNat : Int) == (b.toNat : Int)) = false := by simp; omega
    go_wp2_with fail
    exact z24
  ·obtain rfl : k = s.size := by omega
   go_wp2_with fail
   go_ret
   exact ⟨ret_bool (by unfold noByte; rw [hall.out]; rfl), rfl⟩
theorem IsValidRecord_any (c r : ByteArray) (hc : (c.size : Int) ≤ 9223372036854775807) (hr : (r.size : Int) ≤ 9223372036854775807) (w : World) :
  Calls Tryz.prog 48 #[.agg (sV c r)] w fun e w' => e = .returned (.bool (goodRec c r)) ∧ bW w w' := by
 refine z25 ?_
 intro HAL
 have hin : inR (c.size : Int) 1 160 = decide (1 ≤ c.size ∧ c.size ≤ 160) := by rw [Bool.eq_iff_iff]; simp only [inR, decide_eq_true_eq]; omega
 have hix := noByte_index c 64
 have hg : goodRec c r = (decide (1 ≤ c.size ∧ c.size ≤ 160) && decide (r.size ≤ 200) && plain c && plain r && noByte c 64) := rfl
 have HG := lh hg
 clear hg
 generalize hA : decide (1 ≤ c.size ∧ c.size ≤ 160) = bA at hin HG
 clear hA
 go_enter Tryz.func48, Tryz.ntmps48
 go_wp2_with (first | (go_at_call 70; refine z26 ?_; rw [hin]; rintro e w3 ⟨rfl, rfl⟩) | (go_at_call 91; refine (isPlain_any _ (by assumption) _).mono ?_; rintro e w3 ⟨rfl, rfl⟩) | (go_at_call 92; refine (Tryz.strings_Contains_one _ 64 _).mono ?_; rw [hix]; rintro e w3 ⟨rfl, rfl⟩))
 all_goals
  go_ret
  exact ⟨ret_bool (by rw [HG.out]; cases h1 : plain c <;> cases h2 : noByte c 64 <;> cases h3 : plain r <;> cases h4 : bA <;> simp_all <;> omega), HAL⟩
theorem l27Good_any (c r : ByteArray) (hc : (c.size : Int) ≤ 9223372036854775807) (hr : (r.size : Int) ≤ 9223372036854775807) (w : World) :
  Calls Tryz.prog 43 #[.agg (sV c r)] w fun e w' => e = .returned (.bool (goodRec c r)) ∧ bW w w' := by
 refine z25 ?_
 intro HAL
 by_cases h0 : c = ⟨#[]⟩
 ·subst h0
  have hg : goodRec ⟨#[]⟩ r = false := by unfold goodRec; rfl
  go_enter Tryz.func43, Tryz.ntmps43
  go_wp2_with fail
  go_ret
  exact ⟨ret_bool hg.symm, HAL⟩
 ·have h1 : 1 ≤ c.size := by
   rcases Nat.eq_zero_or_pos c.size with h | h
   ·exact absurd (ByteArray.ext (Array.eq_empty_of_size_eq_zero h)) h0
   ·exact h
  have hg : goodRec c r = ((plain c && decide ((c.size : Int) ≤ 160)) && noByte c 64 && (plain r && decide ((r.size : Int) ≤ 200))) := by
   unfold goodRec
   rw [Bool.eq_iff_iff]
   simp only [Bool.and_eq_true, decide_eq_true_eq]
   constructor
   ·rintro ⟨⟨⟨⟨a, b⟩, c⟩, d⟩, e⟩; exact ⟨⟨⟨c, by omega⟩, e⟩, d, by omega⟩
   ·rintro ⟨⟨⟨a, b⟩, c⟩, d, e⟩; exact ⟨⟨⟨⟨by omega, by omega⟩, a⟩, d⟩, c⟩
  have hnl : c.toList ≠ [] := by
   rw [ByteArray.toList_eq]
   intro e
   exact h0 (ByteArray.ext (Array.toList_inj.1 (by simpa using e)))
  have hne : (c.toList == []) = false := by
   cases hcl : c.toList with
   | nil => exact absurd hcl hnl
   | cons a l => rfl
  have HG := lh hg
  clear hg h1
  go_enter Tryz.func43, Tryz.ntmps43
  go_wp2_with (first | (go_at_call 81; refine (l27Plain_any _ _ (by assumption) _).mono ?_; rintro e w3 ⟨rfl, rfl⟩) | (go_at_call 82; refine (l1Stands_any _ 64 (by assumption) _).mono ?_; rintro e w3 ⟨rfl, rfl⟩))
  all_goals
   go_ret
   exact ⟨ret_bool (by rw [HG.out]; cases h1 : plain c <;> cases h2 : noByte c 64 <;> cases h3 : plain r <;> simp_all <;> omega), HAL⟩
end Go.Proofs.YtpndjhelpoenpaaGreatDoor
namespace Go.Proofs.YtpndjhelpoenpaaGreatDoor
open Go.RowKit
attribute [local go_sem ↓] Go.wp_at_zero Go.wp_at_succ
def sumTo (s : ByteArray) : Nat → Int
 | 0 => 7
 | k + 1 => (41 * sumTo s k + (byteAt s k).toNat + 1) % 999979
theorem sumTo_ok (s : ByteArray) (k : Nat) : 0 ≤ sumTo s k ∧ sumTo s k ≤ 999978 := by
 cases k with
 | zero => simp [sumTo]
 | succ k => simp only [sumTo]; omega
def sealB (s : ByteArray) : ByteArray := (s ++ ⟨#[35]⟩) ++ numB (sumTo s s.size)
theorem sealB_size (s : ByteArray) : (sealB s).size ≤ s.size + 22 := by
 have h := sumTo_ok s s.size
 have := numB_size (n := sumTo s s.size) (by omega) (by omega)
 simp only [sealB, ByteArray.size_append', ByteArray.size_mk', List.size_toArray, List.length_cons, List.length_nil]
 omega
def appOk (s : ByteArray) : Bool := decide (s.size ≤ 4000) && noByte s 35 && decide ((sealB s).size ≤ 4000)
def bodyB (k : Int) (c r : ByteArray) : ByteArray := ((numB k ++ ⟨#[32]⟩) ++ c ++ ⟨#[64]⟩) ++ r
def lineB (k : Int) (c r : ByteArray) : ByteArray := sealB (bodyB k c r) ++ ⟨#[10]⟩
theorem mem_append_data {a b : ByteArray} {c : UInt8} : c ∈ (a ++ b).data.toList ↔ c ∈ a.data.toList ∨ c ∈ b.data.toList := by
 rw [Joins.data_append, List.mem_append]
theorem dec_byte (u : Nat) : ∀ c ∈ Lib.decDigits u, 48 ≤ c.toNat ∧ c.toNat ≤ 57 := by
 induction u using Nat.strongRecOn with
 | _ u ih =>
  intro c hc
  have one : ∀ d, d < 10 → 48 ≤ (UInt8.ofNat (48 + d)).toNat ∧ (UInt8.ofNat (48 + d)).toNat ≤ 57 := by
   intro d hd
   rw [UInt8.toNat_ofNat']
   omega
  by_cases h : u < 10
  ·rw [Lib.decDigits_one h] at hc
   simp only [List.mem_singleton] at hc
   subst hc
   exact one u h
  ·rw [dec_step u h] at hc
   rcases List.mem_append.1 hc with hc | hc
   ·exact ih _ (by omega) c hc
   ·simp only [List.mem_singleton] at hc
    subst hc
    exact one _ (by omega)
theorem numB_byte {k : Int} (hk : 0 ≤ k) {c : UInt8} (hc : c ∈ (numB k).data.toList) : 48 ≤ c.toNat ∧ c.toNat ≤ 57 := by
 obtain ⟨n, rfl⟩ := Int.eq_ofNat_of_zero_le hk
 unfold numB at hc
 rw [Lib.itoa_nonneg] at hc
 exact dec_byte n c (by simpa using hc)
theorem plain_byte {s : ByteArray} (h : plain s = true) {c : UInt8} (hc : c ∈ s.data.toList) : 32 ≤ c.toNat ∧ c.toNat ≤ 126 ∧ c.toNat ≠ 35 := by
 obtain ⟨k, hk, e⟩ := List.getElem_of_mem hc
 have h1 := allTo_iff.1 h k (by rw [Array.length_toList] at hk; exact hk)
 simp only [plainB, decide_eq_true_eq] at h1
 have e2 : byteAt s k = c := by unfold byteAt; rw [getD_lt hk]; exact e
 rwa [e2] at h1
theorem goodRec_facts {c r : ByteArray} (h : goodRec c r = true) : 1 ≤ c.size ∧ c.size ≤ 160 ∧ r.size ≤ 200 ∧ plain c = true ∧ plain r = true ∧ noByte c 64 = true := by
 simp only [goodRec, Bool.and_eq_true, decide_eq_true_eq] at h
 obtain ⟨⟨⟨⟨⟨a, b⟩, c⟩, d⟩, e⟩, g⟩ := h
 exact ⟨a, b, c, d, e, g⟩
theorem bodyB_size {k : Int} {c r : ByteArray} (h0 : 0 ≤ k) (h1 : k ≤ 59) (h : goodRec c r = true) : (bodyB k c r).size ≤ 390 := by
 obtain ⟨_, a, b, _⟩ := goodRec_facts h
 have := numB_size (n := k) (by omega) (by omega)
 simp only [bodyB, ByteArray.size_append', ByteArray.size_mk', List.size_toArray, List.length_cons, List.length_nil]
 omega
theorem body_no {k : Int} {c r : ByteArray} (h0 : 0 ≤ k) (h : goodRec c r = true) : noByte (bodyB k c r) 35 = true := by
 obtain ⟨_, _, _, h2, h3, _⟩ := goodRec_facts h
 rw [noByte_iff]
 intro hm
 simp only [bodyB, mem_append_data] at hm
 rcases hm with (((hm | hm) | hm) | hm) | hm
 ·have := numB_byte h0 hm; simp at this
 ·simp at hm
 ·have := plain_byte h2 hm; simp at this
 ·simp at hm
 ·have := plain_byte h3 hm; simp at this
theorem body_ok {k : Int} {c r : ByteArray} (h0 : 0 ≤ k) (h1 : k ≤ 59) (h : goodRec c r = true) : appOk (bodyB k c r) = true := by
 have h2 := bodyB_size h0 h1 h
 have h3 := sealB_size (bodyB k c r)
 simp only [appOk, Bool.and_eq_true, decide_eq_true_eq]
 exact ⟨⟨by omega, body_no h0 h⟩, by omega⟩
theorem checksum_any (s : ByteArray) (hs : (s.size : Int) ≤ 9223372036854775807) (w : World) :
  Calls Tryz.prog 178 #[.string s] w fun e w' => e = .returned (.int .i64 (sumTo s s.size)) ∧ w = w' := by
 go_enter Tryz.func178, Tryz.ntmps178
 go_wp2_with fail
 go_loop [3, 7] (fun t i => ∃ k : Nat, k ≤ s.size ∧ i = .int .i64 k ∧ t = .int .i64 (sumTo s k)) (fun _ i => s.size - (intOf i).toNat)
 case atStart => exact z20
 case round =>
  exact z27
theorem l1Sum_any (s : ByteArray) (hs : (s.size : Int) ≤ 9223372036854775807) (w : World) :
  Calls Tryz.prog 162 #[.string s] w fun e w' => e = .returned (.int .i64 (sumTo s s.size)) ∧ w = w' := by
 go_enter Tryz.func162, Tryz.ntmps162
 go_wp2_with fail
 go_loop [3, 4] (fun t i => ∃ k : Nat, k ≤ s.size ∧ i = .int .i64 k ∧ t = .int .i64 (sumTo s k)) (fun _ i => s.size - (intOf i).toNat)
 case atStart => exact z20
 case round =>
  exact z27
theorem l1Seal_any (s : ByteArray) (hs : (s.size : Int) ≤ 9000000000000000000) (w : World) :
  Calls Tryz.prog 134 #[.string s] w fun e w' => e = .returned (.string (sealB s)) ∧ bW w w' := by
 have h := sumTo_ok s s.size
 have hz := numB_size (n := sumTo s s.size) (by omega) (by omega)
 have hsn : s.size ≤ 9000000000000000000 := by omega
 have he : Hid (sealB s = (s ++ ⟨#[35]⟩) ++ numB (sumTo s s.size)) := rfl
 go_enter Tryz.func134, Tryz.ntmps134
 go_wp2_with fail
 refine (l1Sum_any s (by omega) _).mono ?_
 rintro e w1 ⟨rfl, rfl⟩
 go_wp2_with fail
 refine (l1Num_any _ h.1 (by omega) _).mono ?_
 rintro e w2 ⟨rfl, hb2⟩
 go_wp2_with fail
 go_ret
 exact ⟨by first | (rw [he.out]; rfl) | rw [he.out], hb2⟩
theorem AppendChecksum_any (s : ByteArray) (hs : (s.size : Int) ≤ 9000000000000000000) (w : World) (ht : Tab w) :
  Calls Tryz.prog 146 #[.string s] w fun e w' => e = .returned (.tuple #[.string (if appOk s then sealB s else ⟨#[]⟩), .bool (appOk s)]) ∧ bW w w' := by
 have h := sumTo_ok s s.size
 have hz := numB_size (n := sumTo s s.size) (by omega) (by omega)
 have hix := noByte_index s 35
 have he : Hid (sealB s = (s ++ ⟨#[35]⟩) ++ numB (sumTo s s.size)) := rfl
 have hes : Hid ((sealB s).size = (s.size + 1) + (numB (sumTo s s.size)).size) := by show _ = _; simp only [sealB, ByteArray.size_append', ByteArray.size_mk', List.size_toArray, List.length_cons, List.length_nil]
 have hap : Hid (appOk s = (decide (s.size ≤ 4000) && noByte s 35 && decide ((sealB s).size ≤ 4000))) := rfl
 have CH := lh (checksum_any s (by omega))
 have DC := lh (decimal_any (sumTo s s.size) (by omega) (by omega) w ht)
 generalize hN : numB (sumTo s s.size) = N at *
 generalize hS : sumTo s s.size = Z at *
 clear h hN hS
 by_cases h1 : s.size ≤ 4000
 ·have hd1 : decide (s.size ≤ 4000) = true := by simp [h1]
  have h1i : ¬ (4000 < (s.size : Int)) := by omega
  cases h2 : noByte s 35 with
  | false =>
   have ha : appOk s = false := by rw [hap.out, h2]; simp
   rw [ha]
   rw [h2] at hix
   go_enter Tryz.func146, Tryz.ntmps146
   go_wp2_with (go_at_call 92; refine (Tryz.strings_Contains_one _ 35 _).mono ?_; rw [hix]; rintro e w3 ⟨rfl, rfl⟩)
   go_ret2
   exact ⟨rfl, Below.refl _ _⟩
  | true =>
   rw [h2] at hix
   by_cases h3 : (sealB s).size ≤ 4000
   ·have ha : appOk s = true := by rw [hap.out, h2, hd1]; simp [h3]
    rw [ha]
    have h3i : ¬ (4000 < ((s.size + 1 + N.size : Nat) : Int)) := by have := hes.out; omega
    have h3j : ¬ (4000 < (s.size : Int) + 1 + (N.size : Int)) := by omega
    have h3k : s.size + 1 + N.size ≤ 4000 := by have := hes.out; omega
    go_enter Tryz.func146, Tryz.ntmps146
    go_wp2_with (first | (go_at_call 92; refine (Tryz.strings_Contains_one _ 35 _).mono ?_; rw [hix]; rintro e w3 ⟨rfl, rfl⟩) | (go_at_call 178; refine (CH.out _).mono ?_; rintro e w4 ⟨rfl, rfl⟩) | (go_at_call 65; refine DC.out.mono ?_; rintro e w5 ⟨rfl, hb5⟩))
    go_ret2
    exact ⟨by first | (rw [he.out]; rfl) | rw [he.out], hb5⟩
   ·have ha : appOk s = false := by rw [hap.out, h2, hd1]; simp; omega
    rw [ha]
    have h3i : 4000 < ((s.size + 1 + N.size : Nat) : Int) := by have := hes.out; omega
    have h3j : 4000 < (s.size : Int) + 1 + (N.size : Int) := by omega
    go_enter Tryz.func146, Tryz.ntmps146
    go_wp2_with (first | (go_at_call 92; refine (Tryz.strings_Contains_one _ 35 _).mono ?_; rw [hix]; rintro e w3 ⟨rfl, rfl⟩) | (go_at_call 178; refine (CH.out _).mono ?_; rintro e w4 ⟨rfl, rfl⟩) | (go_at_call 65; refine DC.out.mono ?_; rintro e w5 ⟨rfl, hb5⟩))
    go_ret2
    exact ⟨rfl, hb5⟩
 ·have ha : appOk s = false := by rw [hap.out]; simp [h1]
  rw [ha]
  have h1i : 4000 < (s.size : Int) := by omega
  go_enter Tryz.func146, Tryz.ntmps146
  go_wp2_with fail
  go_ret2
  exact ⟨rfl, Below.refl _ _⟩
theorem l27Line_any (k : Int) (c r : ByteArray) (h0 : 0 ≤ k) (h1 : k ≤ 1000000) (hc : c.size ≤ 1048576) (hr : r.size ≤ 1048576) (w : World) :
  Calls Tryz.prog 88 #[.int .i64 k, .agg (sV c r)] w fun e w' => e = .returned (.string (lineB k c r)) ∧ bW w w' := by
 refine z25 ?_
 intro HAL
 have hz := numB_size (n := k) (by omega) (by omega)
 refine z28 ?_
 intro HF
 have hsz : (bodyB k c r).size ≤ 3000000 := by
  simp only [bodyB, ByteArray.size_append', ByteArray.size_mk', List.size_toArray, List.length_cons, List.length_nil]; omega
 have hszi : ((bodyB k c r).size : Int) ≤ 9000000000000000000 := by omega
 have hss := sealB_size (bodyB k c r)
 go_enter Tryz.func88, Tryz.ntmps88
 go_wp2_with fail
 refine wp_region_class (C := fun w' => bW ((w.alloc (.cells (sV c r) 70))) w') (by exact z12) (by exact z12) ((Below.refl _ _).drew) ?_
 refine tr 5 HF ?_
 refine wpQuiet_meet (d := 6) (v := ?_) ?_ ?_ (by rfl) ?_ ?_ ?_
 rotate_left
 rotate_left
 rotate_left
 ·exact z13
 ·intro wS hS
  refine (l1Num_any k (by omega) (by omega) wS).mono ?_
  exact z14
 refine z15 ?_
 refine wpQuiet_take (d := 7) (v := ?_) (by rfl) ?_ ?_
 rotate_left
 ·exact z17
 refine z15 ?_
 refine tr 8 HF ?_
 refine tr 9 HF ?_
 refine wpQuiet_take (d := 10) (v := ?_) (by rfl) ?_ ?_
 rotate_left
 ·exact z17
 refine z15 ?_
 refine wpQuiet_take (d := 11) (v := ?_) (by rfl) ?_ ?_
 rotate_left
 ·exact z17
 refine z15 ?_
 refine tr 12 HF ?_
 refine tr 13 HF ?_
 refine wpQuiet_take (d := 14) (v := ?_) (by rfl) ?_ ?_
 rotate_left
 ·exact z17
 refine z15 ?_
 refine wpQuiet_meet (d := 15) (v := ?_) ?_ ?_ (by rfl) ?_ ?_ ?_
 rotate_left
 rotate_left
 rotate_left
 ·exact z13
 ·intro wS hS
  refine (l1Seal_any (bodyB k c r) hszi wS).mono ?_
  exact z14
 refine z15 ?_
 refine wpQuiet_take (d := 16) (v := ?_) (by rfl) ?_ ?_
 rotate_left
 ·exact z17
 refine z15 ?_
 refine tr 4 HF ?_
 exact z29
theorem EncodeRecord_any (k : Int) (c r : ByteArray) (hc : (c.size : Int) ≤ 9223372036854775807) (hr : (r.size : Int) ≤ 9223372036854775807) (w : World) (ht : Tab w) :
  Calls Tryz.prog 98 #[.int .i64 k, .agg (sV c r)] w fun e w' => e = .returned (.tuple #[.string (if inR k 0 59 && goodRec c r then lineB k c r else ⟨#[]⟩), .bool (inR k 0 59 && goodRec c r)]) ∧ bW w w' := by
 refine z25 ?_
 intro HAL
 have HT : Hid (Tab (w.alloc (.cells (sV c r) 70))) := ht.below HAL
 refine z28 ?_
 intro HF
 cases hk : inR k 0 59 with
 | false =>
  go_enter Tryz.func98, Tryz.ntmps98
  go_wp2_with (go_at_call 70; refine z26 ?_; rw [hk]; rintro e w3 ⟨rfl, rfl⟩)
  go_ret2
  exact ⟨rfl, HAL⟩
 | true =>
  have hk2 : 0 ≤ k ∧ k ≤ 59 := by simpa [inR] using hk
  cases hg : goodRec c r with
  | false =>
   go_enter Tryz.func98, Tryz.ntmps98
   go_wp2_with (first | (go_at_call 70; refine z26 ?_; rw [hk]; rintro e w3 ⟨rfl, rfl⟩) | (go_at_call 48; refine (IsValidRecord_any c r hc hr _).mono ?_; rw [hg]; rintro e w4 ⟨rfl, hb4⟩))
   go_ret2
   exact ⟨rfl, HAL.trans (hb4.mono (by simp))⟩
  | true =>
   obtain ⟨_, g1, g2, _⟩ := goodRec_facts hg
   have hz := numB_size (n := k) (by omega) (by omega)
   have hbs := bodyB_size hk2.1 hk2.2 hg
   have hbi : ((bodyB k c r).size : Int) ≤ 9000000000000000000 := by omega
   have hok := body_ok hk2.1 hk2.2 hg
   have hss := sealB_size (bodyB k c r)
   have AC := fun wS hT => AppendChecksum_any (bodyB k c r) hbi wS hT
   rw [hok] at AC
   simp only [if_true] at AC
   go_enter Tryz.func98, Tryz.ntmps98
   go_wp2_with (first | (go_at_call 70; refine z26 ?_; rw [hk]; rintro e w3 ⟨rfl, rfl⟩) | (go_at_call 48; refine (IsValidRecord_any c r hc hr _).mono ?_; rw [hg]; rintro e w4 ⟨rfl, hb4⟩; refine Hid.out ?_))
   refine lh ?_
   have HT4 : Hid (Tab w4) := HT.out.below hb4
   have HF4 : Hid (∀ w', bW w4 w' → cE w' w.heap.size 0 (.string c) ∧ cE w' w.heap.size 1 (.string r)) := fun w' hq => HF.out w' (hb4.trans (hq.mono hb4.size))
   clear HF HT
   have HF : Hid (∀ w', bW w4 w' → cE w' w.heap.size 0 (.string c) ∧ cE w' w.heap.size 1 (.string r)) := HF4
   have HAC := lh AC
   clear AC HF4
   go_wp2_with fail
   refine wp_region_class (C := fun w' => bW (w4) w') (by exact z12) (by exact z12) ((Below.refl _ _).drew) ?_
   refine tr 17 HF ?_
   refine wpQuiet_meet (d := 18) (v := ?_) ?_ ?_ (by rfl) ?_ ?_ ?_
   rotate_left
   rotate_left
   rotate_left
   ·exact z13
   ·intro wS hS
    refine (decimal_any k (by omega) (by omega) wS (HT4.out.below hS)).mono ?_
    exact z14
   refine z15 ?_
   refine wpQuiet_take (d := 19) (v := ?_) (by rfl) ?_ ?_
   rotate_left
   ·exact z17
   refine z15 ?_
   refine tr 20 HF ?_
   refine tr 21 HF ?_
   refine wpQuiet_take (d := 22) (v := ?_) (by rfl) ?_ ?_
   rotate_left
   ·exact z17
   refine z15 ?_
   refine wpQuiet_take (d := 23) (v := ?_) (by rfl) ?_ ?_
   rotate_left
   ·exact z17
   refine z15 ?_
   refine tr 24 HF ?_
   refine tr 25 HF ?_
   refine wpQuiet_take (d := 26) (v := ?_) (by rfl) ?_ ?_
   rotate_left
   ·exact z17
   refine z15 ?_
   refine wpQuiet_meet (d := 27) (v := ?_) ?_ ?_ (by rfl) ?_ ?_ ?_
   rotate_left
   rotate_left
   rotate_left
   ·exact z13
   ·intro wS hS
    refine (HAC.out wS (HT4.out.below hS)).mono ?_
    exact z14
   refine z15 ?_
   refine tr 16 HF ?_
   refine tr 28 HF ?_
   refine tr 29 HF ?_
   refine tr 6 HF ?_
   refine tr 7 HF ?_
   refine wpQuiet_nil (fun wq jd => ?_)
   go_wp2_with fail
   go_ret2
   exact ⟨rfl, HAL.trans ((hb4.trans (jd.mono hb4.size)).mono (by simp))⟩
end Go.Proofs.YtpndjhelpoenpaaGreatDoor
