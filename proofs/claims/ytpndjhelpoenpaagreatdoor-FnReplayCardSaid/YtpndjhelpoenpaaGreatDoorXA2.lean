/-
  Texts of this claim, merged.
-/
import Derived.Test.YtpndjhelpoenpaaGreatDoorXA1
import Derived.ProofKit
import Derived.OpenShut
import Derived.ShutString
import Derived.ChangeOld
import Derived.Below
import Derived.Carry
import Derived.Deep.Slices
import Derived.Deep.Draws
import Derived.Lib.ItoaLen
import Derived.Lib.ItoaMem
import Derived.Lib.AppendIntMem
import Derived.Lib.SmallJoins
import Derived.Lib.Strings
import Derived.BigGuardPart
import Derived.Handy
import Derived.Deep.DrawnRows
import Derived.Lib.IndexAny
import Derived.Lib.Hide
import Derived.Lib.IndexMore
import Derived.Lib.IndexLaws
import Derived.Deep.RegionLaw
import Derived.HandedShaped
import Derived.Shelf.Vars
import Derived.Lib.AtoiTie
import Derived.Deep.Cut
import Derived.Lib.AtoiErrMem
import Derived.LaidLaws
import Derived.LaidMore
import Derived.IntWalk
import Derived.Deep.AppendLies
import Derived.Deep.WholeRow
import Derived.Laws.CopyRow
import Derived.Maps.OwnSet
import Derived.Maps.OwnOps
import Derived.Sort.Defs
import Derived.Lib.OwnBridge
import Derived.Shelf.SlSortCmp.QuietGrown
import Derived.ArgAppend
import Derived.Deep.QuietTactic
import Derived.BigQuiet
import Derived.Lib.SliceRun
import Derived.Laws.IdiomCopy
import Derived.Lib.AppendZerosOnto
import Derived.Lib.Overlaps
import Derived.Laws.Externs
import Derived.Shelf.RegionOpenPlain
import Derived.Lib.JoinLaws
import Derived.Deep.OwnRows
import Derived.Lib.SplitLaws
import Derived.Deep.CutBlock
import Derived.Lib.ConvBytes
import Derived.Laws.IdiomStrings
import Derived.Maps.AppendAt
set_option linter.unusedVariables false
set_option linter.unusedSimpArgs false
set_option maxRecDepth 100000
set_option maxHeartbeats 8000000
namespace Go.Proofs.YtpndjhelpoenpaaGreatDoor
open Go.RowKit
structure ZK (Q : Prop) : Prop where
 out : Q
structure WBt (A : Option Addr) (n c : Nat) (I H S P : Int) where
def wB (A : Option Addr) (n c : Nat) (I H S P : Int) : WBt A n c I H S P := ⟨⟩
instance {A n c I H S P} : CoeOut (WBt A n c I H S P) (Array Value) := ⟨fun _ => #[.slice A n c, .int .i64 I, .int .i64 H, .int .i64 S, .int .i64 P]⟩
structure CBt (A : Option Addr) (n c : Nat) (I H S P : Int) (D Q : ByteArray) (z : Int) where
def cB (A : Option Addr) (n c : Nat) (I H S P : Int) (D Q : ByteArray) (z : Int) : CBt A n c I H S P D Q z := ⟨⟩
instance {A n c I H S P D Q z} : CoeOut (CBt A n c I H S P D Q z) (Array Value) := ⟨fun _ => #[.slice A n c, .int .i64 I, .int .i64 H, .int .i64 S, .int .i64 P, .string D, .string Q, .int .i64 z]⟩
structure I4t (a b c d : Int) where
def iV (a b c d : Int) : I4t a b c d := ⟨⟩
instance {a b c d} : CoeOut (I4t a b c d) (Array Value) := ⟨fun _ => #[.int .i64 a, .int .i64 b, .int .i64 c, .int .i64 d]⟩
structure I2t (a b : Int) where
def jV (a b : Int) : I2t a b := ⟨⟩
instance {a b} : CoeOut (I2t a b) (Array Value) := ⟨fun _ => #[.int .i64 a, .int .i64 b]⟩
structure L3t (D Q : ByteArray) (z : Int) where
def lV (D Q : ByteArray) (z : Int) : L3t D Q z := ⟨⟩
instance {D Q z} : CoeOut (L3t D Q z) (Array Value) := ⟨fun _ => #[.string D, .string Q, .int .i64 z]⟩
structure S2t (D Q : ByteArray) where
def sV (D Q : ByteArray) : S2t D Q := ⟨⟩
instance {D Q} : CoeOut (S2t D Q) (Array Value) := ⟨fun _ => #[.string D, .string Q]⟩
structure CIt (w : World) (g j : Nat) (v : Int) where
def cI (w : World) (g j : Nat) (v : Int) : CIt w g j v := ⟨⟩
instance {w g j v} : CoeSort (CIt w g j v) Prop := ⟨fun _ => w.cell? ⟨g, j, none⟩ = some (.int .i64 v)⟩
instance {w g j v} : CoeOut (CIt w g j v) Prop := ⟨fun _ => w.cell? ⟨g, j, none⟩ = some (.int .i64 v)⟩
structure CEt (w : World) (g j : Nat) (v : Value) where
def cE (w : World) (g j : Nat) (v : Value) : CEt w g j v := ⟨⟩
instance {w g j v} : CoeSort (CEt w g j v) Prop := ⟨fun _ => w.cell? ⟨g, j, none⟩ = some v⟩
instance {w g j v} : CoeOut (CEt w g j v) Prop := ⟨fun _ => w.cell? ⟨g, j, none⟩ = some v⟩
structure HPt (w : World) (g : Nat) (cs : Array Value) (T : TypeId) where
def oP (w : World) (g : Nat) (cs : Array Value) (T : TypeId) : HPt w g cs T := ⟨⟩
instance {w g cs T} : CoeSort (HPt w g cs T) Prop := ⟨fun _ => w.heap[g]? = some (.cells cs T (0, 0))⟩
instance {w g cs T} : CoeOut (HPt w g cs T) Prop := ⟨fun _ => w.heap[g]? = some (.cells cs T (0, 0))⟩
structure BWt (a b : World) where
def bW (a b : World) : BWt a b := ⟨⟩
instance {a b} : CoeSort (BWt a b) Prop := ⟨fun _ => Below a.heap.size a b⟩
instance {a b} : CoeOut (BWt a b) Prop := ⟨fun _ => Below a.heap.size a b⟩
theorem gL {α : Type} {xs : Array α} {i : Nat} {a : α} (h : xs[i]? = some a) : i < xs.size := (Array.getElem?_eq_some_iff.1 h).1
theorem nL {n : Nat} : n ≤ n := Nat.le_refl n
theorem z0 {P : Prop} (h : P := by
 obtain ⟨b, off, e, h1, h2, h3⟩ := h.here hn
 exact ⟨b, off, e, h1, h2, fun j hj => (hb.cell (p := ⟨b, off + j, none⟩) (Nat.lt_of_lt_of_le h2 h.hi_le)).trans (h3 j hj)⟩) : P := h
theorem z1 {P : Prop} (h : P := by
 obtain ⟨b, off, e, h1, h2, h3⟩ := h.here hn
 have := h.hi_le
 exact ⟨b, off, e, h1, h2, fun j hj => (World.cell?_of_block (a := ⟨b, off + j, none⟩) (hb.block b (by omega) (by omega))).trans (h3 j hj)⟩) : P := h
theorem z2 {P : Prop} (h : P := by
 obtain ⟨b, off, e1, h1, h2, h3⟩ := h.here hn
 exact ⟨b, off, e1, h1, h2, fun j hj => by rw [h3 j hj, e j hj]⟩) : P := h
theorem z3 {P : Prop} (h : P := by
 obtain ⟨b, off, e, h1, h2, h3⟩ := (h.below hb).here hn
 exact ⟨b, off, e, Nat.lt_of_lt_of_le h2 (h.below hb).hi_le, h3⟩) : P := h
theorem z4 {P : Prop} (h : P := by
 obtain ⟨b', off', e, h1, h2⟩ := h.open_ hb hn
 simp only [Option.some.injEq, Addr.mk.injEq, and_true] at e
 obtain ⟨rfl, rfl⟩ := e
 exact ⟨h1, h2⟩) : P := h
theorem z5 {P : Prop} (h : P := by
 obtain ⟨g, cur, e1, h1, h2, h3, h4, h5⟩ := h.here hn
 exact ⟨g, 0, e1, h1, h2, fun j hj => by rw [Nat.zero_add, cell_of_row w g j cur e (0, 0) h3]; exact h5 j hj⟩) : P := h
theorem z6 {P : Prop} (h : P := by
 obtain ⟨g, cur, e1, h1, h2, h3, h4⟩ := h.here hn
 exact ⟨g, cur, e1, h1, h2, (hb.block g (Nat.lt_of_lt_of_le h2 h.hi_le)).trans h3, h4⟩) : P := h
theorem z7 {P : Prop} (h : P := by
 obtain ⟨g, cur, e1, h1, h2, h3, h4⟩ := h.here hn
 have := h.hi_le
 exact ⟨g, cur, e1, h1, h2, (hb.block g (by omega) (by omega)).trans h3, h4⟩) : P := h
theorem z8 {P : Prop} (h : P := by
 obtain ⟨b, cur, e1, h1, h2, h3, h4, h5⟩ := h.here hn
 exact ⟨b, cur, e1, h1, h2, h3, h4, fun j hj => by rw [h5 j hj, he j hj]⟩) : P := h
theorem z9 {P : Prop} (h : P := by
 have hn : 0 < n := by rcases Nat.eq_zero_or_pos n with h0 | h0; · subst h0; simp at hi'
                       · exact h0
 obtain ⟨g', cur, e1, h1, h2, h3, h4, h5⟩ := h.here hn
 simp only [Option.some.injEq, Addr.mk.injEq, and_true] at e1
 subst e1
 exact ⟨by rw [cell_of_row w g i cur e (0, 0) h3]; exact h5 i hi', by simp [World.frozen?, h3], h1, h2⟩) : P := h
theorem z10 {P : Prop} (h : P := by
 exact ⟨rfl, rfl⟩) : P := h
theorem z11 {P : Prop} (h : P := by
 decide +kernel) : P := h
theorem z12 {P : Prop} (h : P := by
 kernel_rfl) : P := h
theorem z13 {P : Prop} (h : P := by
 intro wS hS
 have eF := HF.out wS hS
 go_simp
 first | with_reducible rfl | (refine ⟨?_, ?_⟩ <;> with_reducible rfl)) : P := h
theorem z14 {P : Prop} (h : P := by
 rintro e w2 ⟨rfl, hb2⟩
 refine ⟨?_, hS.trans (hb2.mono hS.size)⟩
 with_reducible rfl) : P := h
theorem z15 {P Q : Prop} (k : Q) (h : ZK Q → P := by
 intro zK
 simp only [Act.put, p1, p2, p3]
 exact zK.1) : P := h ⟨k⟩
theorem z16 {P Q : Prop} (k : Q) (h : ZK Q → P := by
 intro zK
 refine tr 19 HF ?_
 refine tr 20 HF ?_
 refine tr 21 HF ?_
 refine tr 22 HF ?_
 refine tr 23 HF ?_
 exact zK.1) : P := h ⟨k⟩
theorem z17 {P : Prop} (h : P := by
 intro wS hS
 refine run_add_strP ⟨_, _, rfl, rfl, by (try refine z18 ?_); omega, ?_⟩
 with_reducible rfl) : P := h
theorem z18 {P Q : Prop} (k : Q) (h : ZK Q → P := by
 intro zK
 simp only [ByteArray.size_append', ByteArray.size_mk', List.size_toArray, List.length_cons, List.length_nil]
 exact zK.1) : P := h ⟨k⟩
theorem z19 {P : Prop} (h : P := by
 go_wp2
 all_goals
  go_ret
  refine ⟨ret_bool ?_, rfl⟩
  rw [Bool.eq_iff_iff]
  simp only [inR, decide_eq_true_eq, Bool.false_eq_true, true_iff, false_iff, eq_self, or_true, true_and]
  omega) : P := h
theorem z20 {P : Prop} (h : P := by
 exact ⟨0, Nat.zero_le _, rfl, rfl⟩) : P := h
theorem z21 {P Q : Prop} (k : Q) (h : ZK Q → P := by
 intro zK
 have hbk := byteAt_eq s k hlt
 have hk0 : (0 : Int) ≤ (k : Int) ∧ (k : Int) < (s.size : Int) := by omega
 obtain ⟨hk0, hk1⟩ := hk0
 revert hbk hk0 hk1
 exact zK.1) : P := h ⟨k⟩
theorem z22 {P Q : Prop} (k : Q) (h : ZK Q → P := by
 intro zK hbk hp
 have hno : Hid (allTo (fun j => plainB (byteAt s j)) s.size = false) := allTo_false hlt hp
 generalize byteAt s k = c at hbk hp
 simp only [plainB, decide_eq_false_iff_not] at hp
 have hp' : ¬ (32 ≤ c.toNat) ∨ ¬ (c.toNat ≤ 126) ∨ c.toNat = 35 := by omega
 clear hp
 revert hno c hbk hp'
 exact zK.1) : P := h ⟨k⟩
theorem z23 {P Q : Prop} (k : Q) (h : ZK Q → P := by
 intro zK hbk hp
 have hyes : Hid (allTo (fun j => plainB (byteAt s j)) (k + 1) = true) := allTo_succ hall.out hp
 generalize byteAt s k = c at hbk hp
 simp only [plainB, decide_eq_true_eq] at hp
 obtain ⟨hp1, hp2, hp3⟩ := hp
 have hq1 : (32 : Int) ≤ (c.toNat : Int) := by omega
 have hq2 : (c.toNat : Int) ≤ 126 := by omega
 have hq3 : (c.toNat : Int) ≠ 35 := by omega
 revert hyes c hbk hp1 hp2 hp3 hq1 hq2 hq3
 exact zK.1) : P := h ⟨k⟩
theorem z24 {P : Prop} (h : P := by
 go_round
 case rel => exact ⟨k + 1, by omega, by go_num, hyes⟩
 case measure => simp [intOf]; omega) : P := h
theorem z25 {P Q : Prop} (k : Q) (h : ZK Q → P := by
 intro zK
 have HAL : bW w (w.alloc (.cells (sV c r) 70)) := (Below.refl _ w).alloc nL _
 revert HAL
 exact zK.1) : P := h ⟨k⟩
theorem z26 {P Q : Prop} (k : Q) (h : ZK Q → P := by
 intro zK
 refine (within_any _ _ _ _).mono ?_
 exact zK.1) : P := h ⟨k⟩
theorem z27 {P : Prop} (h : P := by
 obtain ⟨k, hk, rfl, rfl⟩ := hrel
 by_cases hlt : k < s.size
 ·refine z21 ?_
  intro hbk hk0 hk1
  have hst : Hid (sumTo s (k + 1) = (41 * sumTo s k + (byteAt s k).toNat + 1) % 999979) := rfl
  obtain ⟨hz0, hz1⟩ := sumTo_ok s k
  generalize sumTo s k = z at *
  generalize byteAt s k = c at *
  have hcc : c.toNat < 256 := UInt8.toNat_lt c
  have hmod : Int.tmod (41 * z + (c.toNat : Int) + 1) 999979 = (41 * z + (c.toNat : Int) + 1) % 999979 := Int.tmod_eq_emod_of_nonneg (by omega)
  go_wp2_with fail
  go_round
  case rel => exact ⟨k + 1, by omega, by go_num, by rw [hst.out]⟩
  case measure => simp [intOf]; omega
 ·obtain rfl : k = s.size := by omega
  go_wp2_with fail
  go_ret
  exact z10) : P := h
theorem z28 {P Q : Prop} (k : Q) (h : ZK Q → P := by
 intro zK
 have HF : Hid (∀ w', bW (w.alloc (.cells (sV c r) 70)) w' → cE w' w.heap.size 0 (.string c) ∧ cE w' w.heap.size 1 (.string r)) := by
  intro w' hq
  exact (cells2 (bx (g := w.heap.size) hq))
 revert HF
 exact zK.1) : P := h ⟨k⟩
theorem z29 {P : Prop} (h : P := by
 refine wpQuiet_nil (fun wq jd => ?_)
 go_wp2_with fail
 go_ret
 exact ⟨rfl, HAL.trans (jd.mono (by simp))⟩) : P := h
theorem z30 {P Q : Prop} (k : Q) (h : ZK Q → P := by
 intro zK
 rename_i hn
 have hn' : noByte (all.extract a all.size) 10 = false := by simpa using hn
 obtain ⟨e', he, h2⟩ := Option.map_eq_some_iff.1 h
 revert hn' e' he h2
 exact zK.1) : P := h ⟨k⟩
theorem z31 {P : Prop} (h : P := by
 match j, hj with
 | 0, hj => simp at hj; subst hj; simpa [Addr.add] using hc) : P := h
theorem z32 {P : Prop} (h : P := by
 go_enter Tryz.func117, Tryz.ntmps117
 go_wp2_with fail
 refine (Cut_any s 35 (by omega) w hm).mono ?_
 rintro e w1 ⟨rfl, hb1⟩
 go_wp2_with fail
 refine (AppendChecksum_any (bef 35 s) hbi w1 (ht.below hb1)).mono ?_
 rw [hA]
 rintro e w2 ⟨rfl, hb2⟩
 go_wp2_with fail
 go_ret2
 exact ⟨⟨_, by rw [hi2.out]; rfl⟩, below_of hb1 hb2 hb1.size⟩) : P := h
theorem z33 {P Q : Prop} (k : Q) (h : ZK Q → P := by
 intro zK hown
 have hsz := hB.size
 have hl : P.length ≤ 100000000 := by omega
 have HO : Hid (wr.ownsRow w.heap.size 9 1 u5 P.length (P.map Value.string)) := hown
 clear hown
 have hF0 : (0 : Int) ≤ (F : Int) := by omega
 by_cases hlt : k < s.size
 ·have hbk := byteAt_eq s k hlt
  have hk0 : (0 : Int) ≤ (k : Int) ∧ (k : Int) < (s.size : Int) ∧ (k : Int) ≤ (s.size : Int) ∧ (F : Int) ≤ (k : Int) := by omega
  obtain ⟨hk0, hk1, hk2, hk3⟩ := hk0
  by_cases hp : byteAt s k = b
  ·have hn := lh (hSP.out.hit hlt hp)
   rw [hp] at hbk
   clear hp
   generalize hX : s.extract F k = X at hn
   go_wp2_with (at_builtin; refine z34 ?_; intro v' w3 hown3 hgrow3)
   go_roundw
   case rel => exact ⟨k + 1, k + 1, P ++ [X], by omega, Nat.le_refl _, by go_num, by go_num, hown3, by simp; omega, below_app (hB.alloc hB.size _) (HO.out.alloc _) hgrow3, hn⟩
   case measure => simp [intOf]; omega
  ·have hn := lh (hSP.out.next hp)
   have hne : byteAt s k ≠ b := hp
   clear hp
   generalize byteAt s k = c at hbk hne
   have hn2 : c.toNat ≠ b.toNat := fun e => hne (UInt8.toNat_inj.1 e)
   have hn3 : ((c.toNat : Int) == (b.toNat : Int)) = false := by simp; omega
   go_wp2_with fail
   go_roundw
   case rel => exact ⟨k + 1, F, P, by omega, by omega, by go_num, rfl, HO.out, by omega, hB, hn⟩
   case measure => simp [intOf]; omega
 revert hsz hl HO hF0 hlt
 exact zK.1) : P := h ⟨k⟩
theorem z34 {P Q : Prop} (k : Q) (h : ZK Q → P := by
 intro zK
 refine wpList_append_str _ rfl _ _ 42 rfl w.heap.size Tryz.underlying42 P X _ rfl (HO.out.alloc _) _ rfl (by simp [← hX]) hl (by simp; omega) ?_
 exact zK.1) : P := h ⟨k⟩
theorem z35 {P : Prop} (h : P := by
 exact Nat.le_refl _) : P := h
theorem z36 {P : Prop} (h : P := by
 go_wp2
 go_ret
 exact z37) : P := h
theorem z37 {P : Prop} (h : P := by
 exact ⟨rfl, by go_grown⟩) : P := h
theorem z38 {P Q : Prop} (k : Q) (h : ZK Q → P := by
 intro zK
 have HS : Hid (Sl (w.alloc (.cells (wB A n c I H S P) 32)) lo hi 4 A n f) := hs.below ((Below.refl _ w).alloc nL _)
 revert HS
 exact zK.1) : P := h ⟨k⟩
theorem z39 {P : Prop} (h : P := by
 exact ⟨0, Nat.zero_le _, rfl, rfl, Below.refl _ _⟩) : P := h
theorem z40 {P Q : Prop} (k : Q) (h : ZK Q → P := by
 intro zK
 have hbz : w.heap.size < wr.heap.size := by have := hbel.size; simp at this; omega
 have b0 : cE wr w.heap.size 0 (.slice A n c) := (hbel.cell (p := ⟨w.heap.size, 0, none⟩) (by simp)).trans (by simp)
 revert hbz b0
 exact zK.1) : P := h ⟨k⟩
theorem z41 {P : Prop} (h : P := by
 ·obtain rfl : n = k := by omega
  clear HS
  go_wp2
  go_ret
  exact ⟨rfl, ((Below.refl _ w).alloc nL _).trans (hbel.mono (by simp))⟩) : P := h
theorem z42 {P Q : Prop} (k : Q) (h : ZK Q → P := by
 intro zK
 obtain ⟨c0, c1, c2, c3⟩ := cell4 HC hlt
 refine z43 ?_
 intro hk0i hkni
 have HF : Hid (∀ w', bW (wr.alloc (.cells (iV (f (k * 4)) (f (k * 4 + 1)) (f (k * 4 + 2)) (f (k * 4 + 3))) 97)) w' → cI w' wr.heap.size 0 (f (k * 4)) ∧ cI w' wr.heap.size 1 (f (k * 4 + 1)) ∧ cI w' wr.heap.size 2 (f (k * 4 + 2)) ∧ cI w' wr.heap.size 3 (f (k * 4 + 3)) ∧ cE w' w.heap.size 0 (.slice (some ⟨b, off, none⟩) n c)) := fun w' hq => ⟨(hq.cell (p := ⟨wr.heap.size, 0, none⟩) (by simp)).trans (by simp), (hq.cell (p := ⟨wr.heap.size, 1, none⟩) (by simp)).trans (by simp), (hq.cell (p := ⟨wr.heap.size, 2, none⟩) (by simp)).trans (by simp), (hq.cell (p := ⟨wr.heap.size, 3, none⟩) (by simp)).trans (by simp), (hq.cell (p := ⟨w.heap.size, 0, none⟩) (by simp; omega)).trans ((World.cell?_alloc_lt _ _ _ hbz).trans b0)⟩
 have HP : Hid (0 < k → ∀ w', bW (wr.alloc (.cells (iV (f (k * 4)) (f (k * 4 + 1)) (f (k * 4 + 2)) (f (k * 4 + 3))) 97)) w' → cI w' b (off + (k - 1) * 4) (f ((k - 1) * 4))) := fun hk0 w' hq => (hq.cell (p := ⟨b, off + (k - 1) * 4, none⟩) (by simp; omega)).trans ((World.cell?_alloc_lt _ _ _ hbw).trans (HC.out _ (by omega)))
 revert c0 c1 c2 c3 hk0i hkni HF HP
 exact zK.1) : P := h ⟨k⟩
theorem z43 {P Q : Prop} (k : Q) (h : ZK Q → P := by
 intro zK
 have hk0i : (0 : Int) ≤ (k : Int) := by omega
 have hkni : (k : Int) < (n : Int) := by omega
 revert hk0i hkni
 exact zK.1) : P := h ⟨k⟩
theorem z44 {P Q : Prop} (k : Q) (h : ZK Q → P := by
 intro zK
 refine AllReadyH.cons rfl (fun K hK => ?_) AllReadyH.nil
 go_simp
 revert K hK
 exact zK.1) : P := h ⟨k⟩
theorem z45 {P Q : Prop} (k : Q) (h : ZK Q → P := by
 intro zK K hK hb2
 refine hK.out _ _ (jd.trans (hb2.mono jd.size)) (fun jd => ?_)
 clear hK K hb2
 revert jd
 exact zK.1) : P := h ⟨k⟩
theorem z46 {P Q : Prop} (k : Q) (h : ZK Q → P := by
 intro zK
 have hno : Hid (pansOk f n = false) := pansOk_no hlt (by simp [panStep, okPanAt, okPan, h1, h2, h3, hm])
 revert hno
 exact zK.1) : P := h ⟨k⟩
theorem z47 {P Q : Prop} (k : Q) (h : ZK Q → P := by
 intro zK
 simp only [skipL, skipA, Act.put, p1, p2, p3]
 exact zK.1) : P := h ⟨k⟩
theorem z48 {P Q : Prop} (k : Q) (h : ZK Q → P := by
 intro zK
 refine wpAnyH_skips (by exact z12) (fun _ _ _ _ _ h => h) jd [(25, 42), (26, 43), (27, 44), (28, 45), (29, 46), (30, 47), (31, 48), (32, 49), (33, 50), (34, 51), (35, 52), (36, 53), (37, 54), (38, 55)] 1 14 _ _ rfl (by exact z12) ?_
 exact zK.1) : P := h ⟨k⟩
theorem z49 {P Q : Prop} (k : Q) (h : ZK Q → P := by
 intro zK
 refine wpAnyH_done (by exact z12) ?_ _
 exact zK.1) : P := h ⟨k⟩
theorem z50 {P : Prop} (h : P := by
 go_wp2
 go_ret
 exact ⟨ret_bool hno.out.symm, ((Below.refl _ w).alloc nL _).trans ((below_of hbel (((Below.refl _ wr).alloc nL _).trans (jd.mono (by simp))) hbel.size).mono (by simp))⟩) : P := h
theorem z51 {P Q : Prop} (k : Q) (h : ZK Q → P := by
 intro zK
 (go_at_call 150; refine (l2Mass_any _ _ _).mono ?_; rintro e w2 ⟨rfl, hb2⟩)
 revert w2 hb2
 exact zK.1) : P := h ⟨k⟩
theorem z52 {P Q : Prop} (k : Q) (h : ZK Q → P := by
 intro zK HP h0
 have hok1 : Hid (panStep f k = true) := by simp only [Hid, panStep, okPanAt, okPan, h1, h2, h3, hm, Bool.true_and, Bool.or_eq_true, decide_eq_true_eq, decide_true]; exact Or.inl h0
 have hk0b : decide ((0 : Int) < (k : Int)) = false := by simp; omega
 have hk0c : decide (0 < k) = false := by simp; omega
 clear h0 HP
 try simp only [hk0b, hk0c]
 revert hok1 hk0b hk0c
 exact zK.1) : P := h ⟨k⟩
theorem z53 {P : Prop} (h : P := by
 go_wp2
 go_roundw
 case rel => exact ⟨k + 1, by omega, by go_num, allTo_succ hall.out hok1.out, below_of hbel (((Below.refl _ wr).alloc nL _).trans (jd.mono (by simp))) hbel.size⟩
 case measure => simp [intOf]; omega) : P := h
theorem z54 {P Q : Prop} (k : Q) (h : ZK Q → P := by
 intro zK HF HP
 have hk0 : 0 < k := by omega
 have hkk : ((k : Int) - 1).toNat = k - 1 := by omega
 have hb0 : (0 : Int) ≤ (k : Int) - 1 := by omega
 have hb1x : (1 : Int) ≤ (k : Int) := by omega
 have hb3 : (k : Int) - 1 < (n : Int) := by omega
 have hwk : IntKind.i64.wrap ((k : Int) - 1) = (k : Int) - 1 := IntWalk.i64_in _ (by omega)
 have hk0b : decide ((0 : Int) < (k : Int)) = true := by simp; omega
 have hk0c : decide (0 < k) = true := by simp; omega
 replace HF := Hid.and_ HF (HP.out hk0)
 clear HP
 try simp only [hk0b, hk0c]
 revert hk0 hkk hb0 hb1x hb3 hwk hk0b hk0c HF
 exact zK.1) : P := h ⟨k⟩
theorem z55 {P Q : Prop} (k : Q) (h : ZK Q → P := by
 intro zK
 refine (Tryz.strconv_Atoi_ok s (by omega) v hA w).mono ?_
 rintro e w1 ⟨rfl, hW⟩
 have hb1 : bW w w1 := by
  rcases hW with rfl | ⟨t, rfl⟩
  ·exact Below.refl _ _
  ·exact Lib.bytesWorld_below _ _ _
 clear hW
 revert w1 hb1
 exact zK.1) : P := h ⟨k⟩
theorem z56 {P Q : Prop} (k : Q) (h : ZK Q → P := by
 intro zK
 rintro e w2 ⟨rfl, rfl⟩
 exact zK.1) : P := h ⟨k⟩
theorem z57 {P : Prop} (h : P := by
 clear hE
 go_enter Tryz.func93, Tryz.ntmps93
 go_wp2_with fail
 refine z55 ?_
 intro w1 hb1
 go_wp2_with fail
 refine (within_any v (-999999) 999999 w1).mono ?_
 rw [hin]
 refine z56 ?_
 go_wp2_with fail
 refine (decimal_any v (by omega) (by omega) w1 (ht.below hb1)).mono ?_
 rintro e w2 ⟨rfl, hb2⟩
 go_wp2_with fail
 go_ret2
 exact ⟨rfl, below_of hb1 hb2 hb1.size⟩) : P := h
theorem z58 {P Q : Prop} (k : Q) (h : ZK Q → P := by
 intro zK
 intro hn
 obtain ⟨b, off, e, h1, h2⟩ := h.code hn
 refine ⟨b, off, e, h1, fun j hj => ?_⟩
 obtain ⟨z, hz, hc⟩ := h2 j hj
 revert hn b off e h1 h2 j hj z hz hc
 exact zK.1) : P := h ⟨k⟩
theorem z59 {P Q : Prop} (k : Q) (h : ZK Q → P := by
 intro zK hlm
 have HST : Hid (∀ n, m ≤ n → stepR s m (readN s m).2 = none → readN s n = readN s m) := fun n hn hs => readN_stop hlm.out hs hn
 have HYE : Hid (∀ e a, stepR s m (readN s m).2 = some (e, a) → readN s (m + 1) = ((readN s m).1 ++ [e], a)) := fun e a hs => readN_yes hlm.out hs
 have HL : Hid ((readN s m).1.length = m) := hlm.out
 have hl : (readN s m).1.length ≤ 100000000 := by rw [hlm.out]; omega
 clear hlm
 have HRN := lh (Eq.refl (readN s m))
 revert HST HYE HL hl HRN
 exact zK.1) : P := h ⟨k⟩
theorem z60 {P Q : Prop} (k : Q) (h : ZK Q → P := by
 intro zK
 have hst : Hid (stepR s m at_ = if noByte (s.extract at_ s.size) 10 then none else (dec m (bef 10 (s.extract at_ s.size))).map fun e => (e, at_ + (bef 10 (s.extract at_ s.size)).size + 1)) := rfl
 have hxs : (s.extract at_ s.size).size ≤ 4000000 := by simp [ByteArray.size_extract]; omega
 have hmi : (m : Int) < 60 := by omega
 have hm0 : (0 : Int) ≤ (m : Int) := by omega
 generalize hX : s.extract at_ s.size = X at hst hxs
 have hls := bef_size 10 X
 revert hmi hm0 X hX hst hxs hls
 exact zK.1) : P := h ⟨k⟩
theorem z61 {P : Prop} (h : P := by
 go_wp2_with fail
 go_ret2
 refine ⟨.slice A4 m c4, ?_, ?_, below_of B5 hb6 B5.size⟩
 ·have hq := HST.out 60 (by omega) hnone.out; rw [hq]; try rfl
 ·rw [HST.out 60 (by omega) hnone.out]; exact ownsRow_below (ownsRow_below HO4.out AL4) hb6) : P := h
theorem z62 {P : Prop} (h : P := by
 ·obtain rfl : m = 60 := by omega
  go_wp2_with fail
  go_ret2
  exact ⟨.slice A4 60 c4, by have hq := HR.out; rw [hq]; try rfl, by rw [HR.out]; exact HO.out, hB⟩) : P := h
theorem z63 {P : Prop} (h : P := by
 simp [World.setCell, Array.getElem?_modify, h]) : P := h
theorem z64 {P Q : Prop} (k : Q) (h : ZK Q → P := by
 intro zK
 refine (l1Num_any k h0 (by omega) _).mono ?_
 rintro e w1 ⟨rfl, hb1⟩
 revert w1 hb1
 exact zK.1) : P := h ⟨k⟩
theorem z65 {P Q : Prop} (k : Q) (h : ZK Q → P := by
 intro zK hb1 v2 hown2 hP1 hPh hb2
 have hbx := hb1.trans (hb2.mono hb1.size)
 obtain ⟨g2, c2, rfl, hc2⟩ := split_val hown2 hP1 hPh
 have hP2 : (0 : Int) < (P2.length : Int) := by omega
 have hP3 : 0 < P2.length := by omega
 clear hb1 hb2 hown2 hP1 hPh
 have h4_ := zero_row hbx
 obtain ⟨z0, z1, z2, z3⟩ := row2 h4_
 have B2 : bW w w2 := HAL.trans (hbx.mono (by simp))
 have lt2 : w.heap.size < w2.heap.size := Nat.lt_of_lt_of_le (by simp) hbx.size
 rw [hAdef.out]
 revert hbx g2 c2 hc2 hP2 hP3 h4_ z0 z1 z2 z3 B2 lt2
 exact zK.1) : P := h ⟨k⟩
theorem z66 {P Q : Prop} (k : Q) (h : ZK Q → P := by
 intro zK
 try simp only [Exit.inBlock, Exit.then]
 exact zK.1) : P := h ⟨k⟩
theorem z67 {P : Prop} (h : P := by
 exact ⟨⟨_, _, _, rfl, (fun h => by cases h), fun _ => hNone.out⟩, BZ⟩) : P := h
theorem z68 {P Q : Prop} (k : Q) (h : ZK Q → P := by
 intro zK
 rw [hRdef.out]
 refine (l1Split_any (restB k s) 64 hrs w2).mono ?_
 exact zK.1) : P := h ⟨k⟩
theorem z69 {P Q : Prop} (k : Q) (h : ZK Q → P := by
 intro zK hc2 z0 z1 z2 z3 v3 hown3 hQ1 hQh
 obtain ⟨g3, c3', rfl, hc3⟩ := split_val hown3 hQ1 hQh
 have hQ2 : (0 : Int) < (P3.length : Int) := by omega
 have hQ3 : 0 < P3.length := by omega
 clear hown3 hQ1 hQh
 have B3 := below_of B2 hb3 B2.size
 have lt3 : w.heap.size < w3.heap.size := Nat.lt_of_lt_of_le lt2 hb3.size
 have h4w3 := (hb3.block w.heap.size lt2).trans h4_
 obtain ⟨y0, y1, y2, y3⟩ := row2 h4w3
 clear z0 z1 z2 z3 hc2
 revert g3 c3' hc3 hQ2 hQ3 B3 lt3 h4w3 y0 y1 y2 y3
 exact zK.1) : P := h ⟨k⟩
theorem z70 {P Q : Prop} (k : Q) (h : ZK Q → P := by
 intro zK
 have hNn := HSN.out (.inr (.inr (.inr hli)))
 have hT : Hid (false = true → dec k s = some (bef 64 (restB k s), repB k s)) := fun h => by cases h
 have hFf : Hid (false = false → dec k s = none) := fun _ => hNn
 revert hNn hT hFf
 exact zK.1) : P := h ⟨k⟩
theorem z71 {P Q : Prop} (k : Q) (h : ZK Q → P := by
 intro zK lt3
 have h4_W : (w3.alloc (.cells (sV ask rp) 70)).heap[w.heap.size]? = some (.cells (sV ⟨#[]⟩ ⟨#[]⟩) 70 (0, 0)) := (((Below.refl _ w3).alloc nL _).block _ lt3).trans h4w3
 have S_W : cE (w3.alloc (.cells (sV ask rp) 70)) w3.heap.size 0 (.string ask) ∧ cE (w3.alloc (.cells (sV ask rp) 70)) w3.heap.size 1 (.string rp) := ⟨by simp, by simp⟩
 have lt_W : w.heap.size < (w3.alloc (.cells (sV ask rp) 70)).heap.size := by simp; omega
 have lg_W : w3.heap.size < (w3.alloc (.cells (sV ask rp) 70)).heap.size := by simp
 have B_W : bW w (w3.alloc (.cells (sV ask rp) 70)) := B3.alloc B3.size _
 have hne : w.heap.size ≠ w3.heap.size := by omega
 have hlt4 : w.heap.size < w.heap.size + 1 := by omega
 generalize (w3.alloc (.cells (sV ask rp) 70)) = W at *
 generalize w3.heap.size = g10 at *
 revert hlt4 W h4_W lt_W B_W g10 lt3 hne S_W lg_W
 exact zK.1) : P := h ⟨k⟩
theorem z72 {P Q : Prop} (k : Q) (h : ZK Q → P := by
 intro zK S_W
 refine wp_region_held_drew (S := fun w' => cE w' g10 0 (.string ask) ∧ cE w' g10 1 (.string rp)) (by exact z12) S_W (fun jd => ?_)
 have h4_W : W.drew.heap[w.heap.size]? = _ := h4_W
 have lt_W : w.heap.size < W.drew.heap.size := lt_W
 have lg_W : g10 < W.drew.heap.size := lg_W
 have B_W : bW w W.drew := B_W.drew
 clear S_W
 generalize W.drew = W at *
 refine tj 0 53 (lh fun _ h => h) rfl jd ?_
 refine tj 1 54 (lh fun _ h => h) rfl jd ?_
 refine wpAnyH_ready (rs := [2]) (by exact z12) (by simp) ?_
 refine z73 ?_
 intro K hK
 refine (l27Good_any ask rp hci hri _).mono ?_
 rw [hg]
 rintro e wa ⟨rfl, hb_wa⟩
 have h4_wa := (hb_wa.block w.heap.size (by first | exact hlt4 | exact lt_W)).trans h4_W
 have lt_wa : w.heap.size < wa.heap.size := Nat.lt_of_lt_of_le lt_W hb_wa.size
 have B_wa := below_of B_W hb_wa B_W.size
 have S_wa : cE wa g10 0 (.string ask) ∧ cE wa g10 1 (.string rp) := ⟨(hb_wa.cell (p := ⟨g10, 0, none⟩) lg_W).trans jd.1, (hb_wa.cell (p := ⟨g10, 1, none⟩) lg_W).trans jd.2⟩
 have lg_wa : g10 < wa.heap.size := Nat.lt_of_lt_of_le lg_W hb_wa.size
 revert W jd h4_W lt_W lg_W B_W K hK wa hb_wa h4_wa lt_wa B_wa S_wa lg_wa
 exact zK.1) : P := h ⟨k⟩
theorem z73 {P Q : Prop} (k : Q) (h : ZK Q → P := by
 intro zK
 refine (AllReadyH.cons rfl (fun K hK => ?_) AllReadyH.nil)
 go_simp
 revert K hK
 exact zK.1) : P := h ⟨k⟩
theorem z74 {P Q : Prop} (k : Q) (h : ZK Q → P := by
 intro zK
 refine tj 3 56 (lh fun _ h => h) rfl jd ?_
 refine tj 4 57 (lh fun _ h => h) rfl jd ?_
 refine tj 5 58 (lh fun _ h => h) rfl jd ?_
 refine tj 7 60 (lh fun _ h => h) rfl jd ?_
 refine wpAnyH_takeD (i := 8) (d := 61) (v := ?_) rfl (by exact z12) (by exact z12) (by exact z12) (fun _ _ _ h => h) (by rfl) ?_ jd ?_
 rotate_left
 ·intro wS hS
  refine run_add_strP ⟨_, _, rfl, rfl, by refine z18 ?_; omega, ?_⟩
  with_reducible rfl
 refine z15 ?_
 refine wpAnyH_ready (rs := [6]) (by exact z12) (by simp) ?_
 refine z73 ?_
 intro K hK
 refine (l27Line_any k ask rp h0 (by omega) hc1 hr1 _).mono ?_
 rintro e wb ⟨rfl, hb_wb⟩
 have h4_wb := (hb_wb.block w.heap.size (by first | exact hlt4 | exact lt_wa)).trans h4_wa
 have lt_wb : w.heap.size < wb.heap.size := Nat.lt_of_lt_of_le lt_wa hb_wb.size
 have B_wb := below_of B_wa hb_wb B_wa.size
 have S_wb : cE wb g10 0 (.string ask) ∧ cE wb g10 1 (.string rp) := ⟨(hb_wb.cell (p := ⟨g10, 0, none⟩) lg_wa).trans jd.1, (hb_wb.cell (p := ⟨g10, 1, none⟩) lg_wa).trans jd.2⟩
 have lg_wb : g10 < wb.heap.size := Nat.lt_of_lt_of_le lg_wa hb_wb.size
 refine hK.out _ _ S_wb (fun jd => ?_)
 clear hK K
 refine tj 9 62 (lh fun _ h => h) rfl jd ?_
 refine tj 10 63 (lh fun _ h => h) rfl jd ?_
 refine wpAnyH_ready (rs := [11]) (by exact z12) (by simp) ?_
 refine (AllReadyH.cons rfl (fun K hK => ?_) AllReadyH.nil)
 obtain ⟨z0, z1, z2, z3⟩ := row2 h4_wb
 have h4x := row2_set (x := ask) (y := rp) h4_wb
 have B_wc : bW w ((wb.setCell ⟨w.heap.size, 0, none⟩ (.string ask)).setCell ⟨w.heap.size, 1, none⟩ (.string rp)) := (B_wb.setCell nL _).setCell nL _
 have S_wc : cE ((wb.setCell ⟨w.heap.size, 0, none⟩ (.string ask)).setCell ⟨w.heap.size, 1, none⟩ (.string rp)) g10 0 (.string ask) ∧ cE ((wb.setCell ⟨w.heap.size, 0, none⟩ (.string ask)).setCell ⟨w.heap.size, 1, none⟩ (.string rp)) g10 1 (.string rp) := by
  refine ⟨?_, ?_⟩ <;> (rw [World.cell?_setCell_far _ _ _ _ (by exact hne), World.cell?_setCell_far _ _ _ _ (by exact hne)]; first | exact jd.1 | exact jd.2)
 have lt_wc : w.heap.size < ((wb.setCell ⟨w.heap.size, 0, none⟩ (.string ask)).setCell ⟨w.heap.size, 1, none⟩ (.string rp)).heap.size := by simpa [World.setCell] using lt_wb
 have lg_wc : g10 < ((wb.setCell ⟨w.heap.size, 0, none⟩ (.string ask)).setCell ⟨w.heap.size, 1, none⟩ (.string rp)).heap.size := by simpa [World.setCell] using lg_wb
 go_simp
 generalize ((wb.setCell ⟨w.heap.size, 0, none⟩ (.string ask)).setCell ⟨w.heap.size, 1, none⟩ (.string rp)) = wc at *
 have h4_wc := h4x
 revert wb hb_wb h4_wb lt_wb B_wb S_wb lg_wb jd K hK z0 z1 z2 z3 wc h4x B_wc S_wc lt_wc lg_wc h4_wc
 exact zK.1) : P := h ⟨k⟩
theorem z75 {P : Prop} (h : P := by
 exact ⟨⟨_, _, _, rfl, by first | exact hT.out | exact fun _ => hT.out trivial | (intro h; cases h), by first | exact hFf.out | exact fun _ => hFf.out trivial | (intro h; cases h)⟩, B_wc⟩) : P := h
theorem z76 {P : Prop} (h : P := by
 go_wp2_with fail
 go_ret2
 refine ⟨.slice A4 m c4, ?_, ?_, B3⟩
 ·have hq := HST.out 60 (by omega) hnone.out; rw [hq]; try rfl
 ·rw [HST.out 60 (by omega) hnone.out]; exact ownsRow_below HO2.out AL2) : P := h
theorem z77 {P : Prop} (h : P := by
 exact ⟨rfl, BZ⟩) : P := h
theorem z78 {P Q : Prop} (k : Q) (h : ZK Q → P := by
 intro zK
 refine z79 ?_
 intro HAL
 have HF0 : Hid (∀ w', bW (w.alloc (.cells (lV D P z) 33)) w' → cE w' w.heap.size 0 (.string D) ∧ cE w' w.heap.size 1 (.string P) ∧ cI w' w.heap.size 2 z) := by
  intro w' hq
  exact (cells3 (bx (g := w.heap.size) hq))
 revert HAL HF0
 exact zK.1) : P := h ⟨k⟩
theorem z79 {P Q : Prop} (k : Q) (h : ZK Q → P := by
 intro zK
 have HAL : bW w (w.alloc (.cells (lV D P z) 33)) := (Below.refl _ w).alloc nL _
 revert HAL
 exact zK.1) : P := h ⟨k⟩
theorem z80 {P Q : Prop} (k : Q) (h : ZK Q → P := by
 intro zK
 refine wp_region_held_drew (S := fun w' => bW (w2) w') (by exact z12) ((Below.refl _ _).drew) (fun jd => ?_)
 revert jd
 exact zK.1) : P := h ⟨k⟩
theorem z81 {P : Prop} (h : P := by
 go_wp2_with fail
 go_ret2
 exact ⟨_, by rw [HOK2.out]; rfl, ownsRow_below HO.out jd, below_of B2 jd B2.size⟩) : P := h
theorem z82 {P Q : Prop} (k : Q) (h : ZK Q → P := by
 intro zK
 have b1 : ((n1 : Int) == (D.size : Int) + (P.size : Int)) = false := by simp; omega
 have b1' : (n1 == D.size + P.size) = false := by simp [e1]
 have HOK2 : Hid (logOk D P z = false) := by show _ = _; rw [HOK.out]; simp [e1]
 revert b1 b1' HOK2
 exact zK.1) : P := h ⟨k⟩
theorem z83 {P : Prop} (h : P := by
 go_wp2_with fail
 go_ret
 exact ⟨ret_bool (by rw [HOK2.out]), B2⟩) : P := h
theorem z84 {P Q : Prop} (k : Q) (h : ZK Q → P := by
 intro zK
 have AL1 : bW w (w.alloc (.cells (lV D P z) 33)) := (Below.refl _ w).alloc nL _
 have AL2 : bW w ((w.alloc (.cells (lV D P z) 33)).alloc (.cells (sV c r) 70)) := AL1.alloc AL1.size _
 have HAL : bW w (((w.alloc (.cells (lV D P z) 33)).alloc (.cells (sV c r) 70)).alloc (.cells (lV ⟨#[]⟩ ⟨#[]⟩ 0) 33)) := AL2.alloc AL2.size _
 have hXL : (((w.alloc (.cells (lV D P z) 33)).alloc (.cells (sV c r) 70)).alloc (.cells (lV ⟨#[]⟩ ⟨#[]⟩ 0) 33)).heap[w.heap.size]? = some (.cells (lV D P z) 33 (0, 0)) := heap_alloc3a w _ _ _
 have hXR : (((w.alloc (.cells (lV D P z) 33)).alloc (.cells (sV c r) 70)).alloc (.cells (lV ⟨#[]⟩ ⟨#[]⟩ 0) 33)).heap[w.heap.size + 1]? = some (.cells (sV c r) 70 (0, 0)) := heap_alloc3b w _ _ _
 have hXZ : (((w.alloc (.cells (lV D P z) 33)).alloc (.cells (sV c r) 70)).alloc (.cells (lV ⟨#[]⟩ ⟨#[]⟩ 0) 33)).heap[w.heap.size + 2]? = some (.cells (lV ⟨#[]⟩ ⟨#[]⟩ 0) 33 (0, 0)) := heap_alloc3c w _ _ _
 have hci : (c.size : Int) ≤ 9223372036854775807 := by omega
 have hri : (r.size : Int) ≤ 9223372036854775807 := by omega
 revert AL1 AL2 HAL hXL hXR hXZ hci hri
 exact zK.1) : P := h ⟨k⟩
theorem z85 {P Q : Prop} (k : Q) (h : ZK Q → P := by
 intro zK
 refine HC.out.mono ?_
 rintro e w1 ⟨rfl, hb1⟩
 have hL_w1 := rowB hXL hb1
 have hR_w1 := rowB hXR hb1
 have hZ_w1 := rowB hXZ hb1
 have B_w1 := HAL.trans (hb1.mono (by simp; omega))
 revert w1 hb1 hL_w1 hR_w1 hZ_w1 B_w1
 exact zK.1) : P := h ⟨k⟩
theorem z86 {P Q : Prop} (k : Q) (h : ZK Q → P := by
 intro zK
 refine bodyPost_ret (by simp [results, Tryz.results51, go_sem, a0, a1, a2]; try rfl) rfl ?_
 exact zK.1) : P := h ⟨k⟩
theorem z87 {P Q : Prop} (k : Q) (h : ZK Q → P := by
 intro zK hL_w1 hR_w1 hZ_w1 r0 r1
 rw [hg]
 rintro e w2 ⟨rfl, hb2⟩
 have hL_w2 := rowB hL_w1 hb2
 have hR_w2 := rowB hR_w1 hb2
 have hZ_w2 := rowB hZ_w1 hb2
 have B_w2 := below_of B_w1 hb2 B_w1.size
 clear hL_w1 hR_w1 hZ_w1 hb2 r0 r1
 revert w2 hL_w2 hR_w2 hZ_w2 B_w2
 exact zK.1) : P := h ⟨k⟩
theorem z88 {P Q : Prop} (k : Q) (h : ZK Q → P := by
 intro zK
 have e1 : apP D P z c r = P ++ lineB z c r := by simp [apP, apT, hk, hg, hz]
 have e2 : apZ D P z c r = z + 1 := by simp [apZ, apT, hk, hg, hz]
 have e3 : apK D P z c r = 0 := by simp [apK, hk, hg, hz]
 rw [e1, e2, e3]
 have hz9 : z ≤ 59 := by omega
 have hz0 := hcnt.1
 have hls := lineB_size hz0 hz9 hg
 have hsum : P.size + (lineB z c r).size ≤ 4000000 := by omega
 revert e1 e2 e3 hz9 hz0 hls hsum
 exact zK.1) : P := h ⟨k⟩
theorem z89 {P Q : Prop} (k : Q) (h : ZK Q → P := by
 intro zK
 refine bodyPost_ret (by simp [results, Tryz.results45, go_sem, a0, a1, a2]; try rfl) rfl ?_
 exact zK.1) : P := h ⟨k⟩
theorem z90 {P Q : Prop} (k : Q) (h : ZK Q → P := by
 intro zK
 refine (HE.out _).mono ?_
 rintro e wa ⟨rfl, hb_wa⟩
 have hL_wa := rowB hL_w2 hb_wa
 have hR_wa := rowB hR_w2 hb_wa
 have hZ_wa := rowB hZ_w2 hb_wa
 have B_wa := below_of B_w2 hb_wa B_w2.size
 have S_wa : (fun w' => cI w' w.heap.size 2 z ∧ cE w' (w.heap.size + 1) 0 (.string c) ∧ cE w' (w.heap.size + 1) 1 (.string r)) wa := ⟨(row3 hL_wa).2.2.1, (row2 hR_wa).1, (row2 hR_wa).2.1⟩
 refine hK.out _ _ S_wa (fun jd => ?_)
 revert wa hb_wa hL_wa hR_wa hZ_wa B_wa S_wa jd
 exact zK.1) : P := h ⟨k⟩
theorem z91 {P Q : Prop} (k : Q) (h : ZK Q → P := by
 intro zK
 refine tj 7 26 (lh fun _ h => h) rfl jd ?_
 refine wpAnyH_ready (rs := [8]) (by exact z12) (by simp) ?_
 refine (AllReadyH.cons rfl (fun K hK => ?_) AllReadyH.nil)
 obtain ⟨l0, l1, l2, lf0, lf1, lf2⟩ := row3 hL_wa
 have hLx := row3_set1 (y := P ++ Ln) hL_wa
 have hRx := row_far hR_wa ⟨w.heap.size, 1, none⟩ (.string (P ++ Ln)) (by simp)
 have hZx := row_far hZ_wa ⟨w.heap.size, 1, none⟩ (.string (P ++ Ln)) (by simp)
 have Bx : bW w (wa.setCell ⟨w.heap.size, 1, none⟩ (.string (P ++ Ln))) := B_wa.setCell nL _
 go_simp
 generalize (wa.setCell ⟨w.heap.size, 1, none⟩ (.string (P ++ Ln))) = wb at *
 have hL_wb := hLx
 have hR_wb := hRx
 have hZ_wb := hZx
 have B_wb := Bx
 refine hK.out _ _ ⟨(row3 hL_wb).2.2.1, (row2 hR_wb).1, (row2 hR_wb).2.1⟩ (fun jd => ?_)
 clear hK K hLx hRx hZx Bx l0 l1 l2 lf0 lf1 lf2
 revert wb hL_wb hR_wb hZ_wb B_wb jd
 exact zK.1) : P := h ⟨k⟩
theorem z92 {P Q : Prop} (k : Q) (h : ZK Q → P := by
 intro zK
 have hLy := row3_set2 (u := z + 1) hL_wb
 have hZy := row_far hZ_wb ⟨w.heap.size, 2, none⟩ (.int .i64 (z + 1)) (by simp)
 have By : bW w (wb.setCell ⟨w.heap.size, 2, none⟩ (.int .i64 (z + 1))) := B_wb.setCell nL _
 obtain ⟨m0, m1, m2, m3, m4, m5⟩ := row3 hL_wb
 revert hLy hZy By m0 m1 m2 m3 m4 m5
 exact zK.1) : P := h ⟨k⟩
theorem z93 {P Q : Prop} (k : Q) (h : ZK Q → P := by
 intro zK
 have hli : lineIs k c r (sealB (bodyB k c r)) = true := by simp [lineIs, hg]
 have e1 : lineB k c r = (sealB (bodyB k c r) ++ ⟨#[10]⟩) ++ ⟨#[]⟩ := by rw [app_nil]; rfl
 have hsz : (lineB k c r).size = (sealB (bodyB k c r)).size + 1 := by simp only [lineB, ByteArray.size_append', ByteArray.size_mk', List.size_toArray, List.length_cons, List.length_nil]
 revert hli e1 hsz
 exact zK.1) : P := h ⟨k⟩
theorem z94 {P : Prop} (h : P := by
 rw [List.getElem?_map] at hu
 cases hq : news[j]? with
 | none => rw [hq] at hu; simp at hu
 | some q => rw [hq] at hu; simp at hu; subst hu; exact hc j q hq) : P := h
theorem z95 {P Q : Prop} (k : Q) (h : ZK Q → P := by
 intro zK
 refine wpAnyH_ready hr (by simp) (AllReadyH.cons ho (fun K hK => ?_) AllReadyH.nil)
 rw [if_pos (wanted_plain rfl)]
 revert K hK
 exact zK.1) : P := h ⟨k⟩
theorem z96 {P : Prop} (h : P := by
 rw [eval_put_ne _ _ _ _ q2j3, eval_put_ne _ _ _ _ qBj3, eval_put_ne _ _ _ _ q1j3, eval_put_ne _ _ _ _ q0j3, e3]) : P := h
theorem z97 {P : Prop} (h : P := by
 ·intro v3 w3 hown3 hB3 _
  have hf := hown3
  rcases hf.2 with ⟨_, h0⟩ | ⟨g, cap, cur, hv, hb, _, hnc, hcm, _⟩
  ·omega
  subst hv
  exact h u0 u1 uB v2 g cap w3 hnc hcm hb hown3 hB3) : P := h
theorem z98 {P Q : Prop} (k : Q) (h : ZK Q → P := by
 intro zK
 have row_cells : ∀ (w1 : World), ∀ j u, row[j]? = some u → (w1.alloc (.cells (row.map (Value.int .i64)).toArray e)).cell? ((⟨w1.heap.size, 0, none⟩ : Addr).add j) = some (.int .i64 u) := by
  intro w1 j u hu
  rw [Addr.add_lit, Nat.zero_add, cell_of_row _ w1.heap.size j _ e (0, 0) (heap_alloc_new w1 _)]
  simp [hu]
 revert row_cells
 exact zK.1) : P := h ⟨k⟩
theorem z99 {P Q : Prop} (k : Q) (h : ZK Q → P := by
 intro zK
 refine wpAnyH_ready (fuel := fuel + 2) r3 (by simp) (AllReadyH.cons hoB (fun K hK => ?_) AllReadyH.nil)
 rw [if_pos (wanted_plain hgB)]
 refine oper_wp_value (runB _ w1 (fun j h0 h1 => by rw [eval_put_ne _ _ _ _ (Ne.symm h1), eval_put_ne _ _ _ _ (Ne.symm h0)])) ?_
 rw [hdB]
 revert K hK
 exact zK.1) : P := h ⟨k⟩
theorem z100 {P Q : Prop} (k : Q) (h : ZK Q → P := by
 intro zK
 refine wpAnyH_ready (fuel := fuel + 2) r4 (by simp) (AllReadyH.cons ho1 (fun K hK => ?_) AllReadyH.nil)
 rw [if_pos (wanted_plain rfl)]
 revert K hK
 exact zK.1) : P := h ⟨k⟩
theorem z101 {P : Prop} (h : P := by
 refine hK.out _ _ hB1 (fun _ => ?_)
 clear hK K
 rw [Nat.zero_add] at hown1
 rw [put_comm _ _ _ (Ne.symm q1B), listed_comm _ (Ne.symm hij.2)]
 refine last _ _ _ _ hB1 (by simpa using hown1) ⟨_, rfl, fun j u hu => ?_⟩
 have hblk := hgrow.block (w.alloc (.cells #[] e)).heap.size (by simp) (by simp [Value.ownBlock])
 have hq := row_cells (w.alloc (.cells #[] e)) j u hu
 rw [Addr.add_lit] at hq ⊢
 rw [World.cell?_of_block (a := (⟨(w.alloc (.cells #[] e)).heap.size, 0 + j, none⟩ : Addr)) hblk]
 exact hq) : P := h
theorem z102 {P : Prop} (h : P := by
 refine hK.out _ _ hB1 (fun _ => ?_)
 clear hK K
 rw [Nat.zero_add] at hown1
 rw [listed_comm _ (Ne.symm hij.2)]
 rw [put_comm a _ _ (Ne.symm q0B), put_comm (a.put (some d0) _) _ _ (Ne.symm q1B)]
 refine last _ _ _ _ hB1 (by simpa using hown1) ⟨_, rfl, fun j u hu => ?_⟩
 have hblk := hgrow.block w.heap.size (by simp; omega) (by simp [Value.ownBlock])
 have h2 := ((Below.refl (w.alloc (.cells (row.map (Value.int .i64)).toArray e)).heap.size (w.alloc (.cells (row.map (Value.int .i64)).toArray e))).alloc nL (.cells #[] e)).block w.heap.size (by simp)
 have hq := row_cells w j u hu
 rw [Addr.add_lit] at hq ⊢
 rw [World.cell?_of_block (a := (⟨w.heap.size, 0 + j, none⟩ : Addr)) (hblk.trans h2)]
 exact hq) : P := h
theorem z103 {P Q : Prop} (k : Q) (h : ZK Q → P := by
 intro zK
 refine bodyPost_ret ?_ hf hR
 have ha' : a.tmps[i]?.getD undef = .pointer (some ⟨g, 0, none⟩) := by simpa using ha
 revert ha'
 exact zK.1) : P := h ⟨k⟩
theorem z104 {P Q : Prop} (k : Q) (h : ZK Q → P := by
 intro zK
 have HF : Hid (∀ w', bW (w.alloc (.cells (wB A n c I H S P) 32)) w' → cE w' w.heap.size 0 (.slice A n c) ∧ cI w' w.heap.size 1 I ∧ cI w' w.heap.size 2 H ∧ cI w' w.heap.size 3 S ∧ cI w' w.heap.size 4 P) := fun w' hq => (cells5 (bx (g := w.heap.size) hq))
 revert HF
 exact zK.1) : P := h ⟨k⟩
theorem z105 {P Q : Prop} (k : Q) (h : ZK Q → P := by
 intro zK
 refine wpAnyH_skips (by exact z12) (fun _ _ _ _ _ h => h) jd [(18, 21), (19, 22), (20, 23)] 18 3 _ _ rfl (by exact z12) ?_
 refine z47 ?_
 refine tj2 21 24 22 25 HF jd ?_
 refine wpAnyH_skips (by exact z12) (fun _ _ _ _ _ h => h) jd [(23, 26), (24, 27), (25, 28), (26, 29), (27, 30), (28, 31), (29, 32), (30, 33), (31, 34), (32, 35), (33, 36), (34, 37), (35, 38), (36, 39)] 2 14 _ _ rfl (by exact z12) ?_
 refine z47 ?_
 refine tj2 37 40 38 2 HF jd ?_
 exact zK.1) : P := h ⟨k⟩
theorem z106 {P Q : Prop} (k : Q) (h : ZK Q → P := by
 intro zK
 (go_at_call 124; refine (quiet_below (l21Kilos_any _ _)).mono ?_; rintro e w2 ⟨rfl, hb2⟩)
 revert w2 hb2
 exact zK.1) : P := h ⟨k⟩
theorem z107 {P : Prop} (h : P := by
 go_wp2
 go_ret
 exact ⟨ret_bool (by simp [goodWorks, kilosOk, totalV, hp, h1, h2, h3, h4]; try (rw [Bool.eq_iff_iff]; simp only [beq_iff_eq, IntWalk.i64_left]; exact ⟨fun h => decide_eq_true h, fun h => of_decide_eq_true h⟩)), ((Below.refl _ w).alloc nL _).trans (jd.mono (by simp))⟩) : P := h
theorem z108 {P Q : Prop} (k : Q) (h : ZK Q → P := by
 intro zK
 refine wpAnyH_skips (by exact z12) (fun _ _ _ _ _ h => h) jd [(25, 66), (26, 67), (27, 68), (28, 69), (29, 70), (30, 71), (31, 72), (32, 73), (33, 74), (34, 75), (35, 76), (36, 77), (37, 78), (38, 79)] 1 14 _ _ rfl (by exact z12) ?_
 exact zK.1) : P := h ⟨k⟩
theorem z109 {P : Prop} (h : P := by
 go_wp2
 go_ret
 exact ⟨ret_bool (by simp [goodWorks, hno.out]), ((Below.refl _ w).alloc nL _).trans ((below_of hbel (((Below.refl _ wr).alloc nL _).trans (jd.mono (by simp))) hbel.size).mono (by simp))⟩) : P := h
theorem z110 {P Q : Prop} (k : Q) (h : ZK Q → P := by
 intro zK
 refine z43 ?_
 intro hk0i hkni
 have hstep : findV (pid f) z (n - k) k = if f (k * 4) = z then (k : Int) else findV (pid f) z (n - (k + 1)) (k + 1) := by
  obtain ⟨m, hm⟩ : ∃ m, n - k = m + 1 := ⟨n - k - 1, by omega⟩
  rw [hm, show n - (k + 1) = m by omega]; rfl
 have HH : Hid (findV (pid f) z n 0 = if f (k * 4) = z then (k : Int) else findV (pid f) z (n - (k + 1)) (k + 1)) := hfd.trans hstep
 revert hk0i hkni hstep HH
 exact zK.1) : P := h ⟨k⟩
theorem z111 {P Q : Prop} (k : Q) (h : ZK Q → P := by
 intro zK hg
 simp only [goodWorks, pansOk, Bool.and_eq_true, decide_eq_true_eq] at hg
 have h := allTo_at hj hg.1.1.1
 revert hg h
 exact zK.1) : P := h ⟨k⟩
theorem z112 {P Q : Prop} (k : Q) (h : ZK Q → P := by
 intro zK
 have HF : Hid (∀ w', bW (w.alloc (.cells (jV wt s) 95)) w' → cI w' w.heap.size 0 wt ∧ cI w' w.heap.size 1 s) := fun w' hq => (cells2 (bx (g := w.heap.size) hq))
 revert HF
 exact zK.1) : P := h ⟨k⟩
theorem z113 {P Q : Prop} (k : Q) (h : ZK Q → P := by
 intro zK
 refine wpAnyH_ready (rs := [4]) (by exact z12) (by simp) ?_
 exact zK.1) : P := h ⟨k⟩
theorem z114 {P : Prop} (h : P := by
 go_wp2
 go_ret
 exact ⟨ret_bool (by simp only [mayV, ← IntWalk.i64_left]), ((Below.refl _ w).alloc nL _).trans (jd.mono (by simp))⟩) : P := h
theorem z115 {P : Prop} (h : P := by
 go_wp2_with fail
 refine z116 ?_
 refine z117 ?_
 intro w2 hb2 b0 b1 b2 b3 b4 HS2
 go_wp2_with fail
 refine (isWorks_any A n c lo hi f I H S P _ HS2 hn hnc).mono ?_
 rw [hg]
 rintro e w3 ⟨rfl, hb3⟩
 have B3 := below_of hb2 hb3 hb2.size
 clear b0 b1 b2 b3 b4 HS2 hb2 hb3
 exact z118) : P := h
theorem z116 {P Q : Prop} (k : Q) (h : ZK Q → P := by
 intro zK
 refine (panAt_any A n c lo hi f I H S P z _ HS.out hn hnc).mono ?_
 exact zK.1) : P := h ⟨k⟩
theorem z117 {P Q : Prop} (k : Q) (h : ZK Q → P := by
 intro zK
 rw [hfd]
 rintro e w2 ⟨rfl, hb2⟩
 obtain ⟨b0, b1, b2, b3, b4⟩ := cells5 (bx (g := w.heap.size) hb2)
 have HS2 := HS.out.below hb2
 revert w2 hb2 b0 b1 b2 b3 b4 HS2
 exact zK.1) : P := h ⟨k⟩
theorem z118 {P : Prop} (h : P := by
 go_wp2
 go_ret2
 exact ⟨rfl, ((Below.refl _ w).alloc nL _).trans (B3.mono (by simp))⟩) : P := h
theorem z119 {P Q : Prop} (k : Q) (h : ZK Q → P := by
 intro zK
 have hj0 : ¬ ((j : Int) < 0) := by omega
 have hk0i : (0 : Int) ≤ (j : Int) := by omega
 have hkni : (j : Int) < (n : Int) := by omega
 revert hj0 hk0i hkni
 exact zK.1) : P := h ⟨k⟩
theorem z120 {P Q : Prop} (k : Q) (h : ZK Q → P := by
 intro zK A HS hb2 b0 b1 b2 b3 b4 HS2
 rw [hg]
 rintro e w3 ⟨rfl, hb3⟩
 have B3 := below_of hb2 hb3 hb2.size
 clear b0 b1 b2 b3 b4 HS2 hb2 hb3
 have b0 : cE w3 w.heap.size 0 (.slice A n c) := (B3.cell (p := ⟨w.heap.size, 0, none⟩) (by simp)).trans (by simp)
 obtain ⟨b, off, rfl, hbw, HC⟩ := HS.out.open_ B3 (by omega)
 obtain ⟨c0, c1, c2, c3⟩ := cell4 HC hj
 revert w3 b off HS B3 b0 hbw HC c0 c1 c2 c3
 exact zK.1) : P := h ⟨k⟩
theorem z121 {P : Prop} (h : P := by
 exact ⟨0, Nat.zero_le _, rfl, Below.refl _ _⟩) : P := h
theorem z122 {P : Prop} (h : P := by
 go_wp2_with fail
 refine z123 ?_
 refine z117 ?_
 intro w2 hb2 b0 b1 b2 b3 b4 HS2
 go_wp2_with fail
 refine (l25Good_any A n c lo hi f I H S P _ HS2 hn hnc).mono ?_
 rw [hg]
 rintro e w3 ⟨rfl, hb3⟩
 have B3 := below_of hb2 hb3 hb2.size
 clear b0 b1 b2 b3 b4 HS2 hb2 hb3
 exact z118) : P := h
theorem z123 {P Q : Prop} (k : Q) (h : ZK Q → P := by
 intro zK
 refine (l25Find_any A n c lo hi f I H S P z _ HS.out hn hnc).mono ?_
 exact zK.1) : P := h ⟨k⟩
theorem z124 {P Q : Prop} (k : Q) (h : ZK Q → P := by
 intro zK
 have BW : bW w (w.alloc (.cells (wB A n c I H S P) 32)) := (Below.refl _ w).alloc nL _
 revert BW
 exact zK.1) : P := h ⟨k⟩
theorem z125 {P : Prop} (h : P := by
 go_wp2_with fail
 refine (isWorks_any A n c lo hi f I H S P _ HS.out hn hnc).mono ?_
 rw [hg]
 rintro e w2 ⟨rfl, hb2⟩
 go_wp2
 go_ret2
 exact IntsPost.nil_ (BW.trans (hb2.mono BW.size))) : P := h
theorem z126 {P Q : Prop} (k : Q) (h : ZK Q → P := by
 intro zK
 refine (isWorks_any A n c lo hi f I H S P _ HS.out hn hnc).mono ?_
 rw [hg]
 rintro e w1 ⟨rfl, hb1⟩
 have HS1 := lh (HS.out.below hb1)
 obtain ⟨b0, b1, b2, b3, b4⟩ := cells5 (bx (g := w.heap.size) hb1)
 have hB1 : bW w w1 := BW.trans (hb1.mono BW.size)
 revert w1 hb1 HS1 b0 b1 b2 b3 b4 hB1
 exact zK.1) : P := h ⟨k⟩
theorem z127 {P Q : Prop} (k : Q) (h : ZK Q → P := by
 intro zK
 have hi0i : (0 : Int) ≤ (i : Int) := by omega
 have hini : (i : Int) < (n : Int) := by omega
 revert hi0i hini
 exact zK.1) : P := h ⟨k⟩
theorem z128 {P Q : Prop} (k : Q) (h : ZK Q → P := by
 intro zK hB hbw c0 c1 c2 c3 HO
 rintro e w2 ⟨rfl, hb2⟩
 have hb3 : bW wr w2 := ((Below.refl _ wr).alloc nL _).trans (hb2.mono (by simp))
 have hB2 := below_of hB hb3 hB.size
 have hO2 := lh (ownsRow_below HO.out hb3)
 have hbx := heap_alloc_new wr (.cells (iV (f (i * 4)) (f (i * 4 + 1)) (f (i * 4 + 2)) (f (i * 4 + 3))) 97)
 have n0 : cI w2 wr.heap.size 0 (f (i * 4)) := (hb2.cell (p := ⟨wr.heap.size, 0, none⟩) (by simp)).trans (by rw [cell_of_row _ wr.heap.size 0 _ _ (0, 0) hbx]; rfl)
 have n1 : cI w2 wr.heap.size 1 (f (i * 4 + 1)) := (hb2.cell (p := ⟨wr.heap.size, 1, none⟩) (by simp)).trans (by rw [cell_of_row _ wr.heap.size 1 _ _ (0, 0) hbx]; rfl)
 have n2 : cI w2 wr.heap.size 2 (f (i * 4 + 2)) := (hb2.cell (p := ⟨wr.heap.size, 2, none⟩) (by simp)).trans (by rw [cell_of_row _ wr.heap.size 2 _ _ (0, 0) hbx]; rfl)
 have n3 : cI w2 wr.heap.size 3 (f (i * 4 + 3)) := (hb2.cell (p := ⟨wr.heap.size, 3, none⟩) (by simp)).trans (by rw [cell_of_row _ wr.heap.size 3 _ _ (0, 0) hbx]; rfl)
 clear hb2 hb3 HO hB c0 c1 c2 c3 hbx
 generalize wr.heap.size = nb at *
 revert w2 hB2 hO2 nb hbw n0 n1 n2 n3
 exact zK.1) : P := h ⟨k⟩
theorem z129 {P : Prop} (h : P := by
 go_wp2
 go_roundw
 case rel => exact ⟨i + 1, by omega, by go_num, by rw [HPN.out HPB.out]; exact hO2.out, hB2⟩
 case measure => simp [intOf]; omega) : P := h
theorem z130 {P Q : Prop} (k : Q) (h : ZK Q → P := by
 intro zK
 have hkg : k ≤ gc := by omega
 have hkg2 : (k : Int) ≤ (gc : Int) := by omega
 revert hkg hkg2
 exact zK.1) : P := h ⟨k⟩
theorem z131 {P Q : Prop} (k : Q) (h : ZK Q → P := by
 intro zK
 have HF : Hid (∀ w', bW wq w' → True) := fun _ _ => trivial
 refine wp_region_held_drew (S := fun w' => bW (wq) w') (by exact z12) ((Below.refl _ _).drew) (fun jd => ?_)
 refine tj4 0 55 1 56 2 57 4 59 HF jd ?_
 refine tj3 7 62 8 63 9 64 HF jd ?_
 revert HF jd
 exact zK.1) : P := h ⟨k⟩
theorem z132 {P : Prop} (h : P := by
 intro a' w1' K hev hb hK
 have h1 : a'.eval (.tmp 57) = .slice (some ⟨g, 0, none⟩) k gc := (hev 57 (by decide)).trans rfl
 have h2 : a'.tmps[57]?.getD undef = .slice (some ⟨g, 0, none⟩) k gc := by simpa [Act.eval] using h1
 have hsr : ∀ w', bW w1' w' → Src w' 1 (some ⟨g, 0, none⟩) k gc (natsL (L.take k)) := fun w' hb' => by
  have h := nrow_src (ownsRow_below HOWN.out (below_of hb hb' hb.size)) HN.out 0 k gc (by omega)
  simpa using h
 have HSR := lh hsr
 have HK := lh hK
 clear hev h1 hsr hK
 go_simp
 go_at_call 160
 refine (l1Own_any _ k gc (natsL (L.take k)) w1' HSR.out (by omega)).mono ?_
 rintro e w2 ⟨v', rfl, ho, hb2⟩
 exact HK.out v' w2 ho hb2) : P := h
theorem z133 {P : Prop} (h : P := by
 intro a' w hev
 have h1 : a'.eval (.tmp 59) = .int .i64 i := (hev 59 (by decide)).trans rfl
 have h2 : a'.tmps[59]?.getD undef = .int .i64 i := by simpa [Act.eval] using h1
 clear h1 hev
 go_simp) : P := h
theorem z134 {P : Prop} (h : P := by
 intro w' hb'
 have h := nrow_src (ownsRow_below HOWN.out hb') HN.out k (l - k) (gc - k) (by omega)
 rw [List.take_of_length_le (by rw [List.length_drop, ← HN.out]; omega)] at h
 exact h) : P := h
theorem z135 {P : Prop} (h : P := by
 have hrow : natsL (L.take k) ++ [(i : Int)] ++ natsL (L.drop k) = natsL (insI (ordMv f) L i) := by
  have hst := HST.out
  have hins : insI (ordMv f) L i = L.take k ++ i :: L.drop k := by unfold insI; rw [hst]
  rw [hins]
  simp [natsL]
 exact z136) : P := h
theorem z136 {P : Prop} (h : P := by
 rw [hrow] at hown'
 have hr' := lh (NRow.of hl (ownsRow_monoP hown' hlo))
 have hBn := below_of hBX hB' hBX.size
 clear hown' jd
 go_wp2
 go_roundw
 case rel => exact ⟨i + 1, by omega, by go_num, by rw [HPY.out HPB.out]; exact hr'.out, ownsRow_below HOUT.out hB', HXN.out.below hB', hBn⟩
 case measure => simp [intOf]; omega) : P := h
theorem z137 {P : Prop} (h : P := by
 intro a' w1' K hev hb hK
 have h1 : a'.eval (.tmp 57) = .slice (some ⟨g, 0, none⟩) gc gc := (hev 57 (by decide)).trans rfl
 have h2 : a'.tmps[57]?.getD undef = .slice (some ⟨g, 0, none⟩) gc gc := by simpa [Act.eval] using h1
 have hsr : ∀ w', bW w1' w' → Src w' 1 (some ⟨g, 0, none⟩) gc gc (natsL (L.take gc)) := fun w' hb' => by
  have h := nrow_src (ownsRow_below HOWN.out (below_of hb hb' hb.size)) HN.out 0 gc gc (by omega)
  simpa using h
 have HSR := lh hsr
 have HK := lh hK
 clear hev h1 hsr hK
 go_simp
 go_at_call 160
 refine (l1Own_any _ gc gc (natsL (L.take gc)) w1' HSR.out (by omega)).mono ?_
 rintro e w2 ⟨v', rfl, ho, hb2⟩
 exact HK.out v' w2 ho hb2) : P := h
theorem z138 {P : Prop} (h : P := by
 intro w' hb'
 refine ⟨by rw [natsL_len, List.length_drop, ← HN.out]; omega, (by intro h; cases h), fun ad had j u hu => ?_⟩
 have hl := (List.getElem?_eq_some_iff.1 hu).1
 rw [natsL_len, List.length_drop, ← HN.out] at hl
 omega) : P := h
theorem z139 {P : Prop} (h : P := by
 try simp only [Nat.add_zero] at hown' hc1
 have hl : gc + 1 = (insI (ordMv f) L i).length := by rw [insI_length]; have := HN.out; omega
 have hrow : natsL (L.take gc) ++ [(i : Int)] ++ natsL (L.drop gc) = natsL (insI (ordMv f) L i) := by
  have hst := HST.out
  have hins : insI (ordMv f) L i = L.take gc ++ i :: L.drop gc := by unfold insI; rw [hst]
  rw [hins]
  simp [natsL]
 exact z136) : P := h
theorem z140 {P Q : Prop} (k : Q) (h : ZK Q → P := by
 intro zK
 have mixed : Tryz.prog.follows .mixedOrders = true := by kernel_rfl
 go_quiet_grown ((go_at_call 159; refine Calls.grown_of (l2StrongerG_any _ _ _ _ _)))
 clear mixed
 have hHq : bW wr (grow (wr.drewN nq) osq) := below_growN nq osq
 generalize grow (wr.drewN nq) osq = wq at hHq ⊢
 revert nq osq wq hHq
 exact zK.1) : P := h ⟨k⟩
theorem z141 {P : Prop} (h : P := by
 match j, hu with
 | 0, hu => simp at hu; subst hu; simp [Addr.add]; rw [cell_of_row _ wr.heap.size 0 _ _ (0, 0) (heap_alloc_new wr.drew _)]; rfl) : P := h
theorem z142 {P Q : Prop} (k : Q) (h : ZK Q → P := by
 intro zK
 have HPY : Hid (rakeB f i = true → idsP f (pickN (rakeB f) (i + 1)) = idsP f (pickN (rakeB f) i) ++ [f (i * 4)]) := fun h => by rw [pickN_yes h, idsP_append]; rfl
 have HPN : Hid (rakeB f i = false → idsP f (pickN (rakeB f) (i + 1)) = idsP f (pickN (rakeB f) i)) := fun h => by rw [pickN_no h]
 revert HPY HPN
 exact zK.1) : P := h ⟨k⟩
theorem z143 {P : Prop} (h : P := by
 simp [Value.cells, Value.oneCell']) : P := h
theorem z144 {P : Prop} (h : P := by
 refine J a w K (fun _ _ => rfl) hS (fun v w2 hp hb => ?_)
 have hB := hst _ _ hS hb
 exact hK.out _ _ hB (fun _ => h v w2 hp hB hb)) : P := h
theorem z145 {P : Prop} (h : P := by
 rw [if_pos (wanted_plain hgi)]
 refine Ji a w K (fun _ _ => rfl) hS (fun v w2 hp hb => ?_)
 have hB := hst _ _ hS hb
 refine hK.out _ _ hB (fun _ => ?_)
 refine wpAnyH_two (fuel := fuel) hoj hok hgj hgk qjk djk sj' sk' ri rij rik (Jj.put si' v) (Jk.put si' v) sj sk hst hB (fun u t w3 h1 h2 hB3 hb3 => ?_)
 exact h v u t w3 (si _ _ _ hp hb3) h1 h2 hB3 (hb.trans (hb3.mono hb.size))) : P := h
theorem z146 {P Q : Prop} (k : Q) (h : ZK Q → P := by
 intro zK
 have hX : bW w (((w.alloc (.cells (wB A n c I H S P) 32)).alloc (.cells (iV 5 id tt0 z) 107)).alloc (.cells (wB none 0 0 0 0 0 0) 32)) := (((Below.refl _ w).alloc nL _).alloc (by simp) _).alloc (by simp; omega) _
 revert hX
 exact zK.1) : P := h ⟨k⟩
theorem z147 {P Q : Prop} (k : Q) (h : ZK Q → P := by
 intro zK
 have hi0 : (0 : Int) ≤ (i : Int) := by omega
 have hin : (i : Int) < (n : Int) := by omega
 revert hi0 hin
 exact zK.1) : P := h ⟨k⟩
theorem z148 {P Q : Prop} (k : Q) (h : ZK Q → P := by
 intro zK
 refine tj4 0 13 2 15 4 17 3 16 HF jd ?_
 refine tj3 5 18 6 19 7 20 HF jd ?_
 exact zK.1) : P := h ⟨k⟩
theorem z149 {P : Prop} (h : P := by
 rintro v w1 w2 ⟨A', c', e, h1, h2, h⟩ hb
 exact ⟨A', c', e, h1, h2, ownsRow_below h hb⟩) : P := h
theorem z150 {P : Prop} (h : P := by
 intro a' w1 K hev hb hK
 have h1 : a'.eval (.tmp 13) = .agg (wB (some ⟨b, off, none⟩) n c I H S P) := (hev 13 (by decide)).trans rfl
 have h2 : a'.tmps[13]?.getD undef = .agg (wB (some ⟨b, off, none⟩) n c I H S P) := by simpa [Act.eval] using h1
 have HK := lh hK
 have HSL := lh (HS.out.below hb)
 have hbs := hb.size
 clear hev h1 hK HF
 go_simp
 go_at_call 79
 refine (l25Own_any _ n c lo hi f I H S P w1 HSL.out hn hnc (by simp)).mono ?_
 rintro e w2 ⟨A', c', rfl, h3, h4, ho, hb2⟩
 exact HK.out _ w2 ⟨A', c', rfl, h3, h4, ownsRow_monoP ho hbs⟩ hb2) : P := h
theorem z151 {P Q : Prop} (k : Q) (h : ZK Q → P := by
 intro zK A' hO
 obtain ⟨ga, rfl⟩ : ∃ ga, A' = some ⟨ga, 0, none⟩ := by
  rcases form_ofP hO with ⟨h0, _⟩ | ⟨g, gc, hv⟩
  ·omega
  ·cases hv; exact ⟨g, rfl⟩
 revert ga hO
 exact zK.1) : P := h ⟨k⟩
theorem z152 {P Q : Prop} (k : Q) (h : ZK Q → P := by
 intro zK
 have ne89 : g9 ≠ g8 := by
  intro e
  subst e
  rw [h8] at h9
  simp at h9
 have h95 := (hg5.block g9 (gL h9) (by simp [ne89])).trans h9
 have hO5 := own_other hO h8 (by decide) hg5
 revert ne89 h95 hO5
 exact zK.1) : P := h ⟨k⟩
theorem z153 {P Q : Prop} (k : Q) (h : ZK Q → P := by
 intro zK
 have h86 := (hg6.block g8 (gL h85) (by simp [Ne.symm ne89])).trans h85
 have hO6 := own_other hO5 h95 (by decide) hg6
 revert h86 hO6
 exact zK.1) : P := h ⟨k⟩
theorem z154 {P Q : Prop} (k : Q) (h : ZK Q → P := by
 intro zK
 obtain ⟨b0, b1, b2, b3, b4, c2, c3⟩ := HF.out w6 hB6
 obtain ⟨s0, s1, s2, s3⟩ := cells4 (bx (g := w.heap.size + 1) hB6)
 revert b0 b1 b2 b3 b4 c2 c3 s0 s1 s2 s3
 exact zK.1) : P := h ⟨k⟩
theorem z155 {P Q : Prop} (k : Q) (h : ZK Q → P := by
 intro zK
 have h86' : w6.heap[g8]? = some (.cells (wB (some ⟨ga, 0, none⟩) n c' I H S P) 32) := h86
 have h96' : w6.heap[g9]? = some (.cells (jV (f (i * 4 + 2)) (f (i * 4 + 3))) 95) := h96
 obtain ⟨e0, e1, e2, e3, e4⟩ := cells5 h86'
 have ef := fz h86'
 obtain ⟨d0, d1⟩ := cells2 h96'
 have a2 : cI w6 ga (i * 4 + 2) (f (i * 4 + 2)) := by rw [World.ownsRow.cellAt hO6 (i * 4 + 2) (by omega), List.getElem?_map, cellsL_at f n _ (by omega)]; rfl
 have a3 : cI w6 ga (i * 4 + 3) (f (i * 4 + 3)) := by rw [World.ownsRow.cellAt hO6 (i * 4 + 3) (by omega), List.getElem?_map, cellsL_at f n _ (by omega)]; rfl
 have af : ∀ j, w6.frozen? ⟨ga, j, none⟩ = false := fun j => World.ownsRow.frozenAt hO6 j
 have nga : ga ≠ g8 := by
  intro e
  subst e
  exact row_ne hO6 h86' (by decide)
 revert h86' h96' e0 e1 e2 e3 e4 ef d0 d1 a2 a3 af nga
 exact zK.1) : P := h ⟨k⟩
theorem z156 {P Q : Prop} (k : Q) (h : ZK Q → P := by
 intro zK l8 l9 lga
 have nga9 : ga ≠ g9 := by
  intro e
  subst e
  exact row_ne hO6 h96' (by decide)
 simp only [World.size_alloc] at lga l8 l9
 have nga0 : ga ≠ w.heap.size := by omega
 have mga0 : w.heap.size ≠ ga := by omega
 have nga1 : ga ≠ w.heap.size + 1 := by omega
 have mga1 : w.heap.size + 1 ≠ ga := by omega
 have nga2 : ga ≠ w.heap.size + 1 + 1 := by omega
 have mga2 : w.heap.size + 1 + 1 ≠ ga := by omega
 have ng80 : g8 ≠ w.heap.size := by omega
 have mg80 : w.heap.size ≠ g8 := by omega
 have ng81 : g8 ≠ w.heap.size + 1 := by omega
 have mg81 : w.heap.size + 1 ≠ g8 := by omega
 have ng82 : g8 ≠ w.heap.size + 1 + 1 := by omega
 have mg82 : w.heap.size + 1 + 1 ≠ g8 := by omega
 have ng90 : g9 ≠ w.heap.size := by omega
 have mg90 : w.heap.size ≠ g9 := by omega
 have ng91 : g9 ≠ w.heap.size + 1 := by omega
 have mg91 : w.heap.size + 1 ≠ g9 := by omega
 have ng92 : g9 ≠ w.heap.size + 1 + 1 := by omega
 have mg92 : w.heap.size + 1 + 1 ≠ g9 := by omega
 have nn1 : g8 ≠ ga := Ne.symm nga
 have nn2 : g9 ≠ ga := Ne.symm nga9
 have nn3 : g8 ≠ g9 := Ne.symm ne89
 have HO6 := lh hO6
 have HB6 := lh hB6
 have H86 := lh h86'
 have HR6 := lh hr6
 revert nga9 lga l8 l9 nga0 mga0 nga1 mga1 nga2 mga2 ng80 mg80 ng81 mg81 ng82 mg82 ng90 mg90 ng91 mg91 ng92 mg92 nn1 nn2 nn3 HO6 HB6 H86 HR6
 exact zK.1) : P := h ⟨k⟩
theorem z157 {P : Prop} (h : P := by
 rintro e w2 ⟨rfl, hb2⟩
 exact HK.out _ w2 rfl hb2) : P := h
theorem z158 {P Q : Prop} (k : Q) (h : ZK Q → P := by
 intro zK
 have hz2 : ¬ (1000000 : Int) < z := by omega
 go_enter Tryz.func114, Tryz.ntmps114
 revert hz2
 exact zK.1) : P := h ⟨k⟩
theorem z159 {P Q : Prop} (k : Q) (h : ZK Q → P := by
 intro zK
 have nz1 : w1.heap.size ≠ w.heap.size := by omega
 have nz2 : w1.heap.size ≠ w.heap.size + 1 := by omega
 have nz3 : w.heap.size + 1 + 1 ≠ w1.heap.size := by omega
 have nz4 : w.heap.size ≠ w1.heap.size := by omega
 have nz5 : w.heap.size + 1 ≠ w1.heap.size := by omega
 have hR1 := lh hr1
 have hB1 := lh B1
 revert nz1 nz2 nz3 nz4 nz5 hR1 hB1
 exact zK.1) : P := h ⟨k⟩
theorem z160 {P Q : Prop} (k : Q) (h : ZK Q → P := by
 intro zK
 refine z161 ?_
 intro w2 hw2
 have b12 := ba hw2
 have p0 := kp b12 b0
 have p1 := kp b12 b1
 have p2 := kp b12 b2
 have p3 := kp b12 b3
 have p4 := kp b12 b4
 have q0 := kp b12 s0
 have q1 := kp b12 s1
 have q2 := kp b12 s2
 have q3 := kp b12 s3
 have h6 : w2.heap[w1.heap.size]? = some (.cells (wB A1 n c1 I H S P) 32) := by
  rw [hw2]
  exact heap_alloc_new w1 _
 have hr2 : w2.heap[w.heap.size + 1 + 1]? = some (.cells (wB none 0 0 0 0 0 0) 32) := by
  rw [hw2, heap_alloc_old _ _ (by omega)]
  exact hR1.out
 have B2 : bW w w2 := by
  rw [hw2]
  exact hB1.out.alloc hB1.out.size _
 revert w2 hw2 b12 p0 p1 p2 p3 p4 q0 q1 q2 q3 h6 hr2 B2
 exact zK.1) : P := h ⟨k⟩
theorem z161 {P Q : Prop} (k : Q) (h : ZK Q → P := by
 intro zK
 refine name_wp ?_
 exact zK.1) : P := h ⟨k⟩
theorem z162 {P : Prop} (h : P := by
 intro a' w1' K hev hb hK
 have h1 : a'.eval (.tmp 13) = .agg (wB A n c I H S P) := (hev 13 (by decide)).trans rfl
 have h2 : a'.tmps[13]?.getD undef = .agg (wB A n c I H S P) := by simpa [Act.eval] using h1
 have h3 : a'.eval (.tmp 15) = .int .i64 id := (hev 15 (by decide)).trans rfl
 have h4 : a'.tmps[15]?.getD undef = .int .i64 id := by simpa [Act.eval] using h3
 have HK := lh hK
 have HSL := lh (hs.below (HBw.out w1' hb))
 clear hev h1 h3 hK HF
 go_simp
 go_at_call 154
 refine (l25Find_any A n c lo hi f I H S P id w1' HSL.out hn hnc).mono ?_
 rw [hfd]
 exact z163) : P := h
theorem z163 {P : Prop} (h : P := by
 rintro e w2' ⟨rfl, hb2⟩
 exact HK.out _ w2' rfl hb2) : P := h
theorem z164 {P Q : Prop} (k : Q) (h : ZK Q → P := by
 intro zK
 have h1 : a'.eval (.tmp 11) = .agg (wB A n c I H S P) := (hev 11 (by decide)).trans rfl
 have h2 : a'.tmps[11]?.getD undef = .agg (wB A n c I H S P) := by simpa [Act.eval] using h1
 revert h1 h2
 exact zK.1) : P := h ⟨k⟩
theorem z165 {P : Prop} (h : P := by
 rintro e w2' ⟨A', c', rfl, u1, u2, ho, hb2⟩
 exact HK.out _ w2' ⟨A', c', rfl, u1, u2, ownsRow_monoP ho HBb.out.size⟩ hb2) : P := h
theorem z166 {P Q : Prop} (k : Q) (h : ZK Q → P := by
 intro zK
 have jd := hS4
 refine tj3 7 10 8 18 9 19 HF jd ?_
 have hB24 : bW w2 w4 := (below_drewN (Below.refl w2.heap.size w2) 1).trans ((show Below w2.heap.size _ w3 from hb3).trans (hb4.mono hb3.size))
 have h64 := (hB24.block g6 (gL X6.out)).trans X6.out
 revert jd hB24 h64
 exact zK.1) : P := h ⟨k⟩
theorem z167 {P Q : Prop} (k : Q) (h : ZK Q → P := by
 intro zK
 refine wp_region_held_drew (S := fun w' => w5.grownBy w' (some (w.heap.size + 1 + 1))) (by exact z12) ⟨rfl, rfl, rfl, Nat.le_refl _, fun _ _ _ => rfl⟩ (fun jd => ?_)
 revert jd
 exact zK.1) : P := h ⟨k⟩
theorem z168 {P Q : Prop} (k : Q) (h : ZK Q → P := by
 intro zK
 obtain ⟨r0, r1, r2, r3, r4⟩ := cells5 h9'
 have hO9 := own_other HO5.out XR.out (by decide) hS9
 have hX9 := BB.out.grown hS9 BB.out.size (fun k hk => by cases hk; omega)
 revert r0 r1 r2 r3 r4 hO9 hX9
 exact zK.1) : P := h ⟨k⟩
theorem z169 {P : Prop} (h : P := by
 refine bodyPost_ret (by simp [results, Tryz.results114, go_sem, r0, r1, r2, r3, r4]; try rfl) rfl ?_
 exact ⟨_, c2, by rw [hm]; rfl, hc2, hm2, hO9, hX9⟩) : P := h
theorem z170 {P Q : Prop} (k : Q) (h : ZK Q → P := by
 intro zK
 have hX : bW w ((w.alloc (.cells (wB A n c I H S P) 32)).alloc (.cells (wB none 0 0 0 0 0 0) 32)) := ((Below.refl _ w).alloc nL _).alloc (by simp) _
 have HX := lh hX
 clear hX
 revert HX
 exact zK.1) : P := h ⟨k⟩
theorem z171 {P Q : Prop} (k : Q) (h : ZK Q → P := by
 intro zK
 refine wp_region_held_drew (S := (fun w' => wr.grownBy w' (some g7) ∧ ∃ V, w'.heap[g7]? = some (.cells #[V, .int .i64 I, .int .i64 H, .int .i64 S, .int .i64 P] 32))) (by exact z12) ⟨⟨rfl, rfl, rfl, Nat.le_refl _, fun _ _ _ => rfl⟩, _, H7.out⟩ (fun jd => ?_)
 refine tj4 1 29 3 31 6 34 7 35 HF jd ?_
 refine tj4 11 39 13 41 2 30 8 36 HF jd ?_
 refine tj3 12 40 4 32 14 42 HF jd ?_
 revert jd
 exact zK.1) : P := h ⟨k⟩
theorem z172 {P : Prop} (h : P := by
 intro a' w hev
 have h1 : a'.eval (.tmp 36) = .agg (iV id hd 0 0) := (hev 36 (by decide) (by decide)).trans rfl
 have h2 : a'.tmps[36]?.getD undef = .agg (iV id hd 0 0) := by simpa [Act.eval] using h1
 clear h1 hev
 go_simp) : P := h
theorem z173 {P : Prop} (h : P := by
 intro w' hb'
 exact Sl.srcTake (HSW.out.below (HBw.out w' hb'.1)) (by simp) (by omega)) : P := h
theorem z174 {P Q : Prop} (k : Q) (h : ZK Q → P := by
 intro zK
 have hO4 := own_other hown' hV (by decide) hg4
 have hB4 := HBw.out w4 hS4.1
 have hr4 := (hS4.1.block (w.heap.size + 1) (gL HR2.out) (by simp; omega)).trans HR2.out
 obtain ⟨e0, e1, e2, e3, e4⟩ := cells5 h4'
 obtain ⟨r0, r1, r2, r3, r4⟩ := cells5 hr4
 have rf := fz hr4
 have n1 : g7 ≠ w.heap.size + 1 := by omega
 have n2 : w.heap.size + 1 ≠ g7 := by omega
 have lg : wr.heap.size ≤ g' := (World.ownsRow.lt hO4 g' rfl).1
 have n3 : g' ≠ w.heap.size + 1 := by omega
 have HO4 := lh hO4
 have HB4 := lh hB4
 revert hO4 hB4 hr4 e0 e1 e2 e3 e4 r0 r1 r2 r3 r4 rf n1 n2 lg n3 HO4 HB4
 exact zK.1) : P := h ⟨k⟩
theorem z175 {P Q : Prop} (k : Q) (h : ZK Q → P := by
 intro zK
 have q1 : cI wq (w.heap.size + 1) 1 I := by rw [hwq]; go_simp
 have q2 : cI wq (w.heap.size + 1) 2 H := by rw [hwq]; go_simp
 have q3 : cI wq (w.heap.size + 1) 3 S := by rw [hwq]; go_simp
 have q4 : cI wq (w.heap.size + 1) 4 P := by rw [hwq]; go_simp
 have hBq : bW w wq := by
  rw [hwq]
  exact ((((HB4.out.setCell (show w.heap.size ≤ w.heap.size + 1 by omega) _).setCell (show w.heap.size ≤ w.heap.size + 1 by omega) _).setCell (show w.heap.size ≤ w.heap.size + 1 by omega) _).setCell (show w.heap.size ≤ w.heap.size + 1 by omega) _).setCell (show w.heap.size ≤ w.heap.size + 1 by omega) _
 have hOq := HO4.out
 revert q1 q2 q3 q4 hBq hOq
 exact zK.1) : P := h ⟨k⟩
theorem z176 {P : Prop} (h : P := by
 rw [← hwq] at hOq
 clear hwq HO4 HB4
 refine bodyPost_ret (by simp [results, Tryz.results155, go_sem, q0, q1, q2, q3, q4]; try rfl) rfl ?_
 rw [HST.out]
 exact ⟨_, c', rfl, hc1, hc2, ownsRow_monoP hOq (by omega), hBq⟩) : P := h
theorem z177 {P Q : Prop} (k : Q) (h : ZK Q → P := by
 intro zK
 have hki : ¬ ((k : Int) < (k : Int)) := by omega
 revert hki
 exact zK.1) : P := h ⟨k⟩
theorem z178 {P : Prop} (h : P := by
 intro w4 h4 hg4 hS4
 have h4' : w4.heap[g7]? = some (.cells (wB (some ⟨g', 0, none⟩) (k + 1 + (0)) c' I H S P) 32) := h4
 have hk1 : k + 1 + (0) = k + 1 := by omega
 rw [hk1] at h4' hown' hc1
 refine z49 ?_
 refine z174 ?_
 intro hO4 hB4 hr4 e0 e1 e2 e3 e4 r0 r1 r2 r3 r4 rf n1 n2 lg n3 HO4 HB4
 clear hO4 hB4 h4 h4' hV hS4 hg4 hr4 hown' HF H7 HR2 HSW HBw HB2 jd p0
 go_wp2
 obtain ⟨wq, hwq⟩ : ∃ wq, wq = (((((w4.setCell ⟨w.heap.size + 1, 0, none⟩ (.slice (some ⟨g', 0, none⟩) (k + 1) c')).setCell ⟨w.heap.size + 1, 1, none⟩ (.int .i64 I)).setCell ⟨w.heap.size + 1, 2, none⟩ (.int .i64 H)).setCell ⟨w.heap.size + 1, 3, none⟩ (.int .i64 S)).setCell ⟨w.heap.size + 1, 4, none⟩ (.int .i64 P)) := ⟨_, rfl⟩
 rw [← hwq]
 have q0 : cE wq (w.heap.size + 1) 0 (.slice (some ⟨g', 0, none⟩) (k + 1) c') := by rw [hwq]; go_simp
 refine z175 ?_
 intro q1 q2 q3 q4 hBq hOq
 have no : ∀ j : Nat, (Value.slice (some ⟨g', 0, none⟩) (k + 1) c').ownBlock ≠ some (⟨w.heap.size + 1, j, none⟩ : Addr).block := fun j => by simp [Value.ownBlock, n3]
 have hOq := ownsRow_setCell_other (ownsRow_setCell_other (ownsRow_setCell_other (ownsRow_setCell_other (ownsRow_setCell_other hOq (no 0) (.slice (some ⟨g', 0, none⟩) (k + 1) c')) (no 1) (.int .i64 I)) (no 2) (.int .i64 H)) (no 3) (.int .i64 S)) (no 4) (.int .i64 P)
 exact z176) : P := h
theorem z179 {P Q : Prop} (k : Q) (h : ZK Q → P := by
 intro zK
 simp only [World.size_alloc]
 exact zK.1) : P := h ⟨k⟩
theorem z180 {P Q : Prop} (k : Q) (h : ZK Q → P := by
 intro zK
 refine wp_region_held_drew (S := (fun w' => w6.grownBy w' (some g8) ∧ ∃ V, w'.heap[g8]? = some (.cells #[V, .int .i64 I, .int .i64 H, .int .i64 S, .int .i64 P] 32))) (by exact z12) ⟨⟨rfl, rfl, rfl, Nat.le_refl _, fun _ _ _ => rfl⟩, _, H86.out⟩ (fun jd => ?_)
 refine tj4 1 127 3 129 6 132 8 134 HF jd ?_
 refine tj4 2 128 7 133 9 135 4 130 HF jd ?_
 refine tj 10 136 HF rfl jd ?_
 refine wpAnyH_newS (fuel := 4) (i := 0) (d := 126) (obj := .cells #[] 97) (v := .slice (some ⟨w6.drew.heap.size, 0, none⟩) 0 0) rfl ⟨rfl, rfl⟩ (by exact z12) (cls_but.box (r := g8) hg8 (fun o => ∃ V, o = some (.cells #[V, .int .i64 I, .int .i64 H, .int .i64 S, .int .i64 P] 32))) jd (by go_simp; try rfl) ?_
 intro hHeld2
 have hro := World.ownsRow_made (base := w6.heap.size) (e := 97) (size := 4) w6.drew #[] 0 nL (Nat.zero_le _) (by simp)
 revert jd hHeld2 hro
 exact zK.1) : P := h ⟨k⟩
theorem z181 {P : Prop} (h : P := by
 intro w7 h7 hg7 hS7
 refine z49 ?_
 have h87 : w7.heap[g8]? = some (.cells (wB A' (n - 1) c2 I H S P) 32) := h7
 have hO7 := own_other hown2 hV (by decide) hg7
 have hB7 := HX.out.trans ((HBw.out w7 hS7.1).mono HX.out.size)
 have xr7 := (hS7.1.block (w.heap.size + 1 + 1) (gL HR6.out) (by simp; omega)).trans HR6.out
 have b47 := (World.cell?_of_block (a := ⟨w.heap.size, 4, none⟩) (hS7.1.block _ (World.block_lt_of_cell? _ _ b4) (by simp; omega))).trans b4
 have d17 := (World.cell?_of_block (a := ⟨g9, 1, none⟩) (hS7.1.block _ (World.block_lt_of_cell? _ _ d1) (by simp; omega))).trans d1
 have h6le : w.heap.size ≤ w6.heap.size := by omega
 have nw6 : ∀ k : Nat, (Value.slice A' (n - 1) c2).ownBlock = some k → w6.heap.size ≤ k := fun k e => (World.ownsRow.lt hO7 k e).1
 clear jd hV hS7 hg7 h7 hS21 hown2 HF e0 e1 e2 e3 e4 ef b0 b1 b2 b3 b4 s0 s1 s2 s3 d0 d1
 obtain ⟨e0, e1, e2, e3, e4⟩ := cells5 h87
 have ef := fz h87
 have T2 := lh hO7
 have H89 := lh h87
 have XR9 := lh xr7
 have BB9 := lh hB7
 have NW := lh nw6
 clear hO7 h87 xr7 hB7 nw6
 go_upto_region 24 with fail
 refine z161 ?_
 intro w8 hw8'
 have hw8 : w8 = w7.setCell ⟨g8, 4, none⟩ (.int .i64 (wrap64 (P + f (i * 4 + 3)))) := hw8'
 clear hw8' e0 e1 e2 e3 e4 ef b47 d17
 have x8 : w8.heap[g8]? = some (.cells (wB A' (n - 1) c2 I H S (wrap64 (P + f (i * 4 + 3)))) 32) := by
  rw [hw8]
  exact heap_setCell_same _ g8 4 (wB A' (n - 1) c2 I H S P) 32 _ H89.out
 have xr : w8.heap[w.heap.size + 1 + 1]? = some (.cells (wB none 0 0 0 0 0 0) 32) := by
  rw [hw8, heap_setCell_other _ _ _ _ mg82]
  exact XR9.out
 have B7 : bW w w8 := by
  rw [hw8]
  exact BB9.out.setCell (show w.heap.size ≤ g8 by omega) _
 have t3 := ownsRow_setCell_other (a := ⟨g8, 4, none⟩) T2.out (fun e => by have h : w6.heap.size ≤ g8 := NW.out _ e; omega) (.int .i64 (wrap64 (P + f (i * 4 + 3))))
 rw [← hw8] at t3
 clear hw8 T2 H89 XR9 BB9
 have HO7 := lh t3
 have BB := lh B7
 clear t3 B7
 obtain ⟨e0, e1, e2, e3, e4⟩ := cells5 x8
 obtain ⟨r0, r1, r2, r3, r4⟩ := cells5 xr
 have rf := fz xr
 clear x8 xr
 go_wp2
 obtain ⟨wq, hwq⟩ : ∃ wq, wq = (((((w8.setCell ⟨w.heap.size + 1 + 1, 0, none⟩ (.slice A' (n - 1) c2)).setCell ⟨w.heap.size + 1 + 1, 1, none⟩ (.int .i64 I)).setCell ⟨w.heap.size + 1 + 1, 2, none⟩ (.int .i64 H)).setCell ⟨w.heap.size + 1 + 1, 3, none⟩ (.int .i64 S)).setCell ⟨w.heap.size + 1 + 1, 4, none⟩ (.int .i64 (wrap64 (P + f (i * 4 + 3))))) := ⟨_, rfl⟩
 rw [← hwq]
 have q0 : cE wq (w.heap.size + 1 + 1) 0 (.slice A' (n - 1) c2) := by rw [hwq]; go_simp
 have q1 : cI wq (w.heap.size + 1 + 1) 1 I := by rw [hwq]; go_simp
 have q2 : cI wq (w.heap.size + 1 + 1) 2 H := by rw [hwq]; go_simp
 have q3 : cI wq (w.heap.size + 1 + 1) 3 S := by rw [hwq]; go_simp
 have q4 : cI wq (w.heap.size + 1 + 1) 4 (wrap64 (P + f (i * 4 + 3))) := by rw [hwq]; go_simp
 refine z182 ?_
 intro hBq
 have no : ∀ j : Nat, (Value.slice A' (n - 1) c2).ownBlock ≠ some (⟨w.heap.size + 1 + 1, j, none⟩ : Addr).block := fun j e => by have h := NW.out _ e; have h2 : w6.heap.size ≤ w.heap.size + 1 + 1 := h; omega
 have hOq := (ownsRow_setCell_other (ownsRow_setCell_other (ownsRow_setCell_other (ownsRow_setCell_other (ownsRow_setCell_other HO7.out (no 0) (.slice A' (n - 1) c2)) (no 1) (.int .i64 I)) (no 2) (.int .i64 H)) (no 3) (.int .i64 S)) (no 4) (.int .i64 (wrap64 (P + f (i * 4 + 3)))))
 rw [← hwq] at hOq
 clear hwq HO7 BB
 refine z66 ?_
 refine z183 ?_
 rw [← HL.out]
 exact ⟨_, c2, rfl, hc1, hc2, ownsRow_monoP hOq h6le, hBq⟩) : P := h
theorem z182 {P Q : Prop} (k : Q) (h : ZK Q → P := by
 intro zK
 have hBq : bW w wq := by
  rw [hwq]
  exact (((((BB.out.setCell (show w.heap.size ≤ w.heap.size + 1 + 1 by omega) _).setCell (show w.heap.size ≤ w.heap.size + 1 + 1 by omega) _).setCell (show w.heap.size ≤ w.heap.size + 1 + 1 by omega) _).setCell (show w.heap.size ≤ w.heap.size + 1 + 1 by omega) _).setCell (show w.heap.size ≤ w.heap.size + 1 + 1 by omega) _)
 revert hBq
 exact zK.1) : P := h ⟨k⟩
theorem z183 {P Q : Prop} (k : Q) (h : ZK Q → P := by
 intro zK
 refine bodyPost_ret (by simp [results, Tryz.results156, go_sem, q0, q1, q2, q3, q4]; try rfl) rfl ?_
 exact zK.1) : P := h ⟨k⟩
theorem z184 {P Q : Prop} (k : Q) (h : ZK Q → P := by
 intro zK
 have hX : bW w (((w.alloc (.cells (wB A n c I H S P) 32)).alloc (.cells (iV kd id tt0 z) 107)).alloc (.cells (wB none 0 0 0 0 0 0) 32)) := (((Below.refl _ w).alloc nL _).alloc (by simp) _).alloc (by simp; omega) _
 have HX := lh hX
 clear hX
 revert HX
 exact zK.1) : P := h ⟨k⟩
theorem z185 {P Q : Prop} (k : Q) (h : ZK Q → P := by
 intro zK
 refine z186 ?_
 intro w1 A1 c1 hc1 hm1 hOw hb1 b0 b1 b2 b3 b4 s0 s1 s2 s3
 have hr1 : w1.heap[w.heap.size + 1 + 1]? = some (.cells (wB none 0 0 0 0 0 0) 32) := (hb1.block (w.heap.size + 1 + 1) (by simp)).trans (by have := heap_alloc_new ((w.alloc (.cells (wB A n c I H S P) 32)).alloc (.cells (iV kd id tt0 z) 107)) (.cells (wB none 0 0 0 0 0 0) 32); simpa using this)
 revert w1 A1 c1 hc1 hm1 hOw hb1 b0 b1 b2 b3 b4 s0 s1 s2 s3 hr1
 exact zK.1) : P := h ⟨k⟩
theorem z186 {P Q : Prop} (k : Q) (h : ZK Q → P := by
 intro zK
 refine (l25Own_any A n c lo hi f I H S P _ (hs.below HX.out) hn hnc hnone).mono ?_
 rintro e w1 ⟨A1, c1, rfl, hc1, hm1, hOw, hb1⟩
 obtain ⟨b0, b1, b2, b3, b4⟩ := cells5 (bx (g := w.heap.size) hb1)
 obtain ⟨s0, s1, s2, s3⟩ := cells4 (bx (g := w.heap.size + 1) hb1)
 revert w1 A1 c1 hc1 hm1 hOw hb1 b0 b1 b2 b3 b4 s0 s1 s2 s3
 exact zK.1) : P := h ⟨k⟩
theorem z187 {P Q : Prop} (k : Q) (h : ZK Q → P := by
 intro zK hb1 hr1
 have z1 := hb1.size
 simp only [World.size_alloc] at z1
 have B1 := HX.out.trans (hb1.mono HX.out.size)
 have hOw := ownsRow_monoP hOw (HX.out.size)
 clear hb1
 refine z159 ?_
 intro nz1 nz2 nz3 nz4 nz5 hR1 hB1
 have hO1 := lh hOw
 clear hr1 B1 hOw
 revert z1 nz1 nz2 nz3 nz4 nz5 hR1 hB1 hO1
 exact zK.1) : P := h ⟨k⟩
theorem z188 {P Q : Prop} (k : Q) (h : ZK Q → P := by
 intro zK
 have hOw := ownsRow_below hO1.out b12
 have now : ∀ k : Nat, (Value.slice A1 n c1).ownBlock = some k → k < w1.heap.size := fun k e => (World.ownsRow.lt hO1.out k e).2
 revert hOw now
 exact zK.1) : P := h ⟨k⟩
theorem z189 {P : Prop} (h : P := by
 refine bodyPost_ret (by simp [results, Tryz.results114, go_sem, r0, r1, r2, r3, r4]; try rfl) rfl ?_
 exact ⟨_, c2, by first | rfl | simp, hc2, hm2, hO9, hX9⟩) : P := h
theorem z190 {P : Prop} (h : P := by
 go_wp2
 go_returns
 exact ⟨rfl, (((Below.refl _ w).alloc nL _).alloc (by simp) _).alloc (by simp; omega) _⟩) : P := h
theorem z191 {P Q : Prop} (k : Q) (h : ZK Q → P := by
 intro zK
 have q2 : cI wq (w.heap.size + 1 + 1) 2 H := by rw [hwq]; go_simp
 have q3 : cI wq (w.heap.size + 1 + 1) 3 S := by rw [hwq]; go_simp
 have q4 : cI wq (w.heap.size + 1 + 1) 4 P := by rw [hwq]; go_simp
 refine z182 ?_
 intro hBq
 have no : ∀ j : Nat, (.slice (some ⟨ga, 0, none⟩) n c' : Value).ownBlock ≠ some (⟨w.heap.size + 1 + 1, j, none⟩ : Addr).block := fun j => by simp [Value.ownBlock, nga2]
 revert q2 q3 q4 hBq no
 exact zK.1) : P := h ⟨k⟩
theorem z192 {P : Prop} (h : P := by
 exact ⟨_, c', rfl, hnc', hcm', ownsRow_monoP hOq HX.out.size, hBq⟩) : P := h
theorem z193 {P Q : Prop} (k : Q) (h : ZK Q → P := by
 intro zK
 obtain ⟨wq, hwq⟩ : ∃ wq, wq = (((((w7.setCell ⟨w.heap.size + 1 + 1, 0, none⟩ (.slice (some ⟨ga, 0, none⟩) n c')).setCell ⟨w.heap.size + 1 + 1, 1, none⟩ (.int .i64 I)).setCell ⟨w.heap.size + 1 + 1, 2, none⟩ (.int .i64 H)).setCell ⟨w.heap.size + 1 + 1, 3, none⟩ (.int .i64 S)).setCell ⟨w.heap.size + 1 + 1, 4, none⟩ (.int .i64 P)) := ⟨_, rfl⟩
 revert wq hwq
 exact zK.1) : P := h ⟨k⟩
theorem z194 {P Q : Prop} (k : Q) (h : ZK Q → P := by
 intro zK HO7 BB hwq
 rw [← hwq]
 have q0 : cE wq (w.heap.size + 1 + 1) 0 (.slice (some ⟨ga, 0, none⟩) n c') := by rw [hwq]; go_simp
 have q1 : cI wq (w.heap.size + 1 + 1) 1 I := by rw [hwq]; go_simp
 refine z191 ?_
 intro q2 q3 q4 hBq no
 have hOq := (ownsRow_setCell_other (ownsRow_setCell_other (ownsRow_setCell_other (ownsRow_setCell_other (ownsRow_setCell_other HO7.out (no 0) (.slice (some ⟨ga, 0, none⟩) n c')) (no 1) (.int .i64 I)) (no 2) (.int .i64 H)) (no 3) (.int .i64 S)) (no 4) (.int .i64 P))
 rw [← hwq] at hOq
 clear hwq HO7 BB
 refine z66 ?_
 refine z183 ?_
 revert q0 q1 q2 q3 q4 hBq no hOq
 exact zK.1) : P := h ⟨k⟩
theorem z195 {P Q : Prop} (k : Q) (h : ZK Q → P := by
 intro zK
 have HF : Hid (∀ w', bW ((w.alloc (.cells (jV wt s) 95)).alloc (.cells (jV 0 0) 95)) w' → cI w' w.heap.size 0 wt ∧ cI w' w.heap.size 1 s) := fun w' hq => (cells2 (bx (g := w.heap.size) hq))
 have HV : Hid (IntKind.i64.wrap ((IntKind.i64.wrap (s * z)).tdiv (massV wt s)) = (partV wt s z)) := by
  show _ = _
  rw [IntWalk.i64_left, IntWalk.i64_left]
  rfl
 revert HF HV
 exact zK.1) : P := h ⟨k⟩
theorem z196 {P Q : Prop} (k : Q) (h : ZK Q → P := by
 intro zK HF HV jd
 have r0 := (jd.cell (p := ⟨w.heap.size + 1, 0, none⟩) (by simp)).trans (by go_simp : _ = some (.int .i64 0))
 have r1 := (jd.cell (p := ⟨w.heap.size + 1, 1, none⟩) (by simp)).trans (by go_simp : _ = some (.int .i64 0))
 have f0 : w2.frozen? ⟨w.heap.size + 1, 0, none⟩ = false := (jd.frozen (p := ⟨w.heap.size + 1, 0, none⟩) (by simp)).trans (by go_simp)
 have f1 : w2.frozen? ⟨w.heap.size + 1, 1, none⟩ = false := (jd.frozen (p := ⟨w.heap.size + 1, 1, none⟩) (by simp)).trans (by go_simp)
 have BX : bW w w2 := (((Below.refl _ w).alloc nL _).alloc (by simp) _).trans (jd.mono (by simp; omega))
 clear jd HF
 generalize IntKind.i64.wrap ((IntKind.i64.wrap (s * z)).tdiv (massV wt s)) = sv at *
 revert r0 r1 f0 f1 BX sv HV
 exact zK.1) : P := h ⟨k⟩
theorem z197 {P Q : Prop} (k : Q) (h : ZK Q → P := by
 intro zK
 obtain ⟨wq, hwq⟩ : ∃ wq, wq = ((w2.setCell ⟨w.heap.size + 1, 0, none⟩ (.int .i64 (wrap64 (z - sv)))).setCell ⟨w.heap.size + 1, 1, none⟩ (.int .i64 sv)) := ⟨_, rfl⟩
 rw [← hwq]
 have q0 : cI wq (w.heap.size + 1) 0 (wrap64 (z - sv)) := by rw [hwq]; go_simp
 have q1 : cI wq (w.heap.size + 1) 1 sv := by rw [hwq]; go_simp
 have hBq : bW w wq := by
  rw [hwq]
  exact (BX.setCell (show w.heap.size ≤ w.heap.size + 1 by omega) _).setCell (show w.heap.size ≤ w.heap.size + 1 by omega) _
 clear hwq
 revert wq q0 q1 hBq
 exact zK.1) : P := h ⟨k⟩
theorem z198 {P Q : Prop} (k : Q) (h : ZK Q → P := by
 intro zK
 have hpo : leadOk f i z = true := by simp [leadOk]; omega
 have hpf : leadF f i kk z = setB (setB f i (wrap64 (f (i * 4 + 2) - wrap64 (z - (partV (f (i * 4 + 2)) (f (i * 4 + 3)) z)))) (wrap64 (f (i * 4 + 3) - (partV (f (i * 4 + 2)) (f (i * 4 + 3)) z)))) kk (wrap64 (f (kk * 4 + 2) + wrap64 (z - (partV (f (i * 4 + 2)) (f (i * 4 + 3)) z)))) (wrap64 (f (kk * 4 + 3) + (partV (f (i * 4 + 2)) (f (i * 4 + 3)) z))) := by
  unfold leadF
  rw [if_pos hpo]
 have hm0 : massV (f (i * 4 + 2)) (f (i * 4 + 3)) ≠ 0 := by omega
 have HPO := lh hpo
 revert hpo hpf hm0 HPO
 exact zK.1) : P := h ⟨k⟩
theorem z199 {P Q : Prop} (k : Q) (h : ZK Q → P := by
 intro zK
 have hcurl : wl.heap[ga]? = some (.cells cur 97) := (hbl.block ga (gL hcur)).trans hcur
 revert hcurl
 exact zK.1) : P := h ⟨k⟩
theorem z200 {P : Prop} (h : P := by
 go_wp2_with (go_at_call 126; refine (l1In_any _ _ _ _).mono ?_; rintro e w2 ⟨rfl, rfl⟩)
 go_ret
 exact ⟨ret_bool (by rw [stV]; first | (simp [← HAT.out, c1, c2, c3, c4]; done) | (simp [← HAT.out, c1, c2, c3, c4]; intros; omega)), B1⟩) : P := h
theorem z201 {P : Prop} (h : P := by
 by_cases c3 : tt0 = 0
 ·skip
  have c3t : (tt0 == 0) = true := by simp [c3]
  by_cases c4 : 1 ≤ z
  ·skip
   exact z202
  ·skip
   exact z202
 exact z203) : P := h
theorem z202 {P : Prop} (h : P := by
 go_wp2_with (go_at_call 126; refine (l1In_any _ _ _ _).mono ?_; rintro e w2 ⟨rfl, rfl⟩)
 go_ret
 exact ⟨ret_bool (by rw [stV]; first | (simp [← HAT.out, c2, c3, c4]; done) | (simp [← HAT.out, c2, c3, c4]; intros; omega)), B1⟩) : P := h
theorem z203 {P : Prop} (h : P := by
 ·skip
  have c3f : (tt0 == 0) = false := by simp [c3]
  go_wp2_with (go_at_call 126; refine (l1In_any _ _ _ _).mono ?_; rintro e w2 ⟨rfl, rfl⟩)
  go_ret
  exact ⟨ret_bool (by rw [stV]; first | (simp [← HAT.out, c2, c3]; done) | (simp [← HAT.out, c2, c3]; intros; omega)), B1⟩) : P := h
theorem z204 {P : Prop} (h : P := by
 go_wp2_with (go_at_call 126; refine (l1In_any _ _ _ _).mono ?_; rintro e w2 ⟨rfl, rfl⟩)
 go_ret
 exact ⟨ret_bool (by rw [stV]; first | (simp [← HAT.out, c2]; done) | (simp [← HAT.out, c2]; intros; omega)), B1⟩) : P := h
theorem z205 {P : Prop} (h : P := by
 skip
 go_wp2_with (go_at_call 126; refine (l1In_any _ _ _ _).mono ?_; rintro e w2 ⟨rfl, rfl⟩)
 go_ret
 exact ⟨ret_bool (by rw [stV]; first | (simp [← HAT.out, ← HTK.out, c2, c3, c4, c5]; done) | (simp [← HAT.out, ← HTK.out, c2, c3, c4, c5]; intros; omega)), B1⟩) : P := h
theorem z206 {P : Prop} (h : P := by
 intro e w' hp
 refine ⟨_, _, _, _, _, _, fun _ => ⟨rfl, rfl, rfl, rfl, rfl, rfl⟩, ?_⟩
 simpa [mkOk, stM, stG, stL, stN, stI, stH, stS, stP, hz'] using hp) : P := h
theorem z207 {P Q : Prop} (k : Q) (h : ZK Q → P := by
 intro zK
 have hi' : i < n := by omega
 have ha : atN f n id = i := by simp [atN, hfd]
 revert hi' ha
 exact zK.1) : P := h ⟨k⟩
theorem z208 {P : Prop} (h : P := by
 refine h.mono ?_
 intro e w' hp
 refine ⟨_, _, _, _, _, _, fun _ => ⟨rfl, rfl, rfl, rfl, rfl, rfl⟩, ?_⟩
 simpa [mkOk, stM, stG, stL, stN, stI, stH, stS, stP, ha, hz'] using hp) : P := h
theorem z209 {P Q : Prop} (k : Q) (h : ZK Q → P := by
 intro zK hs
 have hX3 : bW w (((w.alloc (.cells (wB A n c I H S P) 32)).alloc (.cells (iV kd id tt0 z) 107)).alloc (.cells (wB none 0 0 0 0 0 0) 32)) := (((Below.refl _ w).alloc nL _).alloc (by simp) _).alloc (by simp; omega) _
 have HX := lh hX3
 clear hX3
 have HF : Hid (∀ w', bW (((w.alloc (.cells (wB A n c I H S P) 32)).alloc (.cells (iV kd id tt0 z) 107)).alloc (.cells (wB none 0 0 0 0 0 0) 32)) w' → cE w' w.heap.size 0 (.slice A n c) ∧ cI w' w.heap.size 1 I ∧ cI w' w.heap.size 2 H ∧ cI w' w.heap.size 3 S ∧ cI w' w.heap.size 4 P ∧ cI w' (w.heap.size + 1) 0 kd ∧ cI w' (w.heap.size + 1) 1 id ∧ cI w' (w.heap.size + 1) 2 tt0 ∧ cI w' (w.heap.size + 1) 3 z) := fun w' hq => ⟨(hq.cell (p := ⟨w.heap.size, 0, none⟩) (by simp; omega)).trans (by go_simp), (hq.cell (p := ⟨w.heap.size, 1, none⟩) (by simp; omega)).trans (by go_simp), (hq.cell (p := ⟨w.heap.size, 2, none⟩) (by simp; omega)).trans (by go_simp), (hq.cell (p := ⟨w.heap.size, 3, none⟩) (by simp; omega)).trans (by go_simp), (hq.cell (p := ⟨w.heap.size, 4, none⟩) (by simp; omega)).trans (by go_simp), cells4 (bx (g := w.heap.size + 1) hq)⟩
 have HSW : Hid (∀ w', bW (((w.alloc (.cells (wB A n c I H S P) 32)).alloc (.cells (iV kd id tt0 z) 107)).alloc (.cells (wB none 0 0 0 0 0 0) 32)) w' → Sl w' lo hi 4 A n f) := fun w' hq => hs.below (HX.out.trans (hq.mono HX.out.size))
 clear hs
 have hr3 : (((w.alloc (.cells (wB A n c I H S P) 32)).alloc (.cells (iV kd id tt0 z) 107)).alloc (.cells (wB none 0 0 0 0 0 0) 32)).heap[w.heap.size + 1 + 1]? = some (.cells (wB none 0 0 0 0 0 0) 32) := by have := heap_alloc_new ((w.alloc (.cells (wB A n c I H S P) 32)).alloc (.cells (iV kd id tt0 z) 107)) (.cells (wB none 0 0 0 0 0 0) 32); simpa using this
 have HR3 := lh hr3
 clear hr3
 revert HX HF HSW HR3
 exact zK.1) : P := h ⟨k⟩
theorem z210 {P Q : Prop} (k : Q) (h : ZK Q → P := by
 intro zK
 refine (l25Good_any A n c lo hi f I H S P _ (HSW.out _ (Below.refl _ _)) hn hnc).mono ?_
 rw [hg]
 rintro e w1 ⟨rfl, hb1⟩
 revert w1 hb1
 exact zK.1) : P := h ⟨k⟩
theorem z211 {P Q : Prop} (k : Q) (h : ZK Q → P := by
 intro zK
 have hr1 := (hb1.block (w.heap.size + 1 + 1) (gL HR3.out)).trans HR3.out
 have B1 := HX.out.trans (hb1.mono HX.out.size)
 revert hr1 B1
 exact zK.1) : P := h ⟨k⟩
theorem z212 {P Q : Prop} (k : Q) (h : ZK Q → P := by
 intro zK
 obtain ⟨wq, hwq⟩ : ∃ wq, wq = (((((w1.setCell ⟨w.heap.size + 1 + 1, 0, none⟩ (.slice none 0 0)).setCell ⟨w.heap.size + 1 + 1, 1, none⟩ (.int .i64 0)).setCell ⟨w.heap.size + 1 + 1, 2, none⟩ (.int .i64 0)).setCell ⟨w.heap.size + 1 + 1, 3, none⟩ (.int .i64 0)).setCell ⟨w.heap.size + 1 + 1, 4, none⟩ (.int .i64 0)) := ⟨_, rfl⟩
 revert wq hwq
 exact zK.1) : P := h ⟨k⟩
theorem z213 {P Q : Prop} (k : Q) (h : ZK Q → P := by
 intro zK hwq
 rw [← hwq]
 have u0 : cE wq (w.heap.size + 1 + 1) 0 (.slice none 0 0) := by rw [hwq]; go_simp
 have u1 : cI wq (w.heap.size + 1 + 1) 1 0 := by rw [hwq]; go_simp
 have u2 : cI wq (w.heap.size + 1 + 1) 2 0 := by rw [hwq]; go_simp
 have u3 : cI wq (w.heap.size + 1 + 1) 3 0 := by rw [hwq]; go_simp
 have u4 : cI wq (w.heap.size + 1 + 1) 4 0 := by rw [hwq]; go_simp
 refine z214 ?_
 intro hBq
 clear hwq
 refine z66 ?_
 revert u0 u1 u2 u3 u4 hBq
 exact zK.1) : P := h ⟨k⟩
theorem z214 {P Q : Prop} (k : Q) (h : ZK Q → P := by
 intro zK
 have hBq : bW w wq := by
  rw [hwq]
  exact (((((HBW.out.setCell (show w.heap.size ≤ w.heap.size + 1 + 1 by omega) _).setCell (show w.heap.size ≤ w.heap.size + 1 + 1 by omega) _).setCell (show w.heap.size ≤ w.heap.size + 1 + 1 by omega) _).setCell (show w.heap.size ≤ w.heap.size + 1 + 1 by omega) _).setCell (show w.heap.size ≤ w.heap.size + 1 + 1 by omega) _)
 revert hBq
 exact zK.1) : P := h ⟨k⟩
theorem z215 {P : Prop} (h : P := by
 refine bodyPost_ret (by simp [results, Tryz.results71, go_sem, u0, u1, u2, u3, u4]; try rfl) rfl ?_
 exact z216) : P := h
theorem z216 {P : Prop} (h : P := by
 first | exact stepPost_no hBq | (rw [hmk]; exact stepPost_no hBq)) : P := h
theorem z217 {P Q : Prop} (k : Q) (h : ZK Q → P := by
 intro zK
 go_enter Tryz.func169, Tryz.ntmps169
 have nga : ga ≠ g := by
  intro e
  subst e
  exact row_ne hO hg (by decide)
 have lg : g < w.heap.size := (gL hg)
 have lga := World.ownsRow.lt hO ga rfl
 have hnc : n ≤ c' ∧ c' ≤ maxLen := by
  obtain ⟨_, _, e, h1, h2⟩ := row_slice hO
  cases e
  exact ⟨h1, h2⟩
 have hncI : (n : Int) ≤ (c' : Int) := by omega
 refine z147 ?_
 intro hi0 hin
 revert nga lg lga hnc hncI hi0 hin
 exact zK.1) : P := h ⟨k⟩
theorem z218 {P Q : Prop} (k : Q) (h : ZK Q → P := by
 intro zK hg hO lg lga
 refine z161 ?_
 intro w1 hw1
 have hb1 : bW w w1 := by rw [hw1]; exact (Below.refl _ w).alloc nL _
 have hs1 := an hw1
 have hg1 := (hb1.block g lg).trans hg
 have hO1 := ownsRow_below hO hb1
 have hB1 : Below lo w w1 := hb1.mono (by omega)
 clear hw1 hg hO hb1
 have lg1 := (gL hg1)
 have ls1 := (gL hs1)
 have lw1 : lo ≤ w1.heap.size := by omega
 obtain ⟨s, hs⟩ : ∃ s, s = w.heap.size := ⟨_, rfl⟩
 rw [← hs] at hs1 lg lga ls1
 have ngs : g ≠ s := by omega
 have nsg : s ≠ g := by omega
 have nas : ga ≠ s := by omega
 have nsa : s ≠ ga := by omega
 have nga' : g ≠ ga := Ne.symm nga
 have hles : lo ≤ s := by omega
 have HS0 := lh hs
 clear hs
 obtain ⟨s0, s1, s2, s3⟩ := cells4 hs1
 obtain ⟨e0, e1, e2, e3, e4⟩ := cells5 hg1
 have ef := fz hg1
 have a2 : cI w1 ga (i * 4 + 2) (f (i * 4 + 2)) := by rw [World.ownsRow.cellAt hO1 (i * 4 + 2) (by omega), List.getElem?_map, cellsL_at f n _ (by omega)]; rfl
 have a3 : cI w1 ga (i * 4 + 3) (f (i * 4 + 3)) := by rw [World.ownsRow.cellAt hO1 (i * 4 + 3) (by omega), List.getElem?_map, cellsL_at f n _ (by omega)]; rfl
 have af : ∀ j, w1.frozen? ⟨ga, j, none⟩ = false := fun j => World.ownsRow.frozenAt hO1 j
 have HG1 := lh hg1
 have HO1 := lh hO1
 have HB1 := lh hB1
 clear hg1 hO1 hB1 hs1
 have hszS : w.heap.size = s := HS0.out.symm
 rw [hszS]
 clear hszS
 revert w1 lg1 lw1 s ls1 lga lg ngs nsg nas nsa nga' hles HS0 s0 s1 s2 s3 e0 e1 e2 e3 e4 ef a2 a3 af HG1 HO1 HB1
 exact zK.1) : P := h ⟨k⟩
theorem z219 {P Q : Prop} (k : Q) (h : ZK Q → P := by
 intro zK
 have HF : Hid (∀ w', w1.grownBy w' (some ga) → cI w' s 3 z ∧ cI w' g 1 I) := by
  intro w' hq
  exact ⟨(World.cell?_of_block (a := ⟨s, 3, none⟩) (hq.block _ (World.block_lt_of_cell? _ _ s3) (by simp; omega))).trans s3, (World.cell?_of_block (a := ⟨g, 1, none⟩) (hq.block _ (World.block_lt_of_cell? _ _ e1) (by simp; omega))).trans e1⟩
 revert HF
 exact zK.1) : P := h ⟨k⟩
theorem z220 {P : Prop} (h : P := by
 first | rfl | exact congrArg (Value.int .i64) (IntWalk.i64_left _)) : P := h
theorem z221 {P Q : Prop} (k : Q) (h : ZK Q → P := by
 intro zK
 have HF : Hid (∀ w', bW w1 w' → cE w' g 0 (.slice (some ⟨ga, 0, none⟩) n c') ∧ cI w' g 1 I ∧ cI w' g 2 H ∧ cI w' g 3 S ∧ cI w' g 4 P ∧ cI w' s 2 tt0 ∧ cI w' s 3 z ∧ cI w' ga (i * 4 + 2) (f (i * 4 + 2)) ∧ cI w' ga (i * 4 + 3) (f (i * 4 + 3))) := by
  intro w' hq
  exact ⟨kp hq e0, kp hq e1, kp hq e2, kp hq e3, kp hq e4, kp hq s2, kp hq s3, kp hq a2, kp hq a3⟩
 have HSL : Hid (∀ w', bW w1 w' → Sl w' lo w'.heap.size 4 (some ⟨ga, 0, none⟩) n f) := by
  intro w' hq
  obtain ⟨A0, c0, e0, _, _, h0⟩ := own_of_row (ownsRow_below HO1.out hq)
  cases e0
  exact (h0.congr (fun j hj => cellsL_getD _ n j hj)).sl
 revert HF HSL
 exact zK.1) : P := h ⟨k⟩
theorem z222 {P Q : Prop} (k : Q) (h : ZK Q → P := by
 intro zK s0 s1 s2 s3 e0 e1 e2 e3 e4 ef a2 a3 af HG1 HO1 HB1 HF HSL
 refine wp_region_held_drew (S := fun w' => bW (w1) w') (by exact z12) ((Below.refl _ _).drew) (fun jd => ?_)
 refine tj4 0 50 3 53 1 51 4 54 HF jd ?_
 refine tj 2 52 HF rfl jd ?_
 refine wpAnyH_ready (rs := [5]) (by exact z12) (by simp) ?_
 refine z44 ?_
 intro K hK
 (go_at_call 109; refine (panAt_any _ n c' lo _ f I H S P tt0 _ (HSL.out _ jd) (by omega) hnc.1).mono ?_; rw [hfk]; rintro e w2 ⟨rfl, hb2⟩)
 revert K hK hb2
 refine z45 ?_
 intro jd
 refine tj 6 9 HF rfl jd ?_
 refine z49 ?_
 have hg2 := (jd.block g (gL HG1.out)).trans HG1.out
 have hO2 := ownsRow_below HO1.out jd
 have hB2 := below_of HB1.out jd lw1
 have lw2 : lo ≤ w2.heap.size := Nat.le_trans lw1 jd.size
 have s22 := kp jd s2
 have s32 := kp jd s3
 clear jd HF HSL e0 e1 e2 e3 e4 ef a2 a3 af s0 s1 s2 s3 HG1 HO1 HB1
 obtain ⟨e0, e1, e2, e3, e4⟩ := cells5 hg2
 have ef := fz hg2
 have a2 : cI w2 ga (i * 4 + 2) (f (i * 4 + 2)) := by rw [World.ownsRow.cellAt hO2 (i * 4 + 2) (by omega), List.getElem?_map, cellsL_at f n _ (by omega)]; rfl
 have a3 : cI w2 ga (i * 4 + 3) (f (i * 4 + 3)) := by rw [World.ownsRow.cellAt hO2 (i * 4 + 3) (by omega), List.getElem?_map, cellsL_at f n _ (by omega)]; rfl
 have af : ∀ j, w2.frozen? ⟨ga, j, none⟩ = false := fun j => World.ownsRow.frozenAt hO2 j
 have HG2 := lh hg2
 have HO2 := lh hO2
 have HB2 := lh hB2
 clear hg2 hO2 hB2
 have HF : Hid (∀ w', bW w2 w' → cI w' s 3 z ∧ cI w' ga (i * 4 + 2) (f (i * 4 + 2)) ∧ cI w' ga (i * 4 + 3) (f (i * 4 + 3))) := by
  intro w' hq
  exact ⟨kp hq s32, kp hq a2, kp hq a3⟩
 revert jd w2 lw2 s22 s32 e0 e1 e2 e3 e4 ef a2 a3 af HG2 HO2 HB2 HF
 exact zK.1) : P := h ⟨k⟩
theorem z223 {P : Prop} (h : P := by
 have hB3 := below_of HB2.out jd lw2
 clear jd HF e0 e1 e2 e3 e4 ef a2 a3 af s22 s32 HG2 HO2 HB2
 go_wp2
 go_ret
 exact ⟨rfl, hB3⟩) : P := h
theorem z224 {P : Prop} (h : P := by
 have hw : Region.wanted o (yielded ops a.tmps) = true := by simp [Region.wanted, hg]
 rw [if_pos hw]
 unfold Oper.wp
 simp [execOp, hop, resolve, invoke, builtin, hd, hx, hr, Result.andThen]
 exact hK) : P := h
theorem z225 {P Q : Prop} (k : Q) (h : ZK Q → P := by
 intro zK htake hv
 have hcl : cur.toList.length = cap * 4 := by simpa using hcs
 obtain ⟨cs, hcsd⟩ : ∃ cs, cs = zs.map (Value.int .i64) := ⟨_, rfl⟩
 obtain ⟨vs, hvsd⟩ : ∃ vs, vs = news.map (Value.int .i64) := ⟨_, rfl⟩
 have hvl : vs.length = 4 := by rw [hvsd]; simpa using hnl
 have hl2 : cs.length = n * 4 := by rw [hcsd]; simpa using hzl
 have h1c : ∀ v ∈ cs, v.oneCell' = true := fun v hv => by rw [hcsd] at hv; obtain ⟨q, _, rfl⟩ := List.mem_map.1 hv; rfl
 have h1v : ∀ v ∈ vs, v.oneCell' = true := fun v hv => by rw [hvsd] at hv; obtain ⟨q, _, rfl⟩ := List.mem_map.1 hv; rfl
 rw [← hcsd] at htake
 rw [← hvsd] at hv
 refine z226 ?_
 intro hcell
 revert hcl cs htake hcsd vs hv hvsd hvl hl2 h1c h1v hcell
 exact zK.1) : P := h ⟨k⟩
theorem z226 {P Q : Prop} (k : Q) (h : ZK Q → P := by
 intro zK
 have hcell : ∀ j v, cs[j]? = some v → cE w g j v := fun j v hj => by
  rw [cell_of_row w g j cur _ (0, 0) hh]
  rw [← htake, List.getElem?_take] at hj
  split at hj
  ·simpa using hj
  ·cases hj
 revert hcell
 exact zK.1) : P := h ⟨k⟩
theorem z227 {P Q : Prop} (k : Q) (h : ZK Q → P := by
 intro zK
 have hcap63 : (cap : Int) ≤ 9223372036854775807 := by omega
 have hw1 : IntKind.i64.wrap ((i : Int) + 1) = (i : Int) + 1 := by rw [IntKind.wrap_i64]; omega
 have hwn : IntKind.i64.wrap ((n : Int) + 1) = (n : Int) + 1 := by rw [IntKind.wrap_i64]; omega
 revert hcap63 hw1 hwn
 exact zK.1) : P := h ⟨k⟩
theorem z228 {P : Prop} (h : P := by
 go_ret
 refine HPO.out _ ?_ ?_
 ·exact growI_trans (setRow_drew_grown w g C1) (setRow_grown _ g C2)
 ·exact setRow_heap _ g C1 C2 _ _ (setRow_heap w.drew g cur C1 _ _ HH.out)) : P := h
theorem z229 {P : Prop} (h : P := by
 have happX := happ w.drew hh (fun j u hj => hcellA j u hj)
 clear happ hcellA h1n hnl hz1 hi0 hC1
 have HH := lh hh
 clear hh hcs
 go_enter Tryz.func168, Tryz.ntmps168
 go_wp2_with fail
 go_region_law_o (refine step_append_runW rfl _ _ 30 rfl _ _ (by simp [Act.eval, Act.put]) (by simp [Act.eval, Act.put]) (happX _) ?_)
 have hclx := HCL.out (w.drew.setRow g C1) (setRow_heap w.drew g cur C1 _ _ HH.out)
 go_wp2
 exact z228) : P := h
theorem z230 {P Q : Prop} (k : Q) (h : ZK Q → P := by
 intro zK
 go_enter Tryz.func139, Tryz.ntmps139
 have lg : g < w.heap.size := (gL hg)
 have hnc : n ≤ c' ∧ c' ≤ maxLen := by
  obtain ⟨_, _, e, h1, h2⟩ := row_slice hO
  cases e
  exact ⟨h1, h2⟩
 have hncI : (n : Int) ≤ (c' : Int) := by omega
 revert lg hnc hncI
 exact zK.1) : P := h ⟨k⟩
theorem z231 {P Q : Prop} (k : Q) (h : ZK Q → P := by
 intro zK hg hO lg
 refine z161 ?_
 intro w1 hw1
 have hb1 : bW w w1 := by rw [hw1]; exact (Below.refl _ w).alloc nL _
 have hs1 := an hw1
 have hg1 := (hb1.block g lg).trans hg
 have hO1 := ownsRow_below hO hb1
 have hB1 : Below lo w w1 := hb1.mono (by omega)
 have low : ∀ k : Nat, (Value.slice A' n c').ownBlock = some k → lo ≤ k ∧ k < w.heap.size := fun k e => World.ownsRow.lt hO k e
 clear hw1 hg hO hb1
 obtain ⟨s, hs⟩ : ∃ s, s = w.heap.size := ⟨_, rfl⟩
 rw [← hs] at hs1 lg low
 have lg1 := (gL hg1)
 have ls1 := (gL hs1)
 have lw1 : lo ≤ w1.heap.size := by omega
 have ngs : g ≠ s := by omega
 have nsg : s ≠ g := by omega
 have hles : lo ≤ s := by omega
 have HS0 := lh hs
 clear hs
 obtain ⟨s0, s1, s2, s3⟩ := cells4 hs1
 obtain ⟨e0, e1, e2, e3, e4⟩ := cells5 hg1
 have ef := fz hg1
 have HG1 := lh hg1
 have HO1 := lh hO1
 have HB1 := lh hB1
 have HS1 := lh hs1
 clear hg1 hO1 hB1 hs1
 have hszS : w.heap.size = s := HS0.out.symm
 rw [hszS]
 clear hszS
 have HF : Hid (∀ w', bW w1 w' → cE w' g 0 (.slice A' n c') ∧ cI w' g 1 I ∧ cI w' g 2 H ∧ cI w' g 3 S ∧ cI w' g 4 P ∧ cI w' s 1 id) := by
  intro w' hq
  exact ⟨kp hq e0, kp hq e1, kp hq e2, kp hq e3, kp hq e4, kp hq s1⟩
 have HSL : Hid (∀ w', bW w1 w' → Sl w' lo w'.heap.size 4 A' n f) := by
  intro w' hq
  obtain ⟨A0, c0, e0, _, _, h0⟩ := own_of_row (ownsRow_below HO1.out hq)
  cases e0
  exact (h0.congr (fun j hj => cellsL_getD _ n j hj)).sl
 go_upto_region 1 with fail
 refine wp_region_held_drew (S := fun w' => bW (w1) w') (by exact z12) ((Below.refl _ _).drew) (fun jd => ?_)
 refine tj4 0 7 3 10 1 8 4 11 HF jd ?_
 refine tj 2 9 HF rfl jd ?_
 refine wpAnyH_ready (rs := [5]) (by exact z12) (by simp) ?_
 refine z44 ?_
 intro K hK
 (go_at_call 109; refine (panAt_any A' n c' lo _ f I H S P id _ (HSL.out _ jd) (by omega) hnc.1).mono ?_; rw [hfd]; rintro e w2 ⟨rfl, hb2⟩)
 revert K hK hb2
 refine z45 ?_
 intro jd
 refine tj 6 5 HF rfl jd ?_
 refine z49 ?_
 have hg2 := (jd.block g (gL HG1.out)).trans HG1.out
 have hs2 := (jd.block s (gL HS1.out)).trans HS1.out
 have hO2 := ownsRow_below HO1.out jd
 have hB2 := below_of HB1.out jd lw1
 have lw2 : lo ≤ w2.heap.size := Nat.le_trans lw1 jd.size
 have lgw2 : g < w2.heap.size := Nat.lt_of_lt_of_le lg1 jd.size
 have lsw2 : s < w2.heap.size := Nat.lt_of_lt_of_le ls1 jd.size
 clear jd HF HSL e0 e1 e2 e3 e4 ef s0 s1 s2 s3 HG1 HO1 HB1 HS1
 obtain ⟨e0, e1, e2, e3, e4⟩ := cells5 hg2
 have ef := fz hg2
 obtain ⟨s0, s1, s2, s3⟩ := cells4 hs2
 revert w1 s low lg lg1 ls1 lw1 ngs nsg hles HS0 jd w2 hg2 hs2 hO2 hB2 lw2 lgw2 lsw2 e0 e1 e2 e3 e4 ef s0 s1 s2 s3
 exact zK.1) : P := h ⟨k⟩
theorem z232 {P : Prop} (h : P := by
 clear e0 e1 e2 e3 e4 ef hg2 hO2 hs2
 have HB2 := lh hB2
 clear hB2
 have s0' := s0
 go_wp2
 go_ret
 exact ⟨rfl, HB2.out⟩) : P := h
theorem z233 {P : Prop} (h : P := by
 go_wp2
 go_ret
 exact ⟨ret_bool (by simp [c1, c2]), fun _ => ⟨A', c', HG.out, hnc.1, hnc.2, HO.out⟩, HB.out⟩) : P := h
theorem z234 {P : Prop} (h : P := by
 go_wp2_with fail
 refine (HPAN.out w2 ga HG2.out HO2.out).mono ?_
 rintro e w3 ⟨rfl, hyes, hb3⟩
 have hB3 : Below lo w w3 := HB2.out.trans hb3
 have HY := lh hyes
 have HB3 := lh hB3
 clear hyes hb3 hB3 HG2 HO2 HB2 HPAN
 go_wp2
 go_ret
 exact ⟨ret_bool (by simp), fun hb => ⟨_, c', (HY.out hb).1, hnc.1, hnc.2, (HY.out hb).2⟩, HB3.out⟩) : P := h
theorem z235 {P : Prop} (h : P := by
 go_wp2
 go_ret
 exact ⟨ret_bool (by simp [c1]), fun _ => ⟨A2, c2, HG5.out, h1, h2, by rw [HQ.out] at HO5; exact HO5.out⟩, HB5.out⟩) : P := h
theorem z236 {P Q : Prop} (k : Q) (h : ZK Q → P := by
 intro zK
 have hk0 : (0 : Int) ≤ (k : Int) := by omega
 revert hk0
 exact zK.1) : P := h ⟨k⟩
theorem z237 {P : Prop} (h : P := by
 ·clear HS HT
  go_wp2
  go_ret
  exact ⟨rfl, hbel⟩) : P := h
theorem z238 {P Q : Prop} (k : Q) (h : ZK Q → P := by
 intro zK
 obtain ⟨hX, h1, h2⟩ := bl2 w (.cells (cB A n c I H S P D Q z) 35) (.cells (cB none 0 0 0 0 0 0 ⟨#[]⟩ ⟨#[]⟩ 0) 35)
 revert hX h1 h2
 exact zK.1) : P := h ⟨k⟩
theorem z239 {P Q : Prop} (k : Q) (h : ZK Q → P := by
 intro zK hs hX h1 h2
 refine z161 ?_
 intro w1 hw1
 rw [← hw1] at hX h1 h2
 clear hw1
 obtain ⟨g1, hg1⟩ : ∃ q, w.heap.size = q := ⟨_, rfl⟩
 rw [hg1] at h1 h2
 try rw [hg1]
 obtain ⟨g2, hg2⟩ : ∃ q, g1 + 1 = q := ⟨_, rfl⟩
 rw [hg2] at h2
 try rw [hg2]
 have hne : g1 ≠ g2 := by omega
 have hle2 : w.heap.size ≤ g2 := by omega
 have HS1 := lh (hs.below hX)
 have HX := lh hX
 have H1 := lh h1
 have H2 := lh h2
 have HLE := lh hle2
 clear hg1 hg2 hs hX h1 h2 hle2
 have HF : Hid (∀ w', w1.grownBy w' (some g2) → _) := fun w' hq => cells8 (rowGr H1.out hq hne)
 refine wp_region_held_drew (S := fun w' => w1.grownBy w' (some g2)) (by exact z12) (but_stays w1 _ (grow_refl w1 (some g2)) ((Below.refl _ _).drew)) (fun jd => ?_)
 have hbd : bW w1 w1.drew := (Below.refl _ _).drew
 obtain ⟨v0, hv0⟩ : ∃ v, w1.drew = v := ⟨_, rfl⟩
 rw [hv0] at jd hbd ⊢
 clear hv0
 refine tj4 0 3 3 6 1 4 4 7 HF jd ?_
 refine wpAnyH_ready (rs := [2]) (by exact z12) (by simp) ?_
 refine z73 ?_
 intro K hK
 revert w1 g1 g2 hne HS1 HX H1 H2 HLE HF v0 hbd jd K hK
 exact zK.1) : P := h ⟨k⟩
theorem z240 {P Q : Prop} (k : Q) (h : ZK Q → P := by
 intro zK
 have hHeld2 := but_stays v0 v1 jd hbn
 refine hK.out _ _ hHeld2 (fun jd => ?_)
 revert hHeld2 jd
 exact zK.1) : P := h ⟨k⟩
theorem z241 {P Q : Prop} (k : Q) (h : ZK Q → P := by
 intro zK jd
 intro v3 hh hgw hHeld3
 clear jd
 have jd := hHeld3
 clear hHeld3
 revert v3 hh hgw jd
 exact zK.1) : P := h ⟨k⟩
theorem z242 {P Q : Prop} (k : Q) (h : ZK Q → P := by
 intro zK
 have HHR := lh hh
 have hOw := lh (own_other (ownsRow_monoP hown (show w.heap.size ≤ v0.heap.size by have := HX.out.size; have := hbd.size; omega)) hr2 (by decide) hgw)
 have hBw := lh (HX.out.grown jd HX.out.size (fun k hk => by cases hk; exact HLE.out))
 revert HHR hOw hBw
 exact zK.1) : P := h ⟨k⟩
theorem z243 {P Q : Prop} (k : Q) (h : ZK Q → P := by
 intro zK
 go_quiet (fail)
 have hHeldq : bW wr (wr.drewN nq) := below_drewN (Below.refl _ _) _
 generalize wr.drewN nq = wq at hHeldq ⊢
 have hbq : bW w2 wq := hbel.trans (hHeldq.mono hbel.size)
 have hgq := (hbq.block g lgw2).trans HG2.out
 have hsq := (hbq.block s lsw2).trans HS2.out
 have hOq := ownsRow_below HO2.out hbq
 have hBq := below_of HB2.out hbq lw2
 have lwq : lo ≤ wq.heap.size := Nat.le_trans lw2 hbq.size
 have lgq := (gL hgq)
 have lsq := (gL hsq)
 revert nq wq hHeldq hbq hgq hsq hOq hBq lwq lgq lsq
 exact zK.1) : P := h ⟨k⟩
theorem z244 {P Q : Prop} (k : Q) (h : ZK Q → P := by
 intro zK
 obtain ⟨e0, e1, e2, e3, e4⟩ := cells5 hgq
 have ef := fz hgq
 have HF : Hid (∀ w', (w'.heap[s]? = some (.cells (iV 1 id 0 z) 107 (0, 0)) ∧ Below lo wq w') → cI w' s 1 id ∧ cI w' s 3 z) := by
  rintro w' ⟨hs', _⟩
  exact ⟨by rw [cell_of_row w' s 1 _ _ (0, 0) hs']; rfl, by rw [cell_of_row w' s 3 _ _ (0, 0) hs']; rfl⟩
 revert e0 e1 e2 e3 e4 ef HF
 exact zK.1) : P := h ⟨k⟩
theorem z245 {P Q : Prop} (k : Q) (h : ZK Q → P := by
 intro zK hgq hsq hOq e0 e1 e2 e3 e4 ef HF jd hgW
 have hsW : (wq.drew.alloc (.cells (iV id z 0 0) 97)).heap[s]? = some (.cells (iV 1 id 0 z) 107 (0, 0)) := by rw [heap_alloc_old _ _ (show s < wq.drew.heap.size from lsq)]; exact hsq
 have hbW : bW wq (wq.drew.alloc (.cells (iV id z 0 0) 97)) := ((Below.refl _ wq).drew).alloc nL _
 have hOW := ownsRow_below hOq hbW
 have hvW : (wq.drew.alloc (.cells (iV id z 0 0) 97)).heap[wq.drew.heap.size]? = some (.cells (iV id z 0 0) 97) := heap_alloc_new _ _
 have hBW : Below lo wq (wq.drew.alloc (.cells (iV id z 0 0) 97)) := hbW.mono lwq
 have hzW : wq.heap.size < (wq.drew.alloc (.cells (iV id z 0 0) 97)).heap.size := by rw [World.size_alloc]; exact Nat.lt_succ_self _
 have hzq : wq.drew.heap.size = wq.heap.size := rfl
 rw [hzq] at hvW ⊢
 generalize wq.drew.alloc (.cells (iV id z 0 0) 97) = w3 at *
 clear jd HF e0 e1 e2 e3 e4 ef hzq
 have HO3 := lh hOW
 have HG3 := lh hgW
 have HS3 := lh hsW
 have HV3 := lh hvW
 clear hOW hgW hsW hvW hOq hgq hsq
 refine wpAnyH_ready (rs := [12]) (by exact z12) (by simp) ?_
 refine AllReadyH.cons rfl (fun K hK => ?_) AllReadyH.nil
 have HK := lh hK
 clear hK
 go_simp
 go_at_call 167
 revert w3 hbW hBW hzW HO3 HG3 HS3 HV3 K HK
 exact zK.1) : P := h ⟨k⟩
theorem z246 {P Q : Prop} (k : Q) (h : ZK Q → P := by
 intro zK hbW hBW HO3 HG3 HS3 HV3 K HK
 rintro e w4 ⟨v', rfl, ho4, hgr4⟩
 obtain ⟨A2, c2, rfl, h1, h2⟩ := row_slice ho4
 have hg4 := (hgr4.block g (gL HG3.out) (fun e => row_none_ne HO3.out HG3.out (by decide) e.symm)).trans HG3.out
 have hs4 := (hgr4.block s (gL HS3.out) (fun e => row_none_ne HO3.out HS3.out (by decide) e.symm)).trans HS3.out
 have hB4 : Below lo wq w4 := hBW.grown hgr4 (Nat.le_trans lwq (Nat.le_of_lt hzW)) (fun j0 hj0 => (hloq j0 hj0).1)
 refine HK.out.out _ _ ⟨hs4, hB4⟩ (fun jd => ?_)
 clear HK K HO3 HG3 HS3 HV3 hgr4 hBW hbW
 try simp only [Act.put, List.setIfInBounds_toArray, List.set_cons_zero, List.set_cons_succ]
 have HF : Hid (∀ w', (w'.heap[s]? = some (.cells (iV 1 id 0 z) 107 (0, 0)) ∧ Below lo wq w') → True) := fun _ _ => trivial
 refine tj2 13 63 14 64 HF jd ?_
 revert w4 A2 c2 ho4 h1 h2 hg4 hs4 hB4 jd HF
 exact zK.1) : P := h ⟨k⟩
theorem z247 {P : Prop} (h : P := by
 have hO5 := own_other ho4 hg4 (by decide) hg5'
 have hB5 := hBq.trans hS5.2
 clear jd HF hS5 hg5' hh5 hs4 hB4 ho4 hg4 hBq
 have HG5 := lh hg5
 have HO5 := lh hO5
 clear hg5 hO5
 go_wp2
 go_ret
 rw [HST.out]
 exact ⟨rfl, fun _ => ⟨A2, c2, HG5.out, h1, h2, HO5.out⟩, hB5⟩) : P := h
theorem z248 {P Q : Prop} (k : Q) (h : ZK Q → P := by
 intro zK
 refine (isWorks_any A n c lo hi f I H S P _ (HSW.out _ (Below.refl _ _)) hn hnc).mono ?_
 rw [hg]
 rintro e w1 ⟨rfl, hb1⟩
 revert w1 hb1
 exact zK.1) : P := h ⟨k⟩
theorem z249 {P Q : Prop} (k : Q) (h : ZK Q → P := by
 intro zK
 refine bodyPost_ret (by simp [results, Tryz.results95, go_sem, u0, u1, u2, u3, u4]; try rfl) rfl ?_
 exact zK.1) : P := h ⟨k⟩
theorem z250 {P : Prop} (h : P := by
 simp only [setB, upd]
 rw [if_neg h2, if_neg h1]) : P := h
theorem z251 {P Q : Prop} (k : Q) (h : ZK Q → P := by
 intro zK
 have hbz : w.heap.size < w3.heap.size := by have := B3.size; simp at this; omega
 have HF : Hid (∀ w', bW w3 w' → _) := fun w' hq => And.intro (kp hq b0) (And.intro (kp hq c1) (And.intro (kp hq c2) (kp hq c3)))
 revert hbz HF
 exact zK.1) : P := h ⟨k⟩
theorem z252 {P : Prop} (h : P := by
 simp [stV, exId, exTo, exZ] at hv
 simp only [rpOk, stN, stL, exId, exTo, exZ]
 simp
 exact find_keep (fun k hk => by rw [lf_cells _ _ (by omega), setB_0]) hv.1) : P := h
theorem z253 {P Q : Prop} (k : Q) (h : ZK Q → P := by
 intro zK HS
 refine (l25Good_any A n c lo hi f I H S P _ HS.out hn hnc).mono ?_
 rw [hg]
 rintro e w1 ⟨rfl, hb1⟩
 have HS1 := lh (HS.out.below hb1)
 obtain ⟨b0, b1, b2, b3, b4⟩ := cells5 (bx (g := w.heap.size) hb1)
 have hmade := World.ownsRow_made (base := (w.alloc (.cells (wB A n c I H S P) 32)).heap.size) (e := 3) (size := 1) (w.alloc (.cells (wB A n c I H S P) 32)) #[] 0 nL (Nat.zero_le _) (by simp)
 have hval : (Value.slice (some ⟨(w.alloc (.cells (wB A n c I H S P) 32)).heap.size, 0, none⟩) 0 0) = .slice (some ⟨w.heap.size + 1, 0, none⟩) 0 0 := by simp
 rw [hval] at hmade
 have HROW := lh (ownsRow_below hmade hb1)
 clear hmade hval
 have hB1 : bW (w.alloc (.cells (wB A n c I H S P) 32)) w1 := ((Below.refl _ (w.alloc (.cells (wB A n c I H S P) 32))).alloc nL _).trans (hb1.mono (by simp))
 have HBF := lh (BW.trans (hB1.mono BW.size))
 clear hb1 HS
 revert w1 HS1 b0 b1 b2 b3 b4 HROW hB1 HBF
 exact zK.1) : P := h ⟨k⟩
theorem z254 {P : Prop} (h : P := by
 intro a' w1' K hev hb hK
 have h1 : a'.eval (.tmp 21) = .agg (wB (some ⟨b, off, none⟩) n c I H S P) := (hev 21 (by decide)).trans rfl
 have h2 : a'.tmps[21]?.getD undef = .agg (wB (some ⟨b, off, none⟩) n c I H S P) := by simpa [Act.eval] using h1
 have h3 : a'.eval (.tmp 28) = .agg (iV 5 (f (i * 4)) 0 1) := (hev 28 (by decide)).trans rfl
 have h4 : a'.tmps[28]?.getD undef = .agg (iV 5 (f (i * 4)) 0 1) := by simpa [Act.eval] using h3
 have HK := lh hK
 have HSL := lh (HSW.out.below (below_of hB hb hB.size))
 clear hev h1 h3 hK HF
 go_simp
 go_at_call 114
 refine (l25Make_rake _ n c lo hi f I H S P (f (i * 4)) 0 1 i hlt w1' HSL.out hn hnc (by simp) HFD.out (by omega)).mono ?_
 rw [HOK.out]
 rintro e w2' ⟨A', c', rfl, _, _, _, hb2⟩
 exact HK.out _ w2' ⟨_, _, _, _, _, rfl⟩ hb2) : P := h
theorem z255 {P : Prop} (h : P := by
 clear HF h5 hg5 jd h6 l6
 have hO5 := lh (ownsRow_below HO.out hS5)
 have hB5 := below_of hB hS5 hB.size
 have hbs := hB5.size
 have z5 := kp hS5 z0
 have z6 := kp hS5 c0
 clear hS5 HO hB z0 c0
 go_wp2_with (at_builtin; refine wpList_append_int1 _ rfl _ _ 101 rfl (w.alloc (.cells (wB (some ⟨b, off, none⟩) n c I H S P) 32)).heap.size 3 Tryz.underlying101 infoIntP P' (f (i * 4)) _ rfl (hO5.out.alloc _) _ rfl (by simp) (by omega) (by simp; simp at hbs; omega) ?_; intro v' w6 hown6 _ hgrow6)
 go_roundw
 case rel => exact ⟨i + 1, by omega, by go_num, by rw [HPY.out HPB.out]; exact hown6, below_app (hB5.alloc hB5.size _) (hO5.out.alloc _) hgrow6⟩
 case measure => simp [intOf]; omega) : P := h
theorem z256 {P : Prop} (h : P := by
 clear HF h5 hg5 jd h6 l6
 have hO5 := ownsRow_below HO.out hS5
 have hB5 := below_of hB hS5 hB.size
 clear hS5 HO hB
 go_wp2
 go_roundw
 case rel => exact ⟨i + 1, by omega, by go_num, by rw [HPN.out HPB.out]; exact hO5, hB5⟩
 case measure => simp [intOf]; omega) : P := h
theorem z257 {P Q : Prop} (k : Q) (h : ZK Q → P := by
 intro zK
 obtain ⟨hX, h0⟩ := bl1 w (.cells (wB A n c I H S P) 32)
 have hS := hs.below hX
 revert hX h0 hS
 exact zK.1) : P := h ⟨k⟩
theorem z258 {P Q : Prop} (k : Q) (h : ZK Q → P := by
 intro zK
 go_enter Tryz.func96, Tryz.ntmps96
 exact zK.1) : P := h ⟨k⟩
theorem z259 {P Q : Prop} (k : Q) (h : ZK Q → P := by
 intro zK
 have x0 : cI w1 b1 o1 (g 0) := hc 0 (by omega)
 have HF : Hid (∀ w', bW w1 w' → _) := fun w' hq => And.intro (cells5 (rowC h0 hq)) (kp hq x0)
 have HX := lh hX
 have HS := lh hS
 have HT := lh (ht.below hX)
 revert x0 HF HX HS HT
 exact zK.1) : P := h ⟨k⟩
theorem z260 {P Q : Prop} (k : Q) (h : ZK Q → P := by
 intro zK
 refine tr 83 HF ?_
 refine tr 84 HF ?_
 refine tr 85 HF ?_
 refine tr 86 HF ?_
 exact zK.1) : P := h ⟨k⟩
theorem z261 {P : Prop} (h : P := by
 refine tr 6 HF ?_
 refine tr 7 HF ?_
 refine wpQuiet_nil (fun wq jd => ?_)
 go_wp2_with fail
 go_ret2
 exact ⟨(by rw [HK.out, HR.out, panX, hat.out]; try rfl), HX.out.trans (jd.mono HX.out.size)⟩) : P := h
theorem z262 {P Q : Prop} (k : Q) (h : ZK Q → P := by
 intro zK B hs hz ht hZ hS h0 hX eB
 subst eB
 refine z259 ?_
 intro x0 HF HX HS HT
 clear hX hS hZ h0 hs hz ht
 refine wp_region_class (C := fun w' => bW (w1) w') (by exact z12) (by exact z12) ((Below.refl _ _).drew) ?_
 revert x0 HF HX HS HT
 exact zK.1) : P := h ⟨k⟩
theorem z263 {P : Prop} (h : P := by
 refine tr 6 HF ?_
 refine tr 7 HF ?_
 refine wpQuiet_nil (fun wq jd => ?_)
 go_wp2_with fail
 go_ret2
 exact ⟨(by rw [HK.out, HR.out]; try rfl), HX.out.trans (jd.mono HX.out.size)⟩) : P := h
theorem z264 {P Q : Prop} (k : Q) (h : ZK Q → P := by
 intro zK
 have x1 : cI w1 b1 (o1 + 1) (g 1) := hc 1 (by omega)
 have HF : Hid (∀ w', bW w1 w' → _) := fun w' hq => And.intro (cells5 (rowC h0 hq)) (kp hq x1)
 have HX := lh hX
 have HS := lh hS
 have HT := lh (ht.below hX)
 revert x1 HF HX HS HT
 exact zK.1) : P := h ⟨k⟩
theorem z265 {P Q : Prop} (k : Q) (h : ZK Q → P := by
 intro zK hX h0 hS hZ
 refine z161 ?_
 intro w1 hw1
 rw [← hw1] at hX h0 hS hZ
 clear hw1
 have HX := lh hX
 have HT := lh (ht.below hX)
 obtain ⟨e0, e1, e2, e3, e4⟩ := cells5 h0
 clear h0 hX hS hZ
 revert w1 HX HT e0 e1 e2 e3 e4
 exact zK.1) : P := h ⟨k⟩
theorem z266 {P : Prop} (h : P := by
 rintro e w2 ⟨rfl, hb2⟩
 go_wp2_with fail
 go_ret2
 exact ⟨(by rw [HK.out, HR.out]; try rfl), HX.out.trans (hb2.mono HX.out.size)⟩) : P := h
theorem z267 {P : Prop} (h : P := by
 rintro e w3 ⟨rfl, hb3⟩
 go_wp2_with fail
 go_ret2
 exact ⟨(by rw [HK.out, HR.out]; try rfl), HX.out.trans ((below_of hb2 hb3 hb2.size).mono HX.out.size)⟩) : P := h
theorem z268 {P : Prop} (h : P := by
 have HMM := lh HM
 clear HM
 go_wp2_with fail
 refine HMM.out.mono ?_
 rintro e w2 ⟨Ar, cr, rfl, hcr, _, hor, hb2⟩
 have HT2 := lh (HT.out.below hb2)
 have HOR := lh hor
 clear hor
 go_wp2_with fail
 refine (listText_any Ar L.length cr _ _ _ w2 HOR.out.sl (by omega) hcr hsm.out HT2.out).mono ?_
 exact z267) : P := h
theorem z269 {P : Prop} (h : P := by
 refine tr 72 HF ?_
 refine tr 78 HF ?_
 refine tr 79 HF ?_
 refine tr 12 HF ?_
 refine tr 13 HF ?_
 refine wpQuiet_nil (fun wq jd => ?_)
 go_wp2_with fail
 refine (decimal_any 0 (by omega) (by omega) wq (HT.out.below jd)).mono ?_
 rintro e w2 ⟨rfl, hb2⟩
 go_wp2_with fail
 go_ret2
 exact ⟨(by rw [HK.out, HR.out]; try rfl), HX.out.trans ((below_of jd hb2 jd.size).mono HX.out.size)⟩) : P := h
theorem z270 {P Q : Prop} (k : Q) (h : ZK Q → P := by
 intro zK
 obtain ⟨hX, h0⟩ := bl1 w (.cells (iV 0 0 0 0) 107)
 have hZ := hz.below hX
 revert hX h0 hZ
 exact zK.1) : P := h ⟨k⟩
theorem z271 {P Q : Prop} (k : Q) (h : ZK Q → P := by
 intro zK h0 hX hc hZ
 have x0 : cI w1 b1 o1 (g 0) := hc 0 (by omega)
 have x1 : cI w1 b1 (o1 + 1) (g 1) := hc 1 (by omega)
 have HF : Hid (∀ w', bW w w' → cI w' b1 o1 (g 0) ∧ cI w' b1 (o1 + 1) (g 1)) := fun w' hq => by
  have hlt : b1 < w.heap.size := Nat.lt_of_lt_of_le hb1 hz.hi_le
  exact ⟨(hq.cell (p := ⟨b1, o1, none⟩) hlt).trans ((hX.cell (p := ⟨b1, o1, none⟩) hlt).symm.trans x0), (hq.cell (p := ⟨b1, o1 + 1, none⟩) hlt).trans ((hX.cell (p := ⟨b1, o1 + 1, none⟩) hlt).symm.trans x1)⟩
 refine wp_region_held_drew (S := fun w' => bW w w') (by exact z12) (hX.drew) (fun jd => ?_)
 obtain ⟨v0, hv0⟩ : ∃ v, w1.drew = v := ⟨_, rfl⟩
 have h9 : v0.heap[w.heap.size]? = some (.cells (iV 0 0 0 0) 107 (0, 0)) := by rw [← hv0]; exact h0
 rw [hv0] at jd ⊢
 clear hv0 h0 hX hZ hc x0 x1
 revert HF v0 jd h9
 exact zK.1) : P := h ⟨k⟩
theorem z272 {P Q : Prop} (k : Q) (h : ZK Q → P := by
 intro zK HF jd h9
 intro v3 hh hgw hS3
 obtain ⟨e0, e1, e2, e3⟩ := cells4 hh
 have HB := lh hS3
 clear hh hgw jd h9
 have jd := hS3
 refine tj 8 5 HF rfl jd ?_
 clear hS3 jd HF
 revert v3 e0 e1 e2 e3 HB
 exact zK.1) : P := h ⟨k⟩
theorem z273 {P : Prop} (h : P := by
 refine bodyPost_ret (by simp [results, Tryz.results94, go_sem, e0, e1, e2, e3]; try rfl) rfl ?_
 exact ⟨rfl, HB.out⟩) : P := h
theorem z274 {P : Prop} (h : P := by
 clear hu
 obtain ⟨b1, o1, eB, _, hb1, hc⟩ := (hz).here (by omega)
 subst eB
 have x0 : cI w b1 o1 (g 0) := hc 0 (by omega)
 have hb2 : b1 < w.heap.size := Nat.lt_of_lt_of_le hb1 hz.hi_le
 have hb3 : b1 ≠ w.heap.size := by omega
 have x1 : cI (w.alloc (.cells (iV 0 0 0 0) 107)) b1 o1 (g 0) := by rw [World.cell?_alloc_old _ _ _ hb3]; exact x0
 clear hc hz
 go_enter Tryz.func94, Tryz.ntmps94
 go_wp2
 refine bodyPost_ret (by simp [results, Tryz.results94, go_sem]; try rfl) rfl ?_
 exact ⟨rfl, (Below.refl _ w).alloc nL _⟩) : P := h
theorem z275 {P Q : Prop} (k : Q) (h : ZK Q → P := by
 intro zK
 rw [hh, Bool.true_and, Bool.eq_iff_iff, decide_eq_true_eq, decide_eq_true_eq]
 exact zK.1) : P := h ⟨k⟩
theorem z276 {P : Prop} (h : P := by
 ·intro hm
  rcases cmd_cases hm with ⟨hm, hu, hc⟩ | ⟨hm, hu, hc⟩ | ⟨hm, hu, hc⟩ | ⟨hm, hu, hc⟩ | ⟨hm, hu, hc⟩ | ⟨hm, hu, hc⟩ | ⟨hm, hu, hc⟩ | ⟨hm, hu, hc⟩ | ⟨hm, hu, hc⟩ | ⟨hm, hu, hc⟩ | ⟨hm, hu, hc⟩ | ⟨hm, hu, hc⟩ | ⟨hm, hu, hc⟩ | ⟨hm, hu, hc⟩
  all_goals first | (exfalso; revert hu; decide +kernel) | omega) : P := h
theorem z277 {P : Prop} (h : P := by
 simpa [isStep, exId, exTo, exZ] using hq) : P := h
theorem z278 {P : Prop} (h : P := by
 rw [hc]
 have hq := stepFor_no u (by rw [hu]; exact z11) (by rw [hu]; exact z11) (by rw [hu]; exact z11) (by rw [hu]; exact z11) (by rw [hu]; exact z11) (by rw [hu]; exact z11) (by rw [hu]; exact z11) B m d w
 exact z277) : P := h
theorem z279 {P : Prop} (h : P := by
 obtain ⟨q, cur, e1, h1, h2, h3, h4⟩ := h.here hn
 have := h.hi_le
 exact ⟨q, cur, e1, h1, h2, (hg.block q (by omega) (by simp; omega)).trans h3, h4⟩) : P := h
theorem z280 {P Q : Prop} (k : Q) (h : ZK Q → P := by
 intro zK hB
 have h2 := rowC H2.out hB
 have h4 := rowC H4.out hB
 obtain ⟨e0, e1, e2, e3, e4⟩ := cells5 h2
 have HBW := lh hB
 have HOW := lh (ownsRow_below HO.out hB)
 clear hB h2
 revert h4 e0 e1 e2 e3 e4 HBW HOW
 exact zK.1) : P := h ⟨k⟩
theorem z281 {P Q : Prop} (k : Q) (h : ZK Q → P := by
 intro zK
 (with_reducible refine wpList_isStore ?_)
 exact zK.1) : P := h ⟨k⟩
theorem z282 {P Q : Prop} (k : Q) (h : ZK Q → P := by
 intro zK
 refine wL0 g4 (wB A n c I H S P) 32 infoWorks h4 ?_
 exact zK.1) : P := h ⟨k⟩
theorem z283 {P Q : Prop} (k : Q) (h : ZK Q → P := by
 intro zK h4
 intro wq hq hgw
 have HQR := lh hq
 have hBq : bW w wq := by
  obtain ⟨l1, l2, l3⟩ := HLT.out
  exact (HX.out.trans (HBW.out.mono HX.out.size)).grown hgw (HX.out.trans (HBW.out.mono HX.out.size)).size (fun k hk => by cases hk; omega)
 have hOq := own_other HOW.out h4 (by decide) hgw
 have HQ := lh hBq
 have HOQ := lh hOq
 clear hBq hOq hq hgw h4
 revert wq HQR HQ HOQ
 exact zK.1) : P := h ⟨k⟩
theorem z284 {P Q : Prop} (k : Q) (h : ZK Q → P := by
 intro zK
 refine ret_cell3 Tryz.results49 rfl rfl rfl Tryz.underlying32 HQR.out infoWorks rfl ?_
 exact zK.1) : P := h ⟨k⟩
theorem z285 {P : Prop} (h : P := by
 have HB3 := lh hB3
 have HO3 := lh hO3
 clear hB3 hO3 hown3 hgrow3
 go_wp2
 go_roundw
 case rel => exact ⟨j + 1, by omega, by go_num, HO3.out, HOK, HB3.out⟩
 case measure => simp [intOf]; omega) : P := h
theorem z286 {P Q : Prop} (k : Q) (h : ZK Q → P := by
 intro zK
 refine tr 81 HF ?_
 refine tr 88 HF ?_
 refine tr 89 HF ?_
 refine tr 20 HF ?_
 refine tr 21 HF ?_
 refine wpQuiet_nil (fun wq jd => ?_)
 have hB := HBW0.out.trans (jd.mono HBW0.out.size)
 have h15 := rowC H15.out jd
 have hOq := ownsRow_below HOW.out jd
 revert wq jd hB h15 hOq
 exact zK.1) : P := h ⟨k⟩
theorem z287 {P Q : Prop} (k : Q) (h : ZK Q → P := by
 intro zK h4
 intro wz hq hgw
 have HQR := lh hq
 have hBq : bW w wz := by
  obtain ⟨l1, l2, l3⟩ := HLT.out
  exact (HX.out.trans (HBQ.out.mono HX.out.size)).grown hgw (HX.out.trans (HBQ.out.mono HX.out.size)).size (fun k hk => by cases hk; omega)
 have hOz := own_other HOQ0.out h4 (by decide) hgw
 have HQ := lh hBq
 have HOQ := lh hOz
 clear hBq hOz hq hgw h4
 revert wz HQR HQ HOQ
 exact zK.1) : P := h ⟨k⟩
theorem z288 {P : Prop} (h : P := by
 ·rw [List.getD_eq_getElem?_getD, List.getElem?_eq_none (by omega)]
  exact Nat.zero_le _) : P := h
theorem z289 {P Q : Prop} (k : Q) (h : ZK Q → P := by
 intro zK hs hX h0 hS
 refine z161 ?_
 intro w1 hw1
 rw [← hw1] at hX h0 hS
 clear hw1
 obtain ⟨e0, e1, e2, e3, e4⟩ := cells5 h0
 have HX := lh hX
 have HS := lh hS
 clear hX hS h0 hs
 revert w1 e0 e1 e2 e3 e4 HX HS
 exact zK.1) : P := h ⟨k⟩
theorem z290 {P : Prop} (h : P := by
 rintro e w2 ⟨rfl, hb2⟩
 go_wp2_with fail
 go_returns
 exact ⟨(by simp [rpR]; try rfl), HX.out.trans (hb2.mono HX.out.size)⟩) : P := h
theorem z291 {P : Prop} (h : P := by
 have HMM := lh HM
 clear HM
 go_wp2_with fail
 refine HMM.out.mono ?_
 rintro e w2 ⟨Ar, cr, rfl, hcr, _, hor, hb2⟩
 have HOR := lh hor
 clear hor
 go_wp2_with fail
 refine (l28List_any Ar L.length cr _ _ _ w2 HOR.out.sl (by omega) hcr hsm.out).mono ?_
 rintro e w3 ⟨rfl, hb3⟩
 go_wp2_with fail
 go_returns
 exact ⟨(by rw [HR.out]; try rfl), HX.out.trans ((below_of hb2 hb3 hb2.size).mono HX.out.size)⟩) : P := h
theorem z292 {P Q : Prop} (k : Q) (h : ZK Q → P := by
 intro zK
 have e1 : (exL (lf L) n I H S P c x0 x1 x2) = L := by rw [exL, hgo]; exact hLL
 have e2 : (exN (lf L) n I H S P c x0 x1 x2) = n := by rw [exN, hgo]; rfl
 have e3 : (exI (lf L) n I H S P c x0 x1 x2) = I := by rw [exI, hgo]; rfl
 have e4 : (exH (lf L) n I H S P c x0 x1 x2) = H := by rw [exH, hgo]; rfl
 have e5 : (exS (lf L) n I H S P c x0 x1 x2) = S := by rw [exS, hgo]; rfl
 have e6 : (exP (lf L) n I H S P c x0 x1 x2) = P := by rw [exP, hgo]; rfl
 revert e1 e2 e3 e4 e5 e6
 exact zK.1) : P := h ⟨k⟩
theorem z293 {P Q : Prop} (k : Q) (h : ZK Q → P := by
 intro zK
 have e1 : (exL (lf L) n I H S P c x0 x1 x2) = L1 := by rw [exL, hgo, v1]; rfl
 have e2 : (exN (lf L) n I H S P c x0 x1 x2) = n1 := by rw [exN, hgo, v2]; rfl
 have e3 : (exI (lf L) n I H S P c x0 x1 x2) = I1 := by rw [exI, hgo, v3]; rfl
 have e4 : (exH (lf L) n I H S P c x0 x1 x2) = H1 := by rw [exH, hgo, v4]; rfl
 have e5 : (exS (lf L) n I H S P c x0 x1 x2) = S1 := by rw [exS, hgo, v5]; rfl
 have e6 : (exP (lf L) n I H S P c x0 x1 x2) = P1 := by rw [exP, hgo, v6]; rfl
 revert e1 e2 e3 e4 e5 e6
 exact zK.1) : P := h ⟨k⟩
theorem z294 {P Q : Prop} (k : Q) (h : ZK Q → P := by
 intro zK
 have hLl : L.length = n * 4 := by simpa using hO.1
 have HLL := lh (cellsL_lf hLl)
 have hn6 := con_len hg
 clear hLl
 revert HLL hn6
 exact zK.1) : P := h ⟨k⟩
theorem z295 {P Q : Prop} (k : Q) (h : ZK Q → P := by
 intro zK
 refine z161 ?_
 intro w3 hw3
 have hb := ba hw3
 have h6 := an hw3
 clear hw3
 obtain ⟨g6, hg6⟩ : ∃ q, w2.heap.size = q := ⟨_, rfl⟩
 revert w3 hb h6 g6 hg6
 exact zK.1) : P := h ⟨k⟩
theorem z296 {P Q : Prop} (k : Q) (h : ZK Q → P := by
 intro zK
 refine wL0 g4 (cB A n cp I H S P D Q z) 35 infoConE h4 ?_
 exact zK.1) : P := h ⟨k⟩
theorem z297 {P Q : Prop} (k : Q) (h : ZK Q → P := by
 intro zK
 refine ret_cell2 Tryz.results87 rfl rfl Tryz.underlying35 HHR.out infoConE rfl ?_
 exact zK.1) : P := h ⟨k⟩
theorem z298 {P Q : Prop} (k : Q) (h : ZK Q → P := by
 intro zK
 have h2 := H2.out
 obtain ⟨e0, e1, e2, e3, e4, e5, e6, e7⟩ := cells8 h2
 clear h2
 revert e0 e1 e2 e3 e4 e5 e6 e7
 exact zK.1) : P := h ⟨k⟩
theorem z299 {P Q : Prop} (k : Q) (h : ZK Q → P := by
 intro zK
 have HF : Hid (∀ w', w5.grownBy w' (some g4) → _) := fun w' hq => And.intro (cells8 (rowGr H8.out hq (Ne.symm hn48))) (And.intro (cells5 (rowGr H6.out hq (Ne.symm hn46))) (cells4 (rowGr H3.out hq hn34)))
 refine wp_region_held_drew (S := fun w' => w5.grownBy w' (some g4)) (by exact z12) (but_stays w5 _ (grow_refl w5 (some g4)) ((Below.refl _ _).drew)) (fun jd => ?_)
 have hbd : bW w5 w5.drew := (Below.refl _ _).drew
 obtain ⟨v0, hv0⟩ : ∃ v, w5.drew = v := ⟨_, rfl⟩
 rw [hv0] at jd hbd ⊢
 clear hv0
 revert HF v0 hbd jd
 exact zK.1) : P := h ⟨k⟩
theorem z300 {P Q : Prop} (k : Q) (h : ZK Q → P := by
 intro zK
 refine z73 ?_
 intro K hK
 refine (HC.out v0 hbd).mono ?_
 rintro e v1 ⟨rfl, hbn⟩
 have hr4 := rowC (rowC H4.out hbd) hbn
 have hOv := ownsRow_below (ownsRow_below HON.out hbd) hbn
 have hBv := (HB.out.trans (hbd.mono HB.out.size)).trans (hbn.mono (Nat.le_trans HB.out.size hbd.size))
 refine z240 ?_
 intro hHeld2 jd
 clear hK K hHeld2
 revert v1 hbn hr4 hOv hBv jd
 exact zK.1) : P := h ⟨k⟩
theorem z301 {P Q : Prop} (k : Q) (h : ZK Q → P := by
 intro zK
 have HHR := lh hh
 have HBZ := lh (hBv.grown hgw hBv.size (fun k hk => by cases hk; exact HLE.out))
 have HOZ := lh (own_other hOv hr4 (by decide) hgw)
 revert HHR HBZ HOZ
 exact zK.1) : P := h ⟨k⟩
theorem z302 {P Q : Prop} (k : Q) (h : ZK Q → P := by
 intro zK
 have hq := mk_yes (D := D) (Q := Q) (z := z) HI.out HCC.out HSO.out HVV.out HR.out hnc1 HOZ.out HBZ.out
 revert hq
 exact zK.1) : P := h ⟨k⟩
theorem z303 {P Q : Prop} (k : Q) (h : ZK Q → P := by
 intro zK
 obtain ⟨hX, h2, h4⟩ := bl2 w (.cells (cB A n cp I H S P D Q z) 35) (.cells (cB none 0 0 0 0 0 0 ⟨#[]⟩ ⟨#[]⟩ 0) 35)
 revert hX h2 h4
 exact zK.1) : P := h ⟨k⟩
theorem z304 {P Q : Prop} (k : Q) (h : ZK Q → P := by
 intro zK hO hbase hX h2 h4
 revert hX h2 h4
 refine z305 ?_
 intro w1 hX g2 h2 hg2 g4 h4 hg4
 have HLE := lh (show w.heap.size ≤ g4 by omega)
 have hn24 : g2 ≠ g4 := by omega
 have HO := lh (ownsRow_below hO hX)
 have HX := lh hX
 have H2 := lh h2
 have H4 := lh h4
 have hb1 := Nat.le_trans hbase hX.size
 clear hO hX h2 h4 hbase
 obtain ⟨e0, e1, e2, e3, e4, e5, e6, e7⟩ := cells8 H2.out
 revert w1 g2 hg2 g4 hg4 HLE hn24 HO HX H2 H4 hb1 e0 e1 e2 e3 e4 e5 e6 e7
 exact zK.1) : P := h ⟨k⟩
theorem z305 {P Q : Prop} (k : Q) (h : ZK Q → P := by
 intro zK hX h2 h4
 refine z161 ?_
 intro w1 hw1
 rw [← hw1] at hX h2 h4
 clear hw1
 obtain ⟨g2, hg2⟩ : ∃ q, w.heap.size = q := ⟨_, rfl⟩
 rw [hg2] at h2 h4
 try rw [hg2]
 obtain ⟨g4, hg4⟩ : ∃ q, g2 + 1 = q := ⟨_, rfl⟩
 rw [hg4] at h4
 try rw [hg4]
 revert w1 hX g2 h2 hg2 g4 h4 hg4
 exact zK.1) : P := h ⟨k⟩
theorem z306 {P Q : Prop} (k : Q) (h : ZK Q → P := by
 intro zK HO HX H2 H4 e0 e1 e2 e3 e4 e5 e6 e7
 rintro e w2 hp
 obtain ⟨A1, c1, n1, L1, I1, H1, S1, P1, r, rfl, hown, hb, hre⟩ := rf_open hp
 clear hp e0 e1 e2 e3 e4 e5 e6 e7
 have HRE := lh hre
 have HOW := lh hown
 have HB := lh (HX.out.trans (hb.mono HX.out.size))
 have h4 := rowC H4.out hb
 clear hre hown hb H4 HX HO H2
 revert w2 A1 c1 n1 L1 I1 H1 S1 P1 r HRE HOW HB h4
 exact zK.1) : P := h ⟨k⟩
theorem z307 {P Q : Prop} (k : Q) (h : ZK Q → P := by
 intro zK
 refine wL0 g4 (cB A1 n1 c1 I1 H1 S1 P1 D Q z) 35 infoConE h4 ?_
 exact zK.1) : P := h ⟨k⟩
theorem z308 {P Q : Prop} (k : Q) (h : ZK Q → P := by
 intro zK
 intro wz hh hgw
 have HHR := lh hh
 have HBZ := lh (HB.out.grown hgw HB.out.size (fun k hk => by cases hk; exact HLE.out))
 revert wz hh hgw HHR HBZ
 exact zK.1) : P := h ⟨k⟩
theorem z309 {P Q : Prop} (k : Q) (h : ZK Q → P := by
 intro zK
 refine ret_cell2 Tryz.results85 rfl rfl Tryz.underlying35 HHR.out infoConE rfl ?_
 exact zK.1) : P := h ⟨k⟩
theorem z310 {P : Prop} (h : P := by
 exact HRE.out _ _ HOZ.out HBZ.out) : P := h
theorem z311 {P : Prop} (h : P := by
 go_wp2_with fail
 go_meet
 case rel => exact z10) : P := h
theorem z312 {P : Prop} (h : P := by
 have H2 := lh h2
 clear HTD HLE h2
 go_wp2_with fail
 go_meet
 case rel => exact ⟨by rw [H2.out], rfl⟩) : P := h
theorem z313 {P : Prop} (h : P := by
 go_wp2_with fail
 go_ret2
 exact ⟨by rw [hp.out]; rfl, Below.refl _ _⟩) : P := h
theorem z314 {P : Prop} (h : P := by
 clear hE
 go_wp2_with fail
 go_ret2
 exact ⟨by rw [hp.out]; rfl, hb1⟩) : P := h
theorem z315 {P Q : Prop} (k : Q) (h : ZK Q → P := by
 intro zK
 have HGO : Hid (exGo (lf L) n I H S P cc x0 x1 x2 = false) := by show _ = _; rw [HC0.out]; rfl
 have HER : Hid (exR (lf L) n I H S P cc x0 x1 x2 = ⟨#[63]⟩) := by show _ = _; rw [HC0.out]; exact exR_none rfl
 revert HGO HER
 exact zK.1) : P := h ⟨k⟩
theorem z316 {P Q : Prop} (k : Q) (h : ZK Q → P := by
 intro zK
 intro wz hh hgw
 have HHR := lh hh
 have HBZ := lh (HBW.out.grown hgw HBW.out.size (fun k hk => by cases hk; exact HLE.out))
 have HOZ := lh (own_other HOW.out h4 (by decide) hgw)
 clear hh hgw
 revert wz HHR HBZ HOZ
 exact zK.1) : P := h ⟨k⟩
theorem z317 {P Q : Prop} (k : Q) (h : ZK Q → P := by
 intro zK
 refine ret_cell2 Tryz.results44 rfl rfl Tryz.underlying35 HHR.out infoConE rfl ?_
 exact zK.1) : P := h ⟨k⟩
theorem z318 {P Q : Prop} (k : Q) (h : ZK Q → P := by
 intro zK
 have hq := rf_no (D := D) (Q := Q) (z := z) (x0 := x0) (x1 := x1) (x2 := x2) (c := cc) HGO.out HER.out HLL.out hnc HOZ.out HBZ.out
 revert hq
 exact zK.1) : P := h ⟨k⟩
theorem z319 {P Q : Prop} (k : Q) (h : ZK Q → P := by
 intro zK
 refine wp_region_held_drew (S := fun w' => wr.grownBy w' (some g4)) (by exact z12) (but_stays wr _ (grow_refl wr (some g4)) ((Below.refl _ _).drew)) (fun jd => ?_)
 have hbd : bW wr wr.drew := (Below.refl _ _).drew
 obtain ⟨v0, hv0⟩ : ∃ v, wr.drew = v := ⟨_, rfl⟩
 rw [hv0] at jd hbd ⊢
 clear hv0
 revert v0 hbd jd
 exact zK.1) : P := h ⟨k⟩
theorem z320 {P Q : Prop} (k : Q) (h : ZK Q → P := by
 intro zK K hK
 have hr4 := rowC (rowC H4w.out hbd) hbn
 have hBv := (HXw.out.trans (hbd.mono HXw.out.size)).trans (hbn.mono (Nat.le_trans HXw.out.size hbd.size))
 refine z240 ?_
 intro hHeld2 jd
 clear hK K hHeld2
 revert hr4 hBv jd
 exact zK.1) : P := h ⟨k⟩
theorem z321 {P : Prop} (h : P := by
 obtain ⟨q, cur, e1, u1, u2, u3, u4⟩ := HON.out.here (by omega)
 cases e1
 rw [h, H4w.out] at u3
 cases u3) : P := h
theorem z322 {P Q : Prop} (k : Q) (h : ZK Q → P := by
 intro zK An HON eN
 have hbn1 := Nat.lt_of_lt_of_le hbn0 HON.out.hi_le
 subst eN
 have N0 : Hid (cI wr bn on_ x0) := by
  have h := hcn 0 (by omega)
  rw [HX0.out]
  exact h
 have N1 : Hid (cI wr bn (on_ + 1) x1) := by
  have h := hcn 1 (by omega)
  rw [HX1.out]
  exact h
 revert hbn1 HON N0 N1
 exact zK.1) : P := h ⟨k⟩
theorem z323 {P Q : Prop} (k : Q) (h : ZK Q → P := by
 intro zK
 have hb := Below.refl wr.heap.size wr
 have h2 := rowC H2w.out hb
 have h4 := rowC H4w.out hb
 obtain ⟨e0, e1, e2, e3, e4, e5, e6, e7⟩ := cells8 h2
 have hBW := HXw.out.trans (hb.mono HXw.out.size)
 have hOW := ownsRow_below HOw.out hb
 have HBW := lh hBW
 have HOW := lh hOW
 clear h2 hb hBW hOW
 revert h4 e0 e1 e2 e3 e4 e5 e6 e7 HBW HOW
 exact zK.1) : P := h ⟨k⟩
theorem z324 {P : Prop} (h : P := by
 clear h0 hX
 go_wp2_with fail
 refine HL.out.mono ?_
 rintro e w3 ⟨rfl, hb⟩
 have hX := below_of HX.out hb HX.out.size
 go_wp2
 go_ret
 exact ⟨ret_bool (by simp [hg]), hX⟩) : P := h
theorem z325 {P Q : Prop} (k : Q) (h : ZK Q → P := by
 intro zK
 have e1 : xcL f n I H S P D Q z s = cellsL f n := by rw [xcL, hup]; rfl
 have e2 : xcN f n I H S P D Q z s = n := by rw [xcN, hup]; rfl
 have e3 : xcI f n I H S P D Q z s = I := by rw [xcI, hup]; rfl
 have e4 : xcH f n I H S P D Q z s = H := by rw [xcH, hup]; rfl
 have e5 : xcS f n I H S P D Q z s = S := by rw [xcS, hup]; rfl
 have e6 : xcP f n I H S P D Q z s = P := by rw [xcP, hup]; rfl
 revert e1 e2 e3 e4 e5 e6
 exact zK.1) : P := h ⟨k⟩
theorem z326 {P Q : Prop} (k : Q) (h : ZK Q → P := by
 intro zK
 obtain ⟨hX, h2, h4⟩ := bl2 w (.cells (cB A n c I H S P D Q z) 35) (.cells (cB none 0 0 0 0 0 0 ⟨#[]⟩ ⟨#[]⟩ 0) 35)
 revert hX h2 h4
 exact zK.1) : P := h ⟨k⟩
theorem z327 {P Q : Prop} (k : Q) (h : ZK Q → P := by
 intro zK
 have H4' := lh (rowC H4.out hb)
 have HB' := lh (HB.out.trans (hb.mono HB.out.size))
 revert H4' HB'
 exact zK.1) : P := h ⟨k⟩
theorem z328 {P Q : Prop} (k : Q) (h : ZK Q → P := by
 intro zK
 have h4 := rowC H4.out hb
 have hB := HB.out.trans (hb.mono HB.out.size)
 have hown := ownsRow_monoP hown HB.out.size
 revert h4 hB hown
 exact zK.1) : P := h ⟨k⟩
theorem z329 {P Q : Prop} (k : Q) (h : ZK Q → P := by
 intro zK
 refine wpList_store2 g4 0 (.agg (cB A' n c' I H S P D Q z)) 35 _ (cB A' n c' I H S P D Q z) rfl rfl infoConE h4 (Nat.le_refl 8) (by exact z143) rfl ?_
 exact zK.1) : P := h ⟨k⟩
theorem z330 {P Q : Prop} (k : Q) (h : ZK Q → P := by
 intro zK h4 hB hown
 intro wz hh hgw
 have HHR := lh hh
 have HBZ := lh (hB.grown hgw hB.size (fun k hk => by cases hk; exact HLE.out.2))
 have HOZ := lh (own_other hown h4 (by decide) hgw)
 clear hh hgw hB hown h4
 revert wz HHR HBZ HOZ
 exact zK.1) : P := h ⟨k⟩
theorem z331 {P Q : Prop} (k : Q) (h : ZK Q → P := by
 intro zK
 refine ret_cell2 Tryz.results12 rfl rfl Tryz.underlying35 HHR.out infoConE rfl ?_
 exact zK.1) : P := h ⟨k⟩
theorem z332 {P Q : Prop} (k : Q) (h : ZK Q → P := by
 intro zK
 refine (copyConsole_any A n c lo hi f I H S P D Q z w3 (HS.out.below HB.out) hn hnc hnone).mono ?_
 exact zK.1) : P := h ⟨k⟩
theorem z333 {P : Prop} (h : P := by
 exact exec_no (by rw [xcGo, HGC.out, HGR.out]; simp [HZ6.out]) (by rw [xcR, HGC.out, HGR.out, if_pos HZ6.out]; rfl) hc' HOZ.out HBZ.out) : P := h
theorem z334 {P Q : Prop} (k : Q) (h : ZK Q → P := by
 intro zK hsw K hK hb
 have hHeld2 := jd.trans (hb.mono jd.size)
 refine hK.out _ _ hHeld2 (fun jd => ?_)
 clear hK K hHeld2 hb hsw
 refine tj4 5 32 6 38 7 39 8 40 HF jd ?_
 revert jd
 exact zK.1) : P := h ⟨k⟩
theorem z335 {P Q : Prop} (k : Q) (h : ZK Q → P := by
 intro zK
 have hHeld2 := jd.alloc jd.size (.cells (wB none 0 0 0 0 0 0) 32)
 have hgle := jd.size
 revert hHeld2 hgle
 exact zK.1) : P := h ⟨k⟩
theorem z336 {P Q : Prop} (k : Q) (h : ZK Q → P := by
 intro zK jd hHeld3
 have hh : v9.heap[g7]? = some (.cells (wB A1 n1 c1 I1 H1 S1 P1) 32 (0, 0)) := hh
 have hown1 := own_other hown1 hg (by decide) hgw
 clear jd
 have jd := hHeld3
 clear hHeld3
 refine tj2 11 8 12 9 HF jd ?_
 revert hh hown1 jd
 exact zK.1) : P := h ⟨k⟩
theorem z337 {P : Prop} (h : P := by
 have HHH := lh hh
 have HOW := lh hown1
 have HVV := lh hv
 have HLD := lh jd
 have HGL := lh hgle
 clear hh hown1 hgw jd hg hv hgle HF
 go_wp2_with fail
 go_meet
 case rel => exact ⟨g7, A1, c1, L1, n1, I1, H1, S1, P1, r1, rfl, rfl, by rw [← HOK.out]; rfl, HGL.out, HHH.out, fun h => HVV.out (by rw [← h, ← HOK.out]; rfl), hnc1, HOW.out, HLD.out⟩) : P := h
theorem z338 {P Q : Prop} (k : Q) (h : ZK Q → P := by
 intro zK
 have H4' := lh (rowC H4.out hb)
 have H6' := lh (rowC H6.out hb)
 have HB' := lh (HB.out.trans (hb.mono HB.out.size))
 revert H4' H6' HB'
 exact zK.1) : P := h ⟨k⟩
theorem z339 {P : Prop} (h : P := by
 by_cases hl : 200 < r0.size
 ·have hli : (200 : Int) < (r0.size : Int) := by omega
  go_wp2_with fail
  go_meet
  case rel => exact ⟨by rw [decide_eq_true hl], rfl⟩
 ·have hli : ¬ ((200 : Int) < (r0.size : Int)) := by omega
  go_wp2_with fail
  go_meet
  case rel => exact ⟨by rw [decide_eq_false hl], rfl⟩) : P := h
theorem z340 {P : Prop} (h : P := by
 by_cases hl : 200 < r0.size
 ·have e : Hid (longV r0 = ⟨#[108, 111, 110, 103]⟩) := by show _ = _; rw [longV, if_pos hl]
  rw [decide_eq_true hl]
  go_wp2_with fail
  go_meet
  case rel => exact ⟨by rw [e.out], rfl⟩
 ·have e : Hid (longV r0 = r0) := by show _ = _; rw [longV, if_neg hl]
  rw [decide_eq_false hl]
  go_wp2_with fail
  go_meet
  case rel => exact ⟨by rw [e.out], rfl⟩) : P := h
theorem z341 {P Q : Prop} (k : Q) (h : ZK Q → P := by
 intro zK
 have hup : xcUp f n I H S P D Q z s = xcA f n I H S P s := by rw [xcUp, hgo, Bool.true_and]
 revert hup
 exact zK.1) : P := h ⟨k⟩
theorem z342 {P : Prop} (h : P := by
 refine z343 ?_
 intro h1 h2
 exact rfl) : P := h
theorem z343 {P Q : Prop} (k : Q) (h : ZK Q → P := by
 intro zK
 have h1 : cR s = 0 := by rw [cR, ha]; rfl
 have h2 : xcA f n I H S P s = false := by rw [xcA, ha]; rfl
 rw [h1, h2]
 revert h1 h2
 exact zK.1) : P := h ⟨k⟩
theorem z344 {P Q : Prop} (k : Q) (h : ZK Q → P := by
 intro zK
 have h1 : cR s = cV s := by rw [cR, ha]; rfl
 rw [h1, xcA, ha, Bool.true_and]
 revert h1
 exact zK.1) : P := h ⟨k⟩
theorem z345 {P Q : Prop} (k : Q) (h : ZK Q → P := by
 intro zK
 refine ret_cell2 Tryz.results10 rfl rfl Tryz.underlying35 HHR.out infoConE rfl ?_
 exact zK.1) : P := h ⟨k⟩
theorem z348 {P Q : Prop} (k : Q) (h : ZK Q → P := by
 intro zK hC
 refine nameW0 ?_
 intro w0 hw0
 have h2 := an hw0
 have hC0 : Cur w0 g A n c p := by rw [hw0]; exact hC.alloc _
 have hF : Fr g (g + 1) w w0 := by rw [hw0]; exact Fr.of_below g (g + 1) ((Below.refl _ w).alloc nL _)
 have hg2 : g < w.heap.size := hC.lt
 clear hw0 hC
 revert w0 h2 hC0 hF hg2
 exact zK.1) : P := h ⟨k⟩
theorem z349 {P Q : Prop} (k : Q) (h : ZK Q → P := by
 intro zK
 have hne : w.heap.size ≠ b3 := by omega
 have hne2 : b3 ≠ w.heap.size := by omega
 revert hne hne2
 exact zK.1) : P := h ⟨k⟩
theorem z350 {P : Prop} (h : P := by
 clear hwq
 refine bodyPost_ret (by simp [results, Tryz.results69, go_sem, q0, q1]; try rfl) rfl ?_
 exact ⟨_, _, rfl, by omega, by omega, hCq, hFq⟩) : P := h
theorem z351 {P : Prop} (h : P := by
 clear hwq
 refine z352 ?_
 have hbd : D.size + P.size ≤ 61000 := by omega
 first | exact ⟨D, P, _, rfl, hbd, hCq, hFq⟩ | exact ⟨D, P, ⟨_, rfl⟩, hbd, hCq, hFq⟩) : P := h
theorem z352 {P Q : Prop} (k : Q) (h : ZK Q → P := by
 intro zK
 refine bodyPost_ret (by simp [results, Tryz.results104, go_sem, q0, q1, q2]; try rfl) rfl ?_
 exact zK.1) : P := h ⟨k⟩
end Go.Proofs.YtpndjhelpoenpaaGreatDoor
