/-
  Texts of this claim, merged.
-/
import Derived.Test.YtpndjhelpoenpaaGreatDoorZC18
import Derived.Lib.JoinLaws
import Derived.Deep.OwnRows
import Derived.Lib.SplitLaws
set_option linter.unusedVariables false
set_option linter.unusedSimpArgs false
set_option maxRecDepth 100000
set_option maxHeartbeats 8000000
namespace Go.Proofs.YtpndjhelpoenpaaGreatDoor
open Go.RowKit
theorem grow_refl (w : World) (r : Option Nat) : w.grownBy w r := ⟨rfl, rfl, rfl, Nat.le_refl _, fun _ _ _ => rfl⟩
theorem grow_trans {a b c : World} {r : Option Nat} (h : a.grownBy b r) (k : b.grownBy c r) : a.grownBy c r :=
 ⟨k.os.trans h.os, k.tape.trans h.tape, k.output.trans h.output, Nat.le_trans h.size k.size, fun i hi hr => (k.block i (Nat.lt_of_lt_of_le hi h.size) hr).trans (h.block i hi hr)⟩
theorem infoConE : (Tryz.prog.info? 35).map (·.size) = some 8 := by kernel_rfl
theorem infoLogE : (Tryz.prog.info? 33).map (·.size) = some 3 := by kernel_rfl
def conPost (w : World) (f : Nat → Int) (n : Nat) (I H S P : Int) (D Q : ByteArray) (z : Int) (e : Ending) (w' : World) : Prop :=
 ∃ A' c', e = .returned (.agg #[.slice A' n c', .int .i64 I, .int .i64 H, .int .i64 S, .int .i64 P, .string D, .string Q, .int .i64 z]) ∧ n ≤ c' ∧ w'.ownsRow w.heap.size 97 4 (.slice A' n c') n ((cellsL f n).map (Value.int .i64)) ∧ Below w.heap.size w w'
theorem copyConsole_any (A : Option Addr) (n c lo hi : Nat) (f : Nat → Int) (I H S P : Int) (D Q : ByteArray) (z : Int) (w : World) (hs : Sl w lo hi 4 A n f) (hn : n ≤ 1048576) (hnc : n ≤ c) (hnone : A = none → n = 0 ∧ c = 0) :
  Calls Tryz.prog 47 #[.agg #[.slice A n c, .int .i64 I, .int .i64 H, .int .i64 S, .int .i64 P, .string D, .string Q, .int .i64 z]] w (conPost w f n I H S P D Q z) := by
 obtain ⟨hX, h1, h2⟩ := bl2 w (.cells #[.slice A n c, .int .i64 I, .int .i64 H, .int .i64 S, .int .i64 P, .string D, .string Q, .int .i64 z] 35) (.cells #[.slice none 0 0, .int .i64 0, .int .i64 0, .int .i64 0, .int .i64 0, .string ⟨#[]⟩, .string ⟨#[]⟩, .int .i64 0] 35)
 go_enter Tryz.func47, Tryz.ntmps47
 go_upto_region 1 with fail
 refine name_wp ?_
 intro w1 hw1
 rw [← hw1] at hX h1 h2
 clear hw1
 obtain ⟨g1, hg1⟩ : ∃ q, w.heap.size = q := ⟨_, rfl⟩
 rw [hg1] at h1 h2
 try rw [hg1]
 obtain ⟨g2, hg2⟩ : ∃ q, g1 + 1 = q := ⟨_, rfl⟩
 rw [hg2] at h2
 try rw [hg2]
 have hne : g1 ≠ g2 := by omega
 have hle2 : w.heap.size ≤ g2 := by omega
 have HS1 := lh (hs.below hX)
 have HX := lh hX
 have H1 := lh h1
 have H2 := lh h2
 have HLE := lh hle2
 clear hg1 hg2 hs hX h1 h2 hle2
 have HF : Hid (∀ w', w1.grownBy w' (some g2) → _) := fun w' hq => cells8 (rowGr H1.out hq hne)
 refine wp_region_held_drew (S := fun w' => w1.grownBy w' (some g2)) (by kernel_rfl) (but_stays w1 _ (grow_refl w1 (some g2)) ((Below.refl _ _).drew)) (fun jd => ?_)
 have hbd : Below w1.heap.size w1 w1.drew := (Below.refl _ _).drew
 obtain ⟨v0, hv0⟩ : ∃ v, w1.drew = v := ⟨_, rfl⟩
 rw [hv0] at jd hbd ⊢
 clear hv0
 refine tj4 0 3 3 6 1 4 4 7 HF jd ?_
 refine wpAnyH_ready (rs := [2]) (by kernel_rfl) (by simp) ?_
 refine (AllReadyH.cons rfl (fun K hK => ?_) AllReadyH.nil)
 go_simp
 refine (copyWorks_any A n c lo hi f I H S P v0 (HS1.out.below hbd) hn hnc hnone).mono ?_
 rintro e v1 ⟨A', c', rfl, hc', _, hown, hbn⟩
 have hr2 := rowC (rowC H2.out hbd) hbn
 have hHeld2 := but_stays v0 v1 jd hbn
 refine hK.out _ _ hHeld2 (fun jd => ?_)
 clear hK K hHeld2
 refine tj 5 8 HF rfl jd ?_
 refine wS0 6 g2 #[.slice A' n c', .int .i64 I, .int .i64 H, .int .i64 S, .int .i64 P, .string D, .string Q, .int .i64 z] 35 infoConE (hr2) (fun w' hg' => grow_trans jd hg') ?ks
 case ks =>
  intro v3 hh hgw hHeld3
  clear jd
  have jd := hHeld3
  clear hHeld3
  refine wpAnyH_done (by kernel_rfl) ?_ _
  have HHR := lh hh
  have hOw := lh (own_other (ownsRow_monoP hown (show w.heap.size ≤ v0.heap.size by have := HX.out.size; have := hbd.size; omega)) hr2 (by decide) hgw)
  have hBw := lh (HX.out.grown jd HX.out.size (fun k hk => by cases hk; exact HLE.out))
  clear hown hr2 hgw hh jd hbn hbd
  go_wp2
  try simp only [Exit.inBlock, Exit.then]
  refine ret_cell1 Tryz.results47 rfl Tryz.underlying35 HHR.out infoConE rfl ?_
  exact ⟨A', c', rfl, hc', hOw.out, hBw.out⟩
theorem l28Own_any (A : Option Addr) (n c lo hi : Nat) (f : Nat → Int) (I H S P : Int) (D Q : ByteArray) (z : Int) (w : World) (hs : Sl w lo hi 4 A n f) (hn : n ≤ 1048576) (hnc : n ≤ c) (hnone : A = none → n = 0 ∧ c = 0) :
  Calls Tryz.prog 41 #[.agg #[.slice A n c, .int .i64 I, .int .i64 H, .int .i64 S, .int .i64 P, .string D, .string Q, .int .i64 z]] w (conPost w f n I H S P D Q z) := by
 obtain ⟨hX, h1, h2⟩ := bl2 w (.cells #[.slice A n c, .int .i64 I, .int .i64 H, .int .i64 S, .int .i64 P, .string D, .string Q, .int .i64 z] 35) (.cells #[.slice none 0 0, .int .i64 0, .int .i64 0, .int .i64 0, .int .i64 0, .string ⟨#[]⟩, .string ⟨#[]⟩, .int .i64 0] 35)
 go_enter Tryz.func41, Tryz.ntmps41
 go_upto_region 1 with fail
 refine name_wp ?_
 intro w1 hw1
 rw [← hw1] at hX h1 h2
 clear hw1
 obtain ⟨g1, hg1⟩ : ∃ q, w.heap.size = q := ⟨_, rfl⟩
 rw [hg1] at h1 h2
 try rw [hg1]
 obtain ⟨g2, hg2⟩ : ∃ q, g1 + 1 = q := ⟨_, rfl⟩
 rw [hg2] at h2
 try rw [hg2]
 have hne : g1 ≠ g2 := by omega
 have hle2 : w.heap.size ≤ g2 := by omega
 have HS1 := lh (hs.below hX)
 have HX := lh hX
 have H1 := lh h1
 have H2 := lh h2
 have HLE := lh hle2
 clear hg1 hg2 hs hX h1 h2 hle2
 have HF : Hid (∀ w', w1.grownBy w' (some g2) → _) := fun w' hq => cells8 (rowGr H1.out hq hne)
 refine wp_region_held_drew (S := fun w' => w1.grownBy w' (some g2)) (by kernel_rfl) (but_stays w1 _ (grow_refl w1 (some g2)) ((Below.refl _ _).drew)) (fun jd => ?_)
 have hbd : Below w1.heap.size w1 w1.drew := (Below.refl _ _).drew
 obtain ⟨v0, hv0⟩ : ∃ v, w1.drew = v := ⟨_, rfl⟩
 rw [hv0] at jd hbd ⊢
 clear hv0
 refine tj4 0 3 3 6 1 4 4 7 HF jd ?_
 refine wpAnyH_ready (rs := [2]) (by kernel_rfl) (by simp) ?_
 refine (AllReadyH.cons rfl (fun K hK => ?_) AllReadyH.nil)
 go_simp
 refine (l25Own_any A n c lo hi f I H S P v0 (HS1.out.below hbd) hn hnc hnone).mono ?_
 rintro e v1 ⟨A', c', rfl, hc', _, hown, hbn⟩
 have hr2 := rowC (rowC H2.out hbd) hbn
 have hHeld2 := but_stays v0 v1 jd hbn
 refine hK.out _ _ hHeld2 (fun jd => ?_)
 clear hK K hHeld2
 refine tj 5 8 HF rfl jd ?_
 refine wS0 6 g2 #[.slice A' n c', .int .i64 I, .int .i64 H, .int .i64 S, .int .i64 P, .string D, .string Q, .int .i64 z] 35 infoConE (hr2) (fun w' hg' => grow_trans jd hg') ?ks
 case ks =>
  intro v3 hh hgw hHeld3
  clear jd
  have jd := hHeld3
  clear hHeld3
  refine wpAnyH_done (by kernel_rfl) ?_ _
  have HHR := lh hh
  have hOw := lh (own_other (ownsRow_monoP hown (show w.heap.size ≤ v0.heap.size by have := HX.out.size; have := hbd.size; omega)) hr2 (by decide) hgw)
  have hBw := lh (HX.out.grown jd HX.out.size (fun k hk => by cases hk; exact HLE.out))
  clear hown hr2 hgw hh jd hbn hbd
  go_wp2
  try simp only [Exit.inBlock, Exit.then]
  refine ret_cell1 Tryz.results41 rfl Tryz.underlying35 HHR.out infoConE rfl ?_
  exact ⟨A', c', rfl, hc', hOw.out, hBw.out⟩
attribute [local go_sem ↓] Go.wp_at_zero Go.wp_at_succ
def joinK (g : Nat → Int) : Nat → ByteArray
 | 0 => ⟨#[]⟩
 | 1 => numB (g 0)
 | k + 2 => (joinK g (k + 1) ++ ⟨#[32]⟩) ++ numB (g (k + 1))
def listB (g : Nat → Int) (n : Nat) : ByteArray := if n = 0 then ⟨#[110, 111, 110, 101]⟩ else joinK g n
theorem joinK_one (g : Nat → Int) : joinK g 1 = numB (g 0) := rfl
theorem joinK_next {g : Nat → Int} {k : Nat} (h : 1 ≤ k) : joinK g (k + 1) = (joinK g k ++ ⟨#[32]⟩) ++ numB (g k) := by
 obtain ⟨m, rfl⟩ : ∃ m, k = m + 1 := ⟨k - 1, by omega⟩
 rfl
theorem joinK_size {g : Nat → Int} {n : Nat} (hg : ∀ j, j < n → 0 ≤ g j ∧ g j ≤ 999999) : ∀ k, k ≤ n → (joinK g k).size ≤ 22 * k
 | 0, _ => Nat.le_refl _
 | 1, h => by
  have := hg 0 (by omega)
  have := numB_size (n := g 0) (by omega) (by omega)
  rw [joinK_one]
  omega
 | k + 2, h => by
  have ih := joinK_size hg (k + 1) (by omega)
  have := hg (k + 1) (by omega)
  have := numB_size (n := g (k + 1)) (by omega) (by omega)
  rw [joinK_next (by omega)]
  simp only [ByteArray.size_append', ByteArray.size_mk', List.size_toArray, List.length_cons, List.length_nil]
  omega
theorem joinTail_snoc (sep : List UInt8) (r : List (List UInt8)) (y : List UInt8) : Lib.joinTail sep (r ++ [y]) = Lib.joinTail sep r ++ sep ++ y := by simp [Lib.joinTail, List.append_assoc]
theorem join_joinK (g : Nat → Int) : ∀ k, 1 ≤ k → Lib.join ((List.range k).map fun j => (numB (g j)).data.toList) [32] = (joinK g k).data.toList
 | 1, _ => by simp [List.range_succ, Lib.join_one, joinK_one]
 | k + 2, _ => by
  have ih := join_joinK g (k + 1) (by omega)
  rw [joinK_next (by omega), Joins.data_append, Joins.data_append, ← ih, List.range_succ, List.map_append, List.map_cons, List.map_nil]
  have h0 : List.range (k + 1) = 0 :: (List.range k).map Nat.succ := List.range_succ_eq_map
  rw [h0, List.map_cons, List.cons_append, Lib.join_cons, Lib.join_cons, joinTail_snoc, List.append_assoc, List.append_assoc, List.append_assoc]
def FillS (w : World) (B n k : Nat) (g : Nat → Int) : Prop := ∃ cur : Array Value, w.heap[B]? = some (.cells cur 9 (0, 0)) ∧ cur.size = n ∧ ∀ j, j < k → cur[j]? = some (.string (numB (g j)))
theorem FillS.cell {w : World} {B n k : Nat} {g : Nat → Int} (h : FillS w B n k g) {i : Nat} (hi : i < n) : (∃ v, w.cell? ⟨B, i, none⟩ = some v) ∧ w.frozen? ⟨B, i, none⟩ = false := by
 obtain ⟨cur, h1, h2, h3⟩ := h
 refine ⟨⟨cur[i]'(by omega), ?_⟩, frozen_of_row w B i _ _ h1⟩
 rw [cell_of_row w B i cur _ (0, 0) h1]
 exact Array.getElem?_eq_getElem (by omega)
theorem FillS.at {w : World} {B n k : Nat} {g : Nat → Int} (h : FillS w B n k g) {i : Nat} (hi : i < k) : w.cell? ⟨B, i, none⟩ = some (.string (numB (g i))) := by
 obtain ⟨cur, h1, h2, h3⟩ := h
 rw [cell_of_row w B i cur _ (0, 0) h1]
 exact h3 i hi
theorem FillS.below {w w' : World} {B n k : Nat} {g : Nat → Int} (h : FillS w B n k g) (hb : Below w.heap.size w w') : FillS w' B n k g := by
 obtain ⟨cur, h1, h2, h3⟩ := h
 exact ⟨cur, (hb.block B (Array.getElem?_eq_some_iff.1 h1).1).trans h1, h2, h3⟩
theorem FillS.lt {w : World} {B n k : Nat} {g : Nat → Int} (h : FillS w B n k g) : B < w.heap.size := by
 obtain ⟨cur, h1, _⟩ := h
 exact (Array.getElem?_eq_some_iff.1 h1).1
theorem FillS.push {w : World} {B n k : Nat} {g : Nat → Int} (h : FillS w B n k g) (hk : k < n) : FillS (w.setCell ⟨B, k, none⟩ (.string (numB (g k)))) B n (k + 1) g := by
 obtain ⟨cur, h1, h2, h3⟩ := h
 refine ⟨cur.setIfInBounds k (.string (numB (g k))), by simp [World.setCell, Array.getElem?_modify, h1], by simpa using h2, fun j hj => ?_⟩
 rw [Array.getElem?_setIfInBounds]
 by_cases hkj : k = j
 ·subst hkj; simp; omega
 ·rw [if_neg hkj]; exact h3 j (by omega)
theorem decimals_any (A : Option Addr) (n c lo hi : Nat) (g : Nat → Int) (w : World) (hs : Sl w lo hi 1 A n g) (hn : n ≤ 1000) (hnc : n ≤ c) (hg : ∀ j, j < n → 0 ≤ g j ∧ g j ≤ 999999) (ht : Tab w) (hn1 : 1 ≤ n) :
  Calls Tryz.prog 171 #[.slice A n c, .string ⟨#[32]⟩] w fun e w' => e = .returned (.string (joinK g n)) ∧ Below w.heap.size w w' := by
 obtain ⟨i, hi, hz0, hz1, hz2⟩ := info_parts infoStr
 have HS := lh hs
 have HT := lh ht
 have hn0 : (0 : Int) ≤ (n : Int) := by omega
 clear hs ht
 go_enter Tryz.func171, Tryz.ntmps171
 go_wp2_with (at_make; refine wpList_make_row _ rfl _ _ 42 rfl 9 i (.string ⟨#[]⟩) Tryz.underlying42 hi hz0 hz1 rfl .i64 .i64 n rfl rfl (by rw [hz2]; omega) (by omega) ?_)
 go_upto_region 2 with fail
 refine name_wp ?_
 intro w1 hw1
 have hb1 : Below w.heap.size w w1 := by rw [hw1]; exact (Below.refl _ w).alloc (Nat.le_refl _) _
 have hf1 : FillS w1 w.heap.size n 0 g := by
  rw [hw1]
  exact ⟨_, heap_alloc_new w _, by simp [size_madeCells], fun j hj => absurd hj (by omega)⟩
 clear hw1
 obtain ⟨B, hB⟩ : ∃ B, w.heap.size = B := ⟨_, rfl⟩
 rw [hB] at hf1
 try rw [hB]
 have HF1 := lh hf1
 have HB1 := lh hb1
 have HBs := lh hB
 clear hf1 hb1 hB
 go_wp2_with fail
 go_loopw [13] (fun kv wr => ∃ k : Nat, k ≤ n ∧ kv = .int .i64 k ∧ FillS wr B n k g ∧ Below w.heap.size w wr) (fun kv _ => n - (intOf kv).toNat)
 case atStart => exact ⟨0, Nat.zero_le _, rfl, HF1.out, HB1.out⟩
 case round =>
  obtain ⟨k, hk, rfl, hf, hB⟩ := hrel
  by_cases hlt : k < n
  ·have hki : (k : Int) < (n : Int) := by omega
   have hk0 : (0 : Int) ≤ (k : Int) := by omega
   obtain ⟨b1, o1, eA, _, hb1, hc⟩ := (HS.out.below hB).here (by omega)
   have d0 := hc (k * 1) (by omega)
   rw [Nat.mul_one] at d0
   have h9 := hg k hlt
   subst eA
   have HF := lh hf
   have HB := lh hB
   have hz := numB_size (n := g k) (by omega) (by omega)
   clear hf hB hc
   go_wp2_with fail
   refine (decimal_any (g k) (by omega) (by omega) wr (HT.out.below HB.out)).mono ?_
   rintro e w2 ⟨rfl, hb2⟩
   have hf2 := HF.out.below hb2
   have hB2 := HB.out.trans (hb2.mono HB.out.size)
   obtain ⟨⟨v0, e0⟩, f0⟩ := hf2.cell hlt
   have hp := lh (hf2.push hlt)
   have hBs := lh (hB2.setCell (p := ⟨B, k, none⟩) (by have := HBs.out; show w.heap.size ≤ B; omega) (.string (numB (g k))))
   clear hf2 hB2 hb2 d0
   go_wp2_with fail
   go_roundw
   case rel => exact ⟨k + 1, by omega, by go_num, hp.out, hBs.out⟩
   case measure => simp [intOf]; omega
  ·obtain rfl : k = n := by omega
   have hki : ¬ ((k : Int) < (k : Int)) := by omega
   have hl := hf.lt
   have hjs := joinK_size hg k (Nat.le_refl _)
   have hjl : (Lib.join (((List.range k).map fun j => numB (g j)).map (·.data.toList)) [32]).length ≤ 140737488355328 := by
    rw [List.map_map]
    have e := join_joinK g k hn1
    rw [show ((fun x : ByteArray => x.data.toList) ∘ fun j => numB (g j)) = fun j => (numB (g j)).data.toList from rfl, e, size_list]
    omega
   have hJ := Tryz.strings_Join B 0 k ((List.range k).map fun j => numB (g j)) ⟨#[32]⟩ wr (fun j x hx => by
    rw [List.getElem?_map] at hx
    by_cases hj : j < k
    ·rw [List.getElem?_range hj] at hx
     simp only [Option.map_some, Option.some.injEq] at hx
     rw [← hx, Nat.zero_add]
     exact hf.at hj
    ·rw [List.getElem?_eq_none (by simp; omega)] at hx
     cases hx) hl (by simp; omega) (by simp) hjl
   have hres : Hid ((⟨(Lib.join (((List.range k).map fun j => numB (g j)).map (·.data.toList)) (ByteArray.mk #[32]).data.toList).toArray⟩ : ByteArray) = joinK g k) := by
    show _ = _
    rw [List.map_map]
    have e := join_joinK g k hn1
    rw [show ((fun x : ByteArray => x.data.toList) ∘ fun j => numB (g j)) = fun j => (numB (g j)).data.toList from rfl, show (ByteArray.mk #[32]).data.toList = [32] from rfl, e]
   rw [List.length_map, List.length_range, hres.out] at hJ
   have HJ := lh hJ
   have HB := lh hB
   clear hJ hf hB hjl hres
   go_wp2_with fail
   refine HJ.out.mono ?_
   rintro e w2 ⟨rfl, hb2⟩
   go_wp2
   go_ret
   exact ⟨rfl, HB.out.trans (hb2.mono HB.out.size)⟩
theorem listText_any (A : Option Addr) (n c lo hi : Nat) (g : Nat → Int) (w : World) (hs : Sl w lo hi 1 A n g) (hn : n ≤ 1000) (hnc : n ≤ c) (hg : ∀ j, j < n → 0 ≤ g j ∧ g j ≤ 999999) (ht : Tab w) :
  Calls Tryz.prog 141 #[.slice A n c] w fun e w' => e = .returned (.string (listB g n)) ∧ Below w.heap.size w w' := by
 by_cases h0 : n = 0
 ·subst h0
  go_enter Tryz.func141, Tryz.ntmps141
  go_wp2_with fail
  go_ret
  exact ⟨rfl, Below.refl _ _⟩
 ·have hne : ((n : Int) == 0) = false := by simp; omega
  have hl : Hid (listB g n = joinK g n) := by show _ = _; rw [listB, if_neg h0]
  go_enter Tryz.func141, Tryz.ntmps141
  go_wp2_with fail
  refine (decimals_any A n c lo hi g w hs hn hnc hg ht (by omega)).mono ?_
  rintro e w1 ⟨rfl, hb⟩
  go_wp2
  go_ret
  exact ⟨by rw [hl.out]; rfl, hb⟩
theorem l28List_any (A : Option Addr) (n c lo hi : Nat) (g : Nat → Int) (w : World) (hs : Sl w lo hi 1 A n g) (hn : n ≤ 1000) (hnc : n ≤ c) (hg : ∀ j, j < n → 0 ≤ g j ∧ g j ≤ 999999) :
  Calls Tryz.prog 129 #[.slice A n c, .bool true] w fun e w' => e = .returned (.string (listB g n)) ∧ Below w.heap.size w w' := by
 by_cases h0 : n = 0
 ·subst h0
  go_enter Tryz.func129, Tryz.ntmps129
  go_wp2_with fail
  go_ret
  exact ⟨rfl, Below.refl _ _⟩
 have hne : ((n : Int) == 0) = false := by simp; omega
 have hl : Hid (listB g n = joinK g n) := by show _ = _; rw [listB, if_neg h0]
 have HS := lh hs
 obtain ⟨b1, o1, eA, _, hb1, hc⟩ := hs.here (by omega)
 have d0 := hc (0 * 1) (by omega)
 simp only [Nat.zero_mul, Nat.add_zero] at d0
 have h9 := hg 0 (by omega)
 have h1i : (0 : Int) < (n : Int) := by omega
 subst eA
 clear hs hc
 go_enter Tryz.func129, Tryz.ntmps129
 go_wp2_with fail
 refine (l1Num_any (g 0) (by omega) (by omega) w).mono ?_
 rintro e w1 ⟨rfl, hb⟩
 have HB := lh hb
 clear hb d0
 go_wp2_with fail
 go_loopw [5, 6] (fun tv kv wr => ∃ k : Nat, 1 ≤ k ∧ k ≤ n ∧ kv = .int .i64 k ∧ tv = .string (joinK g k) ∧ Below w.heap.size w wr) (fun _ kv _ => n - (intOf kv).toNat)
 case atStart => exact ⟨1, Nat.le_refl _, by omega, rfl, rfl, HB.out⟩
 case round =>
  obtain ⟨k, hk1, hk, rfl, rfl, hB⟩ := hrel
  by_cases hlt : k < n
  ·have hki : (k : Int) < (n : Int) := by omega
   have hk0 : (0 : Int) ≤ (k : Int) := by omega
   obtain ⟨b2, o2, eA, _, hb2, hc⟩ := (HS.out.below hB).here (by omega)
   simp only [Option.some.injEq, Addr.mk.injEq, and_true] at eA
   obtain ⟨rfl, rfl⟩ := eA
   have d0 := hc (k * 1) (by omega)
   rw [Nat.mul_one] at d0
   have h9 := hg k hlt
   have hjs := joinK_size hg k (by omega)
   have hz := numB_size (n := g k) (by omega) (by omega)
   have hnx := lh (joinK_next (g := g) hk1)
   have HBk := lh hB
   clear hc hB
   go_wp2_with fail
   refine (l1Num_any (g k) (by omega) (by omega) wr).mono ?_
   rintro e w2 ⟨rfl, hb⟩
   have HB2 := lh (HBk.out.trans (hb.mono HBk.out.size))
   clear hb d0
   go_wp2
   go_roundw
   case rel => exact ⟨k + 1, by omega, by omega, by go_num, by rw [hnx.out], HB2.out⟩
   case measure => simp [intOf]; omega
  ·obtain rfl : k = n := by omega
   have hki : ¬ ((k : Int) < (k : Int)) := by omega
   have HBk := lh hB
   clear hB
   go_wp2_with fail
   go_ret
   exact ⟨by rw [hl.out]; rfl, HBk.out⟩
end Go.Proofs.YtpndjhelpoenpaaGreatDoor
namespace Go.Proofs.YtpndjhelpoenpaaGreatDoor
open Go.RowKit
def cutL (c : UInt8) : List UInt8 → List (List UInt8)
 | [] => [[]]
 | b :: l => if b = c then [] :: cutL c l else match cutL c l with
  | [] => [[b]]
  | x :: r => (b :: x) :: r
theorem cutL_none {c : UInt8} : ∀ {l : List UInt8}, c ∉ l → cutL c l = [l]
 | [], _ => rfl
 | b :: l, h => by
  have h1 : b ≠ c := fun e => h (by simp [e])
  have h2 : c ∉ l := fun e => h (by simp [e])
  simp only [cutL, if_neg h1, cutL_none h2]
theorem cutL_hit {c : UInt8} {r : List UInt8} : ∀ {a : List UInt8}, c ∉ a → cutL c (a ++ c :: r) = a :: cutL c r
 | [], _ => by simp [cutL]
 | b :: a, h => by
  have h1 : b ≠ c := fun e => h (by simp [e])
  have h2 : c ∉ a := fun e => h (by simp [e])
  simp only [List.cons_append, cutL, if_neg h1, cutL_hit h2]
theorem cutL_pos (c : UInt8) : ∀ l, 1 ≤ (cutL c l).length
 | [] => Nat.le_refl _
 | b :: l => by
  unfold cutL
  split
  ·simp
  ·split <;> simp
theorem cutL_le (c : UInt8) : ∀ l, (cutL c l).length ≤ l.length + 1
 | [] => Nat.le_refl _
 | b :: l => by
  have ih := cutL_le c l
  unfold cutL
  split
  ·simp only [List.length_cons]; omega
  ·split
   ·simp
   ·next x r e => rw [e] at ih; simp only [List.length_cons] at ih ⊢; omega
theorem splitK_cut (c : UInt8) : ∀ l : List UInt8, Lib.splitK [c] 0 (Lib.count l [c]) l = cutL c l
 | [] => by rw [Lib.count_miss (by simp [Lib.index])]; rfl
 | b :: l => by
  have ih := splitK_cut c l
  by_cases h : b = c
  ·subst h
   have hix : Lib.index (b :: l) [b] = ((0 : Nat) : Int) := by rw [Lib.index]; simp [List.isPrefixOf]
   rw [Lib.count_cons_eq, Nat.add_comm, Lib.splitK, if_neg (by rw [hix]; decide), hix]
   simp [cutL, ih]
  ·have hp : ([c] : List UInt8).isPrefixOf (b :: l) = false := by simp [List.isPrefixOf, Ne.symm h]
   have hix : Lib.index (b :: l) [c] = if Lib.index l [c] == -1 then -1 else Lib.index l [c] + 1 := by rw [Lib.index, hp]; simp
   rw [Lib.count_cons_ne b c l h]
   by_cases hm : Lib.index l [c] = -1
   ·rw [Lib.count_miss hm] at ih ⊢
    simp only [Lib.splitK] at ih ⊢
    simp only [cutL, if_neg h, ← ih]
   ·have hge := Lib.index_ge l [c]
    obtain ⟨j, hj⟩ : ∃ j : Nat, Lib.index l [c] = j := ⟨(Lib.index l [c]).toNat, by omega⟩
    have hix' : Lib.index (b :: l) [c] = ((j + 1 : Nat) : Int) := by rw [hix, if_neg (fun e => hm (beq_iff_eq.1 e)), hj]; omega
    rw [Lib.count_hit (by simp) hj] at ih ⊢
    generalize Lib.count (l.drop (j + [c].length)) [c] = k at ih ⊢
    have n1 : ¬ (Lib.index l [c] == -1) = true := fun e => hm (beq_iff_eq.1 e)
    have n2 : ¬ (Lib.index (b :: l) [c] == -1) = true := fun e => by have := beq_iff_eq.1 e; omega
    rw [Nat.add_comm, Lib.splitK, if_neg n1, hj] at ih
    rw [Nat.add_comm, Lib.splitK, if_neg n2, hix']
    simp only [cutL, if_neg h, ← ih]
    simp
def wordsV (c : UInt8) (s : ByteArray) : List ByteArray := (cutL c s.data.toList).map fun l => (⟨l.toArray⟩ : ByteArray)
theorem words_of {c : UInt8} {s : ByteArray} {P : List ByteArray} (h : P.map (·.data.toList) = cutL c s.data.toList) : P = wordsV c s := by
 unfold wordsV
 rw [← h, List.map_map]
 have : ∀ Q : List ByteArray, Q = Q.map ((fun l => (⟨l.toArray⟩ : ByteArray)) ∘ fun x => x.data.toList) := by
  intro Q
  induction Q with
  | nil => rfl
  | cons x Q ih => rw [List.map_cons, ← ih]; simp
 exact this P
theorem splitB_words (c : UInt8) (s : ByteArray) : Lib.splitB ⟨#[c]⟩ 0 (Lib.countB s ⟨#[c]⟩) s = wordsV c s := by
 refine words_of ?_
 rw [Lib.splitB_data]
 exact splitK_cut c s.data.toList
theorem countB_words (c : UInt8) (s : ByteArray) : Lib.countB s ⟨#[c]⟩ + 1 = (wordsV c s).length := by
 rw [← splitB_words, Lib.splitB_all ⟨#[c]⟩ (by simp [ByteArray.size]) 0 _ s rfl]
theorem wordsV_pos (c : UInt8) (s : ByteArray) : 1 ≤ (wordsV c s).length := by
 unfold wordsV
 rw [List.length_map]
 exact cutL_pos _ _
theorem wordsV_le (c : UInt8) (s : ByteArray) : (wordsV c s).length ≤ s.size + 1 := by
 unfold wordsV
 rw [List.length_map]
 exact cutL_le _ _
theorem cutL_size {c : UInt8} : ∀ {l x : List UInt8}, x ∈ cutL c l → x.length ≤ l.length
 | [], x, h => by simp [cutL] at h; subst h; simp
 | b :: l, x, h => by
  unfold cutL at h
  split at h
  ·rcases List.mem_cons.1 h with rfl | h
   ·simp
   ·have := cutL_size h; simp only [List.length_cons]; omega
  ·split at h
   ·simp at h; subst h; simp
   ·next y r e =>
    rcases List.mem_cons.1 h with rfl | h
    ·have := cutL_size (c := c) (l := l) (x := y) (by rw [e]; simp); simp only [List.length_cons]; omega
    ·have := cutL_size (c := c) (l := l) (x := x) (by rw [e]; simp [h]); simp only [List.length_cons]; omega
theorem wordsV_size {c : UInt8} {s x : ByteArray} (h : x ∈ wordsV c s) : x.size ≤ s.size := by
 unfold wordsV at h
 obtain ⟨l, hl, rfl⟩ := List.mem_map.1 h
 have h := cutL_size hl
 rw [size_list] at h
 have e : (⟨l.toArray⟩ : ByteArray).size = l.length := by rw [← size_list]
 omega
theorem wordsV_none {c : UInt8} {s : ByteArray} (h : (wordsV c s).length = 1) : wordsV c s = [s] := by
 by_cases hm : c ∈ s.data.toList
 ·exfalso
  obtain ⟨a, r, e, ha⟩ : ∃ a r, s.data.toList = a ++ c :: r ∧ c ∉ a := by
   obtain ⟨a, r, h1, h2⟩ := List.eq_append_cons_of_mem hm
   exact ⟨a, r, h1, h2⟩
  unfold wordsV at h
  rw [List.length_map, e, cutL_hit ha, List.length_cons] at h
  have := cutL_pos c r
  omega
 ·refine (words_of ?_).symm
  rw [cutL_none hm]
  rfl
def SPW (s : ByteArray) (c : UInt8) (k F : Nat) (P : List ByteArray) : Prop :=
 cutL c s.data.toList = P.map (·.data.toList) ++ cutL c (s.data.toList.drop F) ∧ F ≤ k ∧ ∀ j, F ≤ j → j < k → byteAt s j ≠ c
theorem byte_at {s : ByteArray} {j : Nat} (h : j < s.size) : s.data.toList[j]? = some (byteAt s j) := by
 have h' : j < s.data.toList.length := by rw [size_list]; exact h
 rw [List.getElem?_eq_getElem h']
 unfold byteAt
 rw [getD_lt h']
theorem not_in_part {s : ByteArray} {c : UInt8} {F k : Nat} (hk : k ≤ s.size) (h : ∀ j, F ≤ j → j < k → byteAt s j ≠ c) : c ∉ (s.data.toList.drop F).take (k - F) := by
 intro hm
 obtain ⟨j, hj, e⟩ := List.getElem_of_mem hm
 rw [List.length_take, List.length_drop] at hj
 rw [List.getElem_take, List.getElem_drop] at e
 have h1 : s.data.toList[F + j]? = some (byteAt s (F + j)) := byte_at (by omega)
 rw [List.getElem?_eq_getElem (by have := size_list s; omega)] at h1
 exact h (F + j) (by omega) (by omega) ((Option.some.inj h1).symm.trans e)
theorem SPW.start (s : ByteArray) (c : UInt8) : SPW s c 0 0 [] := ⟨by simp, Nat.le_refl _, fun j h1 h2 => absurd h2 (by omega)⟩
theorem SPW.next {s : ByteArray} {c : UInt8} {k F : Nat} {P : List ByteArray} (h : SPW s c k F P) (hb : byteAt s k ≠ c) : SPW s c (k + 1) F P :=
 ⟨h.1, by have := h.2.1; omega, fun j h1 h2 => by
  by_cases e : j = k
  ·rw [e]; exact hb
  ·exact h.2.2 j h1 (by omega)⟩
theorem SPW.hit {s : ByteArray} {c : UInt8} {k F : Nat} {P : List ByteArray} (h : SPW s c k F P) (hk : k < s.size) (hb : byteAt s k = c) : SPW s c (k + 1) (k + 1) (P ++ [s.extract F k]) := by
 obtain ⟨h1, h2, h3⟩ := h
 refine ⟨?_, Nat.le_refl _, fun j a b => absurd b (by omega)⟩
 have hn := not_in_part (by omega) h3
 have hl := size_list s
 have e : s.data.toList.drop F = (s.data.toList.drop F).take (k - F) ++ c :: s.data.toList.drop (k + 1) := by
  have e1 := (List.take_append_drop (k - F) (s.data.toList.drop F)).symm
  rw [List.drop_drop, show F + (k - F) = k by omega] at e1
  have e2 : s.data.toList.drop k = c :: s.data.toList.drop (k + 1) := by
   have hb2 := byte_at hk
   rw [hb] at hb2
   rw [List.drop_eq_getElem_cons (by omega)]
   rw [List.getElem?_eq_getElem (by omega)] at hb2
   rw [Option.some.inj hb2]
  rw [e2] at e1
  exact e1
 rw [h1, e, cutL_hit hn, List.map_append, List.map_cons, List.map_nil, List.append_assoc, List.singleton_append, Lib.extract_data]
theorem SPW.fin {s : ByteArray} {c : UInt8} {F : Nat} {P : List ByteArray} (h : SPW s c s.size F P) : P ++ [s.extract F s.size] = wordsV c s := by
 obtain ⟨h1, h2, h3⟩ := h
 refine words_of ?_
 have hn := not_in_part (Nat.le_refl _) h3
 have hl := size_list s
 rw [List.take_of_length_le (by rw [List.length_drop]; omega)] at hn
 rw [h1, cutL_none hn, List.map_append, List.map_cons, List.map_nil, Lib.extract_data, List.take_of_length_le (by rw [List.length_drop]; omega)]
end Go.Proofs.YtpndjhelpoenpaaGreatDoor
namespace Go.Proofs.YtpndjhelpoenpaaGreatDoor
open Go.RowKit Go.Sort
attribute [local go_sem ↓] Go.wp_at_zero Go.wp_at_succ
section
variable {P : Program} {md : Region.Mode} {ops : Array Oper} {Q : Exit → Act → World → Prop} {S : World → Prop}
theorem wpAnyH_rdnew {i j di dj : Nat} {fuel : Nat} {listed : Array Bool} {a : Act} {w : World} {oi oj : Oper} {obj : Obj} {vi vj : Value}
  (hoi : ops[i]? = some oi) (hoj : ops[j]? = some oj) (hgi : oi.guard = none ∧ oi.dst = some di) (hgj : oj.guard = none ∧ oj.dst = some dj) (hij : i ≠ j) (hd : di ≠ dj)
  (r0 : Region.ready md ops listed = [i, j]) (ri : Region.ready md ops (listed.setIfInBounds i true) = [j]) (rj : Region.ready md ops (listed.setIfInBounds j true) = [i])
  (run_i : (execOp a.eval oi).run P w = .ok (.value vi) w) (run_i2 : (execOp (a.put (some dj) vj).eval oi).run P (w.alloc obj) = .ok (.value vi) (w.alloc obj))
  (run_j : (execOp a.eval oj).run P w = .ok (.value vj) (w.alloc obj)) (run_j2 : (execOp (a.put (some di) vi).eval oj).run P w = .ok (.value vj) (w.alloc obj))
  (hS : S w) (hSa : S (w.alloc obj))
  (h : wpAnyH P md ops Q S fuel ((listed.setIfInBounds i true).setIfInBounds j true) ((a.put (some di) vi).put (some dj) vj) (w.alloc obj)) :
  wpAnyH P md ops Q S (fuel + 2) listed a w := by
 refine wpAnyH_ready (fuel := fuel + 1) r0 (by simp) (AllReadyH.cons hoi (fun K hK => ?_) (AllReadyH.cons hoj (fun K hK => ?_) AllReadyH.nil))
 ·rw [if_pos (wanted_plain hgi.1)]
  refine oper_wp_value run_i ?_
  rw [hgi.2]
  refine hK.out _ _ hS (fun _ => ?_)
  refine wpAnyH_ready (fuel := fuel) ri (by simp) (AllReadyH.cons hoj (fun K2 hK2 => ?_) AllReadyH.nil)
  rw [if_pos (wanted_plain hgj.1)]
  refine oper_wp_value run_j2 ?_
  rw [hgj.2]
  exact hK2.out _ _ hSa (fun _ => h)
 ·rw [if_pos (wanted_plain hgj.1)]
  refine oper_wp_value run_j ?_
  rw [hgj.2]
  refine hK.out _ _ hSa (fun _ => ?_)
  refine wpAnyH_ready (fuel := fuel) rj (by simp) (AllReadyH.cons hoi (fun K2 hK2 => ?_) AllReadyH.nil)
  rw [if_pos (wanted_plain hgi.1)]
  refine oper_wp_value run_i2 ?_
  rw [hgi.2]
  refine hK2.out _ _ hSa (fun _ => ?_)
  rw [listed_comm _ (Ne.symm hij), put_comm _ _ _ (Ne.symm hd)]
  exact h
end
theorem sw_build (g lo n c' : Nat) (A' : Option Addr) (f : Nat → Int) (I H S P : Int) (id tt0 z : Int) (hn : n ≤ 1000) (w : World) (hg : w.heap[g]? = some (.cells #[.slice A' n c', .int .i64 I, .int .i64 H, .int .i64 S, .int .i64 P] 32 (0, 0))) (hO : w.ownsRow lo 97 4 (.slice A' n c') n ((cellsL f n).map (Value.int .i64))) (hlo : lo ≤ g) (hfd : findV (pid f) id n 0 = -1) (ht0 : tt0 = 0) :
  Calls Tryz.prog 139 #[.pointer (some ⟨g, 0, none⟩), .agg #[.int .i64 1, .int .i64 id, .int .i64 tt0, .int .i64 z]] w (fun e w' => e = .returned (.bool true) ∧ (true = true → BoxOwn w' lo g (buildL f n (placeV f id n 0) id z) (n + 1) I H S P) ∧ Below lo w w') := by
 subst ht0
 go_enter Tryz.func139, Tryz.ntmps139
 have lg : g < w.heap.size := (Array.getElem?_eq_some_iff.1 hg).1
 have hnc : n ≤ c' ∧ c' ≤ maxLen := by
  obtain ⟨_, _, e, h1, h2⟩ := row_slice hO
  cases e
  exact ⟨h1, h2⟩
 have hncI : (n : Int) ≤ (c' : Int) := by omega
 go_upto_region 1 with fail
 refine name_wp ?_
 intro w1 hw1
 have hb1 : Below w.heap.size w w1 := by rw [hw1]; exact (Below.refl _ w).alloc (Nat.le_refl _) _
 have hs1 := an hw1
 have hg1 := (hb1.block g lg).trans hg
 have hO1 := ownsRow_below hO hb1
 have hB1 : Below lo w w1 := hb1.mono (by omega)
 have low : ∀ k : Nat, (Value.slice A' n c').ownBlock = some k → lo ≤ k ∧ k < w.heap.size := fun k e => World.ownsRow.lt hO k e
 clear hw1 hg hO hb1
 obtain ⟨s, hs⟩ : ∃ s, s = w.heap.size := ⟨_, rfl⟩
 rw [← hs] at hs1 lg low
 have lg1 := (Array.getElem?_eq_some_iff.1 hg1).1
 have ls1 := (Array.getElem?_eq_some_iff.1 hs1).1
 have lw1 : lo ≤ w1.heap.size := by omega
 have ngs : g ≠ s := by omega
 have nsg : s ≠ g := by omega
 have hles : lo ≤ s := by omega
 have HS0 := lh hs
 clear hs
 obtain ⟨s0, s1, s2, s3⟩ := cells4 hs1
 obtain ⟨e0, e1, e2, e3, e4⟩ := cells5 hg1
 have ef := fz hg1
 have HG1 := lh hg1
 have HO1 := lh hO1
 have HB1 := lh hB1
 have HS1 := lh hs1
 clear hg1 hO1 hB1 hs1
 have hszS : w.heap.size = s := HS0.out.symm
 rw [hszS]
 clear hszS
 have HF : Hid (∀ w', Below w1.heap.size w1 w' → w'.cell? ⟨g, 0, none⟩ = some (.slice A' n c') ∧ w'.cell? ⟨g, 1, none⟩ = some (.int .i64 I) ∧ w'.cell? ⟨g, 2, none⟩ = some (.int .i64 H) ∧ w'.cell? ⟨g, 3, none⟩ = some (.int .i64 S) ∧ w'.cell? ⟨g, 4, none⟩ = some (.int .i64 P) ∧ w'.cell? ⟨s, 1, none⟩ = some (.int .i64 id)) := by
  intro w' hq
  exact ⟨kp hq e0, kp hq e1, kp hq e2, kp hq e3, kp hq e4, kp hq s1⟩
 have HSL : Hid (∀ w', Below w1.heap.size w1 w' → Sl w' lo w'.heap.size 4 A' n f) := by
  intro w' hq
  obtain ⟨A0, c0, e0, _, _, h0⟩ := own_of_row (ownsRow_below HO1.out hq)
  cases e0
  exact (h0.congr (fun j hj => cellsL_getD _ n j hj)).sl
 go_upto_region 1 with fail
 refine wp_region_held_drew (S := fun w' => Below (w1).heap.size (w1) w') (by kernel_rfl) ((Below.refl _ _).drew) (fun jd => ?_)
 refine tj4 0 7 3 10 1 8 4 11 HF jd ?_
 refine tj 2 9 HF rfl jd ?_
 refine wpAnyH_ready (rs := [5]) (by kernel_rfl) (by simp) ?_
 refine AllReadyH.cons rfl (fun K hK => ?_) AllReadyH.nil
 go_simp
 (go_at_call 109; refine (panAt_any A' n c' lo _ f I H S P id _ (HSL.out _ jd) (by omega) hnc.1).mono ?_; rw [hfd]; rintro e w2 ⟨rfl, hb2⟩)
 refine hK.out _ _ (jd.trans (hb2.mono jd.size)) (fun jd => ?_)
 clear hK K hb2
 refine tj 6 5 HF rfl jd ?_
 refine wpAnyH_done (by kernel_rfl) ?_ _
 have hg2 := (jd.block g (Array.getElem?_eq_some_iff.1 HG1.out).1).trans HG1.out
 have hs2 := (jd.block s (Array.getElem?_eq_some_iff.1 HS1.out).1).trans HS1.out
 have hO2 := ownsRow_below HO1.out jd
 have hB2 := below_of HB1.out jd lw1
 have lw2 : lo ≤ w2.heap.size := Nat.le_trans lw1 jd.size
 have lgw2 : g < w2.heap.size := Nat.lt_of_lt_of_le lg1 jd.size
 have lsw2 : s < w2.heap.size := Nat.lt_of_lt_of_le ls1 jd.size
 clear jd HF HSL e0 e1 e2 e3 e4 ef s0 s1 s2 s3 HG1 HO1 HB1 HS1
 obtain ⟨e0, e1, e2, e3, e4⟩ := cells5 hg2
 have ef := fz hg2
 obtain ⟨s0, s1, s2, s3⟩ := cells4 hs2
 have hneg : ¬ ((0 : Int) ≤ -1) := by decide
 have HG2 := lh hg2
 have HO2 := lh hO2
 have HB2 := lh hB2
 have HS2 := lh hs2
 have HSL : Hid (Sl w2 lo w2.heap.size 4 A' n f) := by
  obtain ⟨A0, c0, e0, _, _, h0⟩ := own_of_row HO2.out
  cases e0
  exact (h0.congr (fun j hj => cellsL_getD _ n j hj)).sl
 clear hg2 hO2 hB2 hs2
 go_wp2_with fail
 clear e0 e1 e2 e3 e4 ef s0 s1 s2 s3
 go_loopw [6] (fun kv wr => Below w2.heap.size w2 wr ∧ ∃ k : Nat, k ≤ n ∧ kv = .int .i64 k ∧ placeV f id n 0 = placeV f id (n - k) k) (fun kv _ => n - (intOf kv).toNat)
 case atStart => exact ⟨Below.refl _ _, 0, Nat.zero_le _, rfl, rfl⟩
 case round =>
  obtain ⟨hbel, k, hk, rfl, hpl⟩ := hrel
  have hgr := (hbel.block g lgw2).trans HG2.out
  have hsr := (hbel.block s lsw2).trans HS2.out
  obtain ⟨e0, e1, e2, e3, e4⟩ := cells5 hgr
  have ef := fz hgr
  obtain ⟨s0, s1, s2, s3⟩ := cells4 hsr
  by_cases hlt : k < n
  ·obtain ⟨b, off, eA, hbw, HC⟩ := HSL.out.open_ hbel (by omega)
   obtain ⟨c0, c1, c2, c3⟩ := cell4 HC hlt
   have hk0i : (0 : Int) ≤ (k : Int) := by omega
   have hkni : (k : Int) < (n : Int) := by omega
   have hkdi : decide ((k : Int) < (n : Int)) = true := decide_eq_true hkni
   have e1' : n - k = (n - k - 1) + 1 := by omega
   clear HC
   by_cases hid : f (k * 4) < id
   ·have hst : placeV f id n 0 = placeV f id (n - (k + 1)) (k + 1) := by
     rw [hpl, e1']
     show (if f (k * 4) < id then placeV f id (n - k - 1) (k + 1) else k) = _
     rw [if_pos hid]
     rfl
    have HST := lh hst
    have hidd : decide (f (k * 4) < id) = true := decide_eq_true hid
    clear hst hpl e1'
    rw [eA] at e0
    go_wp2_with fail
    go_quiet (fail)
    go_wp2
    go_roundw
    case rel => exact ⟨below_drewN hbel _, k + 1, by omega, by go_num, HST.out⟩
    case measure => simp [intOf]; omega
   ·have hst : placeV f id n 0 = k := by
     rw [hpl, e1']
     show (if f (k * 4) < id then placeV f id (n - k - 1) (k + 1) else k) = _
     rw [if_neg hid]
    have HST := lh hst
    have hidd : decide (f (k * 4) < id) = false := decide_eq_false hid
    clear hst hpl e1'
    have E0 := lh e0
    have EA := lh eA
    rw [eA] at e0
    clear eA
    go_wp2_with fail
    go_quiet (fail)
    have hHeldq : Below wr.heap.size wr (wr.drewN nq) := below_drewN (Below.refl _ _) _
    generalize wr.drewN nq = wq at hHeldq ⊢
    have hbq : Below w2.heap.size w2 wq := hbel.trans (hHeldq.mono hbel.size)
    have hgq := (hbq.block g lgw2).trans HG2.out
    have hsq := (hbq.block s lsw2).trans HS2.out
    have hOq := ownsRow_below HO2.out hbq
    have hBq := below_of HB2.out hbq lw2
    have lwq : lo ≤ wq.heap.size := Nat.le_trans lw2 hbq.size
    have lgq := (Array.getElem?_eq_some_iff.1 hgq).1
    have lsq := (Array.getElem?_eq_some_iff.1 hsq).1
    have hloq : ∀ j0 : Nat, (Value.slice A' n c').ownBlock = some j0 → lo ≤ j0 ∧ j0 < wq.heap.size := fun j0 e => World.ownsRow.lt hOq j0 e
    clear hHeldq hbq e0 e1 e2 e3 e4 ef s0 s1 s2 s3 hgr hsr
    obtain ⟨e0, e1, e2, e3, e4⟩ := cells5 hgq
    have ef := fz hgq
    have HF : Hid (∀ w', (w'.heap[s]? = some (.cells #[.int .i64 1, .int .i64 id, .int .i64 0, .int .i64 z] 107 (0, 0)) ∧ Below lo wq w') → w'.cell? ⟨s, 1, none⟩ = some (.int .i64 id) ∧ w'.cell? ⟨s, 3, none⟩ = some (.int .i64 z)) := by
     rintro w' ⟨hs', _⟩
     exact ⟨by rw [cell_of_row w' s 1 _ _ (0, 0) hs']; rfl, by rw [cell_of_row w' s 3 _ _ (0, 0) hs']; rfl⟩
    go_wp2_with fail
    refine wp_region_held_drew (S := (fun w' => w'.heap[s]? = some (.cells #[.int .i64 1, .int .i64 id, .int .i64 0, .int .i64 z] 107 (0, 0)) ∧ Below lo wq w')) (by kernel_rfl) ⟨hsq, (Below.refl lo wq).drew⟩ (fun jd => ?_)
    refine tj4 0 50 1 51 5 55 6 56 HF jd ?_
    refine tj4 8 58 7 57 9 59 10 60 HF jd ?_
    refine tj2 2 52 3 53 HF jd ?_
    refine wpAnyH_rdnew (fuel := 4) (i := 4) (j := 11) (di := 54) (dj := 61) (obj := (.cells #[.int .i64 id, .int .i64 z, .int .i64 0, .int .i64 0] 97)) (vi := .slice A' n c') (vj := .slice (some ⟨wq.drew.heap.size, 0, none⟩) 1 1) rfl rfl ⟨rfl, rfl⟩ ⟨rfl, rfl⟩ (by decide) (by decide) (by kernel_rfl) (by kernel_rfl) (by kernel_rfl) (by go_simp; try rfl) (by go_simp; try rfl) (by go_simp; try rfl) (by go_simp; try rfl) jd ⟨by rw [heap_alloc_old _ _ (show s < wq.drew.heap.size from lsq)]; exact hsq, jd.2.alloc (show lo ≤ wq.drew.heap.size from lwq) _⟩ ?_
    simp only [Act.put, p1, p2, p3]
    have hgW : (wq.drew.alloc (.cells #[.int .i64 id, .int .i64 z, .int .i64 0, .int .i64 0] 97)).heap[g]? = some (.cells #[.slice A' n c', .int .i64 I, .int .i64 H, .int .i64 S, .int .i64 P] 32 (0, 0)) := by rw [heap_alloc_old _ _ (show g < wq.drew.heap.size from lgq)]; exact hgq
    have hsW : (wq.drew.alloc (.cells #[.int .i64 id, .int .i64 z, .int .i64 0, .int .i64 0] 97)).heap[s]? = some (.cells #[.int .i64 1, .int .i64 id, .int .i64 0, .int .i64 z] 107 (0, 0)) := by rw [heap_alloc_old _ _ (show s < wq.drew.heap.size from lsq)]; exact hsq
    have hbW : Below wq.heap.size wq (wq.drew.alloc (.cells #[.int .i64 id, .int .i64 z, .int .i64 0, .int .i64 0] 97)) := ((Below.refl _ wq).drew).alloc (Nat.le_refl _) _
    have hOW := ownsRow_below hOq hbW
    have hvW : (wq.drew.alloc (.cells #[.int .i64 id, .int .i64 z, .int .i64 0, .int .i64 0] 97)).heap[wq.drew.heap.size]? = some (.cells #[.int .i64 id, .int .i64 z, .int .i64 0, .int .i64 0] 97) := heap_alloc_new _ _
    have hBW : Below lo wq (wq.drew.alloc (.cells #[.int .i64 id, .int .i64 z, .int .i64 0, .int .i64 0] 97)) := hbW.mono lwq
    have hzW : wq.heap.size < (wq.drew.alloc (.cells #[.int .i64 id, .int .i64 z, .int .i64 0, .int .i64 0] 97)).heap.size := by rw [World.size_alloc]; exact Nat.lt_succ_self _
    have hzq : wq.drew.heap.size = wq.heap.size := rfl
    rw [hzq] at hvW ⊢
    generalize wq.drew.alloc (.cells #[.int .i64 id, .int .i64 z, .int .i64 0, .int .i64 0] 97) = w3 at *
    clear jd HF e0 e1 e2 e3 e4 ef hzq
    have HO3 := lh hOW
    have HG3 := lh hgW
    have HS3 := lh hsW
    have HV3 := lh hvW
    clear hOW hgW hsW hvW hOq hgq hsq
    refine wpAnyH_ready (rs := [12]) (by kernel_rfl) (by simp) ?_
    refine AllReadyH.cons rfl (fun K hK => ?_) AllReadyH.nil
    have HK := lh hK
    clear hK
    go_simp
    go_at_call 167
    refine (InsertPan_any lo n k wq.heap.size 97 (.slice A' n c') (cellsL f n) [id, z, 0, 0] w3 HO3.out (by omega) hn (Nat.le_trans lwq (Nat.le_of_lt hzW)) rfl HV3.out (fun e => by have := (hloq _ e.symm).2; omega)).mono ?_
    rintro e w4 ⟨v', rfl, ho4, hgr4⟩
    obtain ⟨A2, c2, rfl, h1, h2⟩ := row_slice ho4
    have hg4 := (hgr4.block g (Array.getElem?_eq_some_iff.1 HG3.out).1 (fun e => row_none_ne HO3.out HG3.out (by decide) e.symm)).trans HG3.out
    have hs4 := (hgr4.block s (Array.getElem?_eq_some_iff.1 HS3.out).1 (fun e => row_none_ne HO3.out HS3.out (by decide) e.symm)).trans HS3.out
    have hB4 : Below lo wq w4 := hBW.grown hgr4 (Nat.le_trans lwq (Nat.le_of_lt hzW)) (fun j0 hj0 => (hloq j0 hj0).1)
    refine HK.out.out _ _ ⟨hs4, hB4⟩ (fun jd => ?_)
    clear HK K HO3 HG3 HS3 HV3 hgr4 hBW hbW
    try simp only [Act.put, List.setIfInBounds_toArray, List.set_cons_zero, List.set_cons_succ]
    have HF : Hid (∀ w', (w'.heap[s]? = some (.cells #[.int .i64 1, .int .i64 id, .int .i64 0, .int .i64 z] 107 (0, 0)) ∧ Below lo wq w') → True) := fun _ _ => trivial
    refine tj2 13 63 14 64 HF jd ?_
    refine wpAnyH_store (fuel := 0) (i := 15) rfl (by kernel_rfl) g 0 (.slice A2 (n + 1) c2) 32 #[.slice A' n c', .int .i64 I, .int .i64 H, .int .i64 S, .int .i64 P] rfl rfl infoPans hg4 (Nat.le_add_left 1 4) (by simp [Value.cells, Value.oneCell']) (fun w' hg => ⟨(hg.block s (Array.getElem?_eq_some_iff.1 hs4).1 (by simp; omega)).trans hs4, hB4.grown hg (Nat.le_trans lwq hB4.size) (fun j0 hj0 => by cases hj0; omega)⟩) ?kba
    case kba =>
    intro w5 hh5 hg5' hS5
    refine wpAnyH_done (by kernel_rfl) ?_ _
    have hg5 : w5.heap[g]? = some (.cells #[.slice A2 (n + 1) c2, .int .i64 I, .int .i64 H, .int .i64 S, .int .i64 P] 32 (0, 0)) := hh5
    have hO5 := own_other ho4 hg4 (by decide) hg5'
    have hB5 := hBq.trans hS5.2
    clear jd HF hS5 hg5' hh5 hs4 hB4 ho4 hg4 hBq
    have HG5 := lh hg5
    have HO5 := lh hO5
    clear hg5 hO5
    go_wp2
    go_ret
    rw [HST.out]
    exact ⟨rfl, fun _ => ⟨A2, c2, HG5.out, h1, h2, HO5.out⟩, hB5⟩
  ·have hkn : k = n := by omega
   subst hkn
   have hst : placeV f id k 0 = k := by rw [hpl, Nat.sub_self]; rfl
   have HST := lh hst
   have hki : ¬ ((k : Int) < (k : Int)) := by omega
   have hkdi : decide ((k : Int) < (k : Int)) = false := decide_eq_false hki
   clear hst hpl
   go_wp2_with fail
   go_quiet (fail)
   have hHeldq : Below wr.heap.size wr (wr.drewN nq) := below_drewN (Below.refl _ _) _
   generalize wr.drewN nq = wq at hHeldq ⊢
   have hbq : Below w2.heap.size w2 wq := hbel.trans (hHeldq.mono hbel.size)
   have hgq := (hbq.block g lgw2).trans HG2.out
   have hsq := (hbq.block s lsw2).trans HS2.out
   have hOq := ownsRow_below HO2.out hbq
   have hBq := below_of HB2.out hbq lw2
   have lwq : lo ≤ wq.heap.size := Nat.le_trans lw2 hbq.size
   have lgq := (Array.getElem?_eq_some_iff.1 hgq).1
   have lsq := (Array.getElem?_eq_some_iff.1 hsq).1
   have hloq : ∀ j0 : Nat, (Value.slice A' k c').ownBlock = some j0 → lo ≤ j0 ∧ j0 < wq.heap.size := fun j0 e => World.ownsRow.lt hOq j0 e
   clear hHeldq hbq e0 e1 e2 e3 e4 ef s0 s1 s2 s3 hgr hsr
   obtain ⟨e0, e1, e2, e3, e4⟩ := cells5 hgq
   have ef := fz hgq
   have HF : Hid (∀ w', (w'.heap[s]? = some (.cells #[.int .i64 1, .int .i64 id, .int .i64 0, .int .i64 z] 107 (0, 0)) ∧ Below lo wq w') → w'.cell? ⟨s, 1, none⟩ = some (.int .i64 id) ∧ w'.cell? ⟨s, 3, none⟩ = some (.int .i64 z)) := by
    rintro w' ⟨hs', _⟩
    exact ⟨by rw [cell_of_row w' s 1 _ _ (0, 0) hs']; rfl, by rw [cell_of_row w' s 3 _ _ (0, 0) hs']; rfl⟩
   go_wp2_with fail
   refine wp_region_held_drew (S := (fun w' => w'.heap[s]? = some (.cells #[.int .i64 1, .int .i64 id, .int .i64 0, .int .i64 z] 107 (0, 0)) ∧ Below lo wq w')) (by kernel_rfl) ⟨hsq, (Below.refl lo wq).drew⟩ (fun jd => ?_)
   refine tj4 0 50 1 51 5 55 6 56 HF jd ?_
   refine tj4 8 58 7 57 9 59 10 60 HF jd ?_
   refine tj2 2 52 3 53 HF jd ?_
   refine wpAnyH_rdnew (fuel := 4) (i := 4) (j := 11) (di := 54) (dj := 61) (obj := (.cells #[.int .i64 id, .int .i64 z, .int .i64 0, .int .i64 0] 97)) (vi := .slice A' k c') (vj := .slice (some ⟨wq.drew.heap.size, 0, none⟩) 1 1) rfl rfl ⟨rfl, rfl⟩ ⟨rfl, rfl⟩ (by decide) (by decide) (by kernel_rfl) (by kernel_rfl) (by kernel_rfl) (by go_simp; try rfl) (by go_simp; try rfl) (by go_simp; try rfl) (by go_simp; try rfl) jd ⟨by rw [heap_alloc_old _ _ (show s < wq.drew.heap.size from lsq)]; exact hsq, jd.2.alloc (show lo ≤ wq.drew.heap.size from lwq) _⟩ ?_
   simp only [Act.put, p1, p2, p3]
   have hgW : (wq.drew.alloc (.cells #[.int .i64 id, .int .i64 z, .int .i64 0, .int .i64 0] 97)).heap[g]? = some (.cells #[.slice A' k c', .int .i64 I, .int .i64 H, .int .i64 S, .int .i64 P] 32 (0, 0)) := by rw [heap_alloc_old _ _ (show g < wq.drew.heap.size from lgq)]; exact hgq
   have hsW : (wq.drew.alloc (.cells #[.int .i64 id, .int .i64 z, .int .i64 0, .int .i64 0] 97)).heap[s]? = some (.cells #[.int .i64 1, .int .i64 id, .int .i64 0, .int .i64 z] 107 (0, 0)) := by rw [heap_alloc_old _ _ (show s < wq.drew.heap.size from lsq)]; exact hsq
   have hbW : Below wq.heap.size wq (wq.drew.alloc (.cells #[.int .i64 id, .int .i64 z, .int .i64 0, .int .i64 0] 97)) := ((Below.refl _ wq).drew).alloc (Nat.le_refl _) _
   have hOW := ownsRow_below hOq hbW
   have hvW : (wq.drew.alloc (.cells #[.int .i64 id, .int .i64 z, .int .i64 0, .int .i64 0] 97)).heap[wq.drew.heap.size]? = some (.cells #[.int .i64 id, .int .i64 z, .int .i64 0, .int .i64 0] 97) := heap_alloc_new _ _
   have hBW : Below lo wq (wq.drew.alloc (.cells #[.int .i64 id, .int .i64 z, .int .i64 0, .int .i64 0] 97)) := hbW.mono lwq
   have hzW : wq.heap.size < (wq.drew.alloc (.cells #[.int .i64 id, .int .i64 z, .int .i64 0, .int .i64 0] 97)).heap.size := by rw [World.size_alloc]; exact Nat.lt_succ_self _
   have hzq : wq.drew.heap.size = wq.heap.size := rfl
   rw [hzq] at hvW ⊢
   generalize wq.drew.alloc (.cells #[.int .i64 id, .int .i64 z, .int .i64 0, .int .i64 0] 97) = w3 at *
   clear jd HF e0 e1 e2 e3 e4 ef hzq
   have HO3 := lh hOW
   have HG3 := lh hgW
   have HS3 := lh hsW
   have HV3 := lh hvW
   clear hOW hgW hsW hvW hOq hgq hsq
   refine wpAnyH_ready (rs := [12]) (by kernel_rfl) (by simp) ?_
   refine AllReadyH.cons rfl (fun K hK => ?_) AllReadyH.nil
   have HK := lh hK
   clear hK
   go_simp
   go_at_call 167
   refine (InsertPan_any lo k k wq.heap.size 97 (.slice A' k c') (cellsL f k) [id, z, 0, 0] w3 HO3.out (by omega) hn (Nat.le_trans lwq (Nat.le_of_lt hzW)) rfl HV3.out (fun e => by have := (hloq _ e.symm).2; omega)).mono ?_
   rintro e w4 ⟨v', rfl, ho4, hgr4⟩
   obtain ⟨A2, c2, rfl, h1, h2⟩ := row_slice ho4
   have hg4 := (hgr4.block g (Array.getElem?_eq_some_iff.1 HG3.out).1 (fun e => row_none_ne HO3.out HG3.out (by decide) e.symm)).trans HG3.out
   have hs4 := (hgr4.block s (Array.getElem?_eq_some_iff.1 HS3.out).1 (fun e => row_none_ne HO3.out HS3.out (by decide) e.symm)).trans HS3.out
   have hB4 : Below lo wq w4 := hBW.grown hgr4 (Nat.le_trans lwq (Nat.le_of_lt hzW)) (fun j0 hj0 => (hloq j0 hj0).1)
   refine HK.out.out _ _ ⟨hs4, hB4⟩ (fun jd => ?_)
   clear HK K HO3 HG3 HS3 HV3 hgr4 hBW hbW
   try simp only [Act.put, List.setIfInBounds_toArray, List.set_cons_zero, List.set_cons_succ]
   have HF : Hid (∀ w', (w'.heap[s]? = some (.cells #[.int .i64 1, .int .i64 id, .int .i64 0, .int .i64 z] 107 (0, 0)) ∧ Below lo wq w') → True) := fun _ _ => trivial
   refine tj2 13 63 14 64 HF jd ?_
   refine wpAnyH_store (fuel := 0) (i := 15) rfl (by kernel_rfl) g 0 (.slice A2 (k + 1) c2) 32 #[.slice A' k c', .int .i64 I, .int .i64 H, .int .i64 S, .int .i64 P] rfl rfl infoPans hg4 (Nat.le_add_left 1 4) (by simp [Value.cells, Value.oneCell']) (fun w' hg => ⟨(hg.block s (Array.getElem?_eq_some_iff.1 hs4).1 (by simp; omega)).trans hs4, hB4.grown hg (Nat.le_trans lwq hB4.size) (fun j0 hj0 => by cases hj0; omega)⟩) ?kbb
   case kbb =>
   intro w5 hh5 hg5' hS5
   refine wpAnyH_done (by kernel_rfl) ?_ _
   have hg5 : w5.heap[g]? = some (.cells #[.slice A2 (k + 1) c2, .int .i64 I, .int .i64 H, .int .i64 S, .int .i64 P] 32 (0, 0)) := hh5
   have hO5 := own_other ho4 hg4 (by decide) hg5'
   have hB5 := hBq.trans hS5.2
   clear jd HF hS5 hg5' hh5 hs4 hB4 ho4 hg4 hBq
   have HG5 := lh hg5
   have HO5 := lh hO5
   clear hg5 hO5
   go_wp2
   go_ret
   rw [HST.out]
   exact ⟨rfl, fun _ => ⟨A2, c2, HG5.out, h1, h2, HO5.out⟩, hB5⟩
end Go.Proofs.YtpndjhelpoenpaaGreatDoor
