/-
  eachOnce; QuietPonds and KindsAt: the program's and the reference's return the same numbers.
-/
import Derived.Test.YtcecpioiagfoiaaDoorNestK
import Derived.Test.YtcecpioiagfoiaaDoorShelf
import Derived.Sort.OwnSortedInts
import Derived.Lib.OwnBridge
namespace Go.Proofs.YtcecpioiagfoiaaDoor
open Go.RowKit Go.Sort
set_option linter.unusedVariables false
set_option linter.unusedSimpArgs false
attribute [local go_sem ↓] Go.wp_at_zero Go.wp_at_succ
def pondAt (f : Nat → Int) (k : Nat) : Int := f (k * 7 + 2)
def kindAt (f : Nat → Int) (k : Nat) : Int := f (k * 7 + 1)
def atPond (f : Nat → Int) (pond : Int) (k : Nat) : Bool := decide (f (k * 7 + 2) = pond)
def onceL (L : List Int) : List Int := L.foldl putL []
theorem onceL_snoc (L : List Int) (z : Int) : onceL (L ++ [z]) = putL (onceL L) z := by simp [onceL, List.foldl_append]
theorem onceL_len (L : List Int) : (onceL L).length ≤ L.length := by
  rw [onceL, ← put_compact]
  have h := Lib.compact_length_le (L.mergeSort fun x y => decide (x ≤ y))
  rwa [List.length_mergeSort] at h
def quietRes (f : Nat → Int) (n : Nat) (day : Int) : List Int := if aliveOk f n day then onceL (pick (aliveAt f day) (pondAt f) n) else []
def kindsOk (f : Nat → Int) (n : Nat) (pond : Int) : Bool := goodNests f n && inR pond 1 99
def kindsRes (f : Nat → Int) (n : Nat) (pond : Int) : List Int := if kindsOk f n pond then onceL (pick (atPond f pond) (kindAt f) n) else []
set_option maxHeartbeats 400000 in
theorem eachOnce_any (W0 : World) (v : Value) (L : List Int) (w : World) (hB : Below W0.heap.size W0 w) (hown : w.ownsRow W0.heap.size 3 1 v L.length (L.map (Value.int .i64))) (hL : L.length ≤ 1000000) :
    Calls Tryd.prog 47 #[v] w fun e w' => ∃ v', e = .returned v' ∧ w'.ownsRow W0.heap.size 3 1 v' (onceL L).length ((onceL L).map (Value.int .i64)) ∧ Below W0.heap.size W0 w' := by
  by_cases h0 : L = []
  · subst h0
    have hon : Hid (w.ownsRow W0.heap.size 3 1 v (onceL ([] : List Int)).length ((onceL ([] : List Int)).map (Value.int .i64))) := hown
    obtain ⟨A, c, rfl, h1, h2, _⟩ := own_of_row hown
    clear hown
    simp only [List.length_nil] at hon ⊢
    have hs := fun w' => Tryd.slices_Sort_int_none A c w'
    have hc := fun w' => Tryd.slices_Compact_int_empty A c w'
    go_enter Tryd.func47, Tryd.ntmps47
    go_wp2_with fail
    refine (hs _).mono ?_
    rintro e w1 ⟨rfl, rfl⟩
    go_wp2_with fail
    refine (hc _).mono ?_
    rintro e w2 ⟨rfl, rfl⟩
    go_wp2
    go_ret
    exact ⟨_, rfl, hon.out, hB⟩
  · have hne : v ≠ .slice none 0 0 := by
      intro e
      have h := hown.2
      rcases h with ⟨_, h⟩ | ⟨g, c, _, e2, _⟩
      · exact h0 (List.length_eq_zero_iff.1 h)
      · rw [e] at e2; cases e2
    obtain ⟨g, c, rfl, hg0, hgl, hc, hcm, _, hH⟩ := Lib.holds_of_ownsRow hown hne
    have hc63 : c ≤ 9223372036854775807 := by unfold maxLen at hcm; omega
    have hl2 : (L.mergeSort fun x y => decide (x ≤ y)).length = L.length := List.length_mergeSort L
    have hs := Tryd.slices_Sort_int g 0 c L w hH hgl (by omega)
    have fin : ∀ (n q : Nat) (os : Array Obj), (putRow (Value.int .i64) (Sort.ahead (grow (putRow (Value.int .i64) (Sort.ahead w n) g 0 (L.mergeSort fun x y => decide (x ≤ y)).toArray) os) q) g 0 (Lib.compact (L.mergeSort fun x y => decide (x ≤ y)) ++ List.replicate (L.length - (Lib.compact (L.mergeSort fun x y => decide (x ≤ y))).length) 0).toArray).ownsRow W0.heap.size 3 1 (.slice (some ⟨g, 0, none⟩) (onceL L).length c) (onceL L).length ((onceL L).map (Value.int .i64)) ∧
        Below W0.heap.size W0 (putRow (Value.int .i64) (Sort.ahead (grow (putRow (Value.int .i64) (Sort.ahead w n) g 0 (L.mergeSort fun x y => decide (x ≤ y)).toArray) os) q) g 0 (Lib.compact (L.mergeSort fun x y => decide (x ≤ y)) ++ List.replicate (L.length - (Lib.compact (L.mergeSort fun x y => decide (x ≤ y))).length) 0).toArray) := by
      intro n q os
      have hle := Lib.compact_length_le (L.mergeSort fun x y => decide (x ≤ y))
      rw [hl2] at hle
      rcases hown.2 with ⟨h0, _⟩ | ⟨g', cap', cur, hv, hbase, hb, h1, h2, h3, h4⟩
      · cases h0
      cases hv
      have hs := ownsRow_sortedI (n := n) (os := os) (ts := L.mergeSort fun x y => decide (x ≤ y)) hl2 hbase hb h1 h2 h3
      have hc := Lib.ownsRow_putRow (q := q) (k := (Lib.compact (L.mergeSort fun x y => decide (x ≤ y))).length) (ys := Lib.compact (L.mergeSort fun x y => decide (x ≤ y)) ++ List.replicate (L.length - (Lib.compact (L.mergeSort fun x y => decide (x ≤ y))).length) 0) hs (by simp; omega) (by omega)
      rw [List.take_left] at hc
      refine ⟨?_, Lib.below_putRow (hB.grown (grownBy_sortedI _) hB.size (fun j hj => by cases hj; exact hbase)) hg0⟩
      rw [onceL, ← put_compact]
      exact hc
    have hcp := fun (n : Nat) (os : Array Obj) => Tryd.slices_Compact_int g 0 c (L.mergeSort fun x y => decide (x ≤ y)) (grow (putRow (Value.int .i64) (Sort.ahead w n) g 0 (L.mergeSort fun x y => decide (x ≤ y)).toArray) os)
      (holds_grow _ _ _ _ _ _ (by simpa [putRow, mapBlock, Sort.ahead] using hgl) (holds_putRow _ _ _ _ L.toArray _ hH (by simp [hl2]))) (by omega) (by omega)
    rw [hl2] at hcp
    have hcl : (Lib.compact (L.mergeSort fun x y => decide (x ≤ y))).length = (onceL L).length := by rw [onceL, ← put_compact]
    rw [hcl] at hcp fin
    generalize hM : L.mergeSort (fun x y => decide (x ≤ y)) = M at *
    clear hH hown hM hcl
    obtain ⟨l, hl⟩ : ∃ l, l = L.length := ⟨_, rfl⟩
    rw [← hl] at hs hcp fin ⊢
    have HL := Lib.hid hl
    have FIN := Lib.hid fin
    have HCP := Lib.hid hcp
    have HS := Lib.hid hs
    clear hl fin hcp hs hl2
    go_enter Tryd.func47, Tryd.ntmps47
    go_wp2_with fail
    refine HS.out.mono ?_
    rintro e w1 ⟨rfl, n, os, hw1⟩
    subst hw1
    go_wp2_with fail
    refine (HCP.out n os).mono ?_
    rintro e w2 ⟨rfl, q, hw2⟩
    subst hw2
    have hf := Lib.hid (FIN.out n q os)
    go_wp2
    go_ret
    exact ⟨_, rfl, hf.out.1, hf.out.2⟩
          
          
set_option maxRecDepth 100000 in
set_option maxHeartbeats 1000000 in
theorem KindsAt_any (A : Option Addr) (n c lo hi : Nat) (f : Nat → Int) (pond : Int) (w : World) (hs : Sl w lo hi 7 A n f) (hn : n ≤ 1048576) (hnc : n ≤ c) :
    Calls Tryd.prog 20 #[.slice A n c, .int .i64 pond] w (IntsPost 3 w (kindsRes f n pond) (kindsOk f n pond)) := by
  have HS : Hid (Sl w lo hi 7 A n f) := hs
  clear hs
  cases hg : goodNests f n with
  | false =>
    have hr : kindsRes f n pond = [] := by simp [kindsRes, kindsOk, hg]
    have hk : kindsOk f n pond = false := by simp [kindsOk, hg]
    rw [hr, hk]
    clear hr hk
    go_enter Tryd.func20, Tryd.ntmps20
    go_wp2_with fail
    refine (NestAll_any A n c lo hi f w HS.out hn hnc).mono ?_
    rintro e w1 ⟨rfl, hb1⟩
    go_wp2
    go_ret2
    exact IntsPost.nil_ hb1
  | true =>
    have h12 := goodNests_len hg
    cases hz : inR pond 1 99 with
    | false =>
      have hr : kindsRes f n pond = [] := by simp [kindsRes, kindsOk, hz]
      have hk : kindsOk f n pond = false := by simp [kindsOk, hz]
      rw [hr, hk]
      clear hr hk
      go_enter Tryd.func20, Tryd.ntmps20
      go_wp2_with fail
      refine (NestAll_any A n c lo hi f w HS.out hn hnc).mono ?_
      rintro e w1 ⟨rfl, hb1⟩
      go_wp2_with fail
      refine (isId_any _ _).mono ?_
      rintro e w2 ⟨rfl, rfl⟩
      go_wp2
      go_ret2
      exact IntsPost.nil_ hb1
    | true =>
      have hr : kindsRes f n pond = onceL (pick (atPond f pond) (kindAt f) n) := by simp [kindsRes, kindsOk, hg, hz]
      have hk : kindsOk f n pond = true := by simp [kindsOk, hg, hz]
      rw [hr, hk]
      clear hr hk
      go_enter Tryd.func20, Tryd.ntmps20
      go_wp2_with fail
      refine (NestAll_any A n c lo hi f w HS.out hn hnc).mono ?_
      rintro e w1 ⟨rfl, hb1⟩
      go_wp2_with fail
      refine (isId_any _ _).mono ?_
      rintro e w2 ⟨rfl, rfl⟩
      go_wp2
      go_loopw [6, 19] (fun v i wr => ∃ k : Nat, k ≤ n ∧ i = .int .i64 k ∧ wr.ownsRow w.heap.size 3 1 v (pick (atPond f pond) (kindAt f) k).length ((pick (atPond f pond) (kindAt f) k).map (Value.int .i64)) ∧ Below w.heap.size w wr) (fun _ i _ => n - (intOf i).toNat)
      case atStart => exact ⟨0, Nat.zero_le _, rfl, World.ownsRow_nil _ _ _ _, hb1⟩
      case round =>
        obtain ⟨k, hk, rfl, hown, hB⟩ := hrel
        have hl : (pick (atPond f pond) (kindAt f) k).length ≤ 12 := by have := pick_len (atPond f pond) (kindAt f) k; omega
        have HPY : Hid ((atPond f pond) k = true → pick (atPond f pond) (kindAt f) (k + 1) = (pick (atPond f pond) (kindAt f) k) ++ [f (k * 7 + 1)]) := fun h => pick_yes h
        have HPN : Hid ((atPond f pond) k = false → pick (atPond f pond) (kindAt f) (k + 1) = (pick (atPond f pond) (kindAt f) k)) := fun h => pick_no h
        have HT : Hid ((atPond f pond) k = decide (f (k * 7 + 2) = pond)) := rfl
        have HPE : Hid (k = n → (pick (atPond f pond) (kindAt f) k) = pick (atPond f pond) (kindAt f) n) := fun h => by rw [h]
        generalize (pick (atPond f pond) (kindAt f) k) = P at *
        have HO : Hid (wr.ownsRow w.heap.size 3 1 u6 P.length (P.map (Value.int .i64))) := hown
        clear hown
        by_cases hlt : k < n
        · obtain ⟨b, off, rfl, hbw, HC⟩ := HS.out.open_ hB (by omega)
          obtain ⟨c0, c1, c2, c3, c4, c5, c6⟩ := cell7 HC hlt
          have hk0i : (0 : Int) ≤ (k : Int) := by omega
          have hkni : (k : Int) < (n : Int) := by omega
          clear HS HC
          have hsz := hB.size
          cases ht : decide (f (k * 7 + 2) = pond) with
          | false =>
            have htb : (f (k * 7 + 2) == pond) = false := by simpa using ht
            have HT2 := Lib.hid ht
            clear ht
            go_wp2
            go_roundw
            case rel => exact ⟨k + 1, by omega, by go_num, by rw [HPN.out (HT.out.trans HT2.out)]; exact ownsRow_below HO.out ((Below.refl _ wr).alloc (Nat.le_refl _) _), hB.alloc hB.size _⟩
            case measure => simp [intOf]; omega
          
          | true =>
            have htb : (f (k * 7 + 2) == pond) = true := by simpa using ht
            have HT2 := Lib.hid ht
            clear ht
            go_wp2_with (at_builtin; refine wpList_append_int1 _ rfl _ _ 37 rfl w.heap.size 3 Tryd.underlying37 infoIntC P (f (k * 7 + 1)) _ rfl ((HO.out.alloc _).alloc _) _ rfl (by simp) (by omega) (by simp; omega) ?_; intro v' w3 hown3 _ hgrow3)
            go_roundw
            case rel => exact ⟨k + 1, by omega, by go_num, by rw [HPY.out (HT.out.trans HT2.out)]; exact hown3, below_app ((hB.alloc hB.size _).alloc (by simp; omega) _) ((HO.out.alloc _).alloc _) hgrow3⟩
            case measure => simp [intOf]; omega
        · have hkn : k = n := by omega
          have hpe := Lib.hid (HPE.out hkn)
          clear HS hkn
          have hkni : ¬ ((k : Int) < (n : Int)) := by omega
          go_wp2_with fail
          refine (eachOnce_any w _ P wr hB HO.out (by omega)).mono ?_
          rintro e w3 ⟨v', rfl, hown3, hB3⟩
          go_wp2
          go_ret2
          rw [← hpe.out]
          exact IntsPost.mk_ hown3 hB3
set_option maxRecDepth 100000 in
set_option maxHeartbeats 1000000 in
theorem sKindsAt_any (A : Option Addr) (n c lo hi : Nat) (f : Nat → Int) (pond : Int) (w : World) (hs : Sl w lo hi 7 A n f) (hn : n ≤ 1048576) (hnc : n ≤ c) :
    Calls Tryd.prog 21 #[.slice A n c, .int .i64 pond] w (IntsPost 3 w (kindsRes f n pond) (kindsOk f n pond)) := by
  have HS : Hid (Sl w lo hi 7 A n f) := hs
  clear hs
  cases hg : goodNests f n with
  | false =>
    have hr : kindsRes f n pond = [] := by simp [kindsRes, kindsOk, hg]
    have hk : kindsOk f n pond = false := by simp [kindsOk, hg]
    rw [hr, hk]
    clear hr hk
    go_enter Tryd.func21, Tryd.ntmps21
    go_wp2_with fail
    have hz0 : Below w.heap.size w (w.alloc (.cells #[] 3)) := (Below.refl _ w).alloc (Nat.le_refl _) _
    refine (sNestAll_any A n c lo hi f _ (HS.out.below hz0) hn hnc).mono ?_
    rintro e w1 ⟨rfl, hb1'⟩
    have hb1 := below_of hz0 hb1' hz0.size
    have ho1 : IRow w1 w.heap.size (.slice (some ⟨w.heap.size, 0, none⟩) 0 0) [] := IRow.below ⟨⟨w.heap.size, 0, rfl, Nat.le_refl _, by unfold maxLen; omega, by simp⟩, World.ownsRow_made w #[] 0 (Nat.le_refl _) (by unfold maxLen; omega) rfl⟩ hb1'
    clear hb1' hz0
    go_wp2
    go_ret2
    exact IntsPost.mk_ (zs := []) ho1.2 hb1
  | true =>
    have h12 := goodNests_len hg
    cases hz : inR pond 1 99 with
    | false =>
      have hr : kindsRes f n pond = [] := by simp [kindsRes, kindsOk, hz]
      have hk : kindsOk f n pond = false := by simp [kindsOk, hz]
      rw [hr, hk]
      clear hr hk
      go_enter Tryd.func21, Tryd.ntmps21
      go_wp2_with fail
      have hz0 : Below w.heap.size w (w.alloc (.cells #[] 3)) := (Below.refl _ w).alloc (Nat.le_refl _) _
      refine (sNestAll_any A n c lo hi f _ (HS.out.below hz0) hn hnc).mono ?_
      rintro e w1 ⟨rfl, hb1'⟩
      have hb1 := below_of hz0 hb1' hz0.size
      have ho1 : IRow w1 w.heap.size (.slice (some ⟨w.heap.size, 0, none⟩) 0 0) [] := IRow.below ⟨⟨w.heap.size, 0, rfl, Nat.le_refl _, by unfold maxLen; omega, by simp⟩, World.ownsRow_made w #[] 0 (Nat.le_refl _) (by unfold maxLen; omega) rfl⟩ hb1'
      clear hb1' hz0
      go_wp2_with fail
      refine (l23Pond_any _ _).mono ?_
      rintro e w2 ⟨rfl, rfl⟩
      go_wp2
      go_ret2
      exact IntsPost.mk_ (zs := []) ho1.2 hb1
    | true =>
      have hr : kindsRes f n pond = onceL (pick (atPond f pond) (kindAt f) n) := by simp [kindsRes, kindsOk, hg, hz]
      have hk : kindsOk f n pond = true := by simp [kindsOk, hg, hz]
      rw [hr, hk]
      clear hr hk
      go_enter Tryd.func21, Tryd.ntmps21
      go_wp2_with fail
      have hz0 : Below w.heap.size w (w.alloc (.cells #[] 3)) := (Below.refl _ w).alloc (Nat.le_refl _) _
      refine (sNestAll_any A n c lo hi f _ (HS.out.below hz0) hn hnc).mono ?_
      rintro e w1 ⟨rfl, hb1'⟩
      have hb1 := below_of hz0 hb1' hz0.size
      have ho1 : IRow w1 w.heap.size (.slice (some ⟨w.heap.size, 0, none⟩) 0 0) [] := IRow.below ⟨⟨w.heap.size, 0, rfl, Nat.le_refl _, by unfold maxLen; omega, by simp⟩, World.ownsRow_made w #[] 0 (Nat.le_refl _) (by unfold maxLen; omega) rfl⟩ hb1'
      clear hb1' hz0
      go_wp2_with fail
      refine (l23Pond_any _ _).mono ?_
      rintro e w2 ⟨rfl, rfl⟩
      go_wp2
      go_loopw [6, 7] (fun v i wr => ∃ k : Nat, k ≤ n ∧ i = .int .i64 k ∧ IRow wr w.heap.size v (onceL (pick (atPond f pond) (kindAt f) k)) ∧ Below w.heap.size w wr) (fun _ i _ => n - (intOf i).toNat)
      case atStart => exact ⟨0, Nat.zero_le _, rfl, ho1, hb1⟩
      case round =>
        obtain ⟨k, hk, rfl, hown, hB⟩ := hrel
        have hl : (pick (atPond f pond) (kindAt f) k).length ≤ 12 := by have := pick_len (atPond f pond) (kindAt f) k; omega
        have HPY : Hid ((atPond f pond) k = true → pick (atPond f pond) (kindAt f) (k + 1) = (pick (atPond f pond) (kindAt f) k) ++ [f (k * 7 + 1)]) := fun h => pick_yes h
        have HPN : Hid ((atPond f pond) k = false → pick (atPond f pond) (kindAt f) (k + 1) = (pick (atPond f pond) (kindAt f) k)) := fun h => pick_no h
        have HT : Hid ((atPond f pond) k = decide (f (k * 7 + 2) = pond)) := rfl
        have HPE : Hid (k = n → (pick (atPond f pond) (kindAt f) k) = pick (atPond f pond) (kindAt f) n) := fun h => by rw [h]
        generalize (pick (atPond f pond) (kindAt f) k) = P at *
        have HO : Hid (IRow wr w.heap.size u6 (onceL P)) := hown
        have hol : (onceL P).length ≤ 12 := Nat.le_trans (onceL_len P) hl
        clear hown
        by_cases hlt : k < n
        · obtain ⟨b, off, rfl, hbw, HC⟩ := HS.out.open_ hB (by omega)
          obtain ⟨c0, c1, c2, c3, c4, c5, c6⟩ := cell7 HC hlt
          have hk0i : (0 : Int) ≤ (k : Int) := by omega
          have hkni : (k : Int) < (n : Int) := by omega
          clear HS HC
          have hsz := hB.size
          cases ht : decide (f (k * 7 + 2) = pond) with
          | false =>
            have htb : (f (k * 7 + 2) == pond) = false := by simpa using ht
            have HT2 := Lib.hid ht
            clear ht
            go_wp2
            go_roundw
            case rel => exact ⟨k + 1, by omega, by go_num, by rw [HPN.out (HT.out.trans HT2.out)]; exact HO.out, hB⟩
            case measure => simp [intOf]; omega
          
          | true =>
            have htb : (f (k * 7 + 2) == pond) = true := by simpa using ht
            have HT2 := Lib.hid ht
            clear ht
            go_wp2_with fail
            refine (l1Put_any w.heap.size _ (onceL P) (f (k * 7 + 1)) wr HO.out hB.size (by omega)).mono ?_
            rintro e w3 ⟨v', rfl, hown3, hb3⟩
            have hB3 := below_of hB hb3 hB.size
            go_wp2
            go_roundw
            case rel => exact ⟨k + 1, by omega, by go_num, by rw [HPY.out (HT.out.trans HT2.out), onceL_snoc]; exact hown3, hB3⟩
            case measure => simp [intOf]; omega
        · have hkn : k = n := by omega
          have hpe := Lib.hid (HPE.out hkn)
          clear HS hkn
          have hkni : ¬ ((k : Int) < (n : Int)) := by omega
          go_wp2
          go_ret2
          rw [← hpe.out]
          exact IntsPost.mk_ HO.out.2 hB
end Go.Proofs.YtcecpioiagfoiaaDoor
