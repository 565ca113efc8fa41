/-
  YearsAbove: the years with enough tons.
-/
import Derived.Test.YtfejgoohefhjoaaCropC
import Derived.Test.YtfejgoohefhjoaaApp
import Derived.Test.YtfejgoohefhjoaaSmall
namespace Go.Proofs.Ytfejgoohefhjoaa
open Go.RowKit
set_option linter.unusedVariables false
set_option linter.unusedSimpArgs false
theorem infoIntE : (Try.prog.info? 3).map (fun i => (i.zero, i.size, i.bytes)) = some (some (.int .i64 0), 1, 8) := by kernel_rfl
def aboveB (f : Nat → Int) (n : Nat) (z S : Int) (k : Nat) : Bool := decide (wrap64 (z * S) ≤ wrap64 (wrap64 (100 * f (k * 5 + 2)) * n))
def yearAt (f : Nat → Int) (k : Nat) : Int := f (k * 5)
def yearsList (f : Nat → Int) (n : Nat) (z : Int) : List Int := pick (aboveB f n z (sumW (tonsAt f) n)) (yearAt f) n
def yearsOk (f : Nat → Int) (n : Nat) (z : Int) : Bool := goodRows f n && inR z 1 1000
def yearsRes (f : Nat → Int) (n : Nat) (z : Int) : List Int := if yearsOk f n z then yearsList f n z else []
set_option maxHeartbeats 1000000 in
theorem YearsAbove_any (A : Option Addr) (n c lo hi : Nat) (f : Nat → Int) (z : Int) (w : World) (hs : Sl w lo hi 5 A n f) (hn : n ≤ 1048576) (hnc : n ≤ c) :
    Calls Try.prog 7 #[.slice A n c, .int .i64 z] w (IntsPost 3 w (yearsRes f n z) (yearsOk f n z)) := by
  have HS : Hid (Sl w lo hi 5 A n f) := hs
  clear hs
  cases hg : goodRows f n with
  | false =>
    have hr : yearsRes f n z = [] := by simp [yearsRes, yearsOk, hg]
    have hk : yearsOk f n z = false := by simp [yearsOk, hg]
    rw [hr, hk]
    clear hr hk
    go_enter Try.func7, Try.ntmps7
    go_wp2_with fail
    refine (AreCropRows_any A n c lo hi f w HS.out hn hnc).mono ?_
    rintro e w1 ⟨rfl, hb1⟩
    go_wp2
    go_ret2
    exact IntsPost.nil_ hb1
  | true =>
    cases hz : inR z 1 1000 with
    | false =>
      have hr : yearsRes f n z = [] := by simp [yearsRes, yearsOk, hz]
      have hk : yearsOk f n z = false := by simp [yearsOk, hz]
      rw [hr, hk]
      clear hr hk
      go_enter Try.func7, Try.ntmps7
      go_wp2_with fail
      refine (AreCropRows_any A n c lo hi f w HS.out hn hnc).mono ?_
      rintro e w1 ⟨rfl, hb1⟩
      go_wp2_with fail
      refine (within_any _ _ _ _).mono ?_
      rintro e w2 ⟨rfl, rfl⟩
      go_wp2
      go_ret2
      exact IntsPost.nil_ hb1
    | true =>
      have hr : yearsRes f n z = yearsList f n z := by simp [yearsRes, yearsOk, hg, hz]
      have hk : yearsOk f n z = true := by simp [yearsOk, hg, hz]
      rw [hr, hk]
      unfold yearsList
      clear hr hk
      go_enter Try.func7, Try.ntmps7
      go_wp2_with fail
      refine (AreCropRows_any A n c lo hi f w HS.out hn hnc).mono ?_
      rintro e w1 ⟨rfl, hb1⟩
      go_wp2_with fail
      refine (within_any _ _ _ _).mono ?_
      rintro e w2 ⟨rfl, rfl⟩
      go_wp2_with fail
      refine (sums_any A n c lo hi f w1 (HS.out.below hb1) hn hnc).mono ?_
      rintro e w2 ⟨rfl, hb2⟩
      have hB0 := below_of hb1 hb2 hb1.size
      clear hb1 hb2
      generalize hS : sumW (tonsAt f) n = S
      have HSM : Hid (sumW (tonsAt f) n = S) := hS
      clear hS
      go_wp2
      go_loopw [8, 26] (fun v i wr => ∃ k : Nat, k ≤ n ∧ i = .int .i64 k ∧ wr.ownsRow w.heap.size 3 1 v (pick (aboveB f n z S) (yearAt f) k).length ((pick (aboveB f n z S) (yearAt f) k).map (Value.int .i64)) ∧ Below w.heap.size w wr) (fun _ i _ => n - (intOf i).toNat)
      case atStart => exact ⟨0, Nat.zero_le _, rfl, World.ownsRow_nil _ _ _ _, hB0⟩
      case round =>
        obtain ⟨k, hk, rfl, hown, hB⟩ := hrel
        have hl : (pick (aboveB f n z S) (yearAt f) k).length ≤ 100000000 := by have := pick_len (aboveB f n z S) (yearAt f) k; omega
        generalize hP : pick (aboveB f n z S) (yearAt f) k = P at hown hl
        have HP : Hid (pick (aboveB f n z S) (yearAt f) k = P) := hP
        have HO : Hid (wr.ownsRow w.heap.size 3 1 u8 P.length (P.map (Value.int .i64))) := hown
        clear hown hP
        by_cases hlt : k < n
        · obtain ⟨b, off, rfl, hbw, HC⟩ := HS.out.open_ hB (by omega)
          obtain ⟨c0, c1, c2, c3, c4⟩ := cell5 HC hlt
          clear HC HS
          have hsz := hB.size
          by_cases ht : wrap64 (z * S) ≤ wrap64 (wrap64 (100 * f (k * 5 + 2)) * n)
          · go_wp2_with (at_builtin; refine wpList_append_int1 _ rfl _ _ 27 rfl w.heap.size 3 Try.underlying27 infoIntE P (f (k * 5)) _ rfl ((HO.out.alloc _).alloc _) _ rfl (by simp) hl (by simp; omega) ?_; intro v' w3 hown3 _ hgrow3)
            go_roundw
            case rel => exact ⟨k + 1, by omega, by go_num, by rw [pick_yes (by simpa [aboveB] using ht), HP.out]; exact hown3, below_app ((hB.alloc hB.size _).alloc (by simp; omega) _) ((HO.out.alloc _).alloc _) hgrow3⟩
            case measure => simp [intOf]; omega
          · have HT : Hid (aboveB f n z S k = false) := by simpa [Hid, aboveB] using ht
            go_wp2
            go_roundw
            case rel => exact ⟨k + 1, by omega, by go_num, by rw [pick_no HT.out, HP.out]; exact HO.out.alloc _, hB.alloc hB.size _⟩
            case measure => simp [intOf]; omega
        · obtain rfl : k = n := by omega
          clear HS
          go_wp2
          go_ret2
          rw [HSM.out, HP.out]
          exact IntsPost.mk_ HO.out hB
set_option maxHeartbeats 1000000 in
theorem sYearsAbove_any (A : Option Addr) (n c lo hi : Nat) (f : Nat → Int) (z : Int) (w : World) (hs : Sl w lo hi 5 A n f) (hn : n ≤ 1048576) (hnc : n ≤ c) :
    Calls Try.prog 8 #[.slice A n c, .int .i64 z] w (IntsPost 3 w (yearsRes f n z) (yearsOk f n z)) := by
  have HS : Hid (Sl w lo hi 5 A n f) := hs
  clear hs
  cases hg : goodRows f n with
  | false =>
    have hr : yearsRes f n z = [] := by simp [yearsRes, yearsOk, hg]
    have hk : yearsOk f n z = false := by simp [yearsOk, hg]
    rw [hr, hk]
    clear hr hk
    go_enter Try.func8, Try.ntmps8
    go_wp2_with fail
    have hz0 : Below w.heap.size w (w.alloc (.cells #[] 3)) := (Below.refl _ w).alloc (Nat.le_refl _) _
    refine (l26Good_any A n c lo hi f _ (HS.out.below hz0) hn hnc).mono ?_
    rintro e w1 ⟨rfl, hb1'⟩
    have hb1 := below_of hz0 hb1' hz0.size
    have ho1 : w1.ownsRow w.heap.size 3 1 (.slice (some ⟨w.heap.size, 0, none⟩) 0 0) 0 [] := ownsRow_below (World.ownsRow_made w #[] 0 (Nat.le_refl _) (by unfold maxLen; omega) rfl) hb1'
    clear hb1' hz0
    go_wp2
    go_ret2
    exact IntsPost.mk_ (zs := []) ho1 hb1
  | true =>
    cases hz : inR z 1 1000 with
    | false =>
      have hr : yearsRes f n z = [] := by simp [yearsRes, yearsOk, hz]
      have hk : yearsOk f n z = false := by simp [yearsOk, hz]
      rw [hr, hk]
      clear hr hk
      go_enter Try.func8, Try.ntmps8
      go_wp2_with fail
      have hz0 : Below w.heap.size w (w.alloc (.cells #[] 3)) := (Below.refl _ w).alloc (Nat.le_refl _) _
      refine (l26Good_any A n c lo hi f _ (HS.out.below hz0) hn hnc).mono ?_
      rintro e w1 ⟨rfl, hb1'⟩
      have hb1 := below_of hz0 hb1' hz0.size
      have ho1 : w1.ownsRow w.heap.size 3 1 (.slice (some ⟨w.heap.size, 0, none⟩) 0 0) 0 [] := ownsRow_below (World.ownsRow_made w #[] 0 (Nat.le_refl _) (by unfold maxLen; omega) rfl) hb1'
      clear hb1' hz0
      go_wp2_with fail
      refine (l1In_any _ _ _ _).mono ?_
      rintro e w2 ⟨rfl, rfl⟩
      go_wp2
      go_ret2
      exact IntsPost.mk_ (zs := []) ho1 hb1
    | true =>
      have hr : yearsRes f n z = yearsList f n z := by simp [yearsRes, yearsOk, hg, hz]
      have hk : yearsOk f n z = true := by simp [yearsOk, hg, hz]
      rw [hr, hk]
      unfold yearsList
      clear hr hk
      go_enter Try.func8, Try.ntmps8
      go_wp2_with fail
      have hz0 : Below w.heap.size w (w.alloc (.cells #[] 3)) := (Below.refl _ w).alloc (Nat.le_refl _) _
      refine (l26Good_any A n c lo hi f _ (HS.out.below hz0) hn hnc).mono ?_
      rintro e w1 ⟨rfl, hb1'⟩
      have hb1 := below_of hz0 hb1' hz0.size
      have ho1 : w1.ownsRow w.heap.size 3 1 (.slice (some ⟨w.heap.size, 0, none⟩) 0 0) 0 [] := ownsRow_below (World.ownsRow_made w #[] 0 (Nat.le_refl _) (by unfold maxLen; omega) rfl) hb1'
      clear hb1' hz0
      go_wp2_with fail
      refine (l1In_any _ _ _ _).mono ?_
      rintro e w2 ⟨rfl, rfl⟩
      go_wp2
      go_loop [7, 8] (fun t i => ∃ k : Nat, k ≤ n ∧ i = .int .i64 k ∧ t = .int .i64 (sumW (tonsAt f) k)) (fun _ i => n - (intOf i).toNat)
      case atStart => exact ⟨0, Nat.zero_le _, rfl, rfl⟩
      case round =>
        obtain ⟨k, hk, rfl, rfl⟩ := hrel
        by_cases hlt : k < n
        · obtain ⟨b, off, rfl, hbw, HC⟩ := HS.out.open_ hb1 (by omega)
          obtain ⟨c0, c1, c2, c3, c4⟩ := cell5 HC hlt
          clear HC HS
          go_wp2
          go_round
          case rel => exact ⟨k + 1, by omega, by go_num, rfl⟩
          case measure => simp [intOf]; omega
        · obtain rfl : n = k := by omega
          clear hk hlt
          generalize hS : sumW (tonsAt f) n = S
          have HSM : Hid (sumW (tonsAt f) n = S) := hS
          clear hS
          go_wp2
          go_loopw [6, 9] (fun v i wr => ∃ k : Nat, k ≤ n ∧ i = .int .i64 k ∧ wr.ownsRow w.heap.size 3 1 v (pick (aboveB f n z S) (yearAt f) k).length ((pick (aboveB f n z S) (yearAt f) k).map (Value.int .i64)) ∧ Below w.heap.size w wr) (fun _ i _ => n - (intOf i).toNat)
          case atStart => exact ⟨0, Nat.zero_le _, rfl, ho1, hb1⟩
          case round =>
            obtain ⟨k, hk, rfl, hown, hB⟩ := hrel
            have hl : (pick (aboveB f n z S) (yearAt f) k).length ≤ 100000000 := by have := pick_len (aboveB f n z S) (yearAt f) k; omega
            generalize hP : pick (aboveB f n z S) (yearAt f) k = P at hown hl
            have HP : Hid (pick (aboveB f n z S) (yearAt f) k = P) := hP
            have HO : Hid (wr.ownsRow w.heap.size 3 1 u6 P.length (P.map (Value.int .i64))) := hown
            clear hown hP
            by_cases hlt : k < n
            · obtain ⟨b, off, rfl, hbw, HC⟩ := HS.out.open_ hB (by omega)
              obtain ⟨c0, c1, c2, c3, c4⟩ := cell5 HC hlt
              clear HC HS
              have hsz := hB.size
              by_cases ht : wrap64 (z * S) ≤ wrap64 (wrap64 (100 * f (k * 5 + 2)) * n)
              · go_wp2_with (at_builtin; refine wpList_append_int1 _ rfl _ _ 27 rfl w.heap.size 3 Try.underlying27 infoIntE P (f (k * 5)) _ rfl (HO.out.alloc _) _ rfl (by simp) hl (by simp; omega) ?_; intro v' w3 hown3 _ hgrow3)
                go_roundw
                case rel => exact ⟨k + 1, by omega, by go_num, by rw [pick_yes (by simpa [aboveB] using ht), HP.out]; exact hown3, below_app (hB.alloc hB.size _) (HO.out.alloc _) hgrow3⟩
                case measure => simp [intOf]; omega
              · have HT : Hid (aboveB f n z S k = false) := by simpa [Hid, aboveB] using ht
                go_wp2
                go_roundw
                case rel => exact ⟨k + 1, by omega, by go_num, by rw [pick_no HT.out, HP.out]; exact HO.out, hB⟩
                case measure => simp [intOf]; omega
            · obtain rfl : k = n := by omega
              clear HS
              go_wp2
              go_ret2
              rw [HSM.out, HP.out]
              exact IntsPost.mk_ HO.out hB
end Go.Proofs.Ytfejgoohefhjoaa
