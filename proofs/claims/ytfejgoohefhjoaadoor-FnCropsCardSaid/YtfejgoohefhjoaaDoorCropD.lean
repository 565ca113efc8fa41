/-
  WorthOf: the worth of each row.
-/
import Derived.Test.YtfejgoohefhjoaaDoorCropB
import Derived.Test.YtfejgoohefhjoaaDoorApp
namespace Go.Proofs.YtfejgoohefhjoaaDoor
open Go.RowKit
set_option linter.unusedVariables false
set_option linter.unusedSimpArgs false
theorem infoInt : (Tryd.prog.info? 3).map (fun i => (i.zero, i.size, i.bytes)) = some (some (.int .i64 0), 1, 8) := by kernel_rfl

def worthList (f : Nat → Int) (n : Nat) : List Int := (List.range n).map (worthAt f)
theorem worthList_succ (f : Nat → Int) (n : Nat) : worthList f (n + 1) = worthList f n ++ [worthAt f n] := by simp [worthList, List.range_succ]
theorem worthList_len (f : Nat → Int) (n : Nat) : (worthList f n).length = n := by simp [worthList]
def worthRes (f : Nat → Int) (n : Nat) : List Int := if goodRows f n then worthList f n else []
set_option maxHeartbeats 1000000 in
theorem WorthOf_any (A : Option Addr) (n c lo hi : Nat) (f : Nat → Int) (w : World) (hs : Sl w lo hi 5 A n f) (hn : n ≤ 1048576) (hnc : n ≤ c) :
    Calls Tryd.prog 6 #[.slice A n c] w (IntsPost 3 w (worthRes f n) (goodRows f n)) := by
  have HS : Hid (Sl w lo hi 5 A n f) := hs
  clear hs
  cases hg : goodRows f n with
  | false =>
    have hr : worthRes f n = [] := by simp [worthRes, hg]
    rw [hr]
    clear hr
    go_enter Tryd.func6, Tryd.ntmps6
    go_wp2_with fail
    refine (AreCropRows_any A n c lo hi f w HS.out hn hnc).mono ?_
    rintro e w1 ⟨rfl, hb1⟩
    go_wp2
    go_ret2
    exact IntsPost.nil_ hb1
  | true =>
    have hr : worthRes f n = worthList f n := by simp [worthRes, hg]
    rw [hr]
    clear hr
    go_enter Tryd.func6, Tryd.ntmps6
    go_wp2_with fail
    refine (AreCropRows_any A n c lo hi f w HS.out hn hnc).mono ?_
    rintro e w1 ⟨rfl, hb1⟩
    go_wp2
    go_loopw [4, 12] (fun v i wr => ∃ k : Nat, k ≤ n ∧ i = .int .i64 k ∧ wr.ownsRow w.heap.size 3 1 v (worthList f k).length ((worthList f k).map (Value.int .i64)) ∧ Below w.heap.size w wr) (fun _ i _ => n - (intOf i).toNat)
    case atStart => exact ⟨0, Nat.zero_le _, rfl, World.ownsRow_nil _ _ _ _, hb1⟩
    case round =>
      obtain ⟨k, hk, rfl, hown, hB⟩ := hrel
      have HO : Hid (wr.ownsRow w.heap.size 3 1 u4 (worthList f k).length ((worthList f k).map (Value.int .i64))) := hown
      clear hown
      by_cases hlt : k < n
      · obtain ⟨b, off, rfl, hbw, HC⟩ := HS.out.open_ hB (by omega)
        obtain ⟨c0, c1, c2, c3, c4⟩ := cell5 HC hlt
        clear HC HS
        go_wp2_with fail
        refine (worth_any _ _ _ _ _ _).mono ?_
        rintro e w2 ⟨rfl, hb2⟩
        have hb3 : Below wr.heap.size wr w2 := ((Below.refl _ wr).alloc (Nat.le_refl _) _).trans (hb2.mono (by simp))
        have HO2 := ownsRow_below HO.out hb3
        have hB2 := below_of hB hb3 hB.size
        have hl : (worthList f k).length ≤ 100000000 := by rw [worthList_len]; omega
        clear hb2 hb3 c0 c1 c2 c3 c4 HO hB
        go_wp2_with (at_builtin; refine wpList_append_int1 _ rfl _ _ 26 rfl w.heap.size 3 Tryd.underlying26 infoInt (worthList f k) (worthAt f k) _ rfl (HO2.alloc _) w2.heap.size rfl (by simp [worthAt]) hl (by have := hB2.size; simp; omega) ?_; intro v' w3 hown3 _ hgrow3)
        go_roundw
        case rel => exact ⟨k + 1, by omega, by go_num, by rw [worthList_succ]; exact hown3, below_app (hB2.alloc hB2.size _) (HO2.alloc _) hgrow3⟩
        case measure => simp [intOf]; omega
      · obtain rfl : k = n := by omega
        clear HS
        go_wp2
        go_ret2
        exact IntsPost.mk_ HO.out hB
set_option maxHeartbeats 1000000 in
theorem sWorthOf_any (A : Option Addr) (n c lo hi : Nat) (f : Nat → Int) (w : World) (hs : Sl w lo hi 5 A n f) (hn : n ≤ 1048576) (hnc : n ≤ c) :
    Calls Tryd.prog 7 #[.slice A n c] w (IntsPost 3 w (worthRes f n) (goodRows f n)) := by
  have HS : Hid (Sl w lo hi 5 A n f) := hs
  clear hs
  cases hg : goodRows f n with
  | false =>
    have hr : worthRes f n = [] := by simp [worthRes, hg]
    rw [hr]
    clear hr
    go_enter Tryd.func7, Tryd.ntmps7
    go_wp2_with fail
    have hz0 : Below w.heap.size w (w.alloc (.cells #[] 3)) := (Below.refl _ w).alloc (Nat.le_refl _) _
    refine (l26Good_any A n c lo hi f _ (HS.out.below hz0) hn hnc).mono ?_
    rintro e w1 ⟨rfl, hb1'⟩
    have hb1 := below_of hz0 hb1' hz0.size
    have ho1 : w1.ownsRow w.heap.size 3 1 (.slice (some ⟨w.heap.size, 0, none⟩) 0 0) 0 [] := ownsRow_below (World.ownsRow_made w #[] 0 (Nat.le_refl _) (by unfold maxLen; omega) rfl) hb1'
    clear hb1' hz0
    go_wp2
    go_ret2
    exact IntsPost.mk_ (zs := []) ho1 hb1
  | true =>
    have hr : worthRes f n = worthList f n := by simp [worthRes, hg]
    rw [hr]
    clear hr
    go_enter Tryd.func7, Tryd.ntmps7
    go_wp2_with fail
    have hz0 : Below w.heap.size w (w.alloc (.cells #[] 3)) := (Below.refl _ w).alloc (Nat.le_refl _) _
    refine (l26Good_any A n c lo hi f _ (HS.out.below hz0) hn hnc).mono ?_
    rintro e w1 ⟨rfl, hb1'⟩
    have hb1 := below_of hz0 hb1' hz0.size
    have ho1 : w1.ownsRow w.heap.size 3 1 (.slice (some ⟨w.heap.size, 0, none⟩) 0 0) 0 [] := ownsRow_below (World.ownsRow_made w #[] 0 (Nat.le_refl _) (by unfold maxLen; omega) rfl) hb1'
    clear hb1' hz0
    go_wp2
    go_loopw [4, 5] (fun v i wr => ∃ k : Nat, k ≤ n ∧ i = .int .i64 k ∧ wr.ownsRow w.heap.size 3 1 v (worthList f k).length ((worthList f k).map (Value.int .i64)) ∧ Below w.heap.size w wr) (fun _ i _ => n - (intOf i).toNat)
    case atStart => exact ⟨0, Nat.zero_le _, rfl, ho1, hb1⟩
    case round =>
      obtain ⟨k, hk, rfl, hown, hB⟩ := hrel
      have HO : Hid (wr.ownsRow w.heap.size 3 1 u4 (worthList f k).length ((worthList f k).map (Value.int .i64))) := hown
      clear hown
      by_cases hlt : k < n
      · obtain ⟨b, off, rfl, hbw, HC⟩ := HS.out.open_ hB (by omega)
        obtain ⟨c0, c1, c2, c3, c4⟩ := cell5 HC hlt
        clear HC HS
        go_wp2_with fail
        refine (l26Worth_any _ _ _ _ _ _).mono ?_
        rintro e w2 ⟨rfl, hb2⟩
        have hb3 : Below wr.heap.size wr w2 := hb2
        have HO2 := ownsRow_below HO.out hb3
        have hB2 := below_of hB hb3 hB.size
        have hl : (worthList f k).length ≤ 100000000 := by rw [worthList_len]; omega
        clear hb2 hb3 c0 c1 c2 c3 c4 HO hB
        go_wp2_with (at_builtin; refine wpList_append_int1 _ rfl _ _ 26 rfl w.heap.size 3 Tryd.underlying26 infoInt (worthList f k) (worthAt f k) _ rfl (HO2.alloc _) w2.heap.size rfl (by simp [worthAt]) hl (by have := hB2.size; simp; omega) ?_; intro v' w3 hown3 _ hgrow3)
        go_roundw
        case rel => exact ⟨k + 1, by omega, by go_num, by rw [worthList_succ]; exact hown3, below_app (hB2.alloc hB2.size _) (HO2.alloc _) hgrow3⟩
        case measure => simp [intOf]; omega
      · obtain rfl : k = n := by omega
        clear HS
        go_wp2
        go_ret2
        exact IntsPost.mk_ HO.out hB
end Go.Proofs.YtfejgoohefhjoaaDoor
