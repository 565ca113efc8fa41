/-
  NearPairs: the reference's side.
-/
import Derived.Test.YtcecpioiagfoiaaDoorNestD
namespace Go.Proofs.YtcecpioiagfoiaaDoor
open Go.RowKit
set_option linter.unusedVariables false
set_option linter.unusedSimpArgs false
attribute [local go_sem ↓] Go.wp_at_zero Go.wp_at_succ
set_option maxRecDepth 100000 in
set_option maxHeartbeats 2000000 in
theorem sNearPairs_any (A : Option Addr) (n c lo hi : Nat) (f : Nat → Int) (w : World) (hs : Sl w lo hi 7 A n f) (hn : n ≤ 1048576) (hnc : n ≤ c) (hcm : c ≤ maxLen) :
    Calls Tryd.prog 7 #[.slice A n c] w (PairsPost w (npRes f n) (goodNests f n)) := by
  have HS : Hid (Sl w lo hi 7 A n f) := hs
  clear hs
  cases hg : goodNests f n with
  | false =>
    have hr : npRes f n = [] := by simp [npRes, hg]
    rw [hr]
    clear hr
    go_enter Tryd.func7, Tryd.ntmps7
    go_wp2_with fail
    have hz0 : Below w.heap.size w (w.alloc (.cells #[] 37)) := (Below.refl _ w).alloc (Nat.le_refl _) _
    refine (sNestAll_any A n c lo hi f _ (HS.out.below hz0) hn hnc).mono ?_
    rw [hg]
    rintro e w1 ⟨rfl, hb1'⟩
    have hb1 := below_of hz0 hb1' hz0.size
    have ho1 : PRs w1 w.heap.size w1.heap.size (.slice (some ⟨w.heap.size, 0, none⟩) 0 0) [] := (PRs.made w w.heap.size w1.heap.size (Nat.le_refl _)).below hb1'
    clear hb1' hz0
    go_wp2
    go_ret2
    exact PairsPost.mk_ ho1 hb1
  | true =>
    have hr : npRes f n = npTo f n n := by simp [npRes, hg]
    have h12 := goodNests_12 hg
    have hc8 : c ≤ 9223372036854775807 := by unfold maxLen at hcm; omega
    rw [hr]
    clear hr hcm
    go_enter Tryd.func7, Tryd.ntmps7
    go_wp2_with fail
    have hz0 : Below w.heap.size w (w.alloc (.cells #[] 37)) := (Below.refl _ w).alloc (Nat.le_refl _) _
    refine (sNestAll_any A n c lo hi f _ (HS.out.below hz0) hn hnc).mono ?_
    rw [hg]
    rintro e w1 ⟨rfl, hb1'⟩
    have hb1 := below_of hz0 hb1' hz0.size
    have ho1 : PRs w1 w.heap.size w1.heap.size (.slice (some ⟨w.heap.size, 0, none⟩) 0 0) [] := (PRs.made w w.heap.size w1.heap.size (Nat.le_refl _)).below hb1'
    clear hb1' hz0
    go_wp2
    go_loopw [4, 5] (fun v iv wr => ∃ i : Nat, i ≤ n ∧ iv = .int .i64 i ∧ PRs wr w.heap.size wr.heap.size v (npTo f n i) ∧ Below w.heap.size w wr) (fun _ iv _ => n - (intOf iv).toNat)
    case atStart => exact ⟨0, Nat.zero_le _, rfl, ho1, hb1⟩
    case round =>
      obtain ⟨i, hi', rfl, hown, hB⟩ := hrel
      clear hb1 ho1
      have HO1 := Lib.hid hown
      clear hown
      by_cases hlt : i < n
      · have i0 : (0 : Int) ≤ (i : Int) := by omega
        have i1 : (i : Int) < (n : Int) := by omega
        have i2 : IntKind.i64.wrap ((i : Int) + 1) = (i : Int) + 1 := IntWalk.i64_in _ (by omega)
        obtain ⟨wo, hwo⟩ : ∃ x, x = wr := ⟨_, rfl⟩
        subst hwo
        have hBo := hB
        clear hB
        go_wp2_with fail
        go_loopw [4, 6] (fun v kv wr => ∃ k : Nat, i < k ∧ k ≤ n ∧ kv = .int .i64 k ∧ PRs wr w.heap.size wr.heap.size v (npTo f n i ++ rowP f i k) ∧ Below w.heap.size w wr) (fun _ kv _ => n - (intOf kv).toNat)
        case atStart => exact ⟨i + 1, by omega, hlt, by simp, by rw [rowP_low f i _ (Nat.le_refl _), List.append_nil]; exact HO1.out, hBo⟩
        case round =>
          obtain ⟨k, hik, hkn, rfl, hown, hB⟩ := hrel
          clear HO1 hBo
          have hl : (npTo f n i ++ rowP f i k).length ≤ 100000000 := part_len f h12 hi' hkn
          by_cases hlt2 : k < n
          · obtain ⟨b, off, rfl, hbw, HC⟩ := HS.out.open_ hB (by omega)
            obtain ⟨a0, a1, a2, a3, a4, a5, a6⟩ := cell7 HC hlt
            obtain ⟨c0, c1, c2, c3, c4, c5, c6⟩ := cell7 HC hlt2
            have HF : Hid (∀ w', Below wr.heap.size wr w' → w'.cell? ⟨b, off + i * 7, none⟩ = some (.int .i64 (f (i * 7))) ∧ w'.cell? ⟨b, off + i * 7 + 1, none⟩ = some (.int .i64 (f (i * 7 + 1))) ∧ w'.cell? ⟨b, off + i * 7 + 2, none⟩ = some (.int .i64 (f (i * 7 + 2))) ∧ w'.cell? ⟨b, off + i * 7 + 3, none⟩ = some (.int .i64 (f (i * 7 + 3))) ∧ w'.cell? ⟨b, off + i * 7 + 4, none⟩ = some (.int .i64 (f (i * 7 + 4))) ∧ w'.cell? ⟨b, off + i * 7 + 5, none⟩ = some (.int .i64 (f (i * 7 + 5))) ∧ w'.cell? ⟨b, off + i * 7 + 6, none⟩ = some (.int .i64 (f (i * 7 + 6))) ∧ w'.cell? ⟨b, off + k * 7, none⟩ = some (.int .i64 (f (k * 7))) ∧ w'.cell? ⟨b, off + k * 7 + 1, none⟩ = some (.int .i64 (f (k * 7 + 1))) ∧ w'.cell? ⟨b, off + k * 7 + 5, none⟩ = some (.int .i64 (f (k * 7 + 5))) ∧ w'.cell? ⟨b, off + k * 7 + 6, none⟩ = some (.int .i64 (f (k * 7 + 6)))) := fun w' hq => ⟨(hq.cell (p := ⟨b, off + i * 7, none⟩) hbw).trans a0, (hq.cell (p := ⟨b, off + i * 7 + 1, none⟩) hbw).trans a1, (hq.cell (p := ⟨b, off + i * 7 + 2, none⟩) hbw).trans a2, (hq.cell (p := ⟨b, off + i * 7 + 3, none⟩) hbw).trans a3, (hq.cell (p := ⟨b, off + i * 7 + 4, none⟩) hbw).trans a4, (hq.cell (p := ⟨b, off + i * 7 + 5, none⟩) hbw).trans a5, (hq.cell (p := ⟨b, off + i * 7 + 6, none⟩) hbw).trans a6, (hq.cell (p := ⟨b, off + k * 7, none⟩) hbw).trans c0, (hq.cell (p := ⟨b, off + k * 7 + 1, none⟩) hbw).trans c1, (hq.cell (p := ⟨b, off + k * 7 + 5, none⟩) hbw).trans c5, (hq.cell (p := ⟨b, off + k * 7 + 6, none⟩) hbw).trans c6⟩
            clear HC HS a0 a1 a2 a3 a4 a5 a6 c0 c1 c2 c3 c4 c5 c6
            have k0 : (0 : Int) ≤ (k : Int) := by omega
            have k1 : (k : Int) < (n : Int) := by omega
            generalize hP : (npTo f n i ++ rowP f i k) = P at hown hl
            have HP := Lib.hid hP
            have HO := Lib.hid hown
            clear hP hown
            go_wp2_with fail
            refine wp_region_class (C := fun w' => Below (wr).heap.size (wr) w') (by kernel_rfl) (by kernel_rfl) ((Below.refl _ _).drew) ?_
            refine wpQuiet_take (d := 27) (v := ?_) (by rfl) ?_ ?_
            rotate_left
            · intro wS hS
              have eF := HF.out wS hS
              go_simp
              try with_reducible rfl
            simp only [Act.put, List.setIfInBounds_toArray, List.set_cons_zero, List.set_cons_succ]
            refine wpQuiet_take (d := 28) (v := ?_) (by rfl) ?_ ?_
            rotate_left
            · intro wS hS
              have eF := HF.out wS hS
              go_simp
              try with_reducible rfl
            simp only [Act.put, List.setIfInBounds_toArray, List.set_cons_zero, List.set_cons_succ]
            refine wpQuiet_take (d := 29) (v := ?_) (by rfl) ?_ ?_
            rotate_left
            · intro wS hS
              have eF := HF.out wS hS
              go_simp
              try with_reducible rfl
            simp only [Act.put, List.setIfInBounds_toArray, List.set_cons_zero, List.set_cons_succ]
            refine wpQuiet_take (d := 30) (v := ?_) (by rfl) ?_ ?_
            rotate_left
            · intro wS hS
              have eF := HF.out wS hS
              go_simp
              try with_reducible rfl
            simp only [Act.put, List.setIfInBounds_toArray, List.set_cons_zero, List.set_cons_succ]
            refine wpQuiet_take (d := 31) (v := ?_) (by rfl) ?_ ?_
            rotate_left
            · intro wS hS
              have eF := HF.out wS hS
              go_simp
              try with_reducible rfl
            simp only [Act.put, List.setIfInBounds_toArray, List.set_cons_zero, List.set_cons_succ]
            refine wpQuiet_take (d := 32) (v := ?_) (by rfl) ?_ ?_
            rotate_left
            · intro wS hS
              have eF := HF.out wS hS
              go_simp
              try with_reducible rfl
            simp only [Act.put, List.setIfInBounds_toArray, List.set_cons_zero, List.set_cons_succ]
            refine wpQuiet_take (d := 33) (v := ?_) (by rfl) ?_ ?_
            rotate_left
            · intro wS hS
              have eF := HF.out wS hS
              go_simp
              try with_reducible rfl
            simp only [Act.put, List.setIfInBounds_toArray, List.set_cons_zero, List.set_cons_succ]
            refine wpQuiet_take (d := 34) (v := ?_) (by rfl) ?_ ?_
            rotate_left
            · intro wS hS
              have eF := HF.out wS hS
              go_simp
              try with_reducible rfl
            simp only [Act.put, List.setIfInBounds_toArray, List.set_cons_zero, List.set_cons_succ]
            refine wpQuiet_take (d := 35) (v := ?_) (by rfl) ?_ ?_
            rotate_left
            · intro wS hS
              have eF := HF.out wS hS
              go_simp
              try with_reducible rfl
            simp only [Act.put, List.setIfInBounds_toArray, List.set_cons_zero, List.set_cons_succ]
            refine wpQuiet_take (d := 36) (v := ?_) (by rfl) ?_ ?_
            rotate_left
            · intro wS hS
              have eF := HF.out wS hS
              go_simp
              try with_reducible rfl
            simp only [Act.put, List.setIfInBounds_toArray, List.set_cons_zero, List.set_cons_succ]
            refine wpQuiet_take (d := 37) (v := ?_) (by rfl) ?_ ?_
            rotate_left
            · intro wS hS
              have eF := HF.out wS hS
              go_simp
              try with_reducible rfl
            simp only [Act.put, List.setIfInBounds_toArray, List.set_cons_zero, List.set_cons_succ]
            refine wpQuiet_nil (fun wq hHeld => ?_)
            by_cases hkd : f (i * 7 + 1) = f (k * 7 + 1)
            · have hkb : (f (i * 7 + 1) == f (k * 7 + 1)) = true := by simp [hkd]
              cases hnb0 : nearB f i k with
              | true =>
                have hnb : Hid (nearB f i k = true) := hnb0
                have hsq : (sq2V (f (i * 7 + 5)) (f (i * 7 + 6)) (f (k * 7 + 5)) (f (k * 7 + 6)) < 900) := by
                  have h := hnb0
                  simp only [nearB, leastV, if_pos hkd, decide_eq_true_eq] at h
                  exact h
                clear hnb0 hkd
                go_wp2_with fail
                have hB2 := below_of hB hHeld hB.size
                have hO2 := Lib.hid ((HO.out.below hHeld).hi hHeld.size)
                have HF2 : Hid (∀ w', Below wq.heap.size wq w' → w'.cell? ⟨b, off + i * 7, none⟩ = some (.int .i64 (f (i * 7))) ∧ w'.cell? ⟨b, off + i * 7 + 1, none⟩ = some (.int .i64 (f (i * 7 + 1))) ∧ w'.cell? ⟨b, off + i * 7 + 2, none⟩ = some (.int .i64 (f (i * 7 + 2))) ∧ w'.cell? ⟨b, off + i * 7 + 3, none⟩ = some (.int .i64 (f (i * 7 + 3))) ∧ w'.cell? ⟨b, off + i * 7 + 4, none⟩ = some (.int .i64 (f (i * 7 + 4))) ∧ w'.cell? ⟨b, off + i * 7 + 5, none⟩ = some (.int .i64 (f (i * 7 + 5))) ∧ w'.cell? ⟨b, off + i * 7 + 6, none⟩ = some (.int .i64 (f (i * 7 + 6))) ∧ w'.cell? ⟨b, off + k * 7, none⟩ = some (.int .i64 (f (k * 7))) ∧ w'.cell? ⟨b, off + k * 7 + 1, none⟩ = some (.int .i64 (f (k * 7 + 1))) ∧ w'.cell? ⟨b, off + k * 7 + 5, none⟩ = some (.int .i64 (f (k * 7 + 5))) ∧ w'.cell? ⟨b, off + k * 7 + 6, none⟩ = some (.int .i64 (f (k * 7 + 6)))) := fun w' hq => HF.out w' (hHeld.trans (hq.mono hHeld.size))
                clear HF HO hB hHeld
                have HF := HF2
                clear HF2
                obtain ⟨wb, hwb⟩ : ∃ x, x = wq := ⟨_, rfl⟩
                subst hwb
                refine wp_region_class (C := fun w' => Below (wb).heap.size (wb) w') (by kernel_rfl) (by kernel_rfl) ((Below.refl _ _).drew) ?_
                refine wpQuiet_take (d := 38) (v := ?_) (by rfl) ?_ ?_
                rotate_left
                · intro wS hS
                  have eF := HF.out wS hS
                  go_simp
                  try with_reducible rfl
                simp only [Act.put, List.setIfInBounds_toArray, List.set_cons_zero, List.set_cons_succ]
                refine wpQuiet_take (d := 39) (v := ?_) (by rfl) ?_ ?_
                rotate_left
                · intro wS hS
                  have eF := HF.out wS hS
                  go_simp
                  try with_reducible rfl
                simp only [Act.put, List.setIfInBounds_toArray, List.set_cons_zero, List.set_cons_succ]
                refine wpQuiet_take (d := 40) (v := ?_) (by rfl) ?_ ?_
                rotate_left
                · intro wS hS
                  have eF := HF.out wS hS
                  go_simp
                  try with_reducible rfl
                simp only [Act.put, List.setIfInBounds_toArray, List.set_cons_zero, List.set_cons_succ]
                refine wpQuiet_take (d := 41) (v := ?_) (by rfl) ?_ ?_
                rotate_left
                · intro wS hS
                  have eF := HF.out wS hS
                  go_simp
                  try with_reducible rfl
                simp only [Act.put, List.setIfInBounds_toArray, List.set_cons_zero, List.set_cons_succ]
                refine wpQuiet_take (d := 42) (v := ?_) (by rfl) ?_ ?_
                rotate_left
                · intro wS hS
                  have eF := HF.out wS hS
                  go_simp
                  try with_reducible rfl
                simp only [Act.put, List.setIfInBounds_toArray, List.set_cons_zero, List.set_cons_succ]
                refine wpQuiet_take (d := 43) (v := ?_) (by rfl) ?_ ?_
                rotate_left
                · intro wS hS
                  have eF := HF.out wS hS
                  go_simp
                  try with_reducible rfl
                simp only [Act.put, List.setIfInBounds_toArray, List.set_cons_zero, List.set_cons_succ]
                refine wpQuiet_take (d := 44) (v := ?_) (by rfl) ?_ ?_
                rotate_left
                · intro wS hS
                  have eF := HF.out wS hS
                  go_simp
                  try with_reducible rfl
                simp only [Act.put, List.setIfInBounds_toArray, List.set_cons_zero, List.set_cons_succ]
                refine wpQuiet_take (d := 45) (v := ?_) (by rfl) ?_ ?_
                rotate_left
                · intro wS hS
                  have eF := HF.out wS hS
                  go_simp
                  try with_reducible rfl
                simp only [Act.put, List.setIfInBounds_toArray, List.set_cons_zero, List.set_cons_succ]
                refine wpQuiet_take (d := 46) (v := ?_) (by rfl) ?_ ?_
                rotate_left
                · intro wS hS
                  have eF := HF.out wS hS
                  go_simp
                  try with_reducible rfl
                simp only [Act.put, List.setIfInBounds_toArray, List.set_cons_zero, List.set_cons_succ]
                refine wpQuiet_take (d := 47) (v := ?_) (by rfl) ?_ ?_
                rotate_left
                · intro wS hS
                  have eF := HF.out wS hS
                  go_simp
                  try with_reducible rfl
                simp only [Act.put, List.setIfInBounds_toArray, List.set_cons_zero, List.set_cons_succ]
                refine wpQuiet_take (d := 48) (v := ?_) (by rfl) ?_ ?_
                rotate_left
                · intro wS hS
                  have eF := HF.out wS hS
                  go_simp
                  try with_reducible rfl
                simp only [Act.put, List.setIfInBounds_toArray, List.set_cons_zero, List.set_cons_succ]
                refine wpQuiet_take (d := 49) (v := ?_) (by rfl) ?_ ?_
                rotate_left
                · intro wS hS
                  have eF := HF.out wS hS
                  go_simp
                  try with_reducible rfl
                simp only [Act.put, List.setIfInBounds_toArray, List.set_cons_zero, List.set_cons_succ]
                refine wpQuiet_take (d := 50) (v := ?_) (by rfl) ?_ ?_
                rotate_left
                · intro wS hS
                  have eF := HF.out wS hS
                  go_simp
                  try with_reducible rfl
                simp only [Act.put, List.setIfInBounds_toArray, List.set_cons_zero, List.set_cons_succ]
                refine wpQuiet_take (d := 51) (v := ?_) (by rfl) ?_ ?_
                rotate_left
                · intro wS hS
                  have eF := HF.out wS hS
                  go_simp
                  try with_reducible rfl
                simp only [Act.put, List.setIfInBounds_toArray, List.set_cons_zero, List.set_cons_succ]
                refine wpQuiet_meet (d := 52) (v := ?_) ?_ ?_ (by rfl) ?_ ?_ ?_
                rotate_left
                rotate_left
                rotate_left
                · intro wS hS
                  have eF := HF.out wS hS
                  go_simp
                  first | with_reducible rfl | (refine ⟨?_, ?_⟩ <;> with_reducible rfl)
                · intro wS hS
                  refine (l24Square2_any _ _ _ _ _ _ _ _ _ wS).mono ?_
                  rintro e w2 ⟨rfl, hb2⟩
                  refine ⟨?_, hS.trans (hb2.mono hS.size)⟩
                  with_reducible rfl
                simp only [Act.put, List.setIfInBounds_toArray, List.set_cons_zero, List.set_cons_succ]
                refine wpQuiet_take (d := 53) (v := ?_) (by rfl) ?_ ?_
                rotate_left
                · intro wS hS
                  have eF := HF.out wS hS
                  go_simp
                  try with_reducible rfl
                simp only [Act.put, List.setIfInBounds_toArray, List.set_cons_zero, List.set_cons_succ]
                refine wpQuiet_take (d := 54) (v := ?_) (by rfl) ?_ ?_
                rotate_left
                · intro wS hS
                  have eF := HF.out wS hS
                  go_simp
                  try with_reducible rfl
                simp only [Act.put, List.setIfInBounds_toArray, List.set_cons_zero, List.set_cons_succ]
                refine wpQuiet_nil (fun wq hHeld => ?_)
                have hB3 := below_of hB2 hHeld hB2.size
                have HO3 : Hid (PRs wq w.heap.size wq.heap.size u4 P) := (hO2.out.below hHeld).hi hHeld.size
                obtain ⟨a0, a1, a2, a3, a4, a5, a6, c0, c1, c5, c6⟩ := HF.out wq hHeld
                have hs3 := hB3.size
                clear hO2 hB2 hHeld HF a1 a2 a3 a4 a5 a6 c1 c5 c6
                go_wp2
                go_region_law (refine step_append_pair _ rfl _ _ 26 rfl w.heap.size wq.heap.size Tryd.underlying26 u4 P rfl (HO3.out.below (by go_grown)) wq.heap.size (f (i * 7)) (f (k * 7)) (Nat.le_refl _) hs3 (by first | exact heap_alloc2 wq _ _ | exact heap_alloc2 wq.drew _ _) (wq.heap.size + 1) rfl (by simp) hl (by simp; omega) ?_; intro v' w5 hown5 hgrow5)
                all_goals
                  go_wp2
                  go_roundw
                  case rel => exact ⟨k + 1, by omega, by omega, by go_num, by rw [rowP_yes (by omega) hnb.out, ← List.append_assoc, HP.out]; exact hown5, PRs.app (hB3.trans (by go_grown)) (HO3.out.below (by go_grown)) hgrow5⟩
                  case measure => simp [intOf]; omega
              | false =>
                have hnb : Hid (nearB f i k = false) := hnb0
                have hsq : ¬ (sq2V (f (i * 7 + 5)) (f (i * 7 + 6)) (f (k * 7 + 5)) (f (k * 7 + 6)) < 900) := by
                  have h := hnb0
                  simp only [nearB, leastV, if_pos hkd, decide_eq_false_iff_not] at h
                  exact h
                clear hnb0 hkd
                go_wp2_with fail
                have hB2 := below_of hB hHeld hB.size
                have hO2 := Lib.hid ((HO.out.below hHeld).hi hHeld.size)
                have HF2 : Hid (∀ w', Below wq.heap.size wq w' → w'.cell? ⟨b, off + i * 7, none⟩ = some (.int .i64 (f (i * 7))) ∧ w'.cell? ⟨b, off + i * 7 + 1, none⟩ = some (.int .i64 (f (i * 7 + 1))) ∧ w'.cell? ⟨b, off + i * 7 + 2, none⟩ = some (.int .i64 (f (i * 7 + 2))) ∧ w'.cell? ⟨b, off + i * 7 + 3, none⟩ = some (.int .i64 (f (i * 7 + 3))) ∧ w'.cell? ⟨b, off + i * 7 + 4, none⟩ = some (.int .i64 (f (i * 7 + 4))) ∧ w'.cell? ⟨b, off + i * 7 + 5, none⟩ = some (.int .i64 (f (i * 7 + 5))) ∧ w'.cell? ⟨b, off + i * 7 + 6, none⟩ = some (.int .i64 (f (i * 7 + 6))) ∧ w'.cell? ⟨b, off + k * 7, none⟩ = some (.int .i64 (f (k * 7))) ∧ w'.cell? ⟨b, off + k * 7 + 1, none⟩ = some (.int .i64 (f (k * 7 + 1))) ∧ w'.cell? ⟨b, off + k * 7 + 5, none⟩ = some (.int .i64 (f (k * 7 + 5))) ∧ w'.cell? ⟨b, off + k * 7 + 6, none⟩ = some (.int .i64 (f (k * 7 + 6)))) := fun w' hq => HF.out w' (hHeld.trans (hq.mono hHeld.size))
                clear HF HO hB hHeld
                have HF := HF2
                clear HF2
                obtain ⟨wb, hwb⟩ : ∃ x, x = wq := ⟨_, rfl⟩
                subst hwb
                refine wp_region_class (C := fun w' => Below (wb).heap.size (wb) w') (by kernel_rfl) (by kernel_rfl) ((Below.refl _ _).drew) ?_
                refine wpQuiet_take (d := 38) (v := ?_) (by rfl) ?_ ?_
                rotate_left
                · intro wS hS
                  have eF := HF.out wS hS
                  go_simp
                  try with_reducible rfl
                simp only [Act.put, List.setIfInBounds_toArray, List.set_cons_zero, List.set_cons_succ]
                refine wpQuiet_take (d := 39) (v := ?_) (by rfl) ?_ ?_
                rotate_left
                · intro wS hS
                  have eF := HF.out wS hS
                  go_simp
                  try with_reducible rfl
                simp only [Act.put, List.setIfInBounds_toArray, List.set_cons_zero, List.set_cons_succ]
                refine wpQuiet_take (d := 40) (v := ?_) (by rfl) ?_ ?_
                rotate_left
                · intro wS hS
                  have eF := HF.out wS hS
                  go_simp
                  try with_reducible rfl
                simp only [Act.put, List.setIfInBounds_toArray, List.set_cons_zero, List.set_cons_succ]
                refine wpQuiet_take (d := 41) (v := ?_) (by rfl) ?_ ?_
                rotate_left
                · intro wS hS
                  have eF := HF.out wS hS
                  go_simp
                  try with_reducible rfl
                simp only [Act.put, List.setIfInBounds_toArray, List.set_cons_zero, List.set_cons_succ]
                refine wpQuiet_take (d := 42) (v := ?_) (by rfl) ?_ ?_
                rotate_left
                · intro wS hS
                  have eF := HF.out wS hS
                  go_simp
                  try with_reducible rfl
                simp only [Act.put, List.setIfInBounds_toArray, List.set_cons_zero, List.set_cons_succ]
                refine wpQuiet_take (d := 43) (v := ?_) (by rfl) ?_ ?_
                rotate_left
                · intro wS hS
                  have eF := HF.out wS hS
                  go_simp
                  try with_reducible rfl
                simp only [Act.put, List.setIfInBounds_toArray, List.set_cons_zero, List.set_cons_succ]
                refine wpQuiet_take (d := 44) (v := ?_) (by rfl) ?_ ?_
                rotate_left
                · intro wS hS
                  have eF := HF.out wS hS
                  go_simp
                  try with_reducible rfl
                simp only [Act.put, List.setIfInBounds_toArray, List.set_cons_zero, List.set_cons_succ]
                refine wpQuiet_take (d := 45) (v := ?_) (by rfl) ?_ ?_
                rotate_left
                · intro wS hS
                  have eF := HF.out wS hS
                  go_simp
                  try with_reducible rfl
                simp only [Act.put, List.setIfInBounds_toArray, List.set_cons_zero, List.set_cons_succ]
                refine wpQuiet_take (d := 46) (v := ?_) (by rfl) ?_ ?_
                rotate_left
                · intro wS hS
                  have eF := HF.out wS hS
                  go_simp
                  try with_reducible rfl
                simp only [Act.put, List.setIfInBounds_toArray, List.set_cons_zero, List.set_cons_succ]
                refine wpQuiet_take (d := 47) (v := ?_) (by rfl) ?_ ?_
                rotate_left
                · intro wS hS
                  have eF := HF.out wS hS
                  go_simp
                  try with_reducible rfl
                simp only [Act.put, List.setIfInBounds_toArray, List.set_cons_zero, List.set_cons_succ]
                refine wpQuiet_take (d := 48) (v := ?_) (by rfl) ?_ ?_
                rotate_left
                · intro wS hS
                  have eF := HF.out wS hS
                  go_simp
                  try with_reducible rfl
                simp only [Act.put, List.setIfInBounds_toArray, List.set_cons_zero, List.set_cons_succ]
                refine wpQuiet_take (d := 49) (v := ?_) (by rfl) ?_ ?_
                rotate_left
                · intro wS hS
                  have eF := HF.out wS hS
                  go_simp
                  try with_reducible rfl
                simp only [Act.put, List.setIfInBounds_toArray, List.set_cons_zero, List.set_cons_succ]
                refine wpQuiet_take (d := 50) (v := ?_) (by rfl) ?_ ?_
                rotate_left
                · intro wS hS
                  have eF := HF.out wS hS
                  go_simp
                  try with_reducible rfl
                simp only [Act.put, List.setIfInBounds_toArray, List.set_cons_zero, List.set_cons_succ]
                refine wpQuiet_take (d := 51) (v := ?_) (by rfl) ?_ ?_
                rotate_left
                · intro wS hS
                  have eF := HF.out wS hS
                  go_simp
                  try with_reducible rfl
                simp only [Act.put, List.setIfInBounds_toArray, List.set_cons_zero, List.set_cons_succ]
                refine wpQuiet_meet (d := 52) (v := ?_) ?_ ?_ (by rfl) ?_ ?_ ?_
                rotate_left
                rotate_left
                rotate_left
                · intro wS hS
                  have eF := HF.out wS hS
                  go_simp
                  first | with_reducible rfl | (refine ⟨?_, ?_⟩ <;> with_reducible rfl)
                · intro wS hS
                  refine (l24Square2_any _ _ _ _ _ _ _ _ _ wS).mono ?_
                  rintro e w2 ⟨rfl, hb2⟩
                  refine ⟨?_, hS.trans (hb2.mono hS.size)⟩
                  with_reducible rfl
                simp only [Act.put, List.setIfInBounds_toArray, List.set_cons_zero, List.set_cons_succ]
                refine wpQuiet_take (d := 53) (v := ?_) (by rfl) ?_ ?_
                rotate_left
                · intro wS hS
                  have eF := HF.out wS hS
                  go_simp
                  try with_reducible rfl
                simp only [Act.put, List.setIfInBounds_toArray, List.set_cons_zero, List.set_cons_succ]
                refine wpQuiet_take (d := 54) (v := ?_) (by rfl) ?_ ?_
                rotate_left
                · intro wS hS
                  have eF := HF.out wS hS
                  go_simp
                  try with_reducible rfl
                simp only [Act.put, List.setIfInBounds_toArray, List.set_cons_zero, List.set_cons_succ]
                refine wpQuiet_nil (fun wq hHeld => ?_)
                go_wp2_with fail
                go_roundw
                case rel => exact ⟨k + 1, by omega, by omega, by go_num, by rw [rowP_no hnb.out, HP.out]; exact (hO2.out.below hHeld).hi hHeld.size, below_of hB2 hHeld hB2.size⟩
                case measure => simp [intOf]; omega
            · have hkb : (f (i * 7 + 1) == f (k * 7 + 1)) = false := by simp [hkd]
              cases hnb0 : nearB f i k with
              | true =>
                have hnb : Hid (nearB f i k = true) := hnb0
                have hsq : (sq2V (f (i * 7 + 5)) (f (i * 7 + 6)) (f (k * 7 + 5)) (f (k * 7 + 6)) < 100) := by
                  have h := hnb0
                  simp only [nearB, leastV, if_neg hkd, decide_eq_true_eq] at h
                  exact h
                clear hnb0 hkd
                go_wp2_with fail
                have hB2 := below_of hB hHeld hB.size
                have hO2 := Lib.hid ((HO.out.below hHeld).hi hHeld.size)
                have HF2 : Hid (∀ w', Below wq.heap.size wq w' → w'.cell? ⟨b, off + i * 7, none⟩ = some (.int .i64 (f (i * 7))) ∧ w'.cell? ⟨b, off + i * 7 + 1, none⟩ = some (.int .i64 (f (i * 7 + 1))) ∧ w'.cell? ⟨b, off + i * 7 + 2, none⟩ = some (.int .i64 (f (i * 7 + 2))) ∧ w'.cell? ⟨b, off + i * 7 + 3, none⟩ = some (.int .i64 (f (i * 7 + 3))) ∧ w'.cell? ⟨b, off + i * 7 + 4, none⟩ = some (.int .i64 (f (i * 7 + 4))) ∧ w'.cell? ⟨b, off + i * 7 + 5, none⟩ = some (.int .i64 (f (i * 7 + 5))) ∧ w'.cell? ⟨b, off + i * 7 + 6, none⟩ = some (.int .i64 (f (i * 7 + 6))) ∧ w'.cell? ⟨b, off + k * 7, none⟩ = some (.int .i64 (f (k * 7))) ∧ w'.cell? ⟨b, off + k * 7 + 1, none⟩ = some (.int .i64 (f (k * 7 + 1))) ∧ w'.cell? ⟨b, off + k * 7 + 5, none⟩ = some (.int .i64 (f (k * 7 + 5))) ∧ w'.cell? ⟨b, off + k * 7 + 6, none⟩ = some (.int .i64 (f (k * 7 + 6)))) := fun w' hq => HF.out w' (hHeld.trans (hq.mono hHeld.size))
                clear HF HO hB hHeld
                have HF := HF2
                clear HF2
                obtain ⟨wb, hwb⟩ : ∃ x, x = wq := ⟨_, rfl⟩
                subst hwb
                refine wp_region_class (C := fun w' => Below (wb).heap.size (wb) w') (by kernel_rfl) (by kernel_rfl) ((Below.refl _ _).drew) ?_
                refine wpQuiet_take (d := 38) (v := ?_) (by rfl) ?_ ?_
                rotate_left
                · intro wS hS
                  have eF := HF.out wS hS
                  go_simp
                  try with_reducible rfl
                simp only [Act.put, List.setIfInBounds_toArray, List.set_cons_zero, List.set_cons_succ]
                refine wpQuiet_take (d := 39) (v := ?_) (by rfl) ?_ ?_
                rotate_left
                · intro wS hS
                  have eF := HF.out wS hS
                  go_simp
                  try with_reducible rfl
                simp only [Act.put, List.setIfInBounds_toArray, List.set_cons_zero, List.set_cons_succ]
                refine wpQuiet_take (d := 40) (v := ?_) (by rfl) ?_ ?_
                rotate_left
                · intro wS hS
                  have eF := HF.out wS hS
                  go_simp
                  try with_reducible rfl
                simp only [Act.put, List.setIfInBounds_toArray, List.set_cons_zero, List.set_cons_succ]
                refine wpQuiet_take (d := 41) (v := ?_) (by rfl) ?_ ?_
                rotate_left
                · intro wS hS
                  have eF := HF.out wS hS
                  go_simp
                  try with_reducible rfl
                simp only [Act.put, List.setIfInBounds_toArray, List.set_cons_zero, List.set_cons_succ]
                refine wpQuiet_take (d := 42) (v := ?_) (by rfl) ?_ ?_
                rotate_left
                · intro wS hS
                  have eF := HF.out wS hS
                  go_simp
                  try with_reducible rfl
                simp only [Act.put, List.setIfInBounds_toArray, List.set_cons_zero, List.set_cons_succ]
                refine wpQuiet_take (d := 43) (v := ?_) (by rfl) ?_ ?_
                rotate_left
                · intro wS hS
                  have eF := HF.out wS hS
                  go_simp
                  try with_reducible rfl
                simp only [Act.put, List.setIfInBounds_toArray, List.set_cons_zero, List.set_cons_succ]
                refine wpQuiet_take (d := 44) (v := ?_) (by rfl) ?_ ?_
                rotate_left
                · intro wS hS
                  have eF := HF.out wS hS
                  go_simp
                  try with_reducible rfl
                simp only [Act.put, List.setIfInBounds_toArray, List.set_cons_zero, List.set_cons_succ]
                refine wpQuiet_take (d := 45) (v := ?_) (by rfl) ?_ ?_
                rotate_left
                · intro wS hS
                  have eF := HF.out wS hS
                  go_simp
                  try with_reducible rfl
                simp only [Act.put, List.setIfInBounds_toArray, List.set_cons_zero, List.set_cons_succ]
                refine wpQuiet_take (d := 46) (v := ?_) (by rfl) ?_ ?_
                rotate_left
                · intro wS hS
                  have eF := HF.out wS hS
                  go_simp
                  try with_reducible rfl
                simp only [Act.put, List.setIfInBounds_toArray, List.set_cons_zero, List.set_cons_succ]
                refine wpQuiet_take (d := 47) (v := ?_) (by rfl) ?_ ?_
                rotate_left
                · intro wS hS
                  have eF := HF.out wS hS
                  go_simp
                  try with_reducible rfl
                simp only [Act.put, List.setIfInBounds_toArray, List.set_cons_zero, List.set_cons_succ]
                refine wpQuiet_take (d := 48) (v := ?_) (by rfl) ?_ ?_
                rotate_left
                · intro wS hS
                  have eF := HF.out wS hS
                  go_simp
                  try with_reducible rfl
                simp only [Act.put, List.setIfInBounds_toArray, List.set_cons_zero, List.set_cons_succ]
                refine wpQuiet_take (d := 49) (v := ?_) (by rfl) ?_ ?_
                rotate_left
                · intro wS hS
                  have eF := HF.out wS hS
                  go_simp
                  try with_reducible rfl
                simp only [Act.put, List.setIfInBounds_toArray, List.set_cons_zero, List.set_cons_succ]
                refine wpQuiet_take (d := 50) (v := ?_) (by rfl) ?_ ?_
                rotate_left
                · intro wS hS
                  have eF := HF.out wS hS
                  go_simp
                  try with_reducible rfl
                simp only [Act.put, List.setIfInBounds_toArray, List.set_cons_zero, List.set_cons_succ]
                refine wpQuiet_take (d := 51) (v := ?_) (by rfl) ?_ ?_
                rotate_left
                · intro wS hS
                  have eF := HF.out wS hS
                  go_simp
                  try with_reducible rfl
                simp only [Act.put, List.setIfInBounds_toArray, List.set_cons_zero, List.set_cons_succ]
                refine wpQuiet_meet (d := 52) (v := ?_) ?_ ?_ (by rfl) ?_ ?_ ?_
                rotate_left
                rotate_left
                rotate_left
                · intro wS hS
                  have eF := HF.out wS hS
                  go_simp
                  first | with_reducible rfl | (refine ⟨?_, ?_⟩ <;> with_reducible rfl)
                · intro wS hS
                  refine (l24Square2_any _ _ _ _ _ _ _ _ _ wS).mono ?_
                  rintro e w2 ⟨rfl, hb2⟩
                  refine ⟨?_, hS.trans (hb2.mono hS.size)⟩
                  with_reducible rfl
                simp only [Act.put, List.setIfInBounds_toArray, List.set_cons_zero, List.set_cons_succ]
                refine wpQuiet_take (d := 53) (v := ?_) (by rfl) ?_ ?_
                rotate_left
                · intro wS hS
                  have eF := HF.out wS hS
                  go_simp
                  try with_reducible rfl
                simp only [Act.put, List.setIfInBounds_toArray, List.set_cons_zero, List.set_cons_succ]
                refine wpQuiet_take (d := 54) (v := ?_) (by rfl) ?_ ?_
                rotate_left
                · intro wS hS
                  have eF := HF.out wS hS
                  go_simp
                  try with_reducible rfl
                simp only [Act.put, List.setIfInBounds_toArray, List.set_cons_zero, List.set_cons_succ]
                refine wpQuiet_nil (fun wq hHeld => ?_)
                have hB3 := below_of hB2 hHeld hB2.size
                have HO3 : Hid (PRs wq w.heap.size wq.heap.size u4 P) := (hO2.out.below hHeld).hi hHeld.size
                obtain ⟨a0, a1, a2, a3, a4, a5, a6, c0, c1, c5, c6⟩ := HF.out wq hHeld
                have hs3 := hB3.size
                clear hO2 hB2 hHeld HF a1 a2 a3 a4 a5 a6 c1 c5 c6
                go_wp2
                go_region_law (refine step_append_pair _ rfl _ _ 26 rfl w.heap.size wq.heap.size Tryd.underlying26 u4 P rfl (HO3.out.below (by go_grown)) wq.heap.size (f (i * 7)) (f (k * 7)) (Nat.le_refl _) hs3 (by first | exact heap_alloc2 wq _ _ | exact heap_alloc2 wq.drew _ _) (wq.heap.size + 1) rfl (by simp) hl (by simp; omega) ?_; intro v' w5 hown5 hgrow5)
                all_goals
                  go_wp2
                  go_roundw
                  case rel => exact ⟨k + 1, by omega, by omega, by go_num, by rw [rowP_yes (by omega) hnb.out, ← List.append_assoc, HP.out]; exact hown5, PRs.app (hB3.trans (by go_grown)) (HO3.out.below (by go_grown)) hgrow5⟩
                  case measure => simp [intOf]; omega
              | false =>
                have hnb : Hid (nearB f i k = false) := hnb0
                have hsq : ¬ (sq2V (f (i * 7 + 5)) (f (i * 7 + 6)) (f (k * 7 + 5)) (f (k * 7 + 6)) < 100) := by
                  have h := hnb0
                  simp only [nearB, leastV, if_neg hkd, decide_eq_false_iff_not] at h
                  exact h
                clear hnb0 hkd
                go_wp2_with fail
                have hB2 := below_of hB hHeld hB.size
                have hO2 := Lib.hid ((HO.out.below hHeld).hi hHeld.size)
                have HF2 : Hid (∀ w', Below wq.heap.size wq w' → w'.cell? ⟨b, off + i * 7, none⟩ = some (.int .i64 (f (i * 7))) ∧ w'.cell? ⟨b, off + i * 7 + 1, none⟩ = some (.int .i64 (f (i * 7 + 1))) ∧ w'.cell? ⟨b, off + i * 7 + 2, none⟩ = some (.int .i64 (f (i * 7 + 2))) ∧ w'.cell? ⟨b, off + i * 7 + 3, none⟩ = some (.int .i64 (f (i * 7 + 3))) ∧ w'.cell? ⟨b, off + i * 7 + 4, none⟩ = some (.int .i64 (f (i * 7 + 4))) ∧ w'.cell? ⟨b, off + i * 7 + 5, none⟩ = some (.int .i64 (f (i * 7 + 5))) ∧ w'.cell? ⟨b, off + i * 7 + 6, none⟩ = some (.int .i64 (f (i * 7 + 6))) ∧ w'.cell? ⟨b, off + k * 7, none⟩ = some (.int .i64 (f (k * 7))) ∧ w'.cell? ⟨b, off + k * 7 + 1, none⟩ = some (.int .i64 (f (k * 7 + 1))) ∧ w'.cell? ⟨b, off + k * 7 + 5, none⟩ = some (.int .i64 (f (k * 7 + 5))) ∧ w'.cell? ⟨b, off + k * 7 + 6, none⟩ = some (.int .i64 (f (k * 7 + 6)))) := fun w' hq => HF.out w' (hHeld.trans (hq.mono hHeld.size))
                clear HF HO hB hHeld
                have HF := HF2
                clear HF2
                obtain ⟨wb, hwb⟩ : ∃ x, x = wq := ⟨_, rfl⟩
                subst hwb
                refine wp_region_class (C := fun w' => Below (wb).heap.size (wb) w') (by kernel_rfl) (by kernel_rfl) ((Below.refl _ _).drew) ?_
                refine wpQuiet_take (d := 38) (v := ?_) (by rfl) ?_ ?_
                rotate_left
                · intro wS hS
                  have eF := HF.out wS hS
                  go_simp
                  try with_reducible rfl
                simp only [Act.put, List.setIfInBounds_toArray, List.set_cons_zero, List.set_cons_succ]
                refine wpQuiet_take (d := 39) (v := ?_) (by rfl) ?_ ?_
                rotate_left
                · intro wS hS
                  have eF := HF.out wS hS
                  go_simp
                  try with_reducible rfl
                simp only [Act.put, List.setIfInBounds_toArray, List.set_cons_zero, List.set_cons_succ]
                refine wpQuiet_take (d := 40) (v := ?_) (by rfl) ?_ ?_
                rotate_left
                · intro wS hS
                  have eF := HF.out wS hS
                  go_simp
                  try with_reducible rfl
                simp only [Act.put, List.setIfInBounds_toArray, List.set_cons_zero, List.set_cons_succ]
                refine wpQuiet_take (d := 41) (v := ?_) (by rfl) ?_ ?_
                rotate_left
                · intro wS hS
                  have eF := HF.out wS hS
                  go_simp
                  try with_reducible rfl
                simp only [Act.put, List.setIfInBounds_toArray, List.set_cons_zero, List.set_cons_succ]
                refine wpQuiet_take (d := 42) (v := ?_) (by rfl) ?_ ?_
                rotate_left
                · intro wS hS
                  have eF := HF.out wS hS
                  go_simp
                  try with_reducible rfl
                simp only [Act.put, List.setIfInBounds_toArray, List.set_cons_zero, List.set_cons_succ]
                refine wpQuiet_take (d := 43) (v := ?_) (by rfl) ?_ ?_
                rotate_left
                · intro wS hS
                  have eF := HF.out wS hS
                  go_simp
                  try with_reducible rfl
                simp only [Act.put, List.setIfInBounds_toArray, List.set_cons_zero, List.set_cons_succ]
                refine wpQuiet_take (d := 44) (v := ?_) (by rfl) ?_ ?_
                rotate_left
                · intro wS hS
                  have eF := HF.out wS hS
                  go_simp
                  try with_reducible rfl
                simp only [Act.put, List.setIfInBounds_toArray, List.set_cons_zero, List.set_cons_succ]
                refine wpQuiet_take (d := 45) (v := ?_) (by rfl) ?_ ?_
                rotate_left
                · intro wS hS
                  have eF := HF.out wS hS
                  go_simp
                  try with_reducible rfl
                simp only [Act.put, List.setIfInBounds_toArray, List.set_cons_zero, List.set_cons_succ]
                refine wpQuiet_take (d := 46) (v := ?_) (by rfl) ?_ ?_
                rotate_left
                · intro wS hS
                  have eF := HF.out wS hS
                  go_simp
                  try with_reducible rfl
                simp only [Act.put, List.setIfInBounds_toArray, List.set_cons_zero, List.set_cons_succ]
                refine wpQuiet_take (d := 47) (v := ?_) (by rfl) ?_ ?_
                rotate_left
                · intro wS hS
                  have eF := HF.out wS hS
                  go_simp
                  try with_reducible rfl
                simp only [Act.put, List.setIfInBounds_toArray, List.set_cons_zero, List.set_cons_succ]
                refine wpQuiet_take (d := 48) (v := ?_) (by rfl) ?_ ?_
                rotate_left
                · intro wS hS
                  have eF := HF.out wS hS
                  go_simp
                  try with_reducible rfl
                simp only [Act.put, List.setIfInBounds_toArray, List.set_cons_zero, List.set_cons_succ]
                refine wpQuiet_take (d := 49) (v := ?_) (by rfl) ?_ ?_
                rotate_left
                · intro wS hS
                  have eF := HF.out wS hS
                  go_simp
                  try with_reducible rfl
                simp only [Act.put, List.setIfInBounds_toArray, List.set_cons_zero, List.set_cons_succ]
                refine wpQuiet_take (d := 50) (v := ?_) (by rfl) ?_ ?_
                rotate_left
                · intro wS hS
                  have eF := HF.out wS hS
                  go_simp
                  try with_reducible rfl
                simp only [Act.put, List.setIfInBounds_toArray, List.set_cons_zero, List.set_cons_succ]
                refine wpQuiet_take (d := 51) (v := ?_) (by rfl) ?_ ?_
                rotate_left
                · intro wS hS
                  have eF := HF.out wS hS
                  go_simp
                  try with_reducible rfl
                simp only [Act.put, List.setIfInBounds_toArray, List.set_cons_zero, List.set_cons_succ]
                refine wpQuiet_meet (d := 52) (v := ?_) ?_ ?_ (by rfl) ?_ ?_ ?_
                rotate_left
                rotate_left
                rotate_left
                · intro wS hS
                  have eF := HF.out wS hS
                  go_simp
                  first | with_reducible rfl | (refine ⟨?_, ?_⟩ <;> with_reducible rfl)
                · intro wS hS
                  refine (l24Square2_any _ _ _ _ _ _ _ _ _ wS).mono ?_
                  rintro e w2 ⟨rfl, hb2⟩
                  refine ⟨?_, hS.trans (hb2.mono hS.size)⟩
                  with_reducible rfl
                simp only [Act.put, List.setIfInBounds_toArray, List.set_cons_zero, List.set_cons_succ]
                refine wpQuiet_take (d := 53) (v := ?_) (by rfl) ?_ ?_
                rotate_left
                · intro wS hS
                  have eF := HF.out wS hS
                  go_simp
                  try with_reducible rfl
                simp only [Act.put, List.setIfInBounds_toArray, List.set_cons_zero, List.set_cons_succ]
                refine wpQuiet_take (d := 54) (v := ?_) (by rfl) ?_ ?_
                rotate_left
                · intro wS hS
                  have eF := HF.out wS hS
                  go_simp
                  try with_reducible rfl
                simp only [Act.put, List.setIfInBounds_toArray, List.set_cons_zero, List.set_cons_succ]
                refine wpQuiet_nil (fun wq hHeld => ?_)
                go_wp2_with fail
                go_roundw
                case rel => exact ⟨k + 1, by omega, by omega, by go_num, by rw [rowP_no hnb.out, HP.out]; exact (hO2.out.below hHeld).hi hHeld.size, below_of hB2 hHeld hB2.size⟩
                case measure => simp [intOf]; omega
          · obtain rfl : k = n := by omega
            have HO2 : Hid (PRs wr w.heap.size wr.heap.size u4 (npTo f k (i + 1))) := hown
            clear HS hown
            go_wp2_with fail
            go_roundw
            case rel => exact ⟨i + 1, by omega, by go_num, HO2.out, hB⟩
            case measure => simp [intOf]; omega
      · obtain rfl : i = n := by omega
        clear HS
        go_wp2_with fail
        go_ret2
        exact PairsPost.mk_ HO1.out hB
end Go.Proofs.YtcecpioiagfoiaaDoor
