/-
  FormatConsole: the law, walked.
-/
import Derived.Test.YtegklcapfjigaaaDoorConV
import Derived.Test.YtegklcapfjigaaaDoorConT
import Derived.Test.YtegklcapfjigaaaDoorConZ
import Derived.Test.YtegklcapfjigaaaDoorConE
import Derived.Test.YtegklcapfjigaaaDoorCfI
import Derived.Test.YtegklcapfjigaaaDoorCfS
import Derived.Test.YtegklcapfjigaaaDoorRegion
import Derived.Deep.Cut
namespace Go.Proofs.YtegklcapfjigaaaDoor
open Go.RowKit
set_option linter.unusedVariables false
set_option linter.unusedSimpArgs false
set_option maxRecDepth 100000 in
set_option maxHeartbeats 4000000 in
theorem FnExactFormatConsole_walk (A0 : Option Addr) (n0 c0 : Nat) (f0 : Nat → Int) (I0 H0 S0 P0 : Int) (s0 t0 : ByteArray) (z0 : Int) (w : World) (hnc0 : n0 ≤ c0) (hcm0 : c0 ≤ maxLen) (hs0 : Sl w 0 w.heap.size 4 A0 n0 f0) (hss0 : s0.size ≤ maxLen) (hst0 : t0.size ≤ maxLen) (ht : Tab w) (hm : Mx w) :
    Calls Tryd.prog 4 #[.agg #[.slice A0 n0 c0, .int .i64 I0, .int .i64 H0, .int .i64 S0, .int .i64 P0, .string s0, .string t0, .int .i64 z0]] w fun e w' => e = .returned (.bool true) ∧ Below w.heap.size w w' := by
  have hm0 : (n0 : Int) ≤ 9223372036854775807 := by unfold maxLen at hcm0; omega
  have hd0 : (s0.size : Int) ≤ 9223372036854775807 := by unfold maxLen at hss0; omega
  have hq0 : (t0.size : Int) ≤ 9223372036854775807 := by unfold maxLen at hst0; omega
  have BX : Below w.heap.size w (w.alloc (.cells #[.slice A0 n0 c0, .int .i64 I0, .int .i64 H0, .int .i64 S0, .int .i64 P0, .string s0, .string t0, .int .i64 z0] 28)) := (Below.refl _ w).alloc (Nat.le_refl _) _
  have HS : Hid (Sl (w.alloc (.cells #[.slice A0 n0 c0, .int .i64 I0, .int .i64 H0, .int .i64 S0, .int .i64 P0, .string s0, .string t0, .int .i64 z0] 28)) 0 w.heap.size 4 A0 n0 f0) := hs0.below BX
  have HT : Hid (Tab (w.alloc (.cells #[.slice A0 n0 c0, .int .i64 I0, .int .i64 H0, .int .i64 S0, .int .i64 P0, .string s0, .string t0, .int .i64 z0] 28))) := ht.below BX
  have HM : Hid (Mx (w.alloc (.cells #[.slice A0 n0 c0, .int .i64 I0, .int .i64 H0, .int .i64 S0, .int .i64 P0, .string s0, .string t0, .int .i64 z0] 28))) := hm.below BX
  have HB : Hid (∀ w', Below (w.alloc (.cells #[.slice A0 n0 c0, .int .i64 I0, .int .i64 H0, .int .i64 S0, .int .i64 P0, .string s0, .string t0, .int .i64 z0] 28)).heap.size (w.alloc (.cells #[.slice A0 n0 c0, .int .i64 I0, .int .i64 H0, .int .i64 S0, .int .i64 P0, .string s0, .string t0, .int .i64 z0] 28)) w' → w'.cell? ⟨w.heap.size, 0, none⟩ = some (.slice A0 n0 c0) ∧ w'.cell? ⟨w.heap.size, 1, none⟩ = some (.int .i64 I0) ∧ w'.cell? ⟨w.heap.size, 2, none⟩ = some (.int .i64 H0) ∧ w'.cell? ⟨w.heap.size, 3, none⟩ = some (.int .i64 S0) ∧ w'.cell? ⟨w.heap.size, 4, none⟩ = some (.int .i64 P0) ∧ w'.cell? ⟨w.heap.size, 5, none⟩ = some (.string s0) ∧ w'.cell? ⟨w.heap.size, 6, none⟩ = some (.string t0) ∧ w'.cell? ⟨w.heap.size, 7, none⟩ = some (.int .i64 z0)) := fun w' hq => ⟨(hq.cell (p := ⟨w.heap.size, 0, none⟩) (by simp)).trans (by simp), (hq.cell (p := ⟨w.heap.size, 1, none⟩) (by simp)).trans (by simp), (hq.cell (p := ⟨w.heap.size, 2, none⟩) (by simp)).trans (by simp), (hq.cell (p := ⟨w.heap.size, 3, none⟩) (by simp)).trans (by simp), (hq.cell (p := ⟨w.heap.size, 4, none⟩) (by simp)).trans (by simp), (hq.cell (p := ⟨w.heap.size, 5, none⟩) (by simp)).trans (by simp), (hq.cell (p := ⟨w.heap.size, 6, none⟩) (by simp)).trans (by simp), (hq.cell (p := ⟨w.heap.size, 7, none⟩) (by simp)).trans (by simp)⟩
  clear hs0 hcm0 hss0 hst0 ht hm
  by_cases hbig : n0 ≤ 1048576
  rotate_left
  · go_enter Tryd.func4, Tryd.ntmps4
    go_wp2_with fail
    refine (szConsole_works A0 n0 c0 I0 H0 S0 P0 s0 t0 z0 _ hm0 (by omega)).mono ?_
    rintro e w1 ⟨rfl, B1⟩
    go_wp2
    go_ret
    exact ⟨rfl, BX.trans (B1.mono (by simp))⟩
  by_cases hlog : (s0.size : Int) + (t0.size : Int) ≤ 1048576 - (n0 : Int)
  rotate_left
  · go_enter Tryd.func4, Tryd.ntmps4
    go_wp2_with fail
    refine (szConsole_log A0 n0 c0 I0 H0 S0 P0 s0 t0 z0 _ (by omega) hd0 hq0 (by omega)).mono ?_
    rintro e w1 ⟨rfl, B1⟩
    go_wp2
    go_ret
    exact ⟨rfl, BX.trans (B1.mono (by simp))⟩
  obtain ⟨R, ok, HSP, HIP⟩ : ∃ (R : ByteArray) (ok : Bool), Hid (∀ (Aq : Option Addr) (lo hi : Nat) (W : World), Sl W lo hi 4 Aq n0 f0 → Calls Tryd.prog 10 #[.agg #[.slice Aq n0 n0, .int .i64 I0, .int .i64 H0, .int .i64 S0, .int .i64 P0, .string s0, .string t0, .int .i64 z0]] W fun e w' => e = .returned (.tuple #[.string R, .bool ok]) ∧ Below W.heap.size W w') ∧ Hid (∀ (Aq : Option Addr) (lo hi : Nat) (W : World), Sl W lo hi 4 Aq n0 f0 → Tab W → Mx W → Calls Tryd.prog 11 #[.agg #[.slice Aq n0 n0, .int .i64 I0, .int .i64 H0, .int .i64 S0, .int .i64 P0, .string s0, .string t0, .int .i64 z0]] W fun e w' => e = .returned (.tuple #[.string R, .bool ok]) ∧ Below W.heap.size W w') :=
    ⟨_, _, fun Aq lo hi W hs => sFormatConsole_any Aq n0 n0 lo hi f0 I0 H0 S0 P0 s0 t0 z0 W hs hbig (Nat.le_refl _) (by omega) (by omega), fun Aq lo hi W hs ht hm => FormatConsole_any Aq n0 n0 lo hi f0 I0 H0 S0 P0 s0 t0 z0 W hs hbig (Nat.le_refl _) (by omega) (by omega) ht hm⟩
  go_enter Tryd.func4, Tryd.ntmps4
  go_wp2_with fail
  refine (szConsole_ok A0 n0 c0 I0 H0 S0 P0 s0 t0 z0 _ (by omega) (by omega)).mono ?_
  rintro e w1 ⟨rfl, B1⟩
  have hL : ¬ (1048576 - (n0 : Int) - (s0.size : Int) - (t0.size : Int) < 0) := by omega
  obtain ⟨b0, b1, b2, b3, b4, b5, b6, b7⟩ := HB.out _ B1
  go_wp2_with fail
  refine (toConsole_any A0 n0 c0 0 w.heap.size f0 I0 H0 S0 P0 s0 t0 z0 w1 (HS.out.below B1) hbig hnc0).mono ?_
  rintro e w2 ⟨g2, rfl, l2, k2, ho2, hb2⟩
  clear b0 b1 b2 b3 b4 b5 b6 b7
  go_wp2_with fail
  refine (HSP.out _ _ _ w2 ho2.sl).mono ?_
  rintro e w3 ⟨rfl, hb3⟩
  have B3 := below_of (below_of B1 hb2 B1.size) hb3 (by have := hb2.size; have := B1.size; omega)
  clear ho2 hb2 hb3 B1
  obtain ⟨b0, b1, b2, b3, b4, b5, b6, b7⟩ := HB.out _ B3
  go_wp2_with fail
  refine (toConsole_any A0 n0 c0 0 w.heap.size f0 I0 H0 S0 P0 s0 t0 z0 w3 (HS.out.below B3) hbig hnc0).mono ?_
  rintro e w4 ⟨g4, rfl, l4, k4, ho4, hb4⟩
  clear b0 b1 b2 b3 b4 b5 b6 b7
  have B4 := below_of B3 hb4 B3.size
  go_upto_region 7 with fail
  refine name_wp ?_
  intro w5 hw5
  have hb45 : Below w4.heap.size w4 w5 := by rw [hw5]; exact (Below.refl _ _).alloc (Nat.le_refl _) _
  have hx5 : w5.heap[w4.heap.size]? = some (.cells #[.slice (some ⟨g4, 0, none⟩) n0 n0, .int .i64 I0, .int .i64 H0, .int .i64 S0, .int .i64 P0, .string s0, .string t0, .int .i64 z0] 36 (0, 0)) := by rw [hw5]; exact heap_alloc_new w4 _
  have B5 := below_of B4 hb45 B4.size
  have ho5 := ho4.below hb45
  clear hw5 ho4 hb4 hb45 B3 B4
  generalize w4.heap.size = gx at *
  have e0 : w5.cell? ⟨gx, 0, none⟩ = some (.slice (some ⟨g4, 0, none⟩) n0 n0) := by rw [cell_of_row w5 (gx) 0 _ _ (0, 0) hx5]; rfl
  have e1 : w5.cell? ⟨gx, 1, none⟩ = some (.int .i64 I0) := by rw [cell_of_row w5 (gx) 1 _ _ (0, 0) hx5]; rfl
  have e2 : w5.cell? ⟨gx, 2, none⟩ = some (.int .i64 H0) := by rw [cell_of_row w5 (gx) 2 _ _ (0, 0) hx5]; rfl
  have e3 : w5.cell? ⟨gx, 3, none⟩ = some (.int .i64 S0) := by rw [cell_of_row w5 (gx) 3 _ _ (0, 0) hx5]; rfl
  have e4 : w5.cell? ⟨gx, 4, none⟩ = some (.int .i64 P0) := by rw [cell_of_row w5 (gx) 4 _ _ (0, 0) hx5]; rfl
  have e5 : w5.cell? ⟨gx, 5, none⟩ = some (.string s0) := by rw [cell_of_row w5 (gx) 5 _ _ (0, 0) hx5]; rfl
  have e6 : w5.cell? ⟨gx, 6, none⟩ = some (.string t0) := by rw [cell_of_row w5 (gx) 6 _ _ (0, 0) hx5]; rfl
  have e7 : w5.cell? ⟨gx, 7, none⟩ = some (.int .i64 z0) := by rw [cell_of_row w5 (gx) 7 _ _ (0, 0) hx5]; rfl
  go_wp2_with fail
  refine (HIP.out _ _ _ w5 ho5.sl (HT.out.below B5) (HM.out.below B5)).mono ?_
  rintro e w6 ⟨rfl, hb6⟩
  have B6 := below_of B5 hb6 B5.size
  have hx6 := rowC hx5 hb6
  have ho6 := ho5.below hb6
  have HF : Hid (∀ w', Below w6.heap.size w6 w' → (w'.cell? ⟨gx, 0, none⟩ = some (.slice (some ⟨g4, 0, none⟩) n0 n0) ∧ w'.cell? ⟨gx, 1, none⟩ = some (.int .i64 I0) ∧ w'.cell? ⟨gx, 2, none⟩ = some (.int .i64 H0) ∧ w'.cell? ⟨gx, 3, none⟩ = some (.int .i64 S0) ∧ w'.cell? ⟨gx, 4, none⟩ = some (.int .i64 P0) ∧ w'.cell? ⟨gx, 5, none⟩ = some (.string s0) ∧ w'.cell? ⟨gx, 6, none⟩ = some (.string t0) ∧ w'.cell? ⟨gx, 7, none⟩ = some (.int .i64 z0)) ∧ w'.cell? ⟨w.heap.size, 0, none⟩ = some (.slice A0 n0 c0) ∧ w'.cell? ⟨w.heap.size, 1, none⟩ = some (.int .i64 I0) ∧ w'.cell? ⟨w.heap.size, 2, none⟩ = some (.int .i64 H0) ∧ w'.cell? ⟨w.heap.size, 3, none⟩ = some (.int .i64 S0) ∧ w'.cell? ⟨w.heap.size, 4, none⟩ = some (.int .i64 P0) ∧ w'.cell? ⟨w.heap.size, 5, none⟩ = some (.string s0) ∧ w'.cell? ⟨w.heap.size, 6, none⟩ = some (.string t0) ∧ w'.cell? ⟨w.heap.size, 7, none⟩ = some (.int .i64 z0)) := fun w' hq => by
    have hx := rowC hx6 hq
    exact ⟨⟨by rw [cell_of_row w' gx 0 _ _ (0, 0) hx]; rfl, by rw [cell_of_row w' gx 1 _ _ (0, 0) hx]; rfl, by rw [cell_of_row w' gx 2 _ _ (0, 0) hx]; rfl, by rw [cell_of_row w' gx 3 _ _ (0, 0) hx]; rfl, by rw [cell_of_row w' gx 4 _ _ (0, 0) hx]; rfl, by rw [cell_of_row w' gx 5 _ _ (0, 0) hx]; rfl, by rw [cell_of_row w' gx 6 _ _ (0, 0) hx]; rfl, by rw [cell_of_row w' gx 7 _ _ (0, 0) hx]; rfl⟩, HB.out w' (below_of B6 hq B6.size)⟩
  have HS6 := HS.out.below B6
  clear hx5 hx6 ho5 hb6 B5 e0 e1 e2 e3 e4 e5 e6 e7
  go_wp2
  refine wp_region_held_drew (S := fun w' => Below (w6).heap.size (w6) w') (by kernel_rfl) ((Below.refl _ _).drew) (fun hHeld => ?_)
  refine wpAnyH_takeD (i := 0) (d := 35) (v := ?_) rfl (by kernel_rfl) (by kernel_rfl) (by kernel_rfl) (fun _ _ _ h => h) (by rfl) ?_ hHeld ?_
  rotate_left
  · intro wS hS
    have eF := HF.out wS hS
    go_simp
    try with_reducible rfl
  simp only [Act.put, List.setIfInBounds_toArray, List.set_cons_zero, List.set_cons_succ]
  refine wpAnyH_takeD (i := 1) (d := 36) (v := ?_) rfl (by kernel_rfl) (by kernel_rfl) (by kernel_rfl) (fun _ _ _ h => h) (by rfl) ?_ hHeld ?_
  rotate_left
  · intro wS hS
    have eF := HF.out wS hS
    go_simp
    try with_reducible rfl
  simp only [Act.put, List.setIfInBounds_toArray, List.set_cons_zero, List.set_cons_succ]
  refine wpAnyH_ready (rs := [2]) (by kernel_rfl) (by simp) ?_
  refine AllReadyH.cons rfl (fun K hK => ?_) AllReadyH.nil
  go_simp
  (go_at_call 7; refine (toConsole_any A0 n0 c0 0 w.heap.size f0 I0 H0 S0 P0 s0 t0 z0 _ (HS6.below hHeld) hbig hnc0).mono ?_; rintro e w7 ⟨g7, rfl, l7, k7, ho7, hb2⟩)
  refine hK.out _ _ (hHeld.trans (hb2.mono hHeld.size)) (fun hHeld => ?_)
  clear hK K hb2
  refine wpAnyH_ready (rs := [3]) (by kernel_rfl) (by simp) ?_
  refine AllReadyH.cons rfl (fun K hK => ?_) AllReadyH.nil
  go_simp
  (go_at_call 9; refine (eqConsole_same _ _ n0 n0 n0 _ _ _ _ f0 I0 H0 S0 P0 s0 t0 z0 w7 (ho6.below hHeld).sl ho7.sl hbig (Nat.le_refl _) (Nat.le_refl _)).mono ?_; rintro e w8 ⟨rfl, hb2⟩)
  refine hK.out _ _ (hHeld.trans (hb2.mono hHeld.size)) (fun hHeld => ?_)
  clear hK K hb2
  refine wpAnyH_takeD (i := 4) (d := 39) (v := ?_) rfl (by kernel_rfl) (by kernel_rfl) (by kernel_rfl) (fun _ _ _ h => h) (by rfl) ?_ hHeld ?_
  rotate_left
  · intro wS hS
    have eF := HF.out wS hS
    go_simp
    try with_reducible rfl
  simp only [Act.put, List.setIfInBounds_toArray, List.set_cons_zero, List.set_cons_succ]
  refine wpAnyH_done (by kernel_rfl) ?_ _
  go_wp2
  go_ret
  exact ⟨rfl, BX.trans ((below_of B6 hHeld B6.size).mono (by simp))⟩
end Go.Proofs.YtegklcapfjigaaaDoor
