/-
  The walk of the law FnExactRunWorks.
-/
import Derived.Test.YtjhgpebppcbleaaRunS
import Derived.Test.YtjhgpebppcbleaaFlatStep
import Derived.Test.YtjhgpebppcbleaaMarkW
import Derived.Deep.Cut
namespace Go.Proofs.Ytjhgpebppcbleaa
open Go.RowKit
set_option linter.unusedVariables false
set_option linter.unusedSimpArgs false
theorem runL_len {f : Nat → Int} {n : Nat} {I H S P : Int} {g : Nat → Int} {n1 : Nat} : (runL f n I H S P g n1).1.m ≤ 1048576 := by
  cases h : (goodWorks f n I H S P && decide (n1 ≤ 40)) with
  | false => rw [runL_no h]; exact Nat.zero_le _
  | true =>
    rw [runL_yes h]
    have hg : goodWorks f n I H S P = true := by
      rw [Bool.and_eq_true] at h
      exact h.1
    exact Nat.le_trans (good_len (runGood (s0 := (⟨cellsL f n, n, I, H, S, P, 0⟩ : WkS)) (g := g) (by rw [← hg]; exact goodWorks_congr (fun j hj => cellsL_getD f n j hj)) n1)) (by omega)
set_option maxRecDepth 100000 in
set_option maxHeartbeats 4000000 in
theorem FnExactRunWorks_walk (A0 : Option Addr) (n0 c0 : Nat) (f0 : Nat → Int) (I0 H0 S0 P0 : Int) (A1 : Option Addr) (n1 c1 : Nat) (f1 : Nat → Int) (w : World) (hnc0 : n0 ≤ c0) (hcm0 : c0 ≤ maxLen) (hs0 : Sl w 0 w.heap.size 4 A0 n0 f0) (hnc1 : n1 ≤ c1) (hcm1 : c1 ≤ maxLen) (hs1 : Sl w 0 w.heap.size 4 A1 n1 f1) (hf1 : ∀ j, j < n1 * 4 → I64 (f1 j)) :
    Calls Try.prog 5 #[.agg #[.slice A0 n0 c0, .int .i64 I0, .int .i64 H0, .int .i64 S0, .int .i64 P0], .slice A1 n1 c1] w fun e w' => e = .returned (.bool true) ∧ Below w.heap.size w w' := by
  have hm0 : (n0 : Int) ≤ 9223372036854775807 := by unfold maxLen at hcm0; omega
  have hm1 : (n1 : Int) ≤ 9223372036854775807 := by unfold maxLen at hcm1; omega
  have HAL : Below w.heap.size w (w.alloc (.cells #[.slice A0 n0 c0, .int .i64 I0, .int .i64 H0, .int .i64 S0, .int .i64 P0] 50)) := (Below.refl _ w).alloc (Nat.le_refl _) _
  have hz0 : (w.alloc (.cells #[.slice A0 n0 c0, .int .i64 I0, .int .i64 H0, .int .i64 S0, .int .i64 P0] 50)).heap.size = w.heap.size + 1 := by simp
  have hA : (w.alloc (.cells #[.slice A0 n0 c0, .int .i64 I0, .int .i64 H0, .int .i64 S0, .int .i64 P0] 50)).heap[w.heap.size]? = some (.cells #[.slice A0 n0 c0, .int .i64 I0, .int .i64 H0, .int .i64 S0, .int .i64 P0] 50 (0, 0)) := heap_alloc_new w _
  have HB0 : Hid (∀ w', Below (w.alloc (.cells #[.slice A0 n0 c0, .int .i64 I0, .int .i64 H0, .int .i64 S0, .int .i64 P0] 50)).heap.size (w.alloc (.cells #[.slice A0 n0 c0, .int .i64 I0, .int .i64 H0, .int .i64 S0, .int .i64 P0] 50)) w' → w'.cell? ⟨w.heap.size, 0, none⟩ = some (.slice A0 n0 c0) ∧ w'.cell? ⟨w.heap.size, 1, none⟩ = some (.int .i64 I0) ∧ w'.cell? ⟨w.heap.size, 2, none⟩ = some (.int .i64 H0) ∧ w'.cell? ⟨w.heap.size, 3, none⟩ = some (.int .i64 S0) ∧ w'.cell? ⟨w.heap.size, 4, none⟩ = some (.int .i64 P0)) := by
    intro w' hq
    have h1 := rowB hA hq
    exact ⟨by rw [cell_of_row w' w.heap.size 0 _ _ (0, 0) h1]; rfl, by rw [cell_of_row w' w.heap.size 1 _ _ (0, 0) h1]; rfl, by rw [cell_of_row w' w.heap.size 2 _ _ (0, 0) h1]; rfl, by rw [cell_of_row w' w.heap.size 3 _ _ (0, 0) h1]; rfl, by rw [cell_of_row w' w.heap.size 4 _ _ (0, 0) h1]; rfl⟩
  have HSL : Hid (∀ w', Below (w.alloc (.cells #[.slice A0 n0 c0, .int .i64 I0, .int .i64 H0, .int .i64 S0, .int .i64 P0] 50)).heap.size (w.alloc (.cells #[.slice A0 n0 c0, .int .i64 I0, .int .i64 H0, .int .i64 S0, .int .i64 P0] 50)) w' → Sl w' 0 w.heap.size 4 A0 n0 f0) := fun w' hq => hs0.below (HAL.trans (hq.mono HAL.size))
  have HST : Hid (∀ w', Below (w.alloc (.cells #[.slice A0 n0 c0, .int .i64 I0, .int .i64 H0, .int .i64 S0, .int .i64 P0] 50)).heap.size (w.alloc (.cells #[.slice A0 n0 c0, .int .i64 I0, .int .i64 H0, .int .i64 S0, .int .i64 P0] 50)) w' → Sl w' 0 w.heap.size 4 A1 n1 f1) := fun w' hq => hs1.below (HAL.trans (hq.mono HAL.size))
  clear hA hs0 hs1 hf1
  by_cases hbig : n0 ≤ 1048576
  rotate_left
  · go_enter Try.func5, Try.ntmps5
    go_wp2_with fail
    refine (szWorks_big A0 n0 c0 I0 H0 S0 P0 1048576 _ hm0 (by omega) (by omega) (by omega)).mono ?_
    rintro e w1 ⟨rfl, B1⟩
    go_wp2
    go_ret
    exact ⟨rfl, HAL.trans (B1.mono HAL.size)⟩
  by_cases hb1 : (n1 : Int) ≤ 1048576 - (n0 : Int)
  rotate_left
  · go_enter Try.func5, Try.ntmps5
    go_wp2_with fail
    refine (szWorks_ok A0 n0 c0 I0 H0 S0 P0 1048576 _ (by omega) (by omega) (by omega)).mono ?_
    rintro e v0 ⟨rfl, BX⟩
    have hL1 : ¬ (1048576 - (n0 : Int) < 0) := by omega
    go_wp2_with fail
    refine (szWorksStepS_big A1 n1 c1 (1048576 - n0) v0 hm1 (by omega) (by omega) (by omega)).mono ?_
    rintro e vy ⟨rfl, hwx⟩
    rw [← hwx]
    clear hwx vy
    go_wp2
    go_ret
    exact ⟨rfl, HAL.trans (BX.mono HAL.size)⟩
  have hn1 : n1 ≤ 1048576 := by omega
  obtain ⟨L, m, I', H', S', P', ct, ok, hm7, HSP, HIP⟩ : ∃ (L : List Int) (m : Nat) (I' H' S' P' ct : Int) (ok : Bool), m ≤ 1048576 ∧ Hid (∀ (Aq : Option Addr) (cq lo hi : Nat) (Bq : Option Addr) (dq lo1 hi1 : Nat) (W : World), Sl W lo hi 4 Aq n0 f0 → (Aq = none → n0 = 0 ∧ cq = 0) → (∀ ad, Aq = some ad → ∃ b off, ad = ⟨b, off, none⟩) → n0 ≤ cq → Sl W lo1 hi1 4 Bq n1 f1 → n1 ≤ dq → Calls Try.prog 20 #[.agg #[.slice Aq n0 cq, .int .i64 I0, .int .i64 H0, .int .i64 S0, .int .i64 P0], .slice Bq n1 dq] W fun e w' => ∃ A' c', e = .returned (.tuple #[.agg #[.slice A' m c', .int .i64 I', .int .i64 H', .int .i64 S', .int .i64 P'], .int .i64 ct, .bool ok]) ∧ m ≤ c' ∧ c' ≤ maxLen ∧ w'.ownsRow W.heap.size 87 4 (.slice A' m c') m (L.map (Value.int .i64)) ∧ Below W.heap.size W w') ∧ Hid (∀ (Aq : Option Addr) (cq lo hi : Nat) (Bq : Option Addr) (dq lo1 hi1 : Nat) (W : World), Sl W lo hi 4 Aq n0 f0 → (Aq = none → n0 = 0 ∧ cq = 0) → (∀ ad, Aq = some ad → ∃ b off, ad = ⟨b, off, none⟩) → n0 ≤ cq → Sl W lo1 hi1 4 Bq n1 f1 → n1 ≤ dq → Calls Try.prog 19 #[.agg #[.slice Aq n0 cq, .int .i64 I0, .int .i64 H0, .int .i64 S0, .int .i64 P0], .slice Bq n1 dq] W fun e w' => ∃ A' c', e = .returned (.tuple #[.agg #[.slice A' m c', .int .i64 I', .int .i64 H', .int .i64 S', .int .i64 P'], .int .i64 ct, .bool ok]) ∧ m ≤ c' ∧ c' ≤ maxLen ∧ w'.ownsRow W.heap.size 87 4 (.slice A' m c') m (L.map (Value.int .i64)) ∧ Below W.heap.size W w') := by
    refine ⟨(runL f0 n0 I0 H0 S0 P0 f1 n1).1.L, (runL f0 n0 I0 H0 S0 P0 f1 n1).1.m, (runL f0 n0 I0 H0 S0 P0 f1 n1).1.I, (runL f0 n0 I0 H0 S0 P0 f1 n1).1.H, (runL f0 n0 I0 H0 S0 P0 f1 n1).1.S, (runL f0 n0 I0 H0 S0 P0 f1 n1).1.P, ((runL f0 n0 I0 H0 S0 P0 f1 n1).1.cnt : Nat), (runL f0 n0 I0 H0 S0 P0 f1 n1).2, runL_len, fun Aq cq lo hi Bq dq lo1 hi1 W hs h1 h2 h3 ht h4 => sRunWorks_any Aq n0 cq lo hi f0 I0 H0 S0 P0 Bq n1 dq lo1 hi1 f1 W hs hbig h3 h1 h2 ht h4 hn1, fun Aq cq lo hi Bq dq lo1 hi1 W hs h1 h2 h3 ht h4 => RunWorks_any Aq n0 cq lo hi f0 I0 H0 S0 P0 Bq n1 dq lo1 hi1 f1 W hs hbig h3 h1 h2 ht h4 hn1⟩
  go_enter Try.func5, Try.ntmps5
  go_wp2_with fail
  refine (szWorks_ok A0 n0 c0 I0 H0 S0 P0 1048576 _ (by omega) (by omega) (by omega)).mono ?_
  rintro e v0 ⟨rfl, BX⟩
  have z0 := BX.size
  have hL1 : ¬ (1048576 - (n0 : Int) < 0) := by omega
  have hL2 : ¬ (1048576 - (n0 : Int) - (n1 : Int) < 0) := by omega
  go_wp2_with fail
  refine (szWorksStepS_ok A1 n1 c1 (1048576 - n0) v0 (by omega) (by omega) (by omega)).mono ?_
  rintro e vy ⟨rfl, hwx⟩
  rw [← hwx]
  clear hwx vy hL1
  obtain ⟨b0, b1, b2, b3, b4⟩ := HB0.out _ BX
  go_wp2_with fail
  refine (toWorks_any A0 n0 c0 0 w.heap.size f0 I0 H0 S0 P0 v0 (HSL.out _ BX) hbig hnc0).mono ?_
  rintro e v1 ⟨g2, rfl, l2, k2, ho2, hb⟩
  clear b0 b1 b2 b3 b4
  have z2 := hb.size
  have BX := below_of BX hb BX.size
  clear hb
  go_wp2_with fail
  refine (toWorksStepS_any A1 n1 c1 0 w.heap.size f1 v1 (HST.out _ BX) hn1 hnc1).mono ?_
  rintro e v3 ⟨rfl, ho3, hb⟩
  have z4 := hb.size
  have BX := below_of BX hb BX.size
  have ho2 := ho2.below hb
  clear hb
  have y3 := ho3.hi_le
  generalize hq3 : v1.heap.size = g3 at *
  have HQ3 := Lib.hid hq3
  clear hq3
  go_wp2_with fail
  refine (HSP.out _ _ _ _ _ _ _ _ v3 ho2.sl (fun h => by cases h) (fun ad h => ⟨_, _, (Option.some.inj h).symm⟩) (Nat.le_refl _) ho3.sl (Nat.le_refl _)).mono ?_
  rintro e v5 ⟨Aa, ca, rfl, ma, _, hown, hb⟩
  obtain ⟨la, ua, hoa, qa⟩ := own_tight hown (Nat.le_refl _) hb.size
  clear hown
  have z6 := hb.size
  have BX := below_of BX hb BX.size
  have ho2 := ho2.below hb
  have ho3 := ho3.below hb
  clear hb
  have ia := hoa.hi_le
  clear ho2
  clear ho3
  go_upto_region 9 with fail
  refine name_wp ?_
  intro v7 hw
  have hb : Below v5.heap.size v5 v7 := by rw [hw]; exact (Below.refl _ _).alloc (Nat.le_refl _) _
  have hra : v7.heap[v5.heap.size]? = some (.cells #[.slice Aa m ca, .int .i64 I', .int .i64 H', .int .i64 S', .int .i64 P'] 26 (0, 0)) := by rw [hw]; exact heap_alloc_new v5 _
  clear hw
  have z8 := hb.size
  have BX := below_of BX hb BX.size
  have hoa := hoa.below hb
  clear hb
  have ja := rowLt hra
  generalize hqa : v5.heap.size = xa at *
  have HQa := Lib.hid hqa
  clear hqa
  obtain ⟨b0, b1, b2, b3, b4⟩ := HB0.out _ BX
  go_wp2_with fail
  refine (toWorks_any A0 n0 c0 0 w.heap.size f0 I0 H0 S0 P0 v7 (HSL.out _ BX) hbig hnc0).mono ?_
  rintro e v9 ⟨g4, rfl, l4, k4, ho4, hb⟩
  clear b0 b1 b2 b3 b4
  have z10 := hb.size
  have BX := below_of BX hb BX.size
  have hra := rowB hra hb
  have hoa := hoa.below hb
  clear hb
  go_upto_region 10 with fail
  refine name_wp ?_
  intro v11 hw
  have hb : Below v9.heap.size v9 v11 := by rw [hw]; exact (Below.refl _ _).alloc (Nat.le_refl _) _
  have hrx : v11.heap[v9.heap.size]? = some (.cells #[.slice (some ⟨g4, 0, none⟩) n0 n0, .int .i64 I0, .int .i64 H0, .int .i64 S0, .int .i64 P0] 26 (0, 0)) := by rw [hw]; exact heap_alloc_new v9 _
  clear hw
  have z12 := hb.size
  have BX := below_of BX hb BX.size
  have hra := rowB hra hb
  have hoa := hoa.below hb
  have ho4 := ho4.below hb
  clear hb
  have jx := rowLt hrx
  generalize hqx : v9.heap.size = xx at *
  have HQx := Lib.hid hqx
  clear hqx
  go_wp2_with fail
  refine (toWorksStepS_any A1 n1 c1 0 w.heap.size f1 v11 (HST.out _ BX) hn1 hnc1).mono ?_
  rintro e v13 ⟨rfl, hos, hb⟩
  have z14 := hb.size
  have BX := below_of BX hb BX.size
  have hra := rowB hra hb
  have hrx := rowB hrx hb
  have hoa := hoa.below hb
  have ho4 := ho4.below hb
  clear hb
  have ys := hos.hi_le
  generalize hqs : v11.heap.size = gs at *
  have HQs := Lib.hid hqs
  clear hqs
  have e0 : v13.cell? ⟨xx, 0, none⟩ = some (.slice (some ⟨g4, 0, none⟩) n0 n0) := by rw [cell_of_row v13 (xx) 0 _ _ (0, 0) hrx]; rfl
  have e1 : v13.cell? ⟨xx, 1, none⟩ = some (.int .i64 I0) := by rw [cell_of_row v13 (xx) 1 _ _ (0, 0) hrx]; rfl
  have e2 : v13.cell? ⟨xx, 2, none⟩ = some (.int .i64 H0) := by rw [cell_of_row v13 (xx) 2 _ _ (0, 0) hrx]; rfl
  have e3 : v13.cell? ⟨xx, 3, none⟩ = some (.int .i64 S0) := by rw [cell_of_row v13 (xx) 3 _ _ (0, 0) hrx]; rfl
  have e4 : v13.cell? ⟨xx, 4, none⟩ = some (.int .i64 P0) := by rw [cell_of_row v13 (xx) 4 _ _ (0, 0) hrx]; rfl
  go_wp2_with fail
  refine (HIP.out _ _ _ _ _ _ _ _ v13 ho4.sl (fun h => by cases h) (fun ad h => ⟨_, _, (Option.some.inj h).symm⟩) (Nat.le_refl _) hos.sl (Nat.le_refl _)).mono ?_
  rintro e v15 ⟨Ab, cb, rfl, mb, _, hown, hb⟩
  obtain ⟨lb, ub, hob, qb⟩ := own_tight hown (Nat.le_refl _) hb.size
  clear hown
  have z16 := hb.size
  have BX := below_of BX hb BX.size
  have hra := rowB hra hb
  have hrx := rowB hrx hb
  have hoa := hoa.below hb
  have ho4 := ho4.below hb
  have hos := hos.below hb
  clear hb
  have ib := hob.hi_le
  clear e0 e1 e2 e3 e4
  go_upto_region 12 with fail
  refine name_wp ?_
  intro v17 hw
  have hb : Below v15.heap.size v15 v17 := by rw [hw]; exact (Below.refl _ _).alloc (Nat.le_refl _) _
  have hrb : v17.heap[v15.heap.size]? = some (.cells #[.slice Ab m cb, .int .i64 I', .int .i64 H', .int .i64 S', .int .i64 P'] 26 (0, 0)) := by rw [hw]; exact heap_alloc_new v15 _
  clear hw
  have z18 := hb.size
  have BX := below_of BX hb BX.size
  have hra := rowB hra hb
  have hrx := rowB hrx hb
  have hoa := hoa.below hb
  have ho4 := ho4.below hb
  have hos := hos.below hb
  have hob := hob.below hb
  clear hb
  have jb := rowLt hrb
  generalize hqb : v15.heap.size = xb at *
  have HQb := Lib.hid hqb
  clear hqb
  have e0 : v17.cell? ⟨xb, 0, none⟩ = some (.slice Ab m cb) := by rw [cell_of_row v17 (xb) 0 _ _ (0, 0) hrb]; rfl
  have e1 : v17.cell? ⟨xb, 1, none⟩ = some (.int .i64 I') := by rw [cell_of_row v17 (xb) 1 _ _ (0, 0) hrb]; rfl
  have e2 : v17.cell? ⟨xb, 2, none⟩ = some (.int .i64 H') := by rw [cell_of_row v17 (xb) 2 _ _ (0, 0) hrb]; rfl
  have e3 : v17.cell? ⟨xb, 3, none⟩ = some (.int .i64 S') := by rw [cell_of_row v17 (xb) 3 _ _ (0, 0) hrb]; rfl
  have e4 : v17.cell? ⟨xb, 4, none⟩ = some (.int .i64 P') := by rw [cell_of_row v17 (xb) 4 _ _ (0, 0) hrb]; rfl
  have d0 : v17.cell? ⟨xa, 0, none⟩ = some (.slice Aa m ca) := by rw [cell_of_row v17 (xa) 0 _ _ (0, 0) hra]; rfl
  have d1 : v17.cell? ⟨xa, 1, none⟩ = some (.int .i64 I') := by rw [cell_of_row v17 (xa) 1 _ _ (0, 0) hra]; rfl
  have d2 : v17.cell? ⟨xa, 2, none⟩ = some (.int .i64 H') := by rw [cell_of_row v17 (xa) 2 _ _ (0, 0) hra]; rfl
  have d3 : v17.cell? ⟨xa, 3, none⟩ = some (.int .i64 S') := by rw [cell_of_row v17 (xa) 3 _ _ (0, 0) hra]; rfl
  have d4 : v17.cell? ⟨xa, 4, none⟩ = some (.int .i64 P') := by rw [cell_of_row v17 (xa) 4 _ _ (0, 0) hra]; rfl
  go_wp2_with fail
  refine (eqWorks_same Ab Aa m cb ca lb ub la ua (lf L) I' H' S' P' v17 hob.sl hoa.sl hm7 mb ma).mono ?_
  rintro e v19 ⟨rfl, hb⟩
  have z20 := hb.size
  have BX := below_of BX hb BX.size
  have hra := rowB hra hb
  have hrx := rowB hrx hb
  have hrb := rowB hrb hb
  have hoa := hoa.below hb
  have ho4 := ho4.below hb
  have hos := hos.below hb
  have hob := hob.below hb
  clear hb
  clear e0 e1 e2 e3 e4 d0 d1 d2 d3 d4
  have HF : Hid (∀ w', Below v19.heap.size v19 w' → (w'.cell? ⟨xx, 0, none⟩ = some (.slice (some ⟨g4, 0, none⟩) n0 n0) ∧ w'.cell? ⟨xx, 1, none⟩ = some (.int .i64 I0) ∧ w'.cell? ⟨xx, 2, none⟩ = some (.int .i64 H0) ∧ w'.cell? ⟨xx, 3, none⟩ = some (.int .i64 S0) ∧ w'.cell? ⟨xx, 4, none⟩ = some (.int .i64 P0)) ∧ w'.cell? ⟨w.heap.size, 0, none⟩ = some (.slice A0 n0 c0) ∧ w'.cell? ⟨w.heap.size, 1, none⟩ = some (.int .i64 I0) ∧ w'.cell? ⟨w.heap.size, 2, none⟩ = some (.int .i64 H0) ∧ w'.cell? ⟨w.heap.size, 3, none⟩ = some (.int .i64 S0) ∧ w'.cell? ⟨w.heap.size, 4, none⟩ = some (.int .i64 P0)) := fun w' hq => by
    have hx := rowB hrx hq
    exact ⟨⟨by rw [cell_of_row w' xx 0 _ _ (0, 0) hx]; rfl, by rw [cell_of_row w' xx 1 _ _ (0, 0) hx]; rfl, by rw [cell_of_row w' xx 2 _ _ (0, 0) hx]; rfl, by rw [cell_of_row w' xx 3 _ _ (0, 0) hx]; rfl, by rw [cell_of_row w' xx 4 _ _ (0, 0) hx]; rfl⟩, HB0.out w' (BX.trans (hq.mono BX.size))⟩
  go_wp2_with fail
  refine wp_region_held_drew (S := fun w' => Below (v19).heap.size (v19) w') (by kernel_rfl) ((Below.refl _ _).drew) (fun hHeld => ?_)
  refine wpAnyH_takeD (i := 0) (d := 64) (v := ?_) rfl (by kernel_rfl) (by kernel_rfl) (by kernel_rfl) (fun _ _ _ h => h) (by rfl) ?_ hHeld ?_
  rotate_left
  · intro wS hS
    have eF := HF.out wS hS
    go_simp
    try with_reducible rfl
  simp only [Act.put, List.setIfInBounds_toArray, List.set_cons_zero, List.set_cons_succ]
  refine wpAnyH_takeD (i := 1) (d := 65) (v := ?_) rfl (by kernel_rfl) (by kernel_rfl) (by kernel_rfl) (fun _ _ _ h => h) (by rfl) ?_ hHeld ?_
  rotate_left
  · intro wS hS
    have eF := HF.out wS hS
    go_simp
    try with_reducible rfl
  simp only [Act.put, List.setIfInBounds_toArray, List.set_cons_zero, List.set_cons_succ]
  refine wpAnyH_ready (rs := [2]) (by kernel_rfl) (by simp) ?_
  refine AllReadyH.cons rfl (fun K hK => ?_) AllReadyH.nil
  go_simp
  (go_at_call 24; refine (toWorks_any A0 n0 c0 0 w.heap.size f0 I0 H0 S0 P0 _ (HSL.out _ (BX.trans (hHeld.mono BX.size))) hbig hnc0).mono ?_; rintro e wt ⟨gt, rfl, lt2, kt2, hot, hb2⟩)
  refine hK.out _ _ (hHeld.trans (hb2.mono hHeld.size)) (fun hHeld => ?_)
  clear hK K hb2
  refine wpAnyH_ready (rs := [3]) (by kernel_rfl) (by simp) ?_
  refine AllReadyH.cons rfl (fun K hK => ?_) AllReadyH.nil
  go_simp
  (go_at_call 26; refine (eqWorks_same _ _ n0 n0 n0 _ _ _ _ f0 I0 H0 S0 P0 wt (ho4.below hHeld).sl hot.sl hbig (Nat.le_refl _) (Nat.le_refl _)).mono ?_; rintro e v50 ⟨rfl, hb2⟩)
  refine hK.out _ _ (hHeld.trans (hb2.mono hHeld.size)) (fun hHeld => ?_)
  clear hK K hb2
  refine wpAnyH_takeD (i := 4) (d := 68) (v := ?_) rfl (by kernel_rfl) (by kernel_rfl) (by kernel_rfl) (fun _ _ _ h => h) (by rfl) ?_ hHeld ?_
  rotate_left
  · intro wS hS
    have eF := HF.out wS hS
    go_simp
    try with_reducible rfl
  simp only [Act.put, List.setIfInBounds_toArray, List.set_cons_zero, List.set_cons_succ]
  refine wpAnyH_done (by kernel_rfl) ?_ _
  clear hot HF
  have z21 := hHeld.size
  have BX := below_of BX hHeld BX.size
  have hra := rowB hra hHeld
  have hrx := rowB hrx hHeld
  have hrb := rowB hrb hHeld
  have hoa := hoa.below hHeld
  have ho4 := ho4.below hHeld
  have hos := hos.below hHeld
  have hob := hob.below hHeld
  clear hHeld
  go_wp2_with fail
  refine (toWorksStepS_any A1 n1 c1 0 w.heap.size f1 v50 (HST.out _ BX) hn1 hnc1).mono ?_
  rintro e v22 ⟨rfl, hor, hb⟩
  have z23 := hb.size
  have BX := below_of BX hb BX.size
  have hra := rowB hra hb
  have hrx := rowB hrx hb
  have hrb := rowB hrb hb
  have hoa := hoa.below hb
  have ho4 := ho4.below hb
  have hos := hos.below hb
  have hob := hob.below hb
  clear hb
  have yr := hor.hi_le
  generalize hqr : v50.heap.size = gr at *
  have HQr := Lib.hid hqr
  clear hqr
  go_wp2_with fail
  refine (eqWorksStepS_same _ _ n1 n1 n1 _ _ _ _ f1 v22 hos.sl hor.sl hn1 (Nat.le_refl _) (Nat.le_refl _)).mono ?_
  rintro e v24 ⟨rfl, hb⟩
  have z25 := hb.size
  have BX := below_of BX hb BX.size
  have hra := rowB hra hb
  have hrx := rowB hrx hb
  have hrb := rowB hrb hb
  have hoa := hoa.below hb
  have ho4 := ho4.below hb
  have hos := hos.below hb
  have hob := hob.below hb
  have hor := hor.below hb
  clear hb
  clear hor
  have e0 : v24.cell? ⟨xx, 0, none⟩ = some (.slice (some ⟨g4, 0, none⟩) n0 n0) := by rw [cell_of_row v24 (xx) 0 _ _ (0, 0) hrx]; rfl
  have e1 : v24.cell? ⟨xx, 1, none⟩ = some (.int .i64 I0) := by rw [cell_of_row v24 (xx) 1 _ _ (0, 0) hrx]; rfl
  have e2 : v24.cell? ⟨xx, 2, none⟩ = some (.int .i64 H0) := by rw [cell_of_row v24 (xx) 2 _ _ (0, 0) hrx]; rfl
  have e3 : v24.cell? ⟨xx, 3, none⟩ = some (.int .i64 S0) := by rw [cell_of_row v24 (xx) 3 _ _ (0, 0) hrx]; rfl
  have e4 : v24.cell? ⟨xx, 4, none⟩ = some (.int .i64 P0) := by rw [cell_of_row v24 (xx) 4 _ _ (0, 0) hrx]; rfl
  go_wp2_with fail
  refine (markWorks_any _ n0 n0 g4 (g4 + 1) 1 f0 I0 H0 S0 P0 v24 ho4 hbig (Nat.le_refl _) (by omega) (by omega)).mono ?_
  rintro e v26 ⟨rfl, _, hfr⟩
  have z27 := hfr.size
  have BX : Below (w.alloc (.cells #[.slice A0 n0 c0, .int .i64 I0, .int .i64 H0, .int .i64 S0, .int .i64 P0] 50)).heap.size (w.alloc (.cells #[.slice A0 n0 c0, .int .i64 I0, .int .i64 H0, .int .i64 S0, .int .i64 P0] 50)) v26 := BX.trans (hfr.below (by have := BX.size; omega) BX.size)
  have hra := rowF hra hfr (by omega)
  have hrx := rowF hrx hfr (by omega)
  have hrb := rowF hrb hfr (by omega)
  have hoa := hoa.fr hfr (by omega)
  have hos := hos.fr hfr (by omega)
  have hob := hob.fr hfr (by omega)
  clear hfr
  clear ho4
  clear e0 e1 e2 e3 e4
  go_wp2_with fail
  refine (markWorksStepS_any _ n1 n1 gs (gs + 1) (1 + (n0 : Int) * 4) f1 v26 hos hn1 (Nat.le_refl _) (by omega) (by omega)).mono ?_
  rintro e v28 ⟨rfl, _, hfr⟩
  have z29 := hfr.size
  have BX : Below (w.alloc (.cells #[.slice A0 n0 c0, .int .i64 I0, .int .i64 H0, .int .i64 S0, .int .i64 P0] 50)).heap.size (w.alloc (.cells #[.slice A0 n0 c0, .int .i64 I0, .int .i64 H0, .int .i64 S0, .int .i64 P0] 50)) v28 := BX.trans (hfr.below (by have := BX.size; omega) BX.size)
  have hra := rowF hra hfr (by omega)
  have hrx := rowF hrx hfr (by omega)
  have hrb := rowF hrb hfr (by omega)
  have hoa := hoa.fr hfr (by omega)
  have hob := hob.fr hfr (by omega)
  clear hfr
  clear hos
  have hn4 : ¬ ((1 : Int) + (n0 : Int) * 4 + (n1 : Int) * 4 < 0) := by omega
  have e0 : v28.cell? ⟨xb, 0, none⟩ = some (.slice Ab m cb) := by rw [cell_of_row v28 (xb) 0 _ _ (0, 0) hrb]; rfl
  have e1 : v28.cell? ⟨xb, 1, none⟩ = some (.int .i64 I') := by rw [cell_of_row v28 (xb) 1 _ _ (0, 0) hrb]; rfl
  have e2 : v28.cell? ⟨xb, 2, none⟩ = some (.int .i64 H') := by rw [cell_of_row v28 (xb) 2 _ _ (0, 0) hrb]; rfl
  have e3 : v28.cell? ⟨xb, 3, none⟩ = some (.int .i64 S') := by rw [cell_of_row v28 (xb) 3 _ _ (0, 0) hrb]; rfl
  have e4 : v28.cell? ⟨xb, 4, none⟩ = some (.int .i64 P') := by rw [cell_of_row v28 (xb) 4 _ _ (0, 0) hrb]; rfl
  have d0 : v28.cell? ⟨xa, 0, none⟩ = some (.slice Aa m ca) := by rw [cell_of_row v28 (xa) 0 _ _ (0, 0) hra]; rfl
  have d1 : v28.cell? ⟨xa, 1, none⟩ = some (.int .i64 I') := by rw [cell_of_row v28 (xa) 1 _ _ (0, 0) hra]; rfl
  have d2 : v28.cell? ⟨xa, 2, none⟩ = some (.int .i64 H') := by rw [cell_of_row v28 (xa) 2 _ _ (0, 0) hra]; rfl
  have d3 : v28.cell? ⟨xa, 3, none⟩ = some (.int .i64 S') := by rw [cell_of_row v28 (xa) 3 _ _ (0, 0) hra]; rfl
  have d4 : v28.cell? ⟨xa, 4, none⟩ = some (.int .i64 P') := by rw [cell_of_row v28 (xa) 4 _ _ (0, 0) hra]; rfl
  go_wp2_with fail
  refine (eqWorks_same Ab Aa m cb ca lb ub la ua (lf L) I' H' S' P' v28 hob.sl hoa.sl hm7 mb ma).mono ?_
  rintro e v30 ⟨rfl, hb⟩
  have z31 := hb.size
  have BX := below_of BX hb BX.size
  have hra := rowB hra hb
  have hrx := rowB hrx hb
  have hrb := rowB hrb hb
  have hoa := hoa.below hb
  have hob := hob.below hb
  clear hb
  clear e0 e1 e2 e3 e4 d0 d1 d2 d3 d4
  have e0 : v30.cell? ⟨xb, 0, none⟩ = some (.slice Ab m cb) := by rw [cell_of_row v30 (xb) 0 _ _ (0, 0) hrb]; rfl
  have e1 : v30.cell? ⟨xb, 1, none⟩ = some (.int .i64 I') := by rw [cell_of_row v30 (xb) 1 _ _ (0, 0) hrb]; rfl
  have e2 : v30.cell? ⟨xb, 2, none⟩ = some (.int .i64 H') := by rw [cell_of_row v30 (xb) 2 _ _ (0, 0) hrb]; rfl
  have e3 : v30.cell? ⟨xb, 3, none⟩ = some (.int .i64 S') := by rw [cell_of_row v30 (xb) 3 _ _ (0, 0) hrb]; rfl
  have e4 : v30.cell? ⟨xb, 4, none⟩ = some (.int .i64 P') := by rw [cell_of_row v30 (xb) 4 _ _ (0, 0) hrb]; rfl
  go_wp2_with fail
  refine (markWorks_any Ab m cb lb ub 1 (lf L) I' H' S' P' v30 hob hm7 mb (by omega) (by omega)).mono ?_
  rintro e v32 ⟨rfl, hob2, hfr⟩
  have z33 := hfr.size
  have BX : Below (w.alloc (.cells #[.slice A0 n0 c0, .int .i64 I0, .int .i64 H0, .int .i64 S0, .int .i64 P0] 50)).heap.size (w.alloc (.cells #[.slice A0 n0 c0, .int .i64 I0, .int .i64 H0, .int .i64 S0, .int .i64 P0] 50)) v32 := BX.trans (hfr.below (by have := BX.size; omega) BX.size)
  have hra := rowF hra hfr (by omega)
  have hrx := rowF hrx hfr (by omega)
  have hrb := rowF hrb hfr (by omega)
  have hoa := hoa.fr hfr (by omega)
  clear hfr
  clear hob
  have hob := hob2
  clear hob2
  clear e0 e1 e2 e3 e4
  have e0 : v32.cell? ⟨xb, 0, none⟩ = some (.slice Ab m cb) := by rw [cell_of_row v32 (xb) 0 _ _ (0, 0) hrb]; rfl
  have e1 : v32.cell? ⟨xb, 1, none⟩ = some (.int .i64 I') := by rw [cell_of_row v32 (xb) 1 _ _ (0, 0) hrb]; rfl
  have e2 : v32.cell? ⟨xb, 2, none⟩ = some (.int .i64 H') := by rw [cell_of_row v32 (xb) 2 _ _ (0, 0) hrb]; rfl
  have e3 : v32.cell? ⟨xb, 3, none⟩ = some (.int .i64 S') := by rw [cell_of_row v32 (xb) 3 _ _ (0, 0) hrb]; rfl
  have e4 : v32.cell? ⟨xb, 4, none⟩ = some (.int .i64 P') := by rw [cell_of_row v32 (xb) 4 _ _ (0, 0) hrb]; rfl
  go_wp2_with fail
  refine (heldWorks_any Ab m cb lb ub 1 I' H' S' P' v32 hob.sl hm7 mb (by omega) (by omega)).mono ?_
  rintro e v34 ⟨rfl, hb⟩
  have z35 := hb.size
  have BX := below_of BX hb BX.size
  have hra := rowB hra hb
  have hrx := rowB hrx hb
  have hrb := rowB hrb hb
  have hoa := hoa.below hb
  have hob := hob.below hb
  clear hb
  clear e0 e1 e2 e3 e4
  have hm4 : ¬ ((1 : Int) + (m : Int) * 4 < 0) := by omega
  obtain ⟨b0, b1, b2, b3, b4⟩ := HB0.out _ BX
  go_wp2_with fail
  refine (toWorks_any A0 n0 c0 0 w.heap.size f0 I0 H0 S0 P0 v34 (HSL.out _ BX) hbig hnc0).mono ?_
  rintro e v36 ⟨g5, rfl, l5, k5, ho5, hb⟩
  clear b0 b1 b2 b3 b4
  have z37 := hb.size
  have BX := below_of BX hb BX.size
  have hra := rowB hra hb
  have hrx := rowB hrx hb
  have hrb := rowB hrb hb
  have hoa := hoa.below hb
  have hob := hob.below hb
  clear hb
  go_wp2_with fail
  refine (toWorksStepS_any A1 n1 c1 0 w.heap.size f1 v36 (HST.out _ BX) hn1 hnc1).mono ?_
  rintro e v38 ⟨rfl, ho6, hb⟩
  have z39 := hb.size
  have BX := below_of BX hb BX.size
  have hra := rowB hra hb
  have hrx := rowB hrx hb
  have hrb := rowB hrb hb
  have hoa := hoa.below hb
  have hob := hob.below hb
  have ho5 := ho5.below hb
  clear hb
  have y6 := ho6.hi_le
  generalize hq6 : v36.heap.size = g6 at *
  have HQ6 := Lib.hid hq6
  clear hq6
  go_wp2_with fail
  refine (HIP.out _ _ _ _ _ _ _ _ v38 ho5.sl (fun h => by cases h) (fun ad h => ⟨_, _, (Option.some.inj h).symm⟩) (Nat.le_refl _) ho6.sl (Nat.le_refl _)).mono ?_
  rintro e v40 ⟨Ac, cc, rfl, mc, _, hown, hb⟩
  obtain ⟨lc, uc, hoc, qc⟩ := own_tight hown (Nat.le_refl _) hb.size
  clear hown
  have z41 := hb.size
  have BX := below_of BX hb BX.size
  have hra := rowB hra hb
  have hrx := rowB hrx hb
  have hrb := rowB hrb hb
  have hoa := hoa.below hb
  have hob := hob.below hb
  have ho5 := ho5.below hb
  have ho6 := ho6.below hb
  clear hb
  have ic := hoc.hi_le
  clear ho5
  clear ho6
  go_upto_region 32 with fail
  refine name_wp ?_
  intro v42 hw
  have hb : Below v40.heap.size v40 v42 := by rw [hw]; exact (Below.refl _ _).alloc (Nat.le_refl _) _
  have hrc : v42.heap[v40.heap.size]? = some (.cells #[.slice Ac m cc, .int .i64 I', .int .i64 H', .int .i64 S', .int .i64 P'] 26 (0, 0)) := by rw [hw]; exact heap_alloc_new v40 _
  clear hw
  have z43 := hb.size
  have BX := below_of BX hb BX.size
  have hra := rowB hra hb
  have hrx := rowB hrx hb
  have hrb := rowB hrb hb
  have hoa := hoa.below hb
  have hob := hob.below hb
  have hoc := hoc.below hb
  clear hb
  have jc := rowLt hrc
  generalize hqc : v40.heap.size = xc at *
  have HQc := Lib.hid hqc
  clear hqc
  have e0 : v42.cell? ⟨xc, 0, none⟩ = some (.slice Ac m cc) := by rw [cell_of_row v42 (xc) 0 _ _ (0, 0) hrc]; rfl
  have e1 : v42.cell? ⟨xc, 1, none⟩ = some (.int .i64 I') := by rw [cell_of_row v42 (xc) 1 _ _ (0, 0) hrc]; rfl
  have e2 : v42.cell? ⟨xc, 2, none⟩ = some (.int .i64 H') := by rw [cell_of_row v42 (xc) 2 _ _ (0, 0) hrc]; rfl
  have e3 : v42.cell? ⟨xc, 3, none⟩ = some (.int .i64 S') := by rw [cell_of_row v42 (xc) 3 _ _ (0, 0) hrc]; rfl
  have e4 : v42.cell? ⟨xc, 4, none⟩ = some (.int .i64 P') := by rw [cell_of_row v42 (xc) 4 _ _ (0, 0) hrc]; rfl
  have d0 : v42.cell? ⟨xa, 0, none⟩ = some (.slice Aa m ca) := by rw [cell_of_row v42 (xa) 0 _ _ (0, 0) hra]; rfl
  have d1 : v42.cell? ⟨xa, 1, none⟩ = some (.int .i64 I') := by rw [cell_of_row v42 (xa) 1 _ _ (0, 0) hra]; rfl
  have d2 : v42.cell? ⟨xa, 2, none⟩ = some (.int .i64 H') := by rw [cell_of_row v42 (xa) 2 _ _ (0, 0) hra]; rfl
  have d3 : v42.cell? ⟨xa, 3, none⟩ = some (.int .i64 S') := by rw [cell_of_row v42 (xa) 3 _ _ (0, 0) hra]; rfl
  have d4 : v42.cell? ⟨xa, 4, none⟩ = some (.int .i64 P') := by rw [cell_of_row v42 (xa) 4 _ _ (0, 0) hra]; rfl
  go_wp2_with fail
  refine (eqWorks_same Ac Aa m cc ca lc uc la ua (lf L) I' H' S' P' v42 hoc.sl hoa.sl hm7 mc ma).mono ?_
  rintro e v44 ⟨rfl, hb⟩
  have z45 := hb.size
  have BX := below_of BX hb BX.size
  have hra := rowB hra hb
  have hrx := rowB hrx hb
  have hrb := rowB hrb hb
  have hrc := rowB hrc hb
  have hoa := hoa.below hb
  have hob := hob.below hb
  have hoc := hoc.below hb
  clear hb
  clear e0 e1 e2 e3 e4 d0 d1 d2 d3 d4
  have e0 : v44.cell? ⟨xb, 0, none⟩ = some (.slice Ab m cb) := by rw [cell_of_row v44 (xb) 0 _ _ (0, 0) hrb]; rfl
  have e1 : v44.cell? ⟨xb, 1, none⟩ = some (.int .i64 I') := by rw [cell_of_row v44 (xb) 1 _ _ (0, 0) hrb]; rfl
  have e2 : v44.cell? ⟨xb, 2, none⟩ = some (.int .i64 H') := by rw [cell_of_row v44 (xb) 2 _ _ (0, 0) hrb]; rfl
  have e3 : v44.cell? ⟨xb, 3, none⟩ = some (.int .i64 S') := by rw [cell_of_row v44 (xb) 3 _ _ (0, 0) hrb]; rfl
  have e4 : v44.cell? ⟨xb, 4, none⟩ = some (.int .i64 P') := by rw [cell_of_row v44 (xb) 4 _ _ (0, 0) hrb]; rfl
  go_wp2_with fail
  refine (heldWorks_any Ab m cb lb ub 1 I' H' S' P' v44 hob.sl hm7 mb (by omega) (by omega)).mono ?_
  rintro e v46 ⟨rfl, hb⟩
  have z47 := hb.size
  have BX := below_of BX hb BX.size
  have hra := rowB hra hb
  have hrx := rowB hrx hb
  have hrb := rowB hrb hb
  have hrc := rowB hrc hb
  have hoa := hoa.below hb
  have hob := hob.below hb
  have hoc := hoc.below hb
  clear hb
  clear e0 e1 e2 e3 e4
  have BW := HAL.trans (BX.mono HAL.size)
  clear BX hoa hob hoc
  go_wp2
  go_ret
  exact ⟨rfl, BW⟩
end Go.Proofs.Ytjhgpebppcbleaa
