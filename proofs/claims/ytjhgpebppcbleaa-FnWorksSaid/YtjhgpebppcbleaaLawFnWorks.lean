/-
  The walk of the law FnWorks.
-/
import Derived.Test.YtjhgpebppcbleaaPk1
import Derived.Test.YtjhgpebppcbleaaPk6
import Derived.Test.YtjhgpebppcbleaaPk7
import Derived.Test.YtjhgpebppcbleaaDrawRW
import Derived.Test.YtjhgpebppcbleaaDrawIW
import Derived.Deep.CutBlock
namespace Go.Proofs.Ytjhgpebppcbleaa
open Go.RowKit
set_option linter.unusedVariables false
set_option linter.unusedSimpArgs false
/-- The works now, in block x: the state s, their row somewhere that the block is not in. -/
def NowS (W : World) (x : Nat) (s : WkS) : Prop :=
  ∃ (A' : Option Addr) (c' lo hi : Nat), W.heap[x]? = some (.cells #[.slice A' s.m c', .int .i64 s.I, .int .i64 s.H, .int .i64 s.S, .int .i64 s.P] 26 (0, 0)) ∧ s.m ≤ c' ∧ (A' = none → s.m = 0 ∧ c' = 0) ∧ (∀ ad, A' = some ad → ∃ b off, ad = ⟨b, off, none⟩) ∧ (hi ≤ x ∨ x + 1 ≤ lo) ∧ s.m ≤ 1048576 ∧ Sl W lo hi 4 A' s.m (lf s.L)
set_option maxRecDepth 100000 in
set_option maxHeartbeats 4000000 in
theorem FnWorks_walk (A0 : Option Addr) (n0 c0 : Nat) (w : World) (hnc0 : n0 ≤ c0) (hcm0 : c0 ≤ maxLen) (hk0 : Code w A0 n0) :
    Calls Try.prog 3 #[.slice A0 n0 c0] w fun e w' => e = .returned (.bool true) ∧ Below w.heap.size w w' := by
  by_cases hbig : 65536 < n0
  · go_enter Try.func3, Try.ntmps3
    go_wp2_with fail
    refine (vBig_any A0 n0 c0 w).mono ?_
    rw [decide_eq_true hbig]
    rintro e w1 ⟨rfl, rfl⟩
    go_wp2
    go_ret
    exact ⟨rfl, Below.refl _ _⟩
  go_enter Try.func3, Try.ntmps3
  go_wp2_with fail
  refine (vBig_any A0 n0 c0 w).mono ?_
  rw [decide_eq_false hbig]
  rintro e wx ⟨rfl, hwx⟩
  rw [hwx]
  clear hwx wx
  go_wp2_with fail
  refine (DrawStepWorks_any A0 n0 c0 w hk0 (by omega)).mono ?_
  rintro e w1 ⟨B, m, cm, L, I, H, S, P, a0, a1, a2, a3, rfl, hm7, hd, hB⟩
  have HK : Hid (∀ w', Below w.heap.size w w' → Code w' A0 n0) := fun w' h => hk0.below h
  clear hk0
  have hs0 := hd.own.sl
  have hle0 := hd.le
  have hn0 := hd.nil
  have hf0 := hd.form
  clear hd
  have BX := hB
  clear hB
  go_upto_region 4 with fail
  refine name_wp ?_
  intro v0 hw
  have hb : Below w1.heap.size w1 v0 := by rw [hw]; exact ((Below.refl _ w1).alloc (Nat.le_refl _) _).alloc (by simp) _
  have hr3 : v0.heap[w1.heap.size]? = some (.cells #[.slice B m cm, .int .i64 I, .int .i64 H, .int .i64 S, .int .i64 P] 26 (0, 0)) := by
    rw [hw, heap_alloc_old _ _ (by simp)]
    exact heap_alloc_new w1 _
  have hr4 : v0.heap[w1.heap.size + 1]? = some (.cells #[.int .i64 a0, .int .i64 a1, .int .i64 a2, .int .i64 a3] 28 (0, 0)) := by
    rw [hw]
    have h := heap_alloc_new (w1.alloc (.cells #[.slice B m cm, .int .i64 I, .int .i64 H, .int .i64 S, .int .i64 P] 26)) (.cells #[.int .i64 a0, .int .i64 a1, .int .i64 a2, .int .i64 a3] 28)
    simpa using h
  clear hw
  have z0 := hb.size
  have BX := below_of BX hb BX.size
  have hs0 := hs0.below hb
  clear hb
  obtain ⟨x3, hq3⟩ : ∃ q, w1.heap.size = q := ⟨_, rfl⟩
  rw [hq3] at hr3 hr4
  try rw [hq3]
  obtain ⟨x4, hq4⟩ : ∃ q, x3 + 1 = q := ⟨_, rfl⟩
  rw [hq4] at hr4
  try rw [hq4]
  have HQ3 := Lib.hid hq3
  have HQ4 := Lib.hid hq4
  clear hq3 hq4
  obtain ⟨L1, m1, I1, H1, S1, P1, ok, hm1, HGD, HTK, HRK, HIS, HSS⟩ := step_both (lf L) m I H S P a0 a1 a2 a3 (by omega)
  obtain ⟨e0, e1, e2, e3, e4⟩ := cells5 hr3
  obtain ⟨s0, s1, s2, s3⟩ := cells4 hr4
  go_wp2_with fail
  refine (HIS.out _ _ _ _ v0 hs0 hle0 hn0 hf0).mono ?_
  rintro e v1 ⟨A5, c5, rfl, hc5, _, hown, hb⟩
  have z1 := hb.size
  have BX := below_of BX hb BX.size
  have hr3 := rowB hr3 hb
  have hr4 := rowB hr4 hb
  have hs0 := hs0.below hb
  clear hb
  have hs5 := own_sl hown
  clear hown
  clear e0 e1 e2 e3 e4
  clear s0 s1 s2 s3
  go_upto_region 5 with fail
  refine name_wp ?_
  intro v2 hw
  have hb : Below v1.heap.size v1 v2 := by rw [hw]; exact (Below.refl _ _).alloc (Nat.le_refl _) _
  have hr5 : v2.heap[v1.heap.size]? = some (.cells #[.slice A5 m1 c5, .int .i64 I1, .int .i64 H1, .int .i64 S1, .int .i64 P1] 26 (0, 0)) := by rw [hw]; exact heap_alloc_new v1 _
  clear hw
  have z2 := hb.size
  have BX := below_of BX hb BX.size
  have hr3 := rowB hr3 hb
  have hr4 := rowB hr4 hb
  have hs0 := hs0.below hb
  have hs5 := hs5.below hb
  clear hb
  have j5 := rowLt hr5
  obtain ⟨x5, hq5⟩ : ∃ q, v1.heap.size = q := ⟨_, rfl⟩
  rw [hq5] at hr5 j5
  try rw [hq5]
  have HQ5 := Lib.hid hq5
  clear hq5
  obtain ⟨e0, e1, e2, e3, e4⟩ := cells5 hr3
  obtain ⟨s0, s1, s2, s3⟩ := cells4 hr4
  go_wp2_with fail
  refine (HSS.out _ _ _ _ v2 hs0 hle0 hn0 hf0).mono ?_
  rintro e v3 ⟨A7, c7, rfl, hc7, _, hown, hb⟩
  have z3 := hb.size
  have BX := below_of BX hb BX.size
  have hr3 := rowB hr3 hb
  have hr4 := rowB hr4 hb
  have hr5 := rowB hr5 hb
  have hs0 := hs0.below hb
  have hs5 := hs5.below hb
  clear hb
  have hs7 := own_sl hown
  clear hown
  clear e0 e1 e2 e3 e4
  clear s0 s1 s2 s3
  go_upto_region 6 with fail
  refine name_wp ?_
  intro v4 hw
  have hb : Below v3.heap.size v3 v4 := by rw [hw]; exact (Below.refl _ _).alloc (Nat.le_refl _) _
  have hr7 : v4.heap[v3.heap.size]? = some (.cells #[.slice A7 m1 c7, .int .i64 I1, .int .i64 H1, .int .i64 S1, .int .i64 P1] 26 (0, 0)) := by rw [hw]; exact heap_alloc_new v3 _
  clear hw
  have z4 := hb.size
  have BX := below_of BX hb BX.size
  have hr3 := rowB hr3 hb
  have hr4 := rowB hr4 hb
  have hr5 := rowB hr5 hb
  have hs0 := hs0.below hb
  have hs5 := hs5.below hb
  have hs7 := hs7.below hb
  clear hb
  have j7 := rowLt hr7
  obtain ⟨x7, hq7⟩ : ∃ q, v3.heap.size = q := ⟨_, rfl⟩
  rw [hq7] at hr7 j7
  try rw [hq7]
  have HQ7 := Lib.hid hq7
  clear hq7
  have HF : Hid (∀ w', Below v4.heap.size v4 w' → w'.cell? ⟨x3, 0, none⟩ = some (.slice B m cm) ∧ w'.cell? ⟨x3, 1, none⟩ = some (.int .i64 I) ∧ w'.cell? ⟨x3, 2, none⟩ = some (.int .i64 H) ∧ w'.cell? ⟨x3, 3, none⟩ = some (.int .i64 S) ∧ w'.cell? ⟨x3, 4, none⟩ = some (.int .i64 P) ∧ w'.cell? ⟨x5, 0, none⟩ = some (.slice A5 m1 c5) ∧ w'.cell? ⟨x5, 1, none⟩ = some (.int .i64 I1) ∧ w'.cell? ⟨x5, 2, none⟩ = some (.int .i64 H1) ∧ w'.cell? ⟨x5, 3, none⟩ = some (.int .i64 S1) ∧ w'.cell? ⟨x5, 4, none⟩ = some (.int .i64 P1) ∧ w'.cell? ⟨x7, 0, none⟩ = some (.slice A7 m1 c7) ∧ w'.cell? ⟨x7, 1, none⟩ = some (.int .i64 I1) ∧ w'.cell? ⟨x7, 2, none⟩ = some (.int .i64 H1) ∧ w'.cell? ⟨x7, 3, none⟩ = some (.int .i64 S1) ∧ w'.cell? ⟨x7, 4, none⟩ = some (.int .i64 P1)) := fun w' hq => by
    have h3 := rowB hr3 hq
    have h5 := rowB hr5 hq
    have h7 := rowB hr7 hq
    exact ⟨by rw [cell_of_row w' x3 0 _ _ (0, 0) h3]; rfl, by rw [cell_of_row w' x3 1 _ _ (0, 0) h3]; rfl, by rw [cell_of_row w' x3 2 _ _ (0, 0) h3]; rfl, by rw [cell_of_row w' x3 3 _ _ (0, 0) h3]; rfl, by rw [cell_of_row w' x3 4 _ _ (0, 0) h3]; rfl, by rw [cell_of_row w' x5 0 _ _ (0, 0) h5]; rfl, by rw [cell_of_row w' x5 1 _ _ (0, 0) h5]; rfl, by rw [cell_of_row w' x5 2 _ _ (0, 0) h5]; rfl, by rw [cell_of_row w' x5 3 _ _ (0, 0) h5]; rfl, by rw [cell_of_row w' x5 4 _ _ (0, 0) h5]; rfl, by rw [cell_of_row w' x7 0 _ _ (0, 0) h7]; rfl, by rw [cell_of_row w' x7 1 _ _ (0, 0) h7]; rfl, by rw [cell_of_row w' x7 2 _ _ (0, 0) h7]; rfl, by rw [cell_of_row w' x7 3 _ _ (0, 0) h7]; rfl, by rw [cell_of_row w' x7 4 _ _ (0, 0) h7]; rfl⟩
  have HV : Hid (∀ W, Below v4.heap.size v4 W → Calls Try.prog 11 #[.agg #[.slice A5 m1 c5, .int .i64 I1, .int .i64 H1, .int .i64 S1, .int .i64 P1], .agg #[.slice A7 m1 c7, .int .i64 I1, .int .i64 H1, .int .i64 S1, .int .i64 P1]] W fun e w' => e = .returned (.bool true) ∧ Below W.heap.size W w') := fun W hq => vWorks_same _ _ m1 _ _ _ _ _ _ _ _ _ _ _ W (hs5.below hq) (hs7.below hq) hm1
  have HI : Hid (∀ W, Below v4.heap.size v4 W → Calls Try.prog 12 #[.agg #[.slice B m cm, .int .i64 I, .int .i64 H, .int .i64 S, .int .i64 P]] W fun e w' => e = .returned (.bool (goodWorks (lf L) m I H S P)) ∧ Below W.heap.size W w') := fun W hq => isWorks_any _ m _ _ _ _ _ _ _ _ W (hs0.below hq) (by omega) hle0
  have HJ : Hid (∀ W, Below v4.heap.size v4 W → Calls Try.prog 13 #[.agg #[.slice B m cm, .int .i64 I, .int .i64 H, .int .i64 S, .int .i64 P]] W fun e w' => e = .returned (.bool (goodWorks (lf L) m I H S P)) ∧ Below W.heap.size W w') := fun W hq => specIsWorks_any _ m _ _ _ _ _ _ _ _ W (hs0.below hq) (by omega) hle0
  have HO : Hid (ok = true → ∀ W, Below v4.heap.size v4 W → Calls Try.prog 12 #[.agg #[.slice A5 m1 c5, .int .i64 I1, .int .i64 H1, .int .i64 S1, .int .i64 P1]] W fun e w' => e = .returned (.bool true) ∧ Below W.heap.size W w') := fun hk W hq => by
    have h := isWorks_any A5 m1 c5 _ _ _ I1 H1 S1 P1 W (hs5.below hq) hm1 hc5
    rwa [HGD.out hk] at h
  generalize hgb : goodWorks (lf L) m I H S P = gb at HI HJ
  have HGB := Lib.hid hgb
  clear hgb
  go_upto_region 6 with fail
  go_cut [75] (fun s wx => s = .bool false ∧ Below v4.heap.size v4 wx)
  case first =>
    as_aux_lemma =>
      have hgg : (gb != gb) = false := by simp
      cases ok with
      | false =>
        refine wp_region_class (C := fun w' => Below (v4).heap.size (v4) w') (by kernel_rfl) (by kernel_rfl) ((Below.refl _ _).drew) ?_
        refine tq (v := ?_) 52 HF ?_ ?_
        rotate_left; · (intro _ _ _; go_simp; try with_reducible rfl)
        simp only [Act.put, p1, p2, p3]
        refine tq (v := ?_) 53 HF ?_ ?_
        rotate_left; · (intro _ _ _; go_simp; try with_reducible rfl)
        simp only [Act.put, p1, p2, p3]
        refine tq (v := ?_) 54 HF ?_ ?_
        rotate_left; · (intro _ _ _; go_simp; try with_reducible rfl)
        simp only [Act.put, p1, p2, p3]
        refine tq (v := ?_) 55 HF ?_ ?_
        rotate_left; · (intro _ _ _; go_simp; try with_reducible rfl)
        simp only [Act.put, p1, p2, p3]
        refine tq (v := ?_) 56 HF ?_ ?_
        rotate_left; · (intro _ _ _; go_simp; try with_reducible rfl)
        simp only [Act.put, p1, p2, p3]
        refine tq (v := ?_) 57 HF ?_ ?_
        rotate_left; · (intro _ _ _; go_simp; try with_reducible rfl)
        simp only [Act.put, p1, p2, p3]
        refine wpQuiet_meet (d := 58) (v := ?_) ?_ ?_ (by rfl) ?_ ?_ ?_
        rotate_left
        rotate_left
        rotate_left
        · intro wS hS
          have eF := HF.out wS hS
          go_simp
          first | with_reducible rfl | (refine ⟨?_, ?_⟩ <;> with_reducible rfl)
        · intro wS hS
          refine (HV.out wS hS).mono ?_
          rintro e w2 ⟨rfl, hb2⟩
          refine ⟨?_, hS.trans (hb2.mono hS.size)⟩
          with_reducible rfl
        simp only [Act.put, p1, p2, p3]
        refine tq (v := ?_) 59 HF ?_ ?_
        rotate_left; · (intro _ _ _; go_simp; try with_reducible rfl)
        simp only [Act.put, p1, p2, p3]
        refine tq (v := ?_) 60 HF ?_ ?_
        rotate_left; · (intro _ _ _; go_simp; try with_reducible rfl)
        simp only [Act.put, p1, p2, p3]
        refine tq (v := ?_) 61 HF ?_ ?_
        rotate_left; · (intro _ _ _; go_simp; try with_reducible rfl)
        simp only [Act.put, p1, p2, p3]
        refine tq (v := ?_) 62 HF ?_ ?_
        rotate_left; · (intro _ _ _; go_simp; try with_reducible rfl)
        simp only [Act.put, p1, p2, p3]
        refine wpQuiet_meet (d := 63) (v := ?_) ?_ ?_ (by rfl) ?_ ?_ ?_
        rotate_left
        rotate_left
        rotate_left
        · intro wS hS
          have eF := HF.out wS hS
          go_simp
          first | with_reducible rfl | (refine ⟨?_, ?_⟩ <;> with_reducible rfl)
        · intro wS hS
          refine (HI.out wS hS).mono ?_
          rintro e w2 ⟨rfl, hb2⟩
          refine ⟨?_, hS.trans (hb2.mono hS.size)⟩
          with_reducible rfl
        simp only [Act.put, p1, p2, p3]
        refine tq (v := ?_) 64 HF ?_ ?_
        rotate_left; · (intro _ _ _; go_simp; try with_reducible rfl)
        simp only [Act.put, p1, p2, p3]
        refine wpQuiet_meet (d := 65) (v := ?_) ?_ ?_ (by rfl) ?_ ?_ ?_
        rotate_left
        rotate_left
        rotate_left
        · intro wS hS
          have eF := HF.out wS hS
          go_simp
          first | with_reducible rfl | (refine ⟨?_, ?_⟩ <;> with_reducible rfl)
        · intro wS hS
          refine (HJ.out wS hS).mono ?_
          rintro e w2 ⟨rfl, hb2⟩
          refine ⟨?_, hS.trans (hb2.mono hS.size)⟩
          with_reducible rfl
        simp only [Act.put, p1, p2, p3]
        refine tq (v := ?_) 66 HF ?_ ?_
        rotate_left; · (intro _ _ _; go_simp; try with_reducible rfl)
        simp only [Act.put, p1, p2, p3]
        refine tq (v := ?_) 67 HF ?_ ?_
        rotate_left; · (intro _ _ _; go_simp; try with_reducible rfl)
        simp only [Act.put, p1, p2, p3]
        refine tq (v := ?_) 68 HF ?_ ?_
        rotate_left; · (intro _ _ _; go_simp; try with_reducible rfl)
        simp only [Act.put, p1, p2, p3]
        refine tq (v := ?_) 69 HF ?_ ?_
        rotate_left; · (intro _ _ _; go_simp; try with_reducible rfl)
        simp only [Act.put, p1, p2, p3]
        refine tq (v := ?_) 70 HF ?_ ?_
        rotate_left; · (intro _ _ _; go_simp; try with_reducible rfl)
        simp only [Act.put, p1, p2, p3]
        refine wpQuiet_pass (d := 71) (by kernel_rfl) ?_
        simp only [Act.put, p1, p2, p3]
        refine wpQuiet_pass (d := 72) (by kernel_rfl) ?_
        simp only [Act.put, p1, p2, p3]
        refine wpQuiet_pass (d := 73) (by kernel_rfl) ?_
        simp only [Act.put, p1, p2, p3]
        refine tq (v := ?_) 74 HF ?_ ?_
        rotate_left; · (intro _ _ _; go_simp; try with_reducible rfl)
        simp only [Act.put, p1, p2, p3]
        refine tq (v := ?_) 75 HF ?_ ?_
        rotate_left; · (intro _ _ _; go_simp; try with_reducible rfl)
        simp only [Act.put, p1, p2, p3]
        refine wpQuiet_nil (fun wq hHeld => ?_)
        go_wp2_with fail
        go_meet
        case rel => exact ⟨rfl, hHeld⟩
      | true =>
        refine wp_region_class (C := fun w' => Below (v4).heap.size (v4) w') (by kernel_rfl) (by kernel_rfl) ((Below.refl _ _).drew) ?_
        refine tq (v := ?_) 52 HF ?_ ?_
        rotate_left; · (intro _ _ _; go_simp; try with_reducible rfl)
        simp only [Act.put, p1, p2, p3]
        refine tq (v := ?_) 53 HF ?_ ?_
        rotate_left; · (intro _ _ _; go_simp; try with_reducible rfl)
        simp only [Act.put, p1, p2, p3]
        refine tq (v := ?_) 54 HF ?_ ?_
        rotate_left; · (intro _ _ _; go_simp; try with_reducible rfl)
        simp only [Act.put, p1, p2, p3]
        refine tq (v := ?_) 55 HF ?_ ?_
        rotate_left; · (intro _ _ _; go_simp; try with_reducible rfl)
        simp only [Act.put, p1, p2, p3]
        refine tq (v := ?_) 56 HF ?_ ?_
        rotate_left; · (intro _ _ _; go_simp; try with_reducible rfl)
        simp only [Act.put, p1, p2, p3]
        refine tq (v := ?_) 57 HF ?_ ?_
        rotate_left; · (intro _ _ _; go_simp; try with_reducible rfl)
        simp only [Act.put, p1, p2, p3]
        refine wpQuiet_meet (d := 58) (v := ?_) ?_ ?_ (by rfl) ?_ ?_ ?_
        rotate_left
        rotate_left
        rotate_left
        · intro wS hS
          have eF := HF.out wS hS
          go_simp
          first | with_reducible rfl | (refine ⟨?_, ?_⟩ <;> with_reducible rfl)
        · intro wS hS
          refine (HV.out wS hS).mono ?_
          rintro e w2 ⟨rfl, hb2⟩
          refine ⟨?_, hS.trans (hb2.mono hS.size)⟩
          with_reducible rfl
        simp only [Act.put, p1, p2, p3]
        refine tq (v := ?_) 59 HF ?_ ?_
        rotate_left; · (intro _ _ _; go_simp; try with_reducible rfl)
        simp only [Act.put, p1, p2, p3]
        refine tq (v := ?_) 60 HF ?_ ?_
        rotate_left; · (intro _ _ _; go_simp; try with_reducible rfl)
        simp only [Act.put, p1, p2, p3]
        refine tq (v := ?_) 61 HF ?_ ?_
        rotate_left; · (intro _ _ _; go_simp; try with_reducible rfl)
        simp only [Act.put, p1, p2, p3]
        refine tq (v := ?_) 62 HF ?_ ?_
        rotate_left; · (intro _ _ _; go_simp; try with_reducible rfl)
        simp only [Act.put, p1, p2, p3]
        refine wpQuiet_meet (d := 63) (v := ?_) ?_ ?_ (by rfl) ?_ ?_ ?_
        rotate_left
        rotate_left
        rotate_left
        · intro wS hS
          have eF := HF.out wS hS
          go_simp
          first | with_reducible rfl | (refine ⟨?_, ?_⟩ <;> with_reducible rfl)
        · intro wS hS
          refine (HI.out wS hS).mono ?_
          rintro e w2 ⟨rfl, hb2⟩
          refine ⟨?_, hS.trans (hb2.mono hS.size)⟩
          with_reducible rfl
        simp only [Act.put, p1, p2, p3]
        refine tq (v := ?_) 64 HF ?_ ?_
        rotate_left; · (intro _ _ _; go_simp; try with_reducible rfl)
        simp only [Act.put, p1, p2, p3]
        refine wpQuiet_meet (d := 65) (v := ?_) ?_ ?_ (by rfl) ?_ ?_ ?_
        rotate_left
        rotate_left
        rotate_left
        · intro wS hS
          have eF := HF.out wS hS
          go_simp
          first | with_reducible rfl | (refine ⟨?_, ?_⟩ <;> with_reducible rfl)
        · intro wS hS
          refine (HJ.out wS hS).mono ?_
          rintro e w2 ⟨rfl, hb2⟩
          refine ⟨?_, hS.trans (hb2.mono hS.size)⟩
          with_reducible rfl
        simp only [Act.put, p1, p2, p3]
        refine tq (v := ?_) 66 HF ?_ ?_
        rotate_left; · (intro _ _ _; go_simp; try with_reducible rfl)
        simp only [Act.put, p1, p2, p3]
        refine tq (v := ?_) 67 HF ?_ ?_
        rotate_left; · (intro _ _ _; go_simp; try with_reducible rfl)
        simp only [Act.put, p1, p2, p3]
        refine tq (v := ?_) 68 HF ?_ ?_
        rotate_left; · (intro _ _ _; go_simp; try with_reducible rfl)
        simp only [Act.put, p1, p2, p3]
        refine tq (v := ?_) 69 HF ?_ ?_
        rotate_left; · (intro _ _ _; go_simp; try with_reducible rfl)
        simp only [Act.put, p1, p2, p3]
        refine tq (v := ?_) 70 HF ?_ ?_
        rotate_left; · (intro _ _ _; go_simp; try with_reducible rfl)
        simp only [Act.put, p1, p2, p3]
        refine tq (v := ?_) 71 HF ?_ ?_
        rotate_left; · (intro _ _ _; go_simp; try with_reducible rfl)
        simp only [Act.put, p1, p2, p3]
        refine wpQuiet_meet (d := 72) (v := ?_) ?_ ?_ (by rfl) ?_ ?_ ?_
        rotate_left
        rotate_left
        rotate_left
        · intro wS hS
          have eF := HF.out wS hS
          go_simp
          first | with_reducible rfl | (refine ⟨?_, ?_⟩ <;> with_reducible rfl)
        · intro wS hS
          refine (HO.out rfl wS hS).mono ?_
          rintro e w2 ⟨rfl, hb2⟩
          refine ⟨?_, hS.trans (hb2.mono hS.size)⟩
          with_reducible rfl
        simp only [Act.put, p1, p2, p3]
        refine tq (v := ?_) 73 HF ?_ ?_
        rotate_left; · (intro _ _ _; go_simp; try with_reducible rfl)
        simp only [Act.put, p1, p2, p3]
        refine tq (v := ?_) 74 HF ?_ ?_
        rotate_left; · (intro _ _ _; go_simp; try with_reducible rfl)
        simp only [Act.put, p1, p2, p3]
        refine tq (v := ?_) 75 HF ?_ ?_
        rotate_left; · (intro _ _ _; go_simp; try with_reducible rfl)
        simp only [Act.put, p1, p2, p3]
        refine wpQuiet_nil (fun wq hHeld => ?_)
        go_wp2_with fail
        go_meet
        case rel => exact ⟨rfl, hHeld⟩
  case rest =>
    obtain ⟨rfl, hb⟩ := hcut
    obtain ⟨u0, hu0⟩ : ∃ v, wc = v := ⟨_, rfl⟩
    rw [hu0] at hb
    try rw [hu0]
    clear hu0 wc HF HV HI HJ HO
    have z900 := hb.size
    have BX := below_of BX hb BX.size
    have hr3 := rowB hr3 hb
    have hr4 := rowB hr4 hb
    have hr5 := rowB hr5 hb
    have hr7 := rowB hr7 hb
    have hs0 := hs0.below hb
    have hs5 := hs5.below hb
    have hs7 := hs7.below hb
    clear hb
    go_upto_if 76 with fail
    go_cut [] (fun wx => Below u0.heap.size u0 wx)
    case first =>
      as_aux_lemma =>
        cases ok with
        | false =>
          clear HGD HTK HRK HIS HSS
          go_wp2_with fail
          go_meet
          case rel => exact Below.refl _ _
        | true =>
          have G1 := Lib.hid (HGD.out rfl)
          have T1 := Lib.hid (HTK.out rfl)
          clear HGD HTK HRK HIS HSS
          obtain ⟨e0, e1, e2, e3, e4⟩ := cells5 hr5
          go_wp2_with fail
          refine (SaltInPans_any A5 m1 c5 _ _ _ I1 H1 S1 P1 u0 hs5 hm1 hc5).mono ?_
          rw [G1.out]
          rintro e u1 ⟨rfl, hb⟩
          have hr5 := rowB hr5 hb
          have hr3 := rowB hr3 hb
          have hr4 := rowB hr4 hb
          clear e0 e1 e2 e3 e4
          obtain ⟨e0, e1, e2, e3, e4⟩ := cells5 hr5
          obtain ⟨d0, d1, d2, d3, d4⟩ := cells5 hr3
          obtain ⟨s0, s1, s2, s3⟩ := cells4 hr4
          clear hr3 hr4 hr5
          have hin := wk_in G1.out
          have htk := T1.out
          clear G1 T1
          by_cases ht : a0 = 2
          · have hTK := Lib.hid htk
            have hIN := Lib.hid hin
            clear htk hin
            subst ht
            have hsum : wrap64 (wrap64 (wrap64 (satV (lf L1) m1 true + H1) + S1) + P1) = I1 := by simp only [satV, if_true]; exact hIN.out.symm
            generalize satV (lf L1) m1 true = sat at *
            go_wp2_with fail
            go_meet
            case rel => exact hb
          · have hTK := Lib.hid htk
            have hIN := Lib.hid hin
            clear htk hin
            have ht2 : (a0 == 2) = false := by simp [ht]
            have hII := hTK.out ht
            have hib : (I1 == I) = true := by simp [hII]
            clear hII
            have hsum : wrap64 (wrap64 (wrap64 (satV (lf L1) m1 true + H1) + S1) + P1) = I1 := by simp only [satV, if_true]; exact hIN.out.symm
            generalize satV (lf L1) m1 true = sat at *
            go_wp2_with fail
            go_meet
            case rel => exact hb
    case rest =>
      clear HGD HTK HIS HSS hr5 hr7 hs5 hs7
      obtain ⟨u9, hwe⟩ : ∃ v, wc = v := ⟨_, rfl⟩
      rw [hwe] at hcut
      try rw [hwe]
      have hb := hcut
      clear hwe hcut wc
      have z9 := hb.size
      have BX := below_of BX hb BX.size
      have hr3 := rowB hr3 hb
      have hr4 := rowB hr4 hb
      have hs0 := hs0.below hb
      clear hb
      obtain ⟨s0, s1, s2, s3⟩ := cells4 hr4
      go_upto_region 12 with fail
      go_cut [116] (fun s wx => s = .bool (ok && decide (a0 = 5)) ∧ wx = u9)
      case first =>
        as_aux_lemma =>
          clear HRK
          cases ok with
          | false =>
            go_wp2_with fail
            go_meet
            case rel => exact ⟨rfl, rfl⟩
          | true =>
            by_cases h5 : a0 = 5
            · subst h5
              go_wp2_with fail
              go_meet
              case rel => exact ⟨rfl, rfl⟩
            · have h5b : (a0 == 5) = false := by simp [h5]
              have h5d := Lib.hid (decide_eq_false h5)
              go_wp2_with fail
              go_meet
              case rel => exact ⟨by rw [h5d.out]; rfl, rfl⟩
      case rest =>
        obtain ⟨rfl, hwe⟩ := hcut
        rw [hwe]
        clear hwe wc s0 s1 s2 s3
        generalize hbb : (ok && decide (a0 = 5)) = bb
        have HBB := Lib.hid hbb
        clear hbb
        go_upto_if 116 with fail
        go_cut [] (fun wx => Below u9.heap.size u9 wx)
        case first =>
          as_aux_lemma =>
            cases bb with
            | false =>
              clear HRK HBB
              go_wp2_with fail
              go_meet
              case rel => exact Below.refl _ _
            | true =>
              have hbt := HBB.out
              rw [Bool.and_eq_true, decide_eq_true_eq] at hbt
              obtain ⟨hgq, j, hj, hfd, hz, hdry, hhas⟩ := HRK.out hbt.1 hbt.2
              clear hbt HRK
              obtain ⟨e0, e1, e2, e3, e4⟩ := cells5 hr3
              obtain ⟨s0, s1, s2, s3⟩ := cells4 hr4
              have HM := MayRake_any B m cm _ _ (lf L) I H S P u9 hs0 (by omega) hle0
              rw [hgq] at HM
              have HD1 := Lib.hid hdry
              have HH1 := Lib.hid hhas
              clear hdry hhas
              go_wp2_with fail
              refine HM.mono ?_
              rintro e u10 ⟨Am, cm2, rfl, _, _, hom, hb⟩
              have HB10 := Lib.hid hb
              have hr3 := rowB hr3 hb
              have hr4 := rowB hr4 hb
              have hs0 := hs0.below hb
              clear HM hb
              clear e0 e1 e2 e3 e4
              clear s0 s1 s2 s3
              obtain ⟨e0, e1, e2, e3, e4⟩ := cells5 hr3
              obtain ⟨s0, s1, s2, s3⟩ := cells4 hr4
              have HD : Calls Try.prog 16 #[.agg #[.slice B m cm, .int .i64 I, .int .i64 H, .int .i64 S, .int .i64 P], .int .i64 a1] u10 fun e w' => e = .returned (.tuple #[.int .i64 0, .bool true]) ∧ Below u10.heap.size u10 w' := by
                have h := DryToRake_yes B m cm _ _ (lf L) I H S P a1 u10 hs0 (by omega) hle0 hgq j hj hfd hz
                rw [HD1.out] at h
                exact h
              clear hfd hz hj hgq
              have HMO := Lib.hid hom
              clear hom
              go_wp2_with fail
              refine HD.mono ?_
              rintro e u11 ⟨rfl, hb⟩
              have HB11 := Lib.hid (HB10.out.trans (hb.mono HB10.out.size))
              have hr4 := rowB hr4 hb
              have hom := HMO.out.below hb
              clear HD hb hr3 hs0 HMO HB10
              clear e0 e1 e2 e3 e4
              clear s0 s1 s2 s3
              obtain ⟨s0, s1, s2, s3⟩ := cells4 hr4
              clear hr4
              have HX : Calls Try.prog 17 #[.slice Am (rakeRes (lf L) m true).length cm2, .int .i64 a1] u11 fun e w' => e = .returned (.bool true) ∧ w' = u11 := by
                have h := vHas_any Am (rakeRes (lf L) m true).length cm2 _ _ _ a1 u11 hom.sl (wk_len (by omega))
                rw [HH1.out] at h
                exact h
              clear hom HH1 HD1
              go_wp2_with fail
              refine HX.mono ?_
              rintro e wx ⟨rfl, hwx⟩
              rw [hwx]
              clear hwx wx HX
              go_wp2_with fail
              go_meet
              case rel => exact HB11.out
        case rest =>
          clear HRK HBB
          obtain ⟨u12, hwe⟩ : ∃ v, wc = v := ⟨_, rfl⟩
          rw [hwe] at hcut
          try rw [hwe]
          have hb := hcut
          clear hwe hcut wc
          have z12 := hb.size
          have BX := below_of BX hb BX.size
          have hr3 := rowB hr3 hb
          have hr4 := rowB hr4 hb
          have hs0 := hs0.below hb
          clear hb
          clear hr3 hr4 hs0 hle0 hn0 hf0
          clear bb
          go_wp2_with fail
          refine (DrawRunWorks_any A0 n0 c0 u12 (HK.out _ BX) (by omega)).mono ?_
          rintro e u13 ⟨B, m, cm, L, I, H, S, P, A1, n1, c1, Ls, rfl, h41, hds, hm7, hd, hb⟩
          have BX := below_of BX hb BX.size
          clear hb
          have hs0 := hd.own.sl
          have hle0 := hd.le
          have hn0 := hd.nil
          have hf0 := hd.form
          clear hd
          have hst := hds.own.sl
          have hlet := hds.le
          have hnt := hds.nil
          have hft := hds.form
          clear hds
          go_upto_region 18 with fail
          refine name_wp ?_
          intro v5 hw
          have hb : Below u13.heap.size u13 v5 := by rw [hw]; exact (Below.refl _ _).alloc (Nat.le_refl _) _
          have hr15 : v5.heap[u13.heap.size]? = some (.cells #[.slice B m cm, .int .i64 I, .int .i64 H, .int .i64 S, .int .i64 P] 26 (0, 0)) := by rw [hw]; exact heap_alloc_new u13 _
          clear hw
          have z5 := hb.size
          have BX := below_of BX hb BX.size
          have hs0 := hs0.below hb
          have hst := hst.below hb
          clear hb
          have j15 := rowLt hr15
          obtain ⟨x15, hq15⟩ : ∃ q, u13.heap.size = q := ⟨_, rfl⟩
          rw [hq15] at hr15 j15
          try rw [hq15]
          have HQ15 := Lib.hid hq15
          clear hq15
          obtain ⟨L1, m1, I1, H1, S1, P1, ct, ok, hm1, HRS, HIR, HSR⟩ := run_both (lf L) m I H S P n1 (lf Ls) (by omega) (by omega)
          obtain ⟨e0, e1, e2, e3, e4⟩ := cells5 hr15
          go_wp2_with fail
          refine (HIR.out _ _ _ _ _ _ _ _ v5 hs0 hle0 hn0 hf0 hst hlet).mono ?_
          rintro e v6 ⟨A17, c17, rfl, hc17, _, hown, hb⟩
          have z6 := hb.size
          have BX := below_of BX hb BX.size
          have hr15 := rowB hr15 hb
          have hs0 := hs0.below hb
          have hst := hst.below hb
          clear hb
          have hs17 := own_sl hown
          clear hown
          clear e0 e1 e2 e3 e4
          go_upto_region 19 with fail
          refine name_wp ?_
          intro v7 hw
          have hb : Below v6.heap.size v6 v7 := by rw [hw]; exact (Below.refl _ _).alloc (Nat.le_refl _) _
          have hr17 : v7.heap[v6.heap.size]? = some (.cells #[.slice A17 m1 c17, .int .i64 I1, .int .i64 H1, .int .i64 S1, .int .i64 P1] 26 (0, 0)) := by rw [hw]; exact heap_alloc_new v6 _
          clear hw
          have z7 := hb.size
          have BX := below_of BX hb BX.size
          have hr15 := rowB hr15 hb
          have hs0 := hs0.below hb
          have hst := hst.below hb
          have hs17 := hs17.below hb
          clear hb
          have j17 := rowLt hr17
          obtain ⟨x17, hq17⟩ : ∃ q, v6.heap.size = q := ⟨_, rfl⟩
          rw [hq17] at hr17 j17
          try rw [hq17]
          have HQ17 := Lib.hid hq17
          clear hq17
          obtain ⟨e0, e1, e2, e3, e4⟩ := cells5 hr15
          go_wp2_with fail
          refine (HSR.out _ _ _ _ _ _ _ _ v7 hs0 hle0 hn0 hf0 hst hlet).mono ?_
          rintro e v8 ⟨A20, c20, rfl, hc20, _, hown, hb⟩
          have z8 := hb.size
          have BX := below_of BX hb BX.size
          have hr15 := rowB hr15 hb
          have hr17 := rowB hr17 hb
          have hs0 := hs0.below hb
          have hst := hst.below hb
          have hs17 := hs17.below hb
          clear hb
          have hs20 := own_sl hown
          clear hown
          clear e0 e1 e2 e3 e4
          go_upto_region 20 with fail
          refine name_wp ?_
          intro v9 hw
          have hb : Below v8.heap.size v8 v9 := by rw [hw]; exact (Below.refl _ _).alloc (Nat.le_refl _) _
          have hr20 : v9.heap[v8.heap.size]? = some (.cells #[.slice A20 m1 c20, .int .i64 I1, .int .i64 H1, .int .i64 S1, .int .i64 P1] 26 (0, 0)) := by rw [hw]; exact heap_alloc_new v8 _
          clear hw
          have z9 := hb.size
          have BX := below_of BX hb BX.size
          have hr15 := rowB hr15 hb
          have hr17 := rowB hr17 hb
          have hs0 := hs0.below hb
          have hst := hst.below hb
          have hs17 := hs17.below hb
          have hs20 := hs20.below hb
          clear hb
          have j20 := rowLt hr20
          obtain ⟨x20, hq20⟩ : ∃ q, v8.heap.size = q := ⟨_, rfl⟩
          rw [hq20] at hr20 j20
          try rw [hq20]
          have HQ20 := Lib.hid hq20
          clear hq20
          clear HIR HSR
          obtain ⟨e0, e1, e2, e3, e4⟩ := cells5 hr17
          obtain ⟨d0, d1, d2, d3, d4⟩ := cells5 hr20
          cases ok with
          | false =>
            as_aux_lemma =>
              go_wp2_with fail
              refine (vWorks_same _ _ m1 _ _ _ _ _ _ _ _ _ _ _ v9 hs17 hs20 hm1).mono ?_
              rintro e v10 ⟨rfl, hb⟩
              have z10 := hb.size
              have BX := below_of BX hb BX.size
              have hr15 := rowB hr15 hb
              have hr17 := rowB hr17 hb
              have hr20 := rowB hr20 hb
              have hs0 := hs0.below hb
              have hst := hst.below hb
              have hs17 := hs17.below hb
              have hs20 := hs20.below hb
              clear hb
              clear e0 e1 e2 e3 e4
              clear d0 d1 d2 d3 d4
              clear hr20 hs20
              clear HRS
              clear hr15 hr17 hs0 hst hs17 hle0 hn0 hf0 hlet hnt hft
              go_wp2_with fail
              refine (DrawSaltInPans_any A0 n0 c0 v10 (HK.out _ BX) (by omega)).mono ?_
              rintro e y0 ⟨By, my, cy, Ly, Iy, Hy, Sy, Py, rfl, hmy, hdy, hb⟩
              have BX := below_of BX hb BX.size
              clear hb
              have hsy := hdy.own.sl
              have hly := hdy.le
              clear hdy
              go_upto_region 34 with fail
              refine name_wp ?_
              intro v11 hw
              have hb : Below y0.heap.size y0 v11 := by rw [hw]; exact (Below.refl _ _).alloc (Nat.le_refl _) _
              have hr28 : v11.heap[y0.heap.size]? = some (.cells #[.slice By my cy, .int .i64 Iy, .int .i64 Hy, .int .i64 Sy, .int .i64 Py] 26 (0, 0)) := by rw [hw]; exact heap_alloc_new y0 _
              clear hw
              have z11 := hb.size
              have BX := below_of BX hb BX.size
              have hsy := hsy.below hb
              clear hb
              have j28 := rowLt hr28
              obtain ⟨x28, hq28⟩ : ∃ q, y0.heap.size = q := ⟨_, rfl⟩
              rw [hq28] at hr28 j28
              try rw [hq28]
              have HQ28 := Lib.hid hq28
              clear hq28
              obtain ⟨e0, e1, e2, e3, e4⟩ := cells5 hr28
              go_wp2_with fail
              refine (SaltInPans_any By my cy _ _ (lf Ly) Iy Hy Sy Py v11 hsy (by omega) hly).mono ?_
              rintro e v12 ⟨rfl, hb⟩
              have z12 := hb.size
              have BX := below_of BX hb BX.size
              have hr28 := rowB hr28 hb
              have hsy := hsy.below hb
              clear hb
              clear e0 e1 e2 e3 e4
              obtain ⟨e0, e1, e2, e3, e4⟩ := cells5 hr28
              go_wp2_with fail
              refine (specSaltInPans_any By my cy _ _ (lf Ly) Iy Hy Sy Py v12 hsy (by omega) hly).mono ?_
              rintro e v13 ⟨rfl, hb⟩
              have z13 := hb.size
              have BX := below_of BX hb BX.size
              have hr28 := rowB hr28 hb
              have hsy := hsy.below hb
              clear hb
              clear e0 e1 e2 e3 e4
              generalize satV (lf Ly) my (goodWorks (lf Ly) my Iy Hy Sy Py) = sv
              generalize goodWorks (lf Ly) my Iy Hy Sy Py = gv
              have HBX := Lib.hid BX
              clear BX hr28 hsy
              cases gv with
              | false =>
                go_wp2
                go_ret
                exact ⟨rfl, HBX.out⟩
              | true =>
                go_wp2
                go_ret
                exact ⟨rfl, HBX.out⟩
          | true =>
            obtain ⟨h40, hgw, hrs⟩ := HRS.out rfl
            have HEND := Lib.hid hrs
            clear HRS hrs hgw
            go_wp2_with fail
            refine (vWorks_same _ _ m1 _ _ _ _ _ _ _ _ _ _ _ v9 hs17 hs20 hm1).mono ?_
            rintro e v14 ⟨rfl, hb⟩
            have z14 := hb.size
            have BX := below_of BX hb BX.size
            have hr15 := rowB hr15 hb
            have hr17 := rowB hr17 hb
            have hr20 := rowB hr20 hb
            have hs0 := hs0.below hb
            have hst := hst.below hb
            have hs17 := hs17.below hb
            have hs20 := hs20.below hb
            clear hb
            clear e0 e1 e2 e3 e4
            clear d0 d1 d2 d3 d4
            clear hr20 hs20
            obtain ⟨e0, e1, e2, e3, e4⟩ := cells5 hr15
            have hwsz := BX.size
            go_upto_region 24 with fail
            refine name_wp ?_
            intro v15 hw
            have hb : Below v14.heap.size v14 v15 := by rw [hw]; exact (Below.refl _ _).alloc (Nat.le_refl _) _
            have hr23 : v15.heap[v14.heap.size]? = some (.cells #[.slice B m cm, .int .i64 I, .int .i64 H, .int .i64 S, .int .i64 P] 26 (0, 0)) := by rw [hw]; exact heap_alloc_new v14 _
            clear hw
            have z15 := hb.size
            have BX := below_of BX hb BX.size
            have hr15 := rowB hr15 hb
            have hr17 := rowB hr17 hb
            have hs0 := hs0.below hb
            have hst := hst.below hb
            have hs17 := hs17.below hb
            clear hb
            have j23 := rowLt hr23
            obtain ⟨x23, hq23⟩ : ∃ q, v14.heap.size = q := ⟨_, rfl⟩
            rw [hq23] at hr23 j23
            try rw [hq23]
            have HQ23 := Lib.hid hq23
            clear hq23
            clear e0 e1 e2 e3 e4
            have hnow : NowS v15 x23 (⟨cellsL (lf L) m, m, I, H, S, P, 0⟩ : WkS) := ⟨B, cm, u12.heap.size, u13.heap.size, hr23, hle0, hn0, hf0, Or.inl (by have h := HQ23.out; omega), by show m ≤ 1048576; omega, hs0.congr (fun j hj => (cellsL_getD (lf L) m j hj).symm)⟩
            have HNOW := Lib.hid hnow
            have hx23 := HQ23.out
            have hx17 := HQ17.out
            have H17 := Lib.hid hr17
            have HS17 := Lib.hid hs17
            have HST := Lib.hid hst
            have HBX := Lib.hid BX
            clear hnow hr23 hr17 hs17 hst BX hr15 hs0 hle0 hn0 hf0
            go_wp2_with fail
            go_loopw [24, 25] (fun cv kv wr => (∃ k : Nat, k ≤ n1 ∧ kv = .int .i64 k ∧ cv = .int .i64 ((runS (⟨cellsL (lf L) m, m, I, H, S, P, 0⟩ : WkS) (lf Ls) k).cnt : Nat) ∧ NowS wr x23 (runS (⟨cellsL (lf L) m, m, I, H, S, P, 0⟩ : WkS) (lf Ls) k)) ∧ Fr x23 (x23 + 1) v15 wr) (fun _ kv _ => n1 - (intOf kv).toNat)
            case atStart => exact ⟨⟨0, Nat.zero_le _, rfl, rfl, HNOW.out⟩, Fr.refl _ _ _⟩
            case round =>
              obtain ⟨⟨k, hk, rfl, rfl, hbs⟩, hfr⟩ := hrel
              clear HNOW
              have hcnt := runCnt (⟨cellsL (lf L) m, m, I, H, S, P, 0⟩ : WkS) (lf Ls) k
              by_cases hlt : k < n1
              · have hki : (k : Int) < (n1 : Int) := by omega
                have hk0 : (0 : Int) ≤ (k : Int) := by omega
                obtain ⟨b1, o1, eA, hb1l, hb1h, hcc⟩ := (HST.out.fr hfr (Or.inl (by omega))).here (by omega)
                have d0 := hcc (k * 4) (by omega)
                have d1 := hcc (k * 4 + 1) (by omega)
                have d2 := hcc (k * 4 + 2) (by omega)
                have d3 := hcc (k * 4 + 3) (by omega)
                rw [← Nat.add_assoc] at d1 d2 d3
                subst eA
                have hrs : runS (⟨cellsL (lf L) m, m, I, H, S, P, 0⟩ : WkS) (lf Ls) (k + 1) = runStep (runS (⟨cellsL (lf L) m, m, I, H, S, P, 0⟩ : WkS) (lf Ls) k) (lf Ls (k * 4)) (lf Ls (k * 4 + 1)) (lf Ls (k * 4 + 2)) (lf Ls (k * 4 + 3)) := rfl
                have HRS := Lib.hid hrs
                clear hcc hrs
                have hcnt' : (runS (⟨cellsL (lf L) m, m, I, H, S, P, 0⟩ : WkS) (lf Ls) k).cnt ≤ 40 := by have : ((⟨cellsL (lf L) m, m, I, H, S, P, 0⟩ : WkS)).cnt = 0 := rfl; omega
                generalize runS (⟨cellsL (lf L) m, m, I, H, S, P, 0⟩ : WkS) (lf Ls) k = s at *
                generalize lf Ls (k * 4) = q0 at *
                generalize lf Ls (k * 4 + 1) = q1 at *
                generalize lf Ls (k * 4 + 2) = q2 at *
                generalize lf Ls (k * 4 + 3) = q3 at *
                obtain ⟨A', c', lo', hi', hbx, hmc', hn', hf', hd', hm', hsl⟩ := hbs
                have hj23 := rowLt hbx
                have hbl : b1 < wr.heap.size := by have := hfr.size; omega
                have HF : Hid (∀ w', Below wr.heap.size wr w' → w'.cell? ⟨x23, 0, none⟩ = some (.slice A' s.m c') ∧ w'.cell? ⟨x23, 1, none⟩ = some (.int .i64 s.I) ∧ w'.cell? ⟨x23, 2, none⟩ = some (.int .i64 s.H) ∧ w'.cell? ⟨x23, 3, none⟩ = some (.int .i64 s.S) ∧ w'.cell? ⟨x23, 4, none⟩ = some (.int .i64 s.P) ∧ w'.cell? ⟨b1, o1 + k * 4, none⟩ = some (.int .i64 q0) ∧ w'.cell? ⟨b1, o1 + k * 4 + 1, none⟩ = some (.int .i64 q1) ∧ w'.cell? ⟨b1, o1 + k * 4 + 2, none⟩ = some (.int .i64 q2) ∧ w'.cell? ⟨b1, o1 + k * 4 + 3, none⟩ = some (.int .i64 q3)) := fun w' hq => by
                  have h3 := rowB hbx hq
                  exact ⟨by rw [cell_of_row w' x23 0 _ _ (0, 0) h3]; rfl, by rw [cell_of_row w' x23 1 _ _ (0, 0) h3]; rfl, by rw [cell_of_row w' x23 2 _ _ (0, 0) h3]; rfl, by rw [cell_of_row w' x23 3 _ _ (0, 0) h3]; rfl, by rw [cell_of_row w' x23 4 _ _ (0, 0) h3]; rfl, (hq.cell (p := ⟨b1, o1 + k * 4, none⟩) hbl).trans d0, (hq.cell (p := ⟨b1, o1 + k * 4 + 1, none⟩) hbl).trans d1, (hq.cell (p := ⟨b1, o1 + k * 4 + 2, none⟩) hbl).trans d2, (hq.cell (p := ⟨b1, o1 + k * 4 + 3, none⟩) hbl).trans d3⟩
                clear d0 d1 d2 d3
                obtain ⟨okk, hokk⟩ : ∃ b, stOk (lf s.L) s.m s.I s.H s.S s.P q0 q1 q2 q3 = b := ⟨_, rfl⟩
                obtain ⟨L2, m2, I2, H2, S2, P2, hnew⟩ : ∃ (L2 : List Int) (m2 : Nat) (I2 H2 S2 P2 : Int), (okk = true → runStep s q0 q1 q2 q3 = ⟨L2, m2, I2, H2, S2, P2, s.cnt + 1⟩ ∧ m2 ≤ 6) ∧ (okk = false → runStep s q0 q1 q2 q3 = s) ∧ ∀ W lo hi, Sl W lo hi 4 A' s.m (lf s.L) → Calls Try.prog 9 #[.agg #[.slice A' s.m c', .int .i64 s.I, .int .i64 s.H, .int .i64 s.S, .int .i64 s.P], .agg #[.int .i64 q0, .int .i64 q1, .int .i64 q2, .int .i64 q3]] W (panPostL W L2 m2 I2 H2 S2 P2 okk) := by
                  refine ⟨(if okk then stL (lf s.L) s.m q0 q1 q2 q3 else []), (if okk then stN s.m q0 else 0), (if okk then stI s.I q0 q3 else 0), (if okk then stH s.H q0 q3 else 0), (if okk then stS s.S q0 q3 else 0), (if okk then stP (lf s.L) s.m s.P q0 q1 else 0), fun h => ?_, fun h => ?_, fun W lo hi hq => ?_⟩
                  · subst h
                    refine ⟨by simp [runStep, hokk], ?_⟩
                    simp only [if_true]
                    exact good_len (wk_parts hokk).2.2.2.2
                  · subst h
                    simp [runStep, hokk]
                  · have h := StepWorks_any A' s.m c' lo hi (lf s.L) s.I s.H s.S s.P q0 q1 q2 q3 W hq hm' hmc' hn'
                    rw [hokk] at h
                    exact h
                obtain ⟨hyes, hno, hcall⟩ := hnew
                have HY := Lib.hid hyes
                have HN := Lib.hid hno
                have HC := Lib.hid hcall
                clear hyes hno hcall hokk
                go_upto_region 27 with fail
                go_cut [26, 27] from 181 to 199 (fun sa sb wx => ∃ (A2 : Option Addr) (c2 g26 lo2 hi2 : Nat), sa = .pointer (some ⟨g26, 0, none⟩) ∧ sb = .bool okk ∧ wr.heap.size ≤ g26 ∧ wr.heap.size ≤ lo2 ∧ m2 ≤ c2 ∧ (A2 = none → m2 = 0 ∧ c2 = 0) ∧ (∀ ad, A2 = some ad → ∃ b off, ad = ⟨b, off, none⟩) ∧ wx.heap[g26]? = some (.cells #[.slice A2 m2 c2, .int .i64 I2, .int .i64 H2, .int .i64 S2, .int .i64 P2] 26 (0, 0)) ∧ Sl wx lo2 hi2 4 A2 m2 (lf L2) ∧ Below wr.heap.size wr wx)
                case first =>
                  as_aux_lemma =>
                    refine wp_region_held_drew (S := fun w' => Below wr.heap.size wr w') (by kernel_rfl) ((Below.refl _ _).drew) (fun hHeld => ?_)
                    obtain ⟨y0, hv0⟩ : ∃ v, wr.drew = v := ⟨_, rfl⟩
                    rw [hv0] at hHeld ⊢
                    clear hv0
                    refine tk (v := ?_) 0 188 HF rfl ?_ hHeld ?_
                    rotate_left; · (intro _ _ _; go_simp; try with_reducible rfl)
                    simp only [Act.put, p1, p2, p3]
                    refine tk (v := ?_) 1 189 HF rfl ?_ hHeld ?_
                    rotate_left; · (intro _ _ _; go_simp; try with_reducible rfl)
                    simp only [Act.put, p1, p2, p3]
                    refine tk (v := ?_) 2 190 HF rfl ?_ hHeld ?_
                    rotate_left; · (intro _ _ _; go_simp; try with_reducible rfl)
                    simp only [Act.put, p1, p2, p3]
                    refine tk (v := ?_) 3 191 HF rfl ?_ hHeld ?_
                    rotate_left; · (intro _ _ _; go_simp; try with_reducible rfl)
                    simp only [Act.put, p1, p2, p3]
                    refine tk (v := ?_) 4 192 HF rfl ?_ hHeld ?_
                    rotate_left; · (intro _ _ _; go_simp; try with_reducible rfl)
                    simp only [Act.put, p1, p2, p3]
                    refine wpAnyH_ready (rs := [5, 9]) (by kernel_rfl) (by simp) ?_
                    refine (AllReadyH.cons rfl (fun K hK => ?_) (AllReadyH.cons rfl (fun K hK => ?_) AllReadyH.nil))
                    · go_simp
                      refine (HC.out y0 _ _ (hsl.below hHeld)).mono ?_
                      rintro e y1 ⟨A2, c2, rfl, hc2, hcm2, hown, hb⟩
                      have hS2 := below_of hHeld hb hHeld.size
                      have hzy := hHeld.size
                      have hrow := own_sl hown
                      have hn2 := fun e => own_nilK hown e
                      have hf2 := fun ad e => own_formK (ad := ad) hown e
                      have hOw := hown
                      clear hHeld hown hb
                      refine hK.out _ _ hS2 (fun hHeld => ?_)
                      clear hK K hS2
                      refine tk (v := ?_) 6 187 HF rfl ?_ hHeld ?_
                      rotate_left; · (intro _ _ _; go_simp; try with_reducible rfl)
                      simp only [Act.put, p1, p2, p3]
                      refine tk (v := ?_) 7 194 HF rfl ?_ hHeld ?_
                      rotate_left; · (intro _ _ _; go_simp; try with_reducible rfl)
                      simp only [Act.put, p1, p2, p3]
                      refine tk (v := ?_) 8 195 HF rfl ?_ hHeld ?_
                      rotate_left; · (intro _ _ _; go_simp; try with_reducible rfl)
                      simp only [Act.put, p1, p2, p3]
                      refine wpAnyH_ready (rs := [9]) (by kernel_rfl) (by simp) ?_
                      refine (AllReadyH.cons rfl (fun K hK => ?_) AllReadyH.nil)
                      go_simp
                      have hg := heap_alloc_new y1 (.cells #[.slice none 0 0, .int .i64 0, .int .i64 0, .int .i64 0, .int .i64 0] 26)
                      have hnb := (Below.refl _ y1).alloc (Nat.le_refl _) (.cells #[.slice none 0 0, .int .i64 0, .int .i64 0, .int .i64 0, .int .i64 0] 26)
                      have hS2 := below_of hHeld hnb hHeld.size
                      have hgle := hHeld.size
                      have hrow := hrow.below hnb
                      have hOw := ownsRow_below hOw hnb
                      obtain ⟨g26, hge⟩ : ∃ q, y1.heap.size = q := ⟨_, rfl⟩
                      rw [hge] at hg hgle
                      try rw [hge]
                      obtain ⟨y2, hve⟩ : ∃ v, y1.alloc (.cells #[.slice none 0 0, .int .i64 0, .int .i64 0, .int .i64 0, .int .i64 0] 26) = v := ⟨_, rfl⟩
                      rw [hve] at hg hS2 hrow hOw
                      rw [hve]
                      clear hHeld hnb hge hve
                      refine hK.out _ _ hS2 (fun hHeld => ?_)
                      clear hK K hS2
                      refine wpAnyH_store (fuel := 1) (i := 10) rfl (by kernel_rfl) g26 0 (.agg #[.slice A2 m2 c2, .int .i64 I2, .int .i64 H2, .int .i64 S2, .int .i64 P2]) 26 #[.slice none 0 0, .int .i64 0, .int .i64 0, .int .i64 0, .int .i64 0] rfl rfl infoWorks hg (Nat.le_refl 5) (by simp [Value.cells, Value.oneCell']) (fun w' hg' => hHeld.grown hg' hHeld.size (fun k hk => by cases hk; exact hgle)) ?ks1
                      case ks1 =>
                        intro y9 hh hgw hS3
                        clear hHeld
                        have hHeld := hS3
                        have hOw := own_other hOw hg (by decide) hgw
                        refine tk (v := ?_) 11 27 HF rfl ?_ hHeld ?_
                        rotate_left; · (intro _ _ _; go_simp; try with_reducible rfl)
                        simp only [Act.put, p1, p2, p3]
                        refine wpAnyH_done (by kernel_rfl) ?_ _
                        go_wp2_with fail
                        go_meet
                        case rel => exact ⟨A2, c2, g26, _, _, rfl, rfl, hgle, hzy, hc2, hn2, hf2, hh, own_sl hOw, hHeld⟩
                    · go_simp
                      have hg := heap_alloc_new y0 (.cells #[.slice none 0 0, .int .i64 0, .int .i64 0, .int .i64 0, .int .i64 0] 26)
                      have hnb := (Below.refl _ y0).alloc (Nat.le_refl _) (.cells #[.slice none 0 0, .int .i64 0, .int .i64 0, .int .i64 0, .int .i64 0] 26)
                      have hS2 := below_of hHeld hnb hHeld.size
                      have hgle := hHeld.size
                      obtain ⟨g26, hge⟩ : ∃ q, y0.heap.size = q := ⟨_, rfl⟩
                      rw [hge] at hg hgle
                      try rw [hge]
                      obtain ⟨y1, hve⟩ : ∃ v, y0.alloc (.cells #[.slice none 0 0, .int .i64 0, .int .i64 0, .int .i64 0, .int .i64 0] 26) = v := ⟨_, rfl⟩
                      rw [hve] at hg hS2
                      rw [hve]
                      clear hHeld hnb hge hve
                      refine hK.out _ _ hS2 (fun hHeld => ?_)
                      clear hK K hS2
                      refine wpAnyH_ready (rs := [5]) (by kernel_rfl) (by simp) ?_
                      refine (AllReadyH.cons rfl (fun K hK => ?_) AllReadyH.nil)
                      go_simp
                      refine (HC.out y1 _ _ (hsl.below hHeld)).mono ?_
                      rintro e y2 ⟨A2, c2, rfl, hc2, hcm2, hown, hb⟩
                      have hg := rowB hg hb
                      have hS2 := below_of hHeld hb hHeld.size
                      have hzy := hHeld.size
                      have hrow := own_sl hown
                      have hn2 := fun e => own_nilK hown e
                      have hf2 := fun ad e => own_formK (ad := ad) hown e
                      have hOw := hown
                      clear hHeld hown hb
                      refine hK.out _ _ hS2 (fun hHeld => ?_)
                      clear hK K hS2
                      refine tk (v := ?_) 6 187 HF rfl ?_ hHeld ?_
                      rotate_left; · (intro _ _ _; go_simp; try with_reducible rfl)
                      simp only [Act.put, p1, p2, p3]
                      refine tk (v := ?_) 7 194 HF rfl ?_ hHeld ?_
                      rotate_left; · (intro _ _ _; go_simp; try with_reducible rfl)
                      simp only [Act.put, p1, p2, p3]
                      refine tk (v := ?_) 8 195 HF rfl ?_ hHeld ?_
                      rotate_left; · (intro _ _ _; go_simp; try with_reducible rfl)
                      simp only [Act.put, p1, p2, p3]
                      refine wpAnyH_store (fuel := 1) (i := 10) rfl (by kernel_rfl) g26 0 (.agg #[.slice A2 m2 c2, .int .i64 I2, .int .i64 H2, .int .i64 S2, .int .i64 P2]) 26 #[.slice none 0 0, .int .i64 0, .int .i64 0, .int .i64 0, .int .i64 0] rfl rfl infoWorks hg (Nat.le_refl 5) (by simp [Value.cells, Value.oneCell']) (fun w' hg' => hHeld.grown hg' hHeld.size (fun k hk => by cases hk; exact hgle)) ?ks2
                      case ks2 =>
                        intro y9 hh hgw hS3
                        clear hHeld
                        have hHeld := hS3
                        have hOw := own_other hOw hg (by decide) hgw
                        refine tk (v := ?_) 11 27 HF rfl ?_ hHeld ?_
                        rotate_left; · (intro _ _ _; go_simp; try with_reducible rfl)
                        simp only [Act.put, p1, p2, p3]
                        refine wpAnyH_done (by kernel_rfl) ?_ _
                        go_wp2_with fail
                        go_meet
                        case rel => exact ⟨A2, c2, g26, _, _, rfl, rfl, hgle, hzy, hc2, hn2, hf2, hh, own_sl hOw, hHeld⟩
                case rest =>
                  obtain ⟨A2, c2, g26, lo2, hi2, rfl, rfl, hg26, hlo2, hc2, hn2, hf2, hr26, hs2, hb⟩ := hcut
                  obtain ⟨wy, hwe⟩ : ∃ v, wc = v := ⟨_, rfl⟩
                  rw [hwe] at hr26 hs2 hb
                  try rw [hwe]
                  clear hwe wc HF HC
                  have hbx := rowB hbx hb
                  have hzy := hb.size
                  have hfb : Fr x23 (x23 + 1) v15 wy := hfr.trans (Fr.of_below _ _ hb)
                  have hsl := hsl.below hb
                  clear hb hfr
                  have hkw : IntKind.i64.wrap ((k : Int) + 1) = ((k + 1 : Nat) : Int) := by rw [IntWalk.i64_in _ (by omega)]; omega
                  cases okk with
                  | false =>
                    as_aux_lemma =>
                      have hst2 := HN.out rfl
                      have HN2 := Lib.hid (HRS.out.trans hst2)
                      have HB := Lib.hid hbx
                      have HSL := Lib.hid hsl
                      have HFB := Lib.hid hfb
                      clear hst2 HN HY HRS hbx hsl hfb hr26 hs2
                      go_wp2
                      go_roundw
                      case rel => exact ⟨⟨k + 1, by omega, by go_num, by rw [HN2.out], by rw [HN2.out]; exact ⟨A', c', lo', hi', HB.out, hmc', hn', hf', hd', hm', HSL.out⟩⟩, HFB.out⟩
                      case measure => simp [intOf]; omega
                  | true =>
                    as_aux_lemma =>
                      obtain ⟨hst2, hm6⟩ := HY.out rfl
                      have HN2 := Lib.hid (HRS.out.trans hst2)
                      clear hst2 HN HY HRS
                      have hne : g26 ≠ x23 := by omega
                      have hne2 : x23 ≠ g26 := by omega
                      obtain ⟨y0, y1, y2, y3, y4⟩ := cells5 hr26
                      obtain ⟨e0, e1, e2, e3, e4⟩ := cells5 hbx
                      have ef : ∀ j, wy.frozen? ⟨x23, j, none⟩ = false := fun j => frozen_of_row wy x23 j _ _ hbx
                      have hFS : Fr x23 (x23 + 1) wy (((((wy.setCell ⟨x23, 0, none⟩ (.slice A2 m2 c2)).setCell ⟨x23, 1, none⟩ (.int .i64 I2)).setCell ⟨x23, 2, none⟩ (.int .i64 H2)).setCell ⟨x23, 3, none⟩ (.int .i64 S2)).setCell ⟨x23, 4, none⟩ (.int .i64 P2)) := (frS (frS (frS (frS (frS (Fr.refl _ _ _) 0 _) 1 _) 2 _) 3 _) 4 _)
                      have h23 : ((((((wy.setCell ⟨x23, 0, none⟩ (.slice A2 m2 c2)).setCell ⟨x23, 1, none⟩ (.int .i64 I2)).setCell ⟨x23, 2, none⟩ (.int .i64 H2)).setCell ⟨x23, 3, none⟩ (.int .i64 S2)).setCell ⟨x23, 4, none⟩ (.int .i64 P2))).heap[x23]? = some (.cells #[.slice A2 m2 c2, .int .i64 I2, .int .i64 H2, .int .i64 S2, .int .i64 P2] 26 (0, 0)) := (heap_setCell_same _ (x23) 4 #[.slice A2 m2 c2, .int .i64 I2, .int .i64 H2, .int .i64 S2, .int .i64 s.P] 26 (.int .i64 P2) (heap_setCell_same _ (x23) 3 #[.slice A2 m2 c2, .int .i64 I2, .int .i64 H2, .int .i64 s.S, .int .i64 s.P] 26 (.int .i64 S2) (heap_setCell_same _ (x23) 2 #[.slice A2 m2 c2, .int .i64 I2, .int .i64 s.H, .int .i64 s.S, .int .i64 s.P] 26 (.int .i64 H2) (heap_setCell_same _ (x23) 1 #[.slice A2 m2 c2, .int .i64 s.I, .int .i64 s.H, .int .i64 s.S, .int .i64 s.P] 26 (.int .i64 I2) (heap_setCell_same _ (x23) 0 #[.slice A' s.m c', .int .i64 s.I, .int .i64 s.H, .int .i64 s.S, .int .i64 s.P] 26 (.slice A2 m2 c2) hbx)))))
                      have hs2' := hs2.fr hFS (Or.inr (by omega))
                      have hfz := hfb.trans hFS
                      have HNW : Hid (NowS _ x23 ⟨L2, m2, I2, H2, S2, P2, s.cnt + 1⟩) := ⟨A2, c2, lo2, hi2, h23, hc2, hn2, hf2, Or.inr (by omega), by show m2 ≤ 1048576; omega, hs2'⟩
                      have HFZ := Lib.hid hfz
                      have hcw : IntKind.i64.wrap ((s.cnt : Int) + 1) = ((s.cnt + 1 : Nat) : Int) := by rw [IntWalk.i64_in _ (by omega)]; omega
                      clear hFS h23 hs2' hfz hbx hsl hfb hr26 hs2
                      go_wp2
                      go_roundw
                      case rel => exact ⟨⟨k + 1, by omega, by go_num, by rw [HN2.out]; go_num, by rw [HN2.out]; exact HNW.out⟩, HFZ.out⟩
                      case measure => simp [intOf]; omega
              · obtain rfl : k = n1 := by omega
                have hki : ¬ ((k : Int) < (k : Int)) := by omega
                obtain ⟨A', c', lo', hi', hbx, hmc', hn', hf', hd', hm', hsl⟩ := hbs
                have hr17 := rowF H17.out hfr (by omega)
                have hs17 := HS17.out.fr hfr (Or.inl (by omega))
                have BX := HBX.out.trans (hfr.below (by have := HBX.out.size; omega) HBX.out.size)
                clear hfr
                rw [← HEND.out] at hbx hmc' hn' hm' hsl
                have hce : ((runS (⟨cellsL (lf L) m, m, I, H, S, P, 0⟩ : WkS) (lf Ls) k).cnt : Int) = (ct : Int) := by rw [← HEND.out]
                simp only at hbx hmc' hn' hm' hsl
                clear HEND H17 HS17 HST hcnt
                generalize (runS (⟨cellsL (lf L) m, m, I, H, S, P, 0⟩ : WkS) (lf Ls) k).cnt = cc at hce ⊢
                obtain rfl : cc = ct := by omega
                clear hce
                obtain ⟨e0, e1, e2, e3, e4⟩ := cells5 hbx
                obtain ⟨d0, d1, d2, d3, d4⟩ := cells5 hr17
                go_wp2_with fail
                refine (vWorks_same A' A17 m1 c' c17 _ _ _ _ (lf L1) I1 H1 S1 P1 wr hsl hs17 hm1).mono ?_
                rintro e yy ⟨rfl, hb⟩
                have BX := below_of BX hb BX.size
                clear hb hbx hsl hr17 hs17
                clear e0 e1 e2 e3 e4
                clear d0 d1 d2 d3 d4
                go_wp2_with fail
                refine (DrawSaltInPans_any A0 n0 c0 yy (HK.out _ BX) (by omega)).mono ?_
                rintro e y0 ⟨By, my, cy, Ly, Iy, Hy, Sy, Py, rfl, hmy, hdy, hb⟩
                have BX := below_of BX hb BX.size
                clear hb
                have hsy := hdy.own.sl
                have hly := hdy.le
                clear hdy
                go_upto_region 34 with fail
                refine name_wp ?_
                intro v16 hw
                have hb : Below y0.heap.size y0 v16 := by rw [hw]; exact (Below.refl _ _).alloc (Nat.le_refl _) _
                have hr28 : v16.heap[y0.heap.size]? = some (.cells #[.slice By my cy, .int .i64 Iy, .int .i64 Hy, .int .i64 Sy, .int .i64 Py] 26 (0, 0)) := by rw [hw]; exact heap_alloc_new y0 _
                clear hw
                have z16 := hb.size
                have BX := below_of BX hb BX.size
                have hsy := hsy.below hb
                clear hb
                have j28 := rowLt hr28
                obtain ⟨x28, hq28⟩ : ∃ q, y0.heap.size = q := ⟨_, rfl⟩
                rw [hq28] at hr28 j28
                try rw [hq28]
                have HQ28 := Lib.hid hq28
                clear hq28
                obtain ⟨e0, e1, e2, e3, e4⟩ := cells5 hr28
                go_wp2_with fail
                refine (SaltInPans_any By my cy _ _ (lf Ly) Iy Hy Sy Py v16 hsy (by omega) hly).mono ?_
                rintro e v17 ⟨rfl, hb⟩
                have z17 := hb.size
                have BX := below_of BX hb BX.size
                have hr28 := rowB hr28 hb
                have hsy := hsy.below hb
                clear hb
                clear e0 e1 e2 e3 e4
                obtain ⟨e0, e1, e2, e3, e4⟩ := cells5 hr28
                go_wp2_with fail
                refine (specSaltInPans_any By my cy _ _ (lf Ly) Iy Hy Sy Py v17 hsy (by omega) hly).mono ?_
                rintro e v18 ⟨rfl, hb⟩
                have z18 := hb.size
                have BX := below_of BX hb BX.size
                have hr28 := rowB hr28 hb
                have hsy := hsy.below hb
                clear hb
                clear e0 e1 e2 e3 e4
                generalize satV (lf Ly) my (goodWorks (lf Ly) my Iy Hy Sy Py) = sv
                generalize goodWorks (lf Ly) my Iy Hy Sy Py = gv
                have HBX := Lib.hid BX
                clear BX hr28 hsy
                cases gv with
                | false =>
                  go_wp2
                  go_ret
                  exact ⟨rfl, HBX.out⟩
                | true =>
                  go_wp2
                  go_ret
                  exact ⟨rfl, HBX.out⟩
end Go.Proofs.Ytjhgpebppcbleaa
