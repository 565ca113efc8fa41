/-
  RunWorks, the reference's.
-/
import Derived.Test.YtjhgpebppcbleaaPk1
import Derived.Test.YtjhgpebppcbleaaRunW
namespace Go.Proofs.Ytjhgpebppcbleaa
open Go.RowKit
set_option linter.unusedVariables false
set_option linter.unusedSimpArgs false
set_option maxRecDepth 100000 in
set_option maxHeartbeats 4000000 in
theorem sRunWorks_any (A : Option Addr) (n c lo hi : Nat) (f : Nat → Int) (I H S P : Int) (A1 : Option Addr) (n1 c1 lo1 hi1 : Nat) (g : Nat → Int) (w : World) (hs : Sl w lo hi 4 A n f) (hn : n ≤ 1048576) (hnc : n ≤ c) (hnone : A = none → n = 0 ∧ c = 0) (hform : ∀ ad, A = some ad → ∃ b off, ad = ⟨b, off, none⟩) (hs1 : Sl w lo1 hi1 4 A1 n1 g) (hnc1 : n1 ≤ c1) (hn1 : n1 ≤ 1048576) :
    Calls Try.prog 20 #[.agg #[.slice A n c, .int .i64 I, .int .i64 H, .int .i64 S, .int .i64 P], .slice A1 n1 c1] w (runPost w (runL f n I H S P g n1)) := by
  have hX : Below w.heap.size w ((w.alloc (.cells #[.slice A n c, .int .i64 I, .int .i64 H, .int .i64 S, .int .i64 P] 26)).alloc (.cells #[.slice none 0 0, .int .i64 0, .int .i64 0, .int .i64 0, .int .i64 0] 26)) := ((Below.refl _ w).alloc (Nat.le_refl _) _).alloc (by simp) _
  have h0 : ((w.alloc (.cells #[.slice A n c, .int .i64 I, .int .i64 H, .int .i64 S, .int .i64 P] 26)).alloc (.cells #[.slice none 0 0, .int .i64 0, .int .i64 0, .int .i64 0, .int .i64 0] 26)).heap[w.heap.size]? = some (.cells #[.slice A n c, .int .i64 I, .int .i64 H, .int .i64 S, .int .i64 P] 26 (0, 0)) := by
    rw [heap_alloc_old _ _ (by simp)]
    exact heap_alloc_new w _
  have hR : ((w.alloc (.cells #[.slice A n c, .int .i64 I, .int .i64 H, .int .i64 S, .int .i64 P] 26)).alloc (.cells #[.slice none 0 0, .int .i64 0, .int .i64 0, .int .i64 0, .int .i64 0] 26)).heap[w.heap.size + 1]? = some (.cells #[.slice none 0 0, .int .i64 0, .int .i64 0, .int .i64 0, .int .i64 0] 26 (0, 0)) := by
    have h := heap_alloc_new (w.alloc (.cells #[.slice A n c, .int .i64 I, .int .i64 H, .int .i64 S, .int .i64 P] 26)) (.cells #[.slice none 0 0, .int .i64 0, .int .i64 0, .int .i64 0, .int .i64 0] 26)
    simpa using h
  have hSX := hs.below hX
  have hS1 := hs1.below hX
  have hi1w : hi1 ≤ w.heap.size := hs1.hi_le
  clear hs hs1
  cases hg : goodWorks f n I H S P with
  | false =>
    have HK := Lib.hid (show (goodWorks f n I H S P && decide (n1 ≤ 40)) = false by rw [hg]; rfl)
    go_enter Try.func20, Try.ntmps20
    go_upto_region 1 with fail
    refine name_wp ?_
    intro w1 hw1
    rw [← hw1] at hX h0 hR hSX hS1
    have hzX : w1.heap.size = w.heap.size + 2 := by rw [hw1]; simp
    clear hw1
    obtain ⟨e0, e1, e2, e3, e4⟩ := cells5 h0
    go_wp2_with fail
    refine (l25Good_any A n c lo hi f I H S P w1 hSX hn hnc).mono ?_
    rw [hg]
    rintro e w2 ⟨rfl, hb⟩
    have h0 := rowB h0 hb
    have hR := rowB hR hb
    have hX := below_of hX hb hX.size
    have hSX := hSX.below hb
    have hS1 := hS1.below hb
    have hz2 : w.heap.size + 2 ≤ w2.heap.size := by have := hb.size; omega
    clear hb e0 e1 e2 e3 e4 hzX
    obtain ⟨r0, r1, r2, r3, r4⟩ := cells5 hR
    have rf : ∀ j, w2.frozen? ⟨w.heap.size + 1, j, none⟩ = false := fun j => frozen_of_row w2 (w.heap.size + 1) j _ _ hR
    have HBW := Lib.hid hX
    clear hR
    go_wp2
    obtain ⟨wq, hwq⟩ : ∃ wq, wq = (((((w2.setCell ⟨w.heap.size + 1, 0, none⟩ (.slice none 0 0)).setCell ⟨w.heap.size + 1, 1, none⟩ (.int .i64 0)).setCell ⟨w.heap.size + 1, 2, none⟩ (.int .i64 0)).setCell ⟨w.heap.size + 1, 3, none⟩ (.int .i64 0)).setCell ⟨w.heap.size + 1, 4, none⟩ (.int .i64 0)) := ⟨_, rfl⟩
    rw [← hwq]
    have u0 : wq.cell? ⟨w.heap.size + 1, 0, none⟩ = some (.slice none 0 0) := by rw [hwq]; go_simp
    have u1 : wq.cell? ⟨w.heap.size + 1, 1, none⟩ = some (.int .i64 0) := by rw [hwq]; go_simp
    have u2 : wq.cell? ⟨w.heap.size + 1, 2, none⟩ = some (.int .i64 0) := by rw [hwq]; go_simp
    have u3 : wq.cell? ⟨w.heap.size + 1, 3, none⟩ = some (.int .i64 0) := by rw [hwq]; go_simp
    have u4 : wq.cell? ⟨w.heap.size + 1, 4, none⟩ = some (.int .i64 0) := by rw [hwq]; go_simp
    have hBq : Below w.heap.size w wq := by
      rw [hwq]
      exact (((((HBW.out.setCell (show w.heap.size ≤ w.heap.size + 1 by omega) _).setCell (show w.heap.size ≤ w.heap.size + 1 by omega) _).setCell (show w.heap.size ≤ w.heap.size + 1 by omega) _).setCell (show w.heap.size ≤ w.heap.size + 1 by omega) _).setCell (show w.heap.size ≤ w.heap.size + 1 by omega) _)
    clear hwq
    try simp only [Exit.inBlock, Exit.then]
    refine bodyPost_ret (by simp [results, Try.results20, go_sem, u0, u1, u2, u3, u4]; try rfl) rfl ?_
    rw [runL_no HK.out]
    exact runPost_no hBq
  | true =>
  by_cases h40 : n1 ≤ 40
  rotate_left
  · have h40i : (40 : Int) < (n1 : Int) := by omega
    have HK := Lib.hid (show (goodWorks f n I H S P && decide (n1 ≤ 40)) = false by simp [h40])
    go_enter Try.func20, Try.ntmps20
    go_upto_region 1 with fail
    refine name_wp ?_
    intro w1 hw1
    rw [← hw1] at hX h0 hR hSX hS1
    have hzX : w1.heap.size = w.heap.size + 2 := by rw [hw1]; simp
    clear hw1
    obtain ⟨e0, e1, e2, e3, e4⟩ := cells5 h0
    go_wp2_with fail
    refine (l25Good_any A n c lo hi f I H S P w1 hSX hn hnc).mono ?_
    rw [hg]
    rintro e w2 ⟨rfl, hb⟩
    have h0 := rowB h0 hb
    have hR := rowB hR hb
    have hX := below_of hX hb hX.size
    have hSX := hSX.below hb
    have hS1 := hS1.below hb
    have hz2 : w.heap.size + 2 ≤ w2.heap.size := by have := hb.size; omega
    clear hb e0 e1 e2 e3 e4 hzX
    obtain ⟨r0, r1, r2, r3, r4⟩ := cells5 hR
    have rf : ∀ j, w2.frozen? ⟨w.heap.size + 1, j, none⟩ = false := fun j => frozen_of_row w2 (w.heap.size + 1) j _ _ hR
    have HBW := Lib.hid hX
    clear hR
    go_wp2
    obtain ⟨wq, hwq⟩ : ∃ wq, wq = (((((w2.setCell ⟨w.heap.size + 1, 0, none⟩ (.slice none 0 0)).setCell ⟨w.heap.size + 1, 1, none⟩ (.int .i64 0)).setCell ⟨w.heap.size + 1, 2, none⟩ (.int .i64 0)).setCell ⟨w.heap.size + 1, 3, none⟩ (.int .i64 0)).setCell ⟨w.heap.size + 1, 4, none⟩ (.int .i64 0)) := ⟨_, rfl⟩
    rw [← hwq]
    have u0 : wq.cell? ⟨w.heap.size + 1, 0, none⟩ = some (.slice none 0 0) := by rw [hwq]; go_simp
    have u1 : wq.cell? ⟨w.heap.size + 1, 1, none⟩ = some (.int .i64 0) := by rw [hwq]; go_simp
    have u2 : wq.cell? ⟨w.heap.size + 1, 2, none⟩ = some (.int .i64 0) := by rw [hwq]; go_simp
    have u3 : wq.cell? ⟨w.heap.size + 1, 3, none⟩ = some (.int .i64 0) := by rw [hwq]; go_simp
    have u4 : wq.cell? ⟨w.heap.size + 1, 4, none⟩ = some (.int .i64 0) := by rw [hwq]; go_simp
    have hBq : Below w.heap.size w wq := by
      rw [hwq]
      exact (((((HBW.out.setCell (show w.heap.size ≤ w.heap.size + 1 by omega) _).setCell (show w.heap.size ≤ w.heap.size + 1 by omega) _).setCell (show w.heap.size ≤ w.heap.size + 1 by omega) _).setCell (show w.heap.size ≤ w.heap.size + 1 by omega) _).setCell (show w.heap.size ≤ w.heap.size + 1 by omega) _)
    clear hwq
    try simp only [Exit.inBlock, Exit.then]
    refine bodyPost_ret (by simp [results, Try.results20, go_sem, u0, u1, u2, u3, u4]; try rfl) rfl ?_
    rw [runL_no HK.out]
    exact runPost_no hBq
  have h40i : ¬ ((40 : Int) < (n1 : Int)) := by omega
  have HK := Lib.hid (show (goodWorks f n I H S P && decide (n1 ≤ 40)) = true by simp [hg, h40])
  have hn6 := good_len hg
  go_enter Try.func20, Try.ntmps20
  go_upto_region 1 with fail
  refine name_wp ?_
  intro w1 hw1
  rw [← hw1] at hX h0 hR hSX hS1
  have hzX : w1.heap.size = w.heap.size + 2 := by rw [hw1]; simp
  clear hw1
  obtain ⟨e0, e1, e2, e3, e4⟩ := cells5 h0
  go_wp2_with fail
  refine (l25Good_any A n c lo hi f I H S P w1 hSX hn hnc).mono ?_
  rw [hg]
  rintro e w2 ⟨rfl, hb⟩
  have h0 := rowB h0 hb
  have hR := rowB hR hb
  have hX := below_of hX hb hX.size
  have hSX := hSX.below hb
  have hS1 := hS1.below hb
  have hz2 : w.heap.size + 2 ≤ w2.heap.size := by have := hb.size; omega
  clear hb e0 e1 e2 e3 e4 hzX
  obtain ⟨e0, e1, e2, e3, e4⟩ := cells5 h0
  go_wp2_with fail
  refine (l25Own_any A n c lo hi f I H S P w2 hSX hn hnc hnone).mono ?_
  rintro e w3 ⟨A', c', rfl, hmc, hcm, hown, hb⟩
  have hR := rowB hR hb
  have hX := below_of hX hb hX.size
  have hS1 := hS1.below hb
  have hown := ownsRow_monoP hown hz2
  have hz3 : w.heap.size + 2 ≤ w3.heap.size := Nat.le_trans hz2 hb.size
  clear hb e0 e1 e2 e3 e4 hSX h0
  go_upto_region 4 with fail
  refine name_wp ?_
  intro w4 hw4
  have hb34 : Below w3.heap.size w3 w4 := by rw [hw4]; exact (Below.refl _ _).alloc (Nat.le_refl _) _
  have h04 : w4.heap[w3.heap.size]? = some (.cells #[.slice A' n c', .int .i64 I, .int .i64 H, .int .i64 S, .int .i64 P] 26 (0, 0)) := by rw [hw4]; exact heap_alloc_new w3 _
  have hR4 := rowB hR hb34
  have hown4 := ownsRow_below hown hb34
  have hB4 : Below w.heap.size w w4 := below_of hX hb34 hX.size
  have hS4 := hS1.below hb34
  clear hw4 hb34 hR hown hX hS1 hz2
  generalize w3.heap.size = q7 at *
  have hi1q : hi1 ≤ q7 := by omega
  have hbs : BoxS w4 (w.heap.size + 2) q7 (⟨cellsL f n, n, I, H, S, P, 0⟩ : WkS) := ⟨A', c', h04, hmc, hcm, hown4⟩
  have HG := Lib.hid (runGood (s0 := (⟨cellsL f n, n, I, H, S, P, 0⟩ : WkS)) (g := g) (by rw [← hg]; exact goodWorks_congr (fun j hj => cellsL_getD f n j hj)))
  have HS4 := Lib.hid hS4
  have HB4 := Lib.hid hB4
  have HR4 := Lib.hid hR4
  have HBS := Lib.hid hbs
  clear h04 hR4 hown4 hB4 hS4 hmc hcm hg hbs
  go_wp2_with fail
  go_loopw [8, 9] (fun cv kv wr => (∃ k : Nat, k ≤ n1 ∧ kv = .int .i64 k ∧ cv = .int .i64 ((runS (⟨cellsL f n, n, I, H, S, P, 0⟩ : WkS) g k).cnt : Nat) ∧ BoxS wr (w.heap.size + 2) q7 (runS (⟨cellsL f n, n, I, H, S, P, 0⟩ : WkS) g k)) ∧ Fr q7 (q7 + 1) w4 wr) (fun _ kv _ => n1 - (intOf kv).toNat)
  case atStart => exact ⟨⟨0, Nat.zero_le _, rfl, rfl, HBS.out⟩, Fr.refl _ _ _⟩
  case round =>
    obtain ⟨⟨k, hk, rfl, rfl, hbs⟩, hfr⟩ := hrel
    have hRr := rowF HR4.out hfr (Or.inl (by omega))
    have hBr := HB4.out.trans (hfr.below (by omega) HB4.out.size)
    have hcnt := runCnt (⟨cellsL f n, n, I, H, S, P, 0⟩ : WkS) g k
    by_cases hlt : k < n1
    · have hki : (k : Int) < (n1 : Int) := by omega
      have hk0 : (0 : Int) ≤ (k : Int) := by omega
      have hSr := HS4.out.fr hfr (Or.inl hi1q)
      obtain ⟨b1, o1, eA, _, hb1, hc⟩ := hSr.here (by omega)
      have hb1 := Nat.lt_of_lt_of_le hb1 hSr.hi_le
      have hgs := HG.out k
      have hrs : runS (⟨cellsL f n, n, I, H, S, P, 0⟩ : WkS) g (k + 1) = runStep (runS (⟨cellsL f n, n, I, H, S, P, 0⟩ : WkS) g k) (g (k * 4)) (g (k * 4 + 1)) (g (k * 4 + 2)) (g (k * 4 + 3)) := rfl
      have HRS := Lib.hid hrs
      obtain ⟨A', c', hbx, hmc, hcm, hown⟩ := hbs
      have hcnt' : (runS (⟨cellsL f n, n, I, H, S, P, 0⟩ : WkS) g k).cnt ≤ 40 := by have : ((⟨cellsL f n, n, I, H, S, P, 0⟩ : WkS)).cnt = 0 := rfl; omega
      clear hrs hSr
      generalize runS (⟨cellsL f n, n, I, H, S, P, 0⟩ : WkS) g k = s at *
      have hm6 := good_len hgs
      subst eA
      have hci : ((s.cnt : Nat) : Int) ≤ 40 := by omega
      have hcw : IntKind.i64.wrap ((s.cnt : Int) + 1) = ((s.cnt + 1 : Nat) : Int) := by rw [IntWalk.i64_in _ (by omega)]; omega
      have lw : q7 < wr.heap.size := rowLt hbx
      have hzr : w.heap.size + 2 ≤ wr.heap.size := by omega
      have HF : Hid (∀ w', Below wr.heap.size wr w' → w'.cell? ⟨q7, 0, none⟩ = some (.slice A' s.m c') ∧ w'.cell? ⟨q7, 1, none⟩ = some (.int .i64 s.I) ∧ w'.cell? ⟨q7, 2, none⟩ = some (.int .i64 s.H) ∧ w'.cell? ⟨q7, 3, none⟩ = some (.int .i64 s.S) ∧ w'.cell? ⟨q7, 4, none⟩ = some (.int .i64 s.P) ∧ w'.cell? ⟨b1, o1 + k * 4, none⟩ = some (.int .i64 (g (k * 4))) ∧ w'.cell? ⟨b1, o1 + k * 4 + 1, none⟩ = some (.int .i64 (g (k * 4 + 1))) ∧ w'.cell? ⟨b1, o1 + k * 4 + 2, none⟩ = some (.int .i64 (g (k * 4 + 2))) ∧ w'.cell? ⟨b1, o1 + k * 4 + 3, none⟩ = some (.int .i64 (g (k * 4 + 3)))) := fun w' hq => by
        have hx := rowB hbx hq
        exact ⟨by rw [cell_of_row w' q7 0 _ _ (0, 0) hx]; rfl, by rw [cell_of_row w' q7 1 _ _ (0, 0) hx]; rfl, by rw [cell_of_row w' q7 2 _ _ (0, 0) hx]; rfl, by rw [cell_of_row w' q7 3 _ _ (0, 0) hx]; rfl, by rw [cell_of_row w' q7 4 _ _ (0, 0) hx]; rfl, (hq.cell (p := ⟨b1, o1 + k * 4, none⟩) hb1).trans (hc (k * 4) (by omega)), by have h := (hq.cell (p := ⟨b1, o1 + (k * 4 + 1), none⟩) hb1).trans (hc (k * 4 + 1) (by omega)); rw [← Nat.add_assoc] at h; exact h, by have h := (hq.cell (p := ⟨b1, o1 + (k * 4 + 2), none⟩) hb1).trans (hc (k * 4 + 2) (by omega)); rw [← Nat.add_assoc] at h; exact h, by have h := (hq.cell (p := ⟨b1, o1 + (k * 4 + 3), none⟩) hb1).trans (hc (k * 4 + 3) (by omega)); rw [← Nat.add_assoc] at h; exact h⟩
      have HSl : Hid (∀ w', Below wr.heap.size wr w' → Sl w' (w.heap.size + 2) wr.heap.size 4 A' s.m (lf s.L)) := fun w' hq => by
        obtain ⟨A0, c0, e0', _, _, h0'⟩ := own_of_row hown
        cases e0'
        exact h0'.sl.below hq
      have hno5 : A' = none → s.m = 0 ∧ c' = 0 := fun e => own_nil hown e
      have hform5 : ∀ ad, A' = some ad → ∃ b off, ad = ⟨b, off, none⟩ := fun ad e => by
        subst e
        rcases hown.2 with ⟨hv, _⟩ | ⟨g', cap, cur, hv, _⟩
        · cases hv
        · cases hv
          exact ⟨_, _, rfl⟩
      clear hc
      go_upto_region 7 with fail
      cases hv : stV (lf s.L) s.m (g (k * 4)) (g (k * 4 + 1)) (g (k * 4 + 2)) (g (k * 4 + 3)) with
      | false =>
        refine wp_region_held_drew (S := fun w' => Below wr.heap.size wr w') (by kernel_rfl) ((Below.refl _ _).drew) (fun hHeld => ?_)
        obtain ⟨v0, hv0⟩ : ∃ v, wr.drew = v := ⟨_, rfl⟩
        rw [hv0] at hHeld ⊢
        clear hv0
        refine tk (v := ?_) 0 29 HF rfl ?_ hHeld ?_
        rotate_left; · (intro _ _ _; go_simp; try with_reducible rfl)
        simp only [Act.put, p1, p2, p3]
        refine tk (v := ?_) 1 30 HF rfl ?_ hHeld ?_
        rotate_left; · (intro _ _ _; go_simp; try with_reducible rfl)
        simp only [Act.put, p1, p2, p3]
        refine tk (v := ?_) 2 31 HF rfl ?_ hHeld ?_
        rotate_left; · (intro _ _ _; go_simp; try with_reducible rfl)
        simp only [Act.put, p1, p2, p3]
        refine tk (v := ?_) 3 32 HF rfl ?_ hHeld ?_
        rotate_left; · (intro _ _ _; go_simp; try with_reducible rfl)
        simp only [Act.put, p1, p2, p3]
        refine tk (v := ?_) 4 33 HF rfl ?_ hHeld ?_
        rotate_left; · (intro _ _ _; go_simp; try with_reducible rfl)
        simp only [Act.put, p1, p2, p3]
        refine wpAnyH_ready (rs := [5]) (by kernel_rfl) (by simp) ?_
        refine (AllReadyH.cons rfl (fun K hK => ?_) AllReadyH.nil)
        go_simp
        refine (l25Step_any A' s.m c' (w.heap.size + 2) wr.heap.size (lf s.L) s.I s.H s.S s.P (g (k * 4)) (g (k * 4 + 1)) (g (k * 4 + 2)) (g (k * 4 + 3)) _ (HSl.out _ hHeld) (by omega) hmc).mono ?_
        rw [hv]
        rintro e v1 ⟨rfl, hbn⟩
        refine hK.out _ _ (hHeld.trans (hbn.mono hHeld.size)) (fun hHeld => ?_)
        clear hK K hbn
        refine tk (v := ?_) 6 35 HF rfl ?_ hHeld ?_
        rotate_left; · (intro _ _ _; go_simp; try with_reducible rfl)
        simp only [Act.put, p1, p2, p3]
        refine wpAnyH_done (by kernel_rfl) ?_ _
        have hst : runStep s (g (k * 4)) (g (k * 4 + 1)) (g (k * 4 + 2)) (g (k * 4 + 3)) = s := by simp [runStep, stOk, hv]
        have HST := Lib.hid hst
        clear hst HF HSl
        go_wp2
        go_roundw
        case rel =>
          refine ⟨⟨k + 1, by omega, by go_num, ?_, ?_⟩, hfr.trans (Fr.of_below _ _ hHeld)⟩
          · rw [HRS.out, HST.out]
          · rw [HRS.out, HST.out]
            exact ⟨A', c', rowB hbx hHeld, hmc, hcm, ownsRow_below hown hHeld⟩
        case measure => simp [intOf]; omega
      | true =>
        refine wp_region_held_drew (S := fun w' => Below wr.heap.size wr w') (by kernel_rfl) ((Below.refl _ _).drew) (fun hHeld => ?_)
        obtain ⟨v0, hv0⟩ : ∃ v, wr.drew = v := ⟨_, rfl⟩
        rw [hv0] at hHeld ⊢
        clear hv0
        refine tk (v := ?_) 0 29 HF rfl ?_ hHeld ?_
        rotate_left; · (intro _ _ _; go_simp; try with_reducible rfl)
        simp only [Act.put, p1, p2, p3]
        refine tk (v := ?_) 1 30 HF rfl ?_ hHeld ?_
        rotate_left; · (intro _ _ _; go_simp; try with_reducible rfl)
        simp only [Act.put, p1, p2, p3]
        refine tk (v := ?_) 2 31 HF rfl ?_ hHeld ?_
        rotate_left; · (intro _ _ _; go_simp; try with_reducible rfl)
        simp only [Act.put, p1, p2, p3]
        refine tk (v := ?_) 3 32 HF rfl ?_ hHeld ?_
        rotate_left; · (intro _ _ _; go_simp; try with_reducible rfl)
        simp only [Act.put, p1, p2, p3]
        refine tk (v := ?_) 4 33 HF rfl ?_ hHeld ?_
        rotate_left; · (intro _ _ _; go_simp; try with_reducible rfl)
        simp only [Act.put, p1, p2, p3]
        refine wpAnyH_ready (rs := [5]) (by kernel_rfl) (by simp) ?_
        refine (AllReadyH.cons rfl (fun K hK => ?_) AllReadyH.nil)
        go_simp
        refine (l25Step_any A' s.m c' (w.heap.size + 2) wr.heap.size (lf s.L) s.I s.H s.S s.P (g (k * 4)) (g (k * 4 + 1)) (g (k * 4 + 2)) (g (k * 4 + 3)) _ (HSl.out _ hHeld) (by omega) hmc).mono ?_
        rw [hv]
        rintro e v1 ⟨rfl, hbn⟩
        refine hK.out _ _ (hHeld.trans (hbn.mono hHeld.size)) (fun hHeld => ?_)
        clear hK K hbn
        refine tk (v := ?_) 6 35 HF rfl ?_ hHeld ?_
        rotate_left; · (intro _ _ _; go_simp; try with_reducible rfl)
        simp only [Act.put, p1, p2, p3]
        refine wpAnyH_done (by kernel_rfl) ?_ _
        go_upto_region 8 with fail
        cases hmk : mkOk (lf s.L) s.m s.I s.H s.S s.P (g (k * 4)) (g (k * 4 + 1)) (g (k * 4 + 2)) (g (k * 4 + 3)) with
        | false =>
          have hHd := hHeld.drew
          clear hHeld
          refine wp_region_held_drew (S := fun w' => Below wr.heap.size wr w') (by kernel_rfl) hHd (fun hHeld => ?_)
          clear hHd
          obtain ⟨v2, hv2⟩ : ∃ v, v1.drew = v := ⟨_, rfl⟩
          rw [hv2] at hHeld ⊢
          clear hv2
          refine tk (v := ?_) 0 37 HF rfl ?_ hHeld ?_
          rotate_left; · (intro _ _ _; go_simp; try with_reducible rfl)
          simp only [Act.put, p1, p2, p3]
          refine tk (v := ?_) 1 38 HF rfl ?_ hHeld ?_
          rotate_left; · (intro _ _ _; go_simp; try with_reducible rfl)
          simp only [Act.put, p1, p2, p3]
          refine tk (v := ?_) 2 39 HF rfl ?_ hHeld ?_
          rotate_left; · (intro _ _ _; go_simp; try with_reducible rfl)
          simp only [Act.put, p1, p2, p3]
          refine tk (v := ?_) 3 40 HF rfl ?_ hHeld ?_
          rotate_left; · (intro _ _ _; go_simp; try with_reducible rfl)
          simp only [Act.put, p1, p2, p3]
          refine tk (v := ?_) 4 41 HF rfl ?_ hHeld ?_
          rotate_left; · (intro _ _ _; go_simp; try with_reducible rfl)
          simp only [Act.put, p1, p2, p3]
          refine wpAnyH_ready (rs := [5, 9]) (by kernel_rfl) (by simp) ?_
          refine (AllReadyH.cons rfl (fun K hK => ?_) (AllReadyH.cons rfl (fun K hK => ?_) AllReadyH.nil))
          · go_simp
            refine (l25Make_any A' s.m c' (w.heap.size + 2) wr.heap.size (lf s.L) s.I s.H s.S s.P (g (k * 4)) (g (k * 4 + 1)) (g (k * 4 + 2)) (g (k * 4 + 3)) _ (HSl.out _ hHeld) (by omega) hmc hno5 hform5 hm6 hv).mono ?_
            rw [hmk]
            rintro e v3 ⟨L, m, I', H', S', P', hok, Ar, cr, rfl, hm1, hm2, hown2, hbn⟩
            have HOK := Lib.hid hok
            clear hok
            have hown2 := ownsRow_monoP hown2 hHeld.size
            refine hK.out _ _ (hHeld.trans (hbn.mono hHeld.size)) (fun hHeld => ?_)
            clear hK K hbn
            refine tk (v := ?_) 6 36 HF rfl ?_ hHeld ?_
            rotate_left; · (intro _ _ _; go_simp; try with_reducible rfl)
            simp only [Act.put, p1, p2, p3]
            refine tk (v := ?_) 7 43 HF rfl ?_ hHeld ?_
            rotate_left; · (intro _ _ _; go_simp; try with_reducible rfl)
            simp only [Act.put, p1, p2, p3]
            refine tk (v := ?_) 8 44 HF rfl ?_ hHeld ?_
            rotate_left; · (intro _ _ _; go_simp; try with_reducible rfl)
            simp only [Act.put, p1, p2, p3]
            refine wpAnyH_ready (rs := [9]) (by kernel_rfl) (by simp) ?_
            refine (AllReadyH.cons rfl (fun K hK => ?_) AllReadyH.nil)
            go_simp
            have hg := heap_alloc_new v3 (.cells #[.slice none 0 0, .int .i64 0, .int .i64 0, .int .i64 0, .int .i64 0] 26)
            have hS2 := hHeld.alloc hHeld.size (.cells #[.slice none 0 0, .int .i64 0, .int .i64 0, .int .i64 0, .int .i64 0] 26)
            have hgle := hHeld.size
            have hown2 := ownsRow_below hown2 ((Below.refl _ v3).alloc (Nat.le_refl _) (.cells #[.slice none 0 0, .int .i64 0, .int .i64 0, .int .i64 0, .int .i64 0] 26))
            obtain ⟨g0, hge⟩ : ∃ q, v3.heap.size = q := ⟨_, rfl⟩
            rw [hge] at hg hgle
            try rw [hge]
            obtain ⟨v4, hve⟩ : ∃ v, v3.alloc (.cells #[.slice none 0 0, .int .i64 0, .int .i64 0, .int .i64 0, .int .i64 0] 26) = v := ⟨_, rfl⟩
            rw [hve] at hg hS2 hown2
            rw [hve]
            refine hK.out _ _ hS2 (fun hHeld => ?_)
            clear hK K hve hge hS2
            refine wpAnyH_store (fuel := 1) (i := 10) rfl (by kernel_rfl) g0 0 (.agg #[.slice Ar m cr, .int .i64 I', .int .i64 H', .int .i64 S', .int .i64 P']) 26 #[.slice none 0 0, .int .i64 0, .int .i64 0, .int .i64 0, .int .i64 0] rfl rfl infoWorks hg (Nat.le_refl 5) (by simp [Value.cells, Value.oneCell']) (fun w' hg' => hHeld.grown hg' hHeld.size (fun k hk => by cases hk; exact hgle)) ?ks1
            case ks1 =>
              intro v5 hh hgw hS3
              clear hHeld
              have hHeld := hS3
              clear hS3
              have hh : v5.heap[g0]? = some (.cells #[.slice Ar m cr, .int .i64 I', .int .i64 H', .int .i64 S', .int .i64 P'] 26 (0, 0)) := hh
              have hown3 := own_other hown2 hg (by decide) hgw
              clear hown2 hg hgw
              refine tk (v := ?_) 11 11 HF rfl ?_ hHeld ?_
              rotate_left; · (intro _ _ _; go_simp; try with_reducible rfl)
              simp only [Act.put, p1, p2, p3]
              refine wpAnyH_done (by kernel_rfl) ?_ _
              have hst : runStep s (g (k * 4)) (g (k * 4 + 1)) (g (k * 4 + 2)) (g (k * 4 + 3)) = s := by simp [runStep, stOk, hmk]
              have HST := Lib.hid hst
              clear hst HF HSl
              clear HOK hh hown3
              go_wp2
              go_roundw
              case rel =>
                refine ⟨⟨k + 1, by omega, by go_num, ?_, ?_⟩, hfr.trans (Fr.of_below _ _ hHeld)⟩
                · rw [HRS.out, HST.out]
                · rw [HRS.out, HST.out]
                  exact ⟨A', c', rowB hbx hHeld, hmc, hcm, ownsRow_below hown hHeld⟩
              case measure => simp [intOf]; omega
          · go_simp
            have hg := heap_alloc_new v2 (.cells #[.slice none 0 0, .int .i64 0, .int .i64 0, .int .i64 0, .int .i64 0] 26)
            have hS2 := hHeld.alloc hHeld.size (.cells #[.slice none 0 0, .int .i64 0, .int .i64 0, .int .i64 0, .int .i64 0] 26)
            have hgle := hHeld.size
            obtain ⟨g0, hge⟩ : ∃ q, v2.heap.size = q := ⟨_, rfl⟩
            rw [hge] at hg hgle
            try rw [hge]
            obtain ⟨v3, hve⟩ : ∃ v, v2.alloc (.cells #[.slice none 0 0, .int .i64 0, .int .i64 0, .int .i64 0, .int .i64 0] 26) = v := ⟨_, rfl⟩
            rw [hve] at hg hS2
            rw [hve]
            refine hK.out _ _ hS2 (fun hHeld => ?_)
            clear hK K hve hge hS2
            refine wpAnyH_ready (rs := [5]) (by kernel_rfl) (by simp) ?_
            refine (AllReadyH.cons rfl (fun K hK => ?_) AllReadyH.nil)
            go_simp
            refine (l25Make_any A' s.m c' (w.heap.size + 2) wr.heap.size (lf s.L) s.I s.H s.S s.P (g (k * 4)) (g (k * 4 + 1)) (g (k * 4 + 2)) (g (k * 4 + 3)) _ (HSl.out _ hHeld) (by omega) hmc hno5 hform5 hm6 hv).mono ?_
            rw [hmk]
            rintro e v4 ⟨L, m, I', H', S', P', hok, Ar, cr, rfl, hm1, hm2, hown2, hbn⟩
            have HOK := Lib.hid hok
            clear hok
            have hg := rowB hg hbn
            have hown2 := ownsRow_monoP hown2 hHeld.size
            refine hK.out _ _ (hHeld.trans (hbn.mono hHeld.size)) (fun hHeld => ?_)
            clear hK K hbn
            refine tk (v := ?_) 6 36 HF rfl ?_ hHeld ?_
            rotate_left; · (intro _ _ _; go_simp; try with_reducible rfl)
            simp only [Act.put, p1, p2, p3]
            refine tk (v := ?_) 7 43 HF rfl ?_ hHeld ?_
            rotate_left; · (intro _ _ _; go_simp; try with_reducible rfl)
            simp only [Act.put, p1, p2, p3]
            refine tk (v := ?_) 8 44 HF rfl ?_ hHeld ?_
            rotate_left; · (intro _ _ _; go_simp; try with_reducible rfl)
            simp only [Act.put, p1, p2, p3]
            refine wpAnyH_store (fuel := 1) (i := 10) rfl (by kernel_rfl) g0 0 (.agg #[.slice Ar m cr, .int .i64 I', .int .i64 H', .int .i64 S', .int .i64 P']) 26 #[.slice none 0 0, .int .i64 0, .int .i64 0, .int .i64 0, .int .i64 0] rfl rfl infoWorks hg (Nat.le_refl 5) (by simp [Value.cells, Value.oneCell']) (fun w' hg' => hHeld.grown hg' hHeld.size (fun k hk => by cases hk; exact hgle)) ?ks2
            case ks2 =>
              intro v5 hh hgw hS3
              clear hHeld
              have hHeld := hS3
              clear hS3
              have hh : v5.heap[g0]? = some (.cells #[.slice Ar m cr, .int .i64 I', .int .i64 H', .int .i64 S', .int .i64 P'] 26 (0, 0)) := hh
              have hown3 := own_other hown2 hg (by decide) hgw
              clear hown2 hg hgw
              refine tk (v := ?_) 11 11 HF rfl ?_ hHeld ?_
              rotate_left; · (intro _ _ _; go_simp; try with_reducible rfl)
              simp only [Act.put, p1, p2, p3]
              refine wpAnyH_done (by kernel_rfl) ?_ _
              have hst : runStep s (g (k * 4)) (g (k * 4 + 1)) (g (k * 4 + 2)) (g (k * 4 + 3)) = s := by simp [runStep, stOk, hmk]
              have HST := Lib.hid hst
              clear hst HF HSl
              clear HOK hh hown3
              go_wp2
              go_roundw
              case rel =>
                refine ⟨⟨k + 1, by omega, by go_num, ?_, ?_⟩, hfr.trans (Fr.of_below _ _ hHeld)⟩
                · rw [HRS.out, HST.out]
                · rw [HRS.out, HST.out]
                  exact ⟨A', c', rowB hbx hHeld, hmc, hcm, ownsRow_below hown hHeld⟩
              case measure => simp [intOf]; omega
        | true =>
          have hHd := hHeld.drew
          clear hHeld
          refine wp_region_held_drew (S := fun w' => Below wr.heap.size wr w') (by kernel_rfl) hHd (fun hHeld => ?_)
          clear hHd
          obtain ⟨v2, hv2⟩ : ∃ v, v1.drew = v := ⟨_, rfl⟩
          rw [hv2] at hHeld ⊢
          clear hv2
          refine tk (v := ?_) 0 37 HF rfl ?_ hHeld ?_
          rotate_left; · (intro _ _ _; go_simp; try with_reducible rfl)
          simp only [Act.put, p1, p2, p3]
          refine tk (v := ?_) 1 38 HF rfl ?_ hHeld ?_
          rotate_left; · (intro _ _ _; go_simp; try with_reducible rfl)
          simp only [Act.put, p1, p2, p3]
          refine tk (v := ?_) 2 39 HF rfl ?_ hHeld ?_
          rotate_left; · (intro _ _ _; go_simp; try with_reducible rfl)
          simp only [Act.put, p1, p2, p3]
          refine tk (v := ?_) 3 40 HF rfl ?_ hHeld ?_
          rotate_left; · (intro _ _ _; go_simp; try with_reducible rfl)
          simp only [Act.put, p1, p2, p3]
          refine tk (v := ?_) 4 41 HF rfl ?_ hHeld ?_
          rotate_left; · (intro _ _ _; go_simp; try with_reducible rfl)
          simp only [Act.put, p1, p2, p3]
          refine wpAnyH_ready (rs := [5, 9]) (by kernel_rfl) (by simp) ?_
          refine (AllReadyH.cons rfl (fun K hK => ?_) (AllReadyH.cons rfl (fun K hK => ?_) AllReadyH.nil))
          · go_simp
            refine (l25Make_any A' s.m c' (w.heap.size + 2) wr.heap.size (lf s.L) s.I s.H s.S s.P (g (k * 4)) (g (k * 4 + 1)) (g (k * 4 + 2)) (g (k * 4 + 3)) _ (HSl.out _ hHeld) (by omega) hmc hno5 hform5 hm6 hv).mono ?_
            rw [hmk]
            rintro e v3 ⟨L, m, I', H', S', P', hok, Ar, cr, rfl, hm1, hm2, hown2, hbn⟩
            have HOK := Lib.hid hok
            clear hok
            have hown2 := ownsRow_monoP hown2 hHeld.size
            refine hK.out _ _ (hHeld.trans (hbn.mono hHeld.size)) (fun hHeld => ?_)
            clear hK K hbn
            refine tk (v := ?_) 6 36 HF rfl ?_ hHeld ?_
            rotate_left; · (intro _ _ _; go_simp; try with_reducible rfl)
            simp only [Act.put, p1, p2, p3]
            refine tk (v := ?_) 7 43 HF rfl ?_ hHeld ?_
            rotate_left; · (intro _ _ _; go_simp; try with_reducible rfl)
            simp only [Act.put, p1, p2, p3]
            refine tk (v := ?_) 8 44 HF rfl ?_ hHeld ?_
            rotate_left; · (intro _ _ _; go_simp; try with_reducible rfl)
            simp only [Act.put, p1, p2, p3]
            refine wpAnyH_ready (rs := [9]) (by kernel_rfl) (by simp) ?_
            refine (AllReadyH.cons rfl (fun K hK => ?_) AllReadyH.nil)
            go_simp
            have hg := heap_alloc_new v3 (.cells #[.slice none 0 0, .int .i64 0, .int .i64 0, .int .i64 0, .int .i64 0] 26)
            have hS2 := hHeld.alloc hHeld.size (.cells #[.slice none 0 0, .int .i64 0, .int .i64 0, .int .i64 0, .int .i64 0] 26)
            have hgle := hHeld.size
            have hown2 := ownsRow_below hown2 ((Below.refl _ v3).alloc (Nat.le_refl _) (.cells #[.slice none 0 0, .int .i64 0, .int .i64 0, .int .i64 0, .int .i64 0] 26))
            obtain ⟨g0, hge⟩ : ∃ q, v3.heap.size = q := ⟨_, rfl⟩
            rw [hge] at hg hgle
            try rw [hge]
            obtain ⟨v4, hve⟩ : ∃ v, v3.alloc (.cells #[.slice none 0 0, .int .i64 0, .int .i64 0, .int .i64 0, .int .i64 0] 26) = v := ⟨_, rfl⟩
            rw [hve] at hg hS2 hown2
            rw [hve]
            refine hK.out _ _ hS2 (fun hHeld => ?_)
            clear hK K hve hge hS2
            refine wpAnyH_store (fuel := 1) (i := 10) rfl (by kernel_rfl) g0 0 (.agg #[.slice Ar m cr, .int .i64 I', .int .i64 H', .int .i64 S', .int .i64 P']) 26 #[.slice none 0 0, .int .i64 0, .int .i64 0, .int .i64 0, .int .i64 0] rfl rfl infoWorks hg (Nat.le_refl 5) (by simp [Value.cells, Value.oneCell']) (fun w' hg' => hHeld.grown hg' hHeld.size (fun k hk => by cases hk; exact hgle)) ?ks3
            case ks3 =>
              intro v5 hh hgw hS3
              clear hHeld
              have hHeld := hS3
              clear hS3
              have hh : v5.heap[g0]? = some (.cells #[.slice Ar m cr, .int .i64 I', .int .i64 H', .int .i64 S', .int .i64 P'] 26 (0, 0)) := hh
              have hown3 := own_other hown2 hg (by decide) hgw
              clear hown2 hg hgw
              refine tk (v := ?_) 11 11 HF rfl ?_ hHeld ?_
              rotate_left; · (intro _ _ _; go_simp; try with_reducible rfl)
              simp only [Act.put, p1, p2, p3]
              refine wpAnyH_done (by kernel_rfl) ?_ _
              obtain ⟨eL, em, eI, eH, eS, eP⟩ := HOK.out rfl
              have hst : runStep s (g (k * 4)) (g (k * 4 + 1)) (g (k * 4 + 2)) (g (k * 4 + 3)) = ⟨L, m, I', H', S', P', s.cnt + 1⟩ := by simp [runStep, stOk, hgs, hv, hmk, eL, em, eI, eH, eS, eP]
              have HST := Lib.hid hst
              clear hst HF HSl HOK eL em eI eH eS eP
              have hbx7 := rowB hbx hHeld
              have hfr7 := hfr.trans (Fr.of_below q7 (q7 + 1) hHeld)
              have n10 : g0 ≠ q7 := by omega
              have n10' : q7 ≠ g0 := by omega
              obtain ⟨y0, y1, y2, y3, y4⟩ := cells5 hh
              obtain ⟨e0, e1, e2, e3, e4⟩ := cells5 hbx7
              have ef : ∀ j, v5.frozen? ⟨q7, j, none⟩ = false := fun j => frozen_of_row v5 (q7) j _ _ hbx7
              have HO7 := Lib.hid (ownsRow_monoP hown3 hzr)
              have HX7 := Lib.hid hbx7
              have HF7 := Lib.hid hfr7
              clear hown3 hbx7 hh hbx hown hfr hHeld hfr7
              go_upto_region 11 with fail
              refine name_wp ?_
              intro w8 hw8'
              have hw8 : w8 = (((((v5.setCell ⟨q7, 0, none⟩ (.slice Ar m cr)).setCell ⟨q7, 1, none⟩ (.int .i64 I')).setCell ⟨q7, 2, none⟩ (.int .i64 H')).setCell ⟨q7, 3, none⟩ (.int .i64 S')).setCell ⟨q7, 4, none⟩ (.int .i64 P')) := hw8'
              clear hw8' e0 e1 e2 e3 e4 ef y0 y1 y2 y3 y4
              have hbx8 : w8.heap[q7]? = some (.cells #[.slice Ar m cr, .int .i64 I', .int .i64 H', .int .i64 S', .int .i64 P'] 26 (0, 0)) := by
                rw [hw8]
                exact (heap_setCell_same _ (q7) 4 #[.slice Ar m cr, .int .i64 I', .int .i64 H', .int .i64 S', .int .i64 s.P] 26 (.int .i64 P') (heap_setCell_same _ (q7) 3 #[.slice Ar m cr, .int .i64 I', .int .i64 H', .int .i64 s.S, .int .i64 s.P] 26 (.int .i64 S') (heap_setCell_same _ (q7) 2 #[.slice Ar m cr, .int .i64 I', .int .i64 s.H, .int .i64 s.S, .int .i64 s.P] 26 (.int .i64 H') (heap_setCell_same _ (q7) 1 #[.slice Ar m cr, .int .i64 s.I, .int .i64 s.H, .int .i64 s.S, .int .i64 s.P] 26 (.int .i64 I') (heap_setCell_same _ (q7) 0 #[.slice A' s.m c', .int .i64 s.I, .int .i64 s.H, .int .i64 s.S, .int .i64 s.P] 26 (.slice Ar m cr) HX7.out)))))
              have no0 : ∀ j : Nat, (Value.slice Ar m cr).ownBlock ≠ some (⟨q7, j, none⟩ : Addr).block := fun j e => row_none_ne HO7.out HX7.out (by decide) e
              have hown8 := (ownsRow_setCell_other (ownsRow_setCell_other (ownsRow_setCell_other (ownsRow_setCell_other (ownsRow_setCell_other HO7.out (no0 0) (.slice Ar m cr)) (no0 1) (.int .i64 I')) (no0 2) (.int .i64 H')) (no0 3) (.int .i64 S')) (no0 4) (.int .i64 P'))
              rw [← hw8] at hown8
              have hF8 : Fr q7 (q7 + 1) v5 w8 := by
                rw [hw8]
                exact frS (frS (frS (frS (frS (Fr.refl _ _ _) 0 _) 1 _) 2 _) 3 _) 4 _
              have HF8 := Lib.hid (HF7.out.trans hF8)
              have HO8 := Lib.hid hown8
              have HX8 := Lib.hid hbx8
              clear hw8 hbx8 hown8 hF8 HO7 HX7 HF7 no0
              go_wp2
              go_roundw
              case rel =>
                refine ⟨⟨k + 1, by omega, by go_num, ?_, ?_⟩, HF8.out⟩
                · rw [HRS.out, HST.out]; simp
                · rw [HRS.out, HST.out]
                  exact ⟨Ar, cr, HX8.out, hm1, hm2, HO8.out⟩
              case measure => simp [intOf]; omega
          · go_simp
            have hg := heap_alloc_new v2 (.cells #[.slice none 0 0, .int .i64 0, .int .i64 0, .int .i64 0, .int .i64 0] 26)
            have hS2 := hHeld.alloc hHeld.size (.cells #[.slice none 0 0, .int .i64 0, .int .i64 0, .int .i64 0, .int .i64 0] 26)
            have hgle := hHeld.size
            obtain ⟨g0, hge⟩ : ∃ q, v2.heap.size = q := ⟨_, rfl⟩
            rw [hge] at hg hgle
            try rw [hge]
            obtain ⟨v3, hve⟩ : ∃ v, v2.alloc (.cells #[.slice none 0 0, .int .i64 0, .int .i64 0, .int .i64 0, .int .i64 0] 26) = v := ⟨_, rfl⟩
            rw [hve] at hg hS2
            rw [hve]
            refine hK.out _ _ hS2 (fun hHeld => ?_)
            clear hK K hve hge hS2
            refine wpAnyH_ready (rs := [5]) (by kernel_rfl) (by simp) ?_
            refine (AllReadyH.cons rfl (fun K hK => ?_) AllReadyH.nil)
            go_simp
            refine (l25Make_any A' s.m c' (w.heap.size + 2) wr.heap.size (lf s.L) s.I s.H s.S s.P (g (k * 4)) (g (k * 4 + 1)) (g (k * 4 + 2)) (g (k * 4 + 3)) _ (HSl.out _ hHeld) (by omega) hmc hno5 hform5 hm6 hv).mono ?_
            rw [hmk]
            rintro e v4 ⟨L, m, I', H', S', P', hok, Ar, cr, rfl, hm1, hm2, hown2, hbn⟩
            have HOK := Lib.hid hok
            clear hok
            have hg := rowB hg hbn
            have hown2 := ownsRow_monoP hown2 hHeld.size
            refine hK.out _ _ (hHeld.trans (hbn.mono hHeld.size)) (fun hHeld => ?_)
            clear hK K hbn
            refine tk (v := ?_) 6 36 HF rfl ?_ hHeld ?_
            rotate_left; · (intro _ _ _; go_simp; try with_reducible rfl)
            simp only [Act.put, p1, p2, p3]
            refine tk (v := ?_) 7 43 HF rfl ?_ hHeld ?_
            rotate_left; · (intro _ _ _; go_simp; try with_reducible rfl)
            simp only [Act.put, p1, p2, p3]
            refine tk (v := ?_) 8 44 HF rfl ?_ hHeld ?_
            rotate_left; · (intro _ _ _; go_simp; try with_reducible rfl)
            simp only [Act.put, p1, p2, p3]
            refine wpAnyH_store (fuel := 1) (i := 10) rfl (by kernel_rfl) g0 0 (.agg #[.slice Ar m cr, .int .i64 I', .int .i64 H', .int .i64 S', .int .i64 P']) 26 #[.slice none 0 0, .int .i64 0, .int .i64 0, .int .i64 0, .int .i64 0] rfl rfl infoWorks hg (Nat.le_refl 5) (by simp [Value.cells, Value.oneCell']) (fun w' hg' => hHeld.grown hg' hHeld.size (fun k hk => by cases hk; exact hgle)) ?ks4
            case ks4 =>
              intro v5 hh hgw hS3
              clear hHeld
              have hHeld := hS3
              clear hS3
              have hh : v5.heap[g0]? = some (.cells #[.slice Ar m cr, .int .i64 I', .int .i64 H', .int .i64 S', .int .i64 P'] 26 (0, 0)) := hh
              have hown3 := own_other hown2 hg (by decide) hgw
              clear hown2 hg hgw
              refine tk (v := ?_) 11 11 HF rfl ?_ hHeld ?_
              rotate_left; · (intro _ _ _; go_simp; try with_reducible rfl)
              simp only [Act.put, p1, p2, p3]
              refine wpAnyH_done (by kernel_rfl) ?_ _
              obtain ⟨eL, em, eI, eH, eS, eP⟩ := HOK.out rfl
              have hst : runStep s (g (k * 4)) (g (k * 4 + 1)) (g (k * 4 + 2)) (g (k * 4 + 3)) = ⟨L, m, I', H', S', P', s.cnt + 1⟩ := by simp [runStep, stOk, hgs, hv, hmk, eL, em, eI, eH, eS, eP]
              have HST := Lib.hid hst
              clear hst HF HSl HOK eL em eI eH eS eP
              have hbx7 := rowB hbx hHeld
              have hfr7 := hfr.trans (Fr.of_below q7 (q7 + 1) hHeld)
              have n10 : g0 ≠ q7 := by omega
              have n10' : q7 ≠ g0 := by omega
              obtain ⟨y0, y1, y2, y3, y4⟩ := cells5 hh
              obtain ⟨e0, e1, e2, e3, e4⟩ := cells5 hbx7
              have ef : ∀ j, v5.frozen? ⟨q7, j, none⟩ = false := fun j => frozen_of_row v5 (q7) j _ _ hbx7
              have HO7 := Lib.hid (ownsRow_monoP hown3 hzr)
              have HX7 := Lib.hid hbx7
              have HF7 := Lib.hid hfr7
              clear hown3 hbx7 hh hbx hown hfr hHeld hfr7
              go_upto_region 11 with fail
              refine name_wp ?_
              intro w8 hw8'
              have hw8 : w8 = (((((v5.setCell ⟨q7, 0, none⟩ (.slice Ar m cr)).setCell ⟨q7, 1, none⟩ (.int .i64 I')).setCell ⟨q7, 2, none⟩ (.int .i64 H')).setCell ⟨q7, 3, none⟩ (.int .i64 S')).setCell ⟨q7, 4, none⟩ (.int .i64 P')) := hw8'
              clear hw8' e0 e1 e2 e3 e4 ef y0 y1 y2 y3 y4
              have hbx8 : w8.heap[q7]? = some (.cells #[.slice Ar m cr, .int .i64 I', .int .i64 H', .int .i64 S', .int .i64 P'] 26 (0, 0)) := by
                rw [hw8]
                exact (heap_setCell_same _ (q7) 4 #[.slice Ar m cr, .int .i64 I', .int .i64 H', .int .i64 S', .int .i64 s.P] 26 (.int .i64 P') (heap_setCell_same _ (q7) 3 #[.slice Ar m cr, .int .i64 I', .int .i64 H', .int .i64 s.S, .int .i64 s.P] 26 (.int .i64 S') (heap_setCell_same _ (q7) 2 #[.slice Ar m cr, .int .i64 I', .int .i64 s.H, .int .i64 s.S, .int .i64 s.P] 26 (.int .i64 H') (heap_setCell_same _ (q7) 1 #[.slice Ar m cr, .int .i64 s.I, .int .i64 s.H, .int .i64 s.S, .int .i64 s.P] 26 (.int .i64 I') (heap_setCell_same _ (q7) 0 #[.slice A' s.m c', .int .i64 s.I, .int .i64 s.H, .int .i64 s.S, .int .i64 s.P] 26 (.slice Ar m cr) HX7.out)))))
              have no0 : ∀ j : Nat, (Value.slice Ar m cr).ownBlock ≠ some (⟨q7, j, none⟩ : Addr).block := fun j e => row_none_ne HO7.out HX7.out (by decide) e
              have hown8 := (ownsRow_setCell_other (ownsRow_setCell_other (ownsRow_setCell_other (ownsRow_setCell_other (ownsRow_setCell_other HO7.out (no0 0) (.slice Ar m cr)) (no0 1) (.int .i64 I')) (no0 2) (.int .i64 H')) (no0 3) (.int .i64 S')) (no0 4) (.int .i64 P'))
              rw [← hw8] at hown8
              have hF8 : Fr q7 (q7 + 1) v5 w8 := by
                rw [hw8]
                exact frS (frS (frS (frS (frS (Fr.refl _ _ _) 0 _) 1 _) 2 _) 3 _) 4 _
              have HF8 := Lib.hid (HF7.out.trans hF8)
              have HO8 := Lib.hid hown8
              have HX8 := Lib.hid hbx8
              clear hw8 hbx8 hown8 hF8 HO7 HX7 HF7 no0
              go_wp2
              go_roundw
              case rel =>
                refine ⟨⟨k + 1, by omega, by go_num, ?_, ?_⟩, HF8.out⟩
                · rw [HRS.out, HST.out]; simp
                · rw [HRS.out, HST.out]
                  exact ⟨Ar, cr, HX8.out, hm1, hm2, HO8.out⟩
              case measure => simp [intOf]; omega
    · obtain rfl : k = n1 := by omega
      have hki : ¬ ((k : Int) < (k : Int)) := by omega
      clear HS4 HR4 HB4 HG HBS
      go_upto_region 12 with fail
      have hfin := runL_yes (g := g) HK.out
      have HFIN := Lib.hid hfin
      clear hfin
      obtain ⟨A', c', hbx, hmc, hcm, hown⟩ := hbs
      generalize (runS (⟨cellsL f n, n, I, H, S, P, 0⟩ : WkS) g k) = s at *
      obtain ⟨e0, e1, e2, e3, e4⟩ := cells5 hbx
      obtain ⟨r0, r1, r2, r3, r4⟩ := cells5 hRr
      have rf : ∀ j, wr.frozen? ⟨w.heap.size + 1, j, none⟩ = false := fun j => frozen_of_row wr (w.heap.size + 1) j _ _ hRr
      have nor : ∀ k : Nat, (Value.slice A' s.m c').ownBlock = some k → k ≠ w.heap.size + 1 := fun k e hk => by
        subst hk
        exact row_none_ne hown hRr (by decide) e
      have HBW := Lib.hid hBr
      have HOW := Lib.hid hown
      have NOR := Lib.hid nor
      clear hbx hRr hBr hown nor hfr
      go_wp2
      obtain ⟨wq, hwq⟩ : ∃ wq, wq = (((((wr.setCell ⟨w.heap.size + 1, 0, none⟩ (.slice A' s.m c')).setCell ⟨w.heap.size + 1, 1, none⟩ (.int .i64 s.I)).setCell ⟨w.heap.size + 1, 2, none⟩ (.int .i64 s.H)).setCell ⟨w.heap.size + 1, 3, none⟩ (.int .i64 s.S)).setCell ⟨w.heap.size + 1, 4, none⟩ (.int .i64 s.P)) := ⟨_, rfl⟩
      rw [← hwq]
      have u0 : wq.cell? ⟨w.heap.size + 1, 0, none⟩ = some (.slice A' s.m c') := by rw [hwq]; go_simp
      have u1 : wq.cell? ⟨w.heap.size + 1, 1, none⟩ = some (.int .i64 s.I) := by rw [hwq]; go_simp
      have u2 : wq.cell? ⟨w.heap.size + 1, 2, none⟩ = some (.int .i64 s.H) := by rw [hwq]; go_simp
      have u3 : wq.cell? ⟨w.heap.size + 1, 3, none⟩ = some (.int .i64 s.S) := by rw [hwq]; go_simp
      have u4 : wq.cell? ⟨w.heap.size + 1, 4, none⟩ = some (.int .i64 s.P) := by rw [hwq]; go_simp
      have hBq : Below w.heap.size w wq := by
        rw [hwq]
        exact (((((HBW.out.setCell (show w.heap.size ≤ w.heap.size + 1 by omega) _).setCell (show w.heap.size ≤ w.heap.size + 1 by omega) _).setCell (show w.heap.size ≤ w.heap.size + 1 by omega) _).setCell (show w.heap.size ≤ w.heap.size + 1 by omega) _).setCell (show w.heap.size ≤ w.heap.size + 1 by omega) _)
      have no : ∀ j : Nat, (Value.slice A' s.m c').ownBlock ≠ some (⟨w.heap.size + 1, j, none⟩ : Addr).block := fun j e => NOR.out _ e rfl
      have hOq := (ownsRow_setCell_other (ownsRow_setCell_other (ownsRow_setCell_other (ownsRow_setCell_other (ownsRow_setCell_other HOW.out (no 0) (.slice A' s.m c')) (no 1) (.int .i64 s.I)) (no 2) (.int .i64 s.H)) (no 3) (.int .i64 s.S)) (no 4) (.int .i64 s.P))
      rw [← hwq] at hOq
      clear hwq HOW HBW
      try simp only [Exit.inBlock, Exit.then]
      refine bodyPost_ret (by simp [results, Try.results20, go_sem, u0, u1, u2, u3, u4]; try rfl) rfl ?_
      rw [HFIN.out]
      exact ⟨A', c', rfl, hmc, hcm, ownsRow_monoP hOq (by omega), hBq⟩
end Go.Proofs.Ytjhgpebppcbleaa
