/-
  The program's step in a copy of works: every kind, or why it does not fit.
-/
import Derived.Test.YtjkockhldaacbaaDoorPk1
import Derived.Test.YtjkockhldaacbaaDoorStepW
import Derived.Deep.QuietTactic
import Derived.BigQuiet
namespace Go.Proofs.YtjkockhldaacbaaDoor
open Go.RowKit Go.Sort
set_option linter.unusedVariables false
set_option linter.unusedSimpArgs false
attribute [local go_sem ↓] Go.wp_at_zero Go.wp_at_succ
section
variable {P : Program} {md : Region.Mode} {ops : Array Oper} {Q : Exit → Act → World → Prop} {S : World → Prop}
/-- A load and an alloc are ready together. -/
theorem wpAnyH_rdnew {i j di dj : Nat} {fuel : Nat} {listed : Array Bool} {a : Act} {w : World} {oi oj : Oper} {obj : Obj} {vi vj : Value}
    (hoi : ops[i]? = some oi) (hoj : ops[j]? = some oj) (hgi : oi.guard = none ∧ oi.dst = some di) (hgj : oj.guard = none ∧ oj.dst = some dj) (hij : i ≠ j) (hd : di ≠ dj)
    (r0 : Region.ready md ops listed = [i, j]) (ri : Region.ready md ops (listed.setIfInBounds i true) = [j]) (rj : Region.ready md ops (listed.setIfInBounds j true) = [i])
    (run_i : (execOp a.eval oi).run P w = .ok (.value vi) w) (run_i2 : (execOp (a.put (some dj) vj).eval oi).run P (w.alloc obj) = .ok (.value vi) (w.alloc obj))
    (run_j : (execOp a.eval oj).run P w = .ok (.value vj) (w.alloc obj)) (run_j2 : (execOp (a.put (some di) vi).eval oj).run P w = .ok (.value vj) (w.alloc obj))
    (hS : S w) (hSa : S (w.alloc obj))
    (h : wpAnyH P md ops Q S fuel ((listed.setIfInBounds i true).setIfInBounds j true) ((a.put (some di) vi).put (some dj) vj) (w.alloc obj)) :
    wpAnyH P md ops Q S (fuel + 2) listed a w := by
  refine wpAnyH_ready (fuel := fuel + 1) r0 (by simp) (AllReadyH.cons hoi (fun K hK => ?_) (AllReadyH.cons hoj (fun K hK => ?_) AllReadyH.nil))
  · rw [if_pos (wanted_plain hgi.1)]
    refine oper_wp_value run_i ?_
    rw [hgi.2]
    refine hK.out _ _ hS (fun _ => ?_)
    refine wpAnyH_ready (fuel := fuel) ri (by simp) (AllReadyH.cons hoj (fun K2 hK2 => ?_) AllReadyH.nil)
    rw [if_pos (wanted_plain hgj.1)]
    refine oper_wp_value run_j2 ?_
    rw [hgj.2]
    exact hK2.out _ _ hSa (fun _ => h)
  · rw [if_pos (wanted_plain hgj.1)]
    refine oper_wp_value run_j ?_
    rw [hgj.2]
    refine hK.out _ _ hSa (fun _ => ?_)
    refine wpAnyH_ready (fuel := fuel) rj (by simp) (AllReadyH.cons hoi (fun K2 hK2 => ?_) AllReadyH.nil)
    rw [if_pos (wanted_plain hgi.1)]
    refine oper_wp_value run_i2 ?_
    rw [hgi.2]
    refine hK2.out _ _ hSa (fun _ => ?_)
    rw [listed_comm _ (Ne.symm hij), put_comm _ _ _ (Ne.symm hd)]
    exact h
end
set_option maxRecDepth 100000 in
set_option maxHeartbeats 2000000 in
theorem sw_build (g lo n c' : Nat) (A' : Option Addr) (f : Nat → Int) (I H S P : Int) (id tt0 z : Int) (hn : n ≤ 1000) (w : World) (hg : w.heap[g]? = some (.cells #[.slice A' n c', .int .i64 I, .int .i64 H, .int .i64 S, .int .i64 P] 26 (0, 0))) (hO : w.ownsRow lo 48 4 (.slice A' n c') n ((cellsL f n).map (Value.int .i64))) (hlo : lo ≤ g) (hfd : findV (pid f) id n 0 = -1) (ht0 : tt0 = 0) :
    Calls Tryd.prog 31 #[.pointer (some ⟨g, 0, none⟩), .agg #[.int .i64 1, .int .i64 id, .int .i64 tt0, .int .i64 z]] w (fun e w' => e = .returned (.bool true) ∧ (true = true → BoxOwn w' lo g (buildL f n (placeV f id n 0) id z) (n + 1) I H S P) ∧ Below lo w w') := by
  subst ht0
  go_enter Tryd.func31, Tryd.ntmps31
  have lg : g < w.heap.size := (Array.getElem?_eq_some_iff.1 hg).1
  have hnc : n ≤ c' ∧ c' ≤ maxLen := by
    obtain ⟨_, _, e, h1, h2⟩ := row_slice hO
    cases e
    exact ⟨h1, h2⟩
  have hncI : (n : Int) ≤ (c' : Int) := by omega
  go_upto_region 1 with fail
  refine name_wp ?_
  intro w1 hw1
  have hb1 : Below w.heap.size w w1 := by rw [hw1]; exact (Below.refl _ w).alloc (Nat.le_refl _) _
  have hs1 : w1.heap[w.heap.size]? = some (.cells #[.int .i64 1, .int .i64 id, .int .i64 0, .int .i64 z] 34) := by rw [hw1]; exact heap_alloc_new w _
  have hg1 := (hb1.block g lg).trans hg
  have hO1 := ownsRow_below hO hb1
  have hB1 : Below lo w w1 := hb1.mono (by omega)
  have low : ∀ k : Nat, (Value.slice A' n c').ownBlock = some k → lo ≤ k ∧ k < w.heap.size := fun k e => World.ownsRow.lt hO k e
  clear hw1 hg hO hb1
  obtain ⟨s, hs⟩ : ∃ s, s = w.heap.size := ⟨_, rfl⟩
  rw [← hs] at hs1 lg low
  have lg1 := (Array.getElem?_eq_some_iff.1 hg1).1
  have ls1 := (Array.getElem?_eq_some_iff.1 hs1).1
  have lw1 : lo ≤ w1.heap.size := by omega
  have ngs : g ≠ s := by omega
  have nsg : s ≠ g := by omega
  have hles : lo ≤ s := by omega
  have HS0 := Lib.hid hs
  clear hs
  obtain ⟨s0, s1, s2, s3⟩ := cells4 hs1
  obtain ⟨e0, e1, e2, e3, e4⟩ := cells5 hg1
  have ef : ∀ j, w1.frozen? ⟨g, j, none⟩ = false := fun j => frozen_of_row w1 g j _ _ hg1
  have HG1 := Lib.hid hg1
  have HO1 := Lib.hid hO1
  have HB1 := Lib.hid hB1
  have HS1 := Lib.hid hs1
  clear hg1 hO1 hB1 hs1
  have hszS : w.heap.size = s := HS0.out.symm
  rw [hszS]
  clear hszS
  have HF : Hid (∀ w', Below w1.heap.size w1 w' → w'.cell? ⟨g, 0, none⟩ = some (.slice A' n c') ∧ w'.cell? ⟨g, 1, none⟩ = some (.int .i64 I) ∧ w'.cell? ⟨g, 2, none⟩ = some (.int .i64 H) ∧ w'.cell? ⟨g, 3, none⟩ = some (.int .i64 S) ∧ w'.cell? ⟨g, 4, none⟩ = some (.int .i64 P) ∧ w'.cell? ⟨s, 1, none⟩ = some (.int .i64 id)) := by
    intro w' hq
    exact ⟨(hq.cell (p := ⟨g, 0, none⟩) (World.block_lt_of_cell? _ _ e0)).trans e0, (hq.cell (p := ⟨g, 1, none⟩) (World.block_lt_of_cell? _ _ e1)).trans e1, (hq.cell (p := ⟨g, 2, none⟩) (World.block_lt_of_cell? _ _ e2)).trans e2, (hq.cell (p := ⟨g, 3, none⟩) (World.block_lt_of_cell? _ _ e3)).trans e3, (hq.cell (p := ⟨g, 4, none⟩) (World.block_lt_of_cell? _ _ e4)).trans e4, (hq.cell (p := ⟨s, 1, none⟩) (World.block_lt_of_cell? _ _ s1)).trans s1⟩
  have HSL : Hid (∀ w', Below w1.heap.size w1 w' → Sl w' lo w'.heap.size 4 A' n f) := by
    intro w' hq
    obtain ⟨A0, c0, e0, _, _, h0⟩ := own_of_row (ownsRow_below HO1.out hq)
    cases e0
    exact (h0.congr (fun j hj => cellsL_getD _ n j hj)).sl
  go_upto_region 1 with fail
  refine wp_region_held_drew (S := fun w' => Below (w1).heap.size (w1) w') (by kernel_rfl) ((Below.refl _ _).drew) (fun hHeld => ?_)
  refine tk (v := ?_) 0 7 HF rfl ?_ hHeld ?_
  rotate_left; · (intro _ _ _; go_simp; try with_reducible rfl)
  simp only [Act.put, p1, p2, p3]
  refine tk (v := ?_) 3 10 HF rfl ?_ hHeld ?_
  rotate_left; · (intro _ _ _; go_simp; try with_reducible rfl)
  simp only [Act.put, p1, p2, p3]
  refine tk (v := ?_) 1 8 HF rfl ?_ hHeld ?_
  rotate_left; · (intro _ _ _; go_simp; try with_reducible rfl)
  simp only [Act.put, p1, p2, p3]
  refine tk (v := ?_) 4 11 HF rfl ?_ hHeld ?_
  rotate_left; · (intro _ _ _; go_simp; try with_reducible rfl)
  simp only [Act.put, p1, p2, p3]
  refine tk (v := ?_) 2 9 HF rfl ?_ hHeld ?_
  rotate_left; · (intro _ _ _; go_simp; try with_reducible rfl)
  simp only [Act.put, p1, p2, p3]
  refine wpAnyH_ready (rs := [5]) (by kernel_rfl) (by simp) ?_
  refine AllReadyH.cons rfl (fun K hK => ?_) AllReadyH.nil
  go_simp
  (go_at_call 22; refine (panAt_any A' n c' lo _ f I H S P id _ (HSL.out _ hHeld) (by omega) hnc.1).mono ?_; rw [hfd]; rintro e w2 ⟨rfl, hb2⟩)
  refine hK.out _ _ (hHeld.trans (hb2.mono hHeld.size)) (fun hHeld => ?_)
  clear hK K hb2
  refine tk (v := ?_) 6 5 HF rfl ?_ hHeld ?_
  rotate_left; · (intro _ _ _; go_simp; try with_reducible rfl)
  simp only [Act.put, p1, p2, p3]
  refine wpAnyH_done (by kernel_rfl) ?_ _
  have hg2 := (hHeld.block g (Array.getElem?_eq_some_iff.1 HG1.out).1).trans HG1.out
  have hs2 := (hHeld.block s (Array.getElem?_eq_some_iff.1 HS1.out).1).trans HS1.out
  have hO2 := ownsRow_below HO1.out hHeld
  have hB2 := below_of HB1.out hHeld lw1
  have lw2 : lo ≤ w2.heap.size := Nat.le_trans lw1 hHeld.size
  have lgw2 : g < w2.heap.size := Nat.lt_of_lt_of_le lg1 hHeld.size
  have lsw2 : s < w2.heap.size := Nat.lt_of_lt_of_le ls1 hHeld.size
  clear hHeld HF HSL e0 e1 e2 e3 e4 ef s0 s1 s2 s3 HG1 HO1 HB1 HS1
  obtain ⟨e0, e1, e2, e3, e4⟩ := cells5 hg2
  have ef : ∀ j, w2.frozen? ⟨g, j, none⟩ = false := fun j => frozen_of_row w2 g j _ _ hg2
  obtain ⟨s0, s1, s2, s3⟩ := cells4 hs2
  have hneg : ¬ ((0 : Int) ≤ -1) := by decide
  have HG2 := Lib.hid hg2
  have HO2 := Lib.hid hO2
  have HB2 := Lib.hid hB2
  have HS2 := Lib.hid hs2
  have HSL : Hid (Sl w2 lo w2.heap.size 4 A' n f) := by
    obtain ⟨A0, c0, e0, _, _, h0⟩ := own_of_row HO2.out
    cases e0
    exact (h0.congr (fun j hj => cellsL_getD _ n j hj)).sl
  clear hg2 hO2 hB2 hs2
  go_wp2_with fail
  clear e0 e1 e2 e3 e4 ef s0 s1 s2 s3
  go_loopw [6] (fun kv wr => Below w2.heap.size w2 wr ∧ ∃ k : Nat, k ≤ n ∧ kv = .int .i64 k ∧ placeV f id n 0 = placeV f id (n - k) k) (fun kv _ => n - (intOf kv).toNat)
  case atStart => exact ⟨Below.refl _ _, 0, Nat.zero_le _, rfl, rfl⟩
  case round =>
    obtain ⟨hbel, k, hk, rfl, hpl⟩ := hrel
    have hgr := (hbel.block g lgw2).trans HG2.out
    have hsr := (hbel.block s lsw2).trans HS2.out
    obtain ⟨e0, e1, e2, e3, e4⟩ := cells5 hgr
    have ef : ∀ j, wr.frozen? ⟨g, j, none⟩ = false := fun j => frozen_of_row wr g j _ _ hgr
    obtain ⟨s0, s1, s2, s3⟩ := cells4 hsr
    by_cases hlt : k < n
    · obtain ⟨b, off, eA, hbw, HC⟩ := HSL.out.open_ hbel (by omega)
      obtain ⟨c0, c1, c2, c3⟩ := cell4 HC hlt
      have hk0i : (0 : Int) ≤ (k : Int) := by omega
      have hkni : (k : Int) < (n : Int) := by omega
      have hkdi : decide ((k : Int) < (n : Int)) = true := decide_eq_true hkni
      have e1' : n - k = (n - k - 1) + 1 := by omega
      clear HC
      by_cases hid : f (k * 4) < id
      · have hst : placeV f id n 0 = placeV f id (n - (k + 1)) (k + 1) := by
          rw [hpl, e1']
          show (if f (k * 4) < id then placeV f id (n - k - 1) (k + 1) else k) = _
          rw [if_pos hid]
          rfl
        have HST := Lib.hid hst
        have hidd : decide (f (k * 4) < id) = true := decide_eq_true hid
        clear hst hpl e1'
        rw [eA] at e0
        go_wp2_with fail
        go_quiet (fail)
        go_wp2
        go_roundw
        case rel => exact ⟨below_drewN hbel _, k + 1, by omega, by go_num, HST.out⟩
        case measure => simp [intOf]; omega
      · have hst : placeV f id n 0 = k := by
          rw [hpl, e1']
          show (if f (k * 4) < id then placeV f id (n - k - 1) (k + 1) else k) = _
          rw [if_neg hid]
        have HST := Lib.hid hst
        have hidd : decide (f (k * 4) < id) = false := decide_eq_false hid
        clear hst hpl e1'
        have E0 := Lib.hid e0
        have EA := Lib.hid eA
        rw [eA] at e0
        clear eA
        go_wp2_with fail
        go_quiet (fail)
        have hHeldq : Below wr.heap.size wr (wr.drewN nq) := below_drewN (Below.refl _ _) _
        generalize wr.drewN nq = wq at hHeldq ⊢
        have hbq : Below w2.heap.size w2 wq := hbel.trans (hHeldq.mono hbel.size)
        have hgq := (hbq.block g lgw2).trans HG2.out
        have hsq := (hbq.block s lsw2).trans HS2.out
        have hOq := ownsRow_below HO2.out hbq
        have hBq := below_of HB2.out hbq lw2
        have lwq : lo ≤ wq.heap.size := Nat.le_trans lw2 hbq.size
        have lgq := (Array.getElem?_eq_some_iff.1 hgq).1
        have lsq := (Array.getElem?_eq_some_iff.1 hsq).1
        have hloq : ∀ j0 : Nat, (Value.slice A' n c').ownBlock = some j0 → lo ≤ j0 ∧ j0 < wq.heap.size := fun j0 e => World.ownsRow.lt hOq j0 e
        clear hHeldq hbq e0 e1 e2 e3 e4 ef s0 s1 s2 s3 hgr hsr
        obtain ⟨e0, e1, e2, e3, e4⟩ := cells5 hgq
        have ef : ∀ j, wq.frozen? ⟨g, j, none⟩ = false := fun j => frozen_of_row wq g j _ _ hgq
        have HF : Hid (∀ w', (w'.heap[s]? = some (.cells #[.int .i64 1, .int .i64 id, .int .i64 0, .int .i64 z] 34 (0, 0)) ∧ Below lo wq w') → w'.cell? ⟨s, 1, none⟩ = some (.int .i64 id) ∧ w'.cell? ⟨s, 3, none⟩ = some (.int .i64 z)) := by
          rintro w' ⟨hs', _⟩
          exact ⟨by rw [cell_of_row w' s 1 _ _ (0, 0) hs']; rfl, by rw [cell_of_row w' s 3 _ _ (0, 0) hs']; rfl⟩
        go_wp2_with fail
        refine wp_region_held_drew (S := (fun w' => w'.heap[s]? = some (.cells #[.int .i64 1, .int .i64 id, .int .i64 0, .int .i64 z] 34 (0, 0)) ∧ Below lo wq w')) (by kernel_rfl) ⟨hsq, (Below.refl lo wq).drew⟩ (fun hHeld => ?_)
        refine tk (v := ?_) 0 50 HF rfl ?_ hHeld ?_
        rotate_left; · (intro _ _ _; go_simp; try with_reducible rfl)
        simp only [Act.put, p1, p2, p3]
        refine tk (v := ?_) 1 51 HF rfl ?_ hHeld ?_
        rotate_left; · (intro _ _ _; go_simp; try with_reducible rfl)
        simp only [Act.put, p1, p2, p3]
        refine tk (v := ?_) 5 55 HF rfl ?_ hHeld ?_
        rotate_left; · (intro _ _ _; go_simp; try with_reducible rfl)
        simp only [Act.put, p1, p2, p3]
        refine tk (v := ?_) 6 56 HF rfl ?_ hHeld ?_
        rotate_left; · (intro _ _ _; go_simp; try with_reducible rfl)
        simp only [Act.put, p1, p2, p3]
        refine tk (v := ?_) 8 58 HF rfl ?_ hHeld ?_
        rotate_left; · (intro _ _ _; go_simp; try with_reducible rfl)
        simp only [Act.put, p1, p2, p3]
        refine tk (v := ?_) 7 57 HF rfl ?_ hHeld ?_
        rotate_left; · (intro _ _ _; go_simp; try with_reducible rfl)
        simp only [Act.put, p1, p2, p3]
        refine tk (v := ?_) 9 59 HF rfl ?_ hHeld ?_
        rotate_left; · (intro _ _ _; go_simp; try with_reducible rfl)
        simp only [Act.put, p1, p2, p3]
        refine tk (v := ?_) 10 60 HF rfl ?_ hHeld ?_
        rotate_left; · (intro _ _ _; go_simp; try with_reducible rfl)
        simp only [Act.put, p1, p2, p3]
        refine tk (v := ?_) 2 52 HF rfl ?_ hHeld ?_
        rotate_left; · (intro _ _ _; go_simp; try with_reducible rfl)
        simp only [Act.put, p1, p2, p3]
        refine tk (v := ?_) 3 53 HF rfl ?_ hHeld ?_
        rotate_left; · (intro _ _ _; go_simp; try with_reducible rfl)
        simp only [Act.put, p1, p2, p3]
        refine wpAnyH_rdnew (fuel := 4) (i := 4) (j := 11) (di := 54) (dj := 61) (obj := (.cells #[.int .i64 id, .int .i64 z, .int .i64 0, .int .i64 0] 48)) (vi := .slice A' n c') (vj := .slice (some ⟨wq.drew.heap.size, 0, none⟩) 1 1) rfl rfl ⟨rfl, rfl⟩ ⟨rfl, rfl⟩ (by decide) (by decide) (by kernel_rfl) (by kernel_rfl) (by kernel_rfl) (by go_simp; try rfl) (by go_simp; try rfl) (by go_simp; try rfl) (by go_simp; try rfl) hHeld ⟨by rw [heap_alloc_old _ _ (show s < wq.drew.heap.size from lsq)]; exact hsq, hHeld.2.alloc (show lo ≤ wq.drew.heap.size from lwq) _⟩ ?_
        simp only [Act.put, p1, p2, p3]
        have hgW : (wq.drew.alloc (.cells #[.int .i64 id, .int .i64 z, .int .i64 0, .int .i64 0] 48)).heap[g]? = some (.cells #[.slice A' n c', .int .i64 I, .int .i64 H, .int .i64 S, .int .i64 P] 26 (0, 0)) := by rw [heap_alloc_old _ _ (show g < wq.drew.heap.size from lgq)]; exact hgq
        have hsW : (wq.drew.alloc (.cells #[.int .i64 id, .int .i64 z, .int .i64 0, .int .i64 0] 48)).heap[s]? = some (.cells #[.int .i64 1, .int .i64 id, .int .i64 0, .int .i64 z] 34 (0, 0)) := by rw [heap_alloc_old _ _ (show s < wq.drew.heap.size from lsq)]; exact hsq
        have hbW : Below wq.heap.size wq (wq.drew.alloc (.cells #[.int .i64 id, .int .i64 z, .int .i64 0, .int .i64 0] 48)) := ((Below.refl _ wq).drew).alloc (Nat.le_refl _) _
        have hOW := ownsRow_below hOq hbW
        have hvW : (wq.drew.alloc (.cells #[.int .i64 id, .int .i64 z, .int .i64 0, .int .i64 0] 48)).heap[wq.drew.heap.size]? = some (.cells #[.int .i64 id, .int .i64 z, .int .i64 0, .int .i64 0] 48) := heap_alloc_new _ _
        have hBW : Below lo wq (wq.drew.alloc (.cells #[.int .i64 id, .int .i64 z, .int .i64 0, .int .i64 0] 48)) := hbW.mono lwq
        have hzW : wq.heap.size < (wq.drew.alloc (.cells #[.int .i64 id, .int .i64 z, .int .i64 0, .int .i64 0] 48)).heap.size := by rw [World.size_alloc]; exact Nat.lt_succ_self _
        have hzq : wq.drew.heap.size = wq.heap.size := rfl
        rw [hzq] at hvW ⊢
        generalize wq.drew.alloc (.cells #[.int .i64 id, .int .i64 z, .int .i64 0, .int .i64 0] 48) = w3 at *
        clear hHeld HF e0 e1 e2 e3 e4 ef hzq
        have HO3 := Lib.hid hOW
        have HG3 := Lib.hid hgW
        have HS3 := Lib.hid hsW
        have HV3 := Lib.hid hvW
        clear hOW hgW hsW hvW hOq hgq hsq
        refine wpAnyH_ready (rs := [12]) (by kernel_rfl) (by simp) ?_
        refine AllReadyH.cons rfl (fun K hK => ?_) AllReadyH.nil
        have HK := Lib.hid hK
        clear hK
        go_simp
        go_at_call 57
        refine (InsertPan_any lo n k wq.heap.size 48 (.slice A' n c') (cellsL f n) [id, z, 0, 0] w3 HO3.out (by omega) hn (Nat.le_trans lwq (Nat.le_of_lt hzW)) rfl HV3.out (fun e => by have := (hloq _ e.symm).2; omega)).mono ?_
        rintro e w4 ⟨v', rfl, ho4, hgr4⟩
        obtain ⟨A2, c2, rfl, h1, h2⟩ := row_slice ho4
        have hg4 := (hgr4.block g (Array.getElem?_eq_some_iff.1 HG3.out).1 (fun e => row_none_ne HO3.out HG3.out (by decide) e.symm)).trans HG3.out
        have hs4 := (hgr4.block s (Array.getElem?_eq_some_iff.1 HS3.out).1 (fun e => row_none_ne HO3.out HS3.out (by decide) e.symm)).trans HS3.out
        have hB4 : Below lo wq w4 := hBW.grown hgr4 (Nat.le_trans lwq (Nat.le_of_lt hzW)) (fun j0 hj0 => (hloq j0 hj0).1)
        refine HK.out.out _ _ ⟨hs4, hB4⟩ (fun hHeld => ?_)
        clear HK K HO3 HG3 HS3 HV3 hgr4 hBW hbW
        try simp only [Act.put, List.setIfInBounds_toArray, List.set_cons_zero, List.set_cons_succ]
        have HF : Hid (∀ w', (w'.heap[s]? = some (.cells #[.int .i64 1, .int .i64 id, .int .i64 0, .int .i64 z] 34 (0, 0)) ∧ Below lo wq w') → True) := fun _ _ => trivial
        refine tk (v := ?_) 13 63 HF rfl ?_ hHeld ?_
        rotate_left; · (intro _ _ _; go_simp; try with_reducible rfl)
        simp only [Act.put, p1, p2, p3]
        refine tk (v := ?_) 14 64 HF rfl ?_ hHeld ?_
        rotate_left; · (intro _ _ _; go_simp; try with_reducible rfl)
        simp only [Act.put, p1, p2, p3]
        refine wpAnyH_store (fuel := 0) (i := 15) rfl (by kernel_rfl) g 0 (.slice A2 (n + 1) c2) 26 #[.slice A' n c', .int .i64 I, .int .i64 H, .int .i64 S, .int .i64 P] rfl rfl infoPans hg4 (Nat.le_add_left 1 4) (by simp [Value.cells, Value.oneCell']) (fun w' hg => ⟨(hg.block s (Array.getElem?_eq_some_iff.1 hs4).1 (by simp; omega)).trans hs4, hB4.grown hg (Nat.le_trans lwq hB4.size) (fun j0 hj0 => by cases hj0; omega)⟩) ?kba
        case kba =>
        intro w5 hh5 hg5' hS5
        refine wpAnyH_done (by kernel_rfl) ?_ _
        have hg5 : w5.heap[g]? = some (.cells #[.slice A2 (n + 1) c2, .int .i64 I, .int .i64 H, .int .i64 S, .int .i64 P] 26 (0, 0)) := hh5
        have hO5 := own_other ho4 hg4 (by decide) hg5'
        have hB5 := hBq.trans hS5.2
        clear hHeld HF hS5 hg5' hh5 hs4 hB4 ho4 hg4 hBq
        have HG5 := Lib.hid hg5
        have HO5 := Lib.hid hO5
        clear hg5 hO5
        go_wp2
        go_ret
        rw [HST.out]
        exact ⟨rfl, fun _ => ⟨A2, c2, HG5.out, h1, h2, HO5.out⟩, hB5⟩
    · have hkn : k = n := by omega
      subst hkn
      have hst : placeV f id k 0 = k := by rw [hpl, Nat.sub_self]; rfl
      have HST := Lib.hid hst
      have hki : ¬ ((k : Int) < (k : Int)) := by omega
      have hkdi : decide ((k : Int) < (k : Int)) = false := decide_eq_false hki
      clear hst hpl
      go_wp2_with fail
      go_quiet (fail)
      have hHeldq : Below wr.heap.size wr (wr.drewN nq) := below_drewN (Below.refl _ _) _
      generalize wr.drewN nq = wq at hHeldq ⊢
      have hbq : Below w2.heap.size w2 wq := hbel.trans (hHeldq.mono hbel.size)
      have hgq := (hbq.block g lgw2).trans HG2.out
      have hsq := (hbq.block s lsw2).trans HS2.out
      have hOq := ownsRow_below HO2.out hbq
      have hBq := below_of HB2.out hbq lw2
      have lwq : lo ≤ wq.heap.size := Nat.le_trans lw2 hbq.size
      have lgq := (Array.getElem?_eq_some_iff.1 hgq).1
      have lsq := (Array.getElem?_eq_some_iff.1 hsq).1
      have hloq : ∀ j0 : Nat, (Value.slice A' k c').ownBlock = some j0 → lo ≤ j0 ∧ j0 < wq.heap.size := fun j0 e => World.ownsRow.lt hOq j0 e
      clear hHeldq hbq e0 e1 e2 e3 e4 ef s0 s1 s2 s3 hgr hsr
      obtain ⟨e0, e1, e2, e3, e4⟩ := cells5 hgq
      have ef : ∀ j, wq.frozen? ⟨g, j, none⟩ = false := fun j => frozen_of_row wq g j _ _ hgq
      have HF : Hid (∀ w', (w'.heap[s]? = some (.cells #[.int .i64 1, .int .i64 id, .int .i64 0, .int .i64 z] 34 (0, 0)) ∧ Below lo wq w') → w'.cell? ⟨s, 1, none⟩ = some (.int .i64 id) ∧ w'.cell? ⟨s, 3, none⟩ = some (.int .i64 z)) := by
        rintro w' ⟨hs', _⟩
        exact ⟨by rw [cell_of_row w' s 1 _ _ (0, 0) hs']; rfl, by rw [cell_of_row w' s 3 _ _ (0, 0) hs']; rfl⟩
      go_wp2_with fail
      refine wp_region_held_drew (S := (fun w' => w'.heap[s]? = some (.cells #[.int .i64 1, .int .i64 id, .int .i64 0, .int .i64 z] 34 (0, 0)) ∧ Below lo wq w')) (by kernel_rfl) ⟨hsq, (Below.refl lo wq).drew⟩ (fun hHeld => ?_)
      refine tk (v := ?_) 0 50 HF rfl ?_ hHeld ?_
      rotate_left; · (intro _ _ _; go_simp; try with_reducible rfl)
      simp only [Act.put, p1, p2, p3]
      refine tk (v := ?_) 1 51 HF rfl ?_ hHeld ?_
      rotate_left; · (intro _ _ _; go_simp; try with_reducible rfl)
      simp only [Act.put, p1, p2, p3]
      refine tk (v := ?_) 5 55 HF rfl ?_ hHeld ?_
      rotate_left; · (intro _ _ _; go_simp; try with_reducible rfl)
      simp only [Act.put, p1, p2, p3]
      refine tk (v := ?_) 6 56 HF rfl ?_ hHeld ?_
      rotate_left; · (intro _ _ _; go_simp; try with_reducible rfl)
      simp only [Act.put, p1, p2, p3]
      refine tk (v := ?_) 8 58 HF rfl ?_ hHeld ?_
      rotate_left; · (intro _ _ _; go_simp; try with_reducible rfl)
      simp only [Act.put, p1, p2, p3]
      refine tk (v := ?_) 7 57 HF rfl ?_ hHeld ?_
      rotate_left; · (intro _ _ _; go_simp; try with_reducible rfl)
      simp only [Act.put, p1, p2, p3]
      refine tk (v := ?_) 9 59 HF rfl ?_ hHeld ?_
      rotate_left; · (intro _ _ _; go_simp; try with_reducible rfl)
      simp only [Act.put, p1, p2, p3]
      refine tk (v := ?_) 10 60 HF rfl ?_ hHeld ?_
      rotate_left; · (intro _ _ _; go_simp; try with_reducible rfl)
      simp only [Act.put, p1, p2, p3]
      refine tk (v := ?_) 2 52 HF rfl ?_ hHeld ?_
      rotate_left; · (intro _ _ _; go_simp; try with_reducible rfl)
      simp only [Act.put, p1, p2, p3]
      refine tk (v := ?_) 3 53 HF rfl ?_ hHeld ?_
      rotate_left; · (intro _ _ _; go_simp; try with_reducible rfl)
      simp only [Act.put, p1, p2, p3]
      refine wpAnyH_rdnew (fuel := 4) (i := 4) (j := 11) (di := 54) (dj := 61) (obj := (.cells #[.int .i64 id, .int .i64 z, .int .i64 0, .int .i64 0] 48)) (vi := .slice A' k c') (vj := .slice (some ⟨wq.drew.heap.size, 0, none⟩) 1 1) rfl rfl ⟨rfl, rfl⟩ ⟨rfl, rfl⟩ (by decide) (by decide) (by kernel_rfl) (by kernel_rfl) (by kernel_rfl) (by go_simp; try rfl) (by go_simp; try rfl) (by go_simp; try rfl) (by go_simp; try rfl) hHeld ⟨by rw [heap_alloc_old _ _ (show s < wq.drew.heap.size from lsq)]; exact hsq, hHeld.2.alloc (show lo ≤ wq.drew.heap.size from lwq) _⟩ ?_
      simp only [Act.put, p1, p2, p3]
      have hgW : (wq.drew.alloc (.cells #[.int .i64 id, .int .i64 z, .int .i64 0, .int .i64 0] 48)).heap[g]? = some (.cells #[.slice A' k c', .int .i64 I, .int .i64 H, .int .i64 S, .int .i64 P] 26 (0, 0)) := by rw [heap_alloc_old _ _ (show g < wq.drew.heap.size from lgq)]; exact hgq
      have hsW : (wq.drew.alloc (.cells #[.int .i64 id, .int .i64 z, .int .i64 0, .int .i64 0] 48)).heap[s]? = some (.cells #[.int .i64 1, .int .i64 id, .int .i64 0, .int .i64 z] 34 (0, 0)) := by rw [heap_alloc_old _ _ (show s < wq.drew.heap.size from lsq)]; exact hsq
      have hbW : Below wq.heap.size wq (wq.drew.alloc (.cells #[.int .i64 id, .int .i64 z, .int .i64 0, .int .i64 0] 48)) := ((Below.refl _ wq).drew).alloc (Nat.le_refl _) _
      have hOW := ownsRow_below hOq hbW
      have hvW : (wq.drew.alloc (.cells #[.int .i64 id, .int .i64 z, .int .i64 0, .int .i64 0] 48)).heap[wq.drew.heap.size]? = some (.cells #[.int .i64 id, .int .i64 z, .int .i64 0, .int .i64 0] 48) := heap_alloc_new _ _
      have hBW : Below lo wq (wq.drew.alloc (.cells #[.int .i64 id, .int .i64 z, .int .i64 0, .int .i64 0] 48)) := hbW.mono lwq
      have hzW : wq.heap.size < (wq.drew.alloc (.cells #[.int .i64 id, .int .i64 z, .int .i64 0, .int .i64 0] 48)).heap.size := by rw [World.size_alloc]; exact Nat.lt_succ_self _
      have hzq : wq.drew.heap.size = wq.heap.size := rfl
      rw [hzq] at hvW ⊢
      generalize wq.drew.alloc (.cells #[.int .i64 id, .int .i64 z, .int .i64 0, .int .i64 0] 48) = w3 at *
      clear hHeld HF e0 e1 e2 e3 e4 ef hzq
      have HO3 := Lib.hid hOW
      have HG3 := Lib.hid hgW
      have HS3 := Lib.hid hsW
      have HV3 := Lib.hid hvW
      clear hOW hgW hsW hvW hOq hgq hsq
      refine wpAnyH_ready (rs := [12]) (by kernel_rfl) (by simp) ?_
      refine AllReadyH.cons rfl (fun K hK => ?_) AllReadyH.nil
      have HK := Lib.hid hK
      clear hK
      go_simp
      go_at_call 57
      refine (InsertPan_any lo k k wq.heap.size 48 (.slice A' k c') (cellsL f k) [id, z, 0, 0] w3 HO3.out (by omega) hn (Nat.le_trans lwq (Nat.le_of_lt hzW)) rfl HV3.out (fun e => by have := (hloq _ e.symm).2; omega)).mono ?_
      rintro e w4 ⟨v', rfl, ho4, hgr4⟩
      obtain ⟨A2, c2, rfl, h1, h2⟩ := row_slice ho4
      have hg4 := (hgr4.block g (Array.getElem?_eq_some_iff.1 HG3.out).1 (fun e => row_none_ne HO3.out HG3.out (by decide) e.symm)).trans HG3.out
      have hs4 := (hgr4.block s (Array.getElem?_eq_some_iff.1 HS3.out).1 (fun e => row_none_ne HO3.out HS3.out (by decide) e.symm)).trans HS3.out
      have hB4 : Below lo wq w4 := hBW.grown hgr4 (Nat.le_trans lwq (Nat.le_of_lt hzW)) (fun j0 hj0 => (hloq j0 hj0).1)
      refine HK.out.out _ _ ⟨hs4, hB4⟩ (fun hHeld => ?_)
      clear HK K HO3 HG3 HS3 HV3 hgr4 hBW hbW
      try simp only [Act.put, List.setIfInBounds_toArray, List.set_cons_zero, List.set_cons_succ]
      have HF : Hid (∀ w', (w'.heap[s]? = some (.cells #[.int .i64 1, .int .i64 id, .int .i64 0, .int .i64 z] 34 (0, 0)) ∧ Below lo wq w') → True) := fun _ _ => trivial
      refine tk (v := ?_) 13 63 HF rfl ?_ hHeld ?_
      rotate_left; · (intro _ _ _; go_simp; try with_reducible rfl)
      simp only [Act.put, p1, p2, p3]
      refine tk (v := ?_) 14 64 HF rfl ?_ hHeld ?_
      rotate_left; · (intro _ _ _; go_simp; try with_reducible rfl)
      simp only [Act.put, p1, p2, p3]
      refine wpAnyH_store (fuel := 0) (i := 15) rfl (by kernel_rfl) g 0 (.slice A2 (k + 1) c2) 26 #[.slice A' k c', .int .i64 I, .int .i64 H, .int .i64 S, .int .i64 P] rfl rfl infoPans hg4 (Nat.le_add_left 1 4) (by simp [Value.cells, Value.oneCell']) (fun w' hg => ⟨(hg.block s (Array.getElem?_eq_some_iff.1 hs4).1 (by simp; omega)).trans hs4, hB4.grown hg (Nat.le_trans lwq hB4.size) (fun j0 hj0 => by cases hj0; omega)⟩) ?kbb
      case kbb =>
      intro w5 hh5 hg5' hS5
      refine wpAnyH_done (by kernel_rfl) ?_ _
      have hg5 : w5.heap[g]? = some (.cells #[.slice A2 (k + 1) c2, .int .i64 I, .int .i64 H, .int .i64 S, .int .i64 P] 26 (0, 0)) := hh5
      have hO5 := own_other ho4 hg4 (by decide) hg5'
      have hB5 := hBq.trans hS5.2
      clear hHeld HF hS5 hg5' hh5 hs4 hB4 ho4 hg4 hBq
      have HG5 := Lib.hid hg5
      have HO5 := Lib.hid hO5
      clear hg5 hO5
      go_wp2
      go_ret
      rw [HST.out]
      exact ⟨rfl, fun _ => ⟨A2, c2, HG5.out, h1, h2, HO5.out⟩, hB5⟩
end Go.Proofs.YtjkockhldaacbaaDoor
