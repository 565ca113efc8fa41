/-
  The program's step of one pan.
-/
import Derived.Test.YtjkockhldaacbaaDoorPk1
import Derived.Test.YtjkockhldaacbaaDoorStepS
import Derived.Test.YtjkockhldaacbaaDoorPutRow
namespace Go.Proofs.YtjkockhldaacbaaDoor
open Go.RowKit Go.Sort
set_option linter.unusedVariables false
set_option linter.unusedSimpArgs false
attribute [local go_sem ↓] Go.wp_at_zero Go.wp_at_succ
/-- Works in block g over a row in block ga. -/
def BoxRow (w : World) (lo g ga n c' : Nat) (L : List Int) (I H S P : Int) : Prop :=
  w.heap[g]? = some (.cells #[.slice (some ⟨ga, 0, none⟩) n c', .int .i64 I, .int .i64 H, .int .i64 S, .int .i64 P] 26 (0, 0)) ∧ w.ownsRow lo 48 4 (.slice (some ⟨ga, 0, none⟩) n c') n (L.map (Value.int .i64))
theorem infoIntS : (Tryd.prog.info? 3).map (·.size) = some 1 := by kernel_rfl
theorem putRow_one (cur : Array Value) (o : Nat) (a : Value) (h : o + 1 ≤ cur.size) : putRow cur o #[a] = cur.setIfInBounds o a := by
  apply Array.ext'
  simp only [putRow, Array.toList_setIfInBounds]
  apply List.ext_getElem?
  intro j
  have hl : (cur.toList.take o).length = o := by simp; omega
  simp only [List.getElem?_set, Array.length_toList]
  by_cases h1 : j < o
  · rw [List.append_assoc, List.getElem?_append_left (by omega), List.getElem?_take_of_lt h1, if_neg (by omega)]
  · rw [List.append_assoc, List.getElem?_append_right (by omega), hl]
    by_cases h2 : j = o
    · subst h2
      rw [if_pos rfl, if_pos (by omega)]
      simp
    · rw [List.getElem?_append_right (by simp; omega), if_neg (by omega), List.getElem?_drop]
      congr 1
      simp
      omega
theorem row_open1 {w : World} {base k n c g : Nat} {e : TypeId} {xs : List Value} (h : w.ownsRow base e k (.slice (some ⟨g, 0, none⟩) n c) n xs) : ∃ cur, w.heap[g]? = some (.cells cur e (0, 0)) ∧ n * k ≤ cur.size ∧
    ∀ (w' : World) (j : Nat) (u : Value), w'.heap[g]? = some (.cells (cur.setIfInBounds j u) e (0, 0)) → w'.ownsRow base e k (.slice (some ⟨g, 0, none⟩) n c) n (xs.set j u) := by
  rcases h.2 with ⟨h', _⟩ | ⟨g', cap', cur, h', hb, hg, hnc, hcm, hcs, htake⟩
  · cases h'
  · cases h'
    refine ⟨cur, hg, by rw [hcs]; exact Nat.mul_le_mul_right k hnc, fun w' j u hw => ⟨by simpa using h.1, .inr ⟨g, c, _, rfl, hb, hw, hnc, hcm, by simpa using hcs, ?_⟩⟩⟩
    rw [Array.toList_setIfInBounds, ← htake, List.take_set]
theorem cellsL_congr {f g : Nat → Int} {n : Nat} (h : ∀ j, j < n * 4 → f j = g j) : cellsL f n = cellsL g n := by
  unfold cellsL
  exact List.map_congr_left (fun j hj => h j (List.mem_range.1 hj))
theorem dryL (f : Nat → Int) (n i : Nat) (hi : i < n) (z : Int) : cellsL (setB f i (wrap64 (f (i * 4 + 2) - z)) (f (i * 4 + 3))) n = cellsL (upd f (i * 4 + 2) (wrap64 (f (i * 4 + 2) - z))) n := by
  apply cellsL_congr
  intro j _
  simp only [setB, upd]
  by_cases h : j = i * 4 + 3 <;> simp [h]
theorem rakeL (f : Nat → Int) (n i : Nat) (hi : i < n) (z : Int) : cellsL (setB f i (f (i * 4 + 2)) (wrap64 (f (i * 4 + 3) - z))) n = cellsL (upd f (i * 4 + 2 + 1) (wrap64 (f (i * 4 + 3) - z))) n := by
  apply cellsL_congr
  intro j _
  simp only [setB, upd]
  by_cases h : j = i * 4 + 2
  · subst h; simp
  · simp [h]
set_option maxRecDepth 100000 in
theorem plus_any (wa sa wb sb : Int) (w : World) :
    Calls Tryd.prog 75 #[.agg #[.int .i64 wa, .int .i64 sa], .agg #[.int .i64 wb, .int .i64 sb]] w fun e w' => e = .returned (.agg #[.int .i64 (wrap64 (wa + wb)), .int .i64 (wrap64 (sa + sb))]) ∧ Below w.heap.size w w' := by
  go_enter Tryd.func75, Tryd.ntmps75
  go_wp2
  go_returns
  exact ⟨rfl, (((Below.refl _ w).alloc (Nat.le_refl _) _).alloc (by simp) _).alloc (by simp; omega) _⟩
set_option maxRecDepth 100000 in
theorem minus_any (wa sa wb sb : Int) (w : World) :
    Calls Tryd.prog 77 #[.agg #[.int .i64 wa, .int .i64 sa], .agg #[.int .i64 wb, .int .i64 sb]] w fun e w' => e = .returned (.agg #[.int .i64 (wrap64 (wa - wb)), .int .i64 (wrap64 (sa - sb))]) ∧ Below w.heap.size w w' := by
  go_enter Tryd.func77, Tryd.ntmps77
  go_wp2
  go_returns
  exact ⟨rfl, (((Below.refl _ w).alloc (Nat.le_refl _) _).alloc (by simp) _).alloc (by simp; omega) _⟩
set_option maxRecDepth 100000 in
theorem part_any (wt s z : Int) (w : World) (hz : z ≠ 0) (hm : massV wt s ≠ 0) :
    Calls Tryd.prog 76 #[.agg #[.int .i64 wt, .int .i64 s], .int .i64 z] w fun e w' => e = .returned (.agg #[.int .i64 (wrap64 (z - (partV wt s z))), .int .i64 (partV wt s z)]) ∧ Below w.heap.size w w' := by
  have HF : Hid (∀ w', Below ((w.alloc (.cells #[.int .i64 wt, .int .i64 s] 46)).alloc (.cells #[.int .i64 0, .int .i64 0] 46)).heap.size ((w.alloc (.cells #[.int .i64 wt, .int .i64 s] 46)).alloc (.cells #[.int .i64 0, .int .i64 0] 46)) w' → w'.cell? ⟨w.heap.size, 0, none⟩ = some (.int .i64 wt) ∧ w'.cell? ⟨w.heap.size, 1, none⟩ = some (.int .i64 s)) := fun w' hq => ⟨(hq.cell (p := ⟨w.heap.size, 0, none⟩) (by simp; omega)).trans (by go_simp), (hq.cell (p := ⟨w.heap.size, 1, none⟩) (by simp; omega)).trans (by go_simp)⟩
  have HV : Hid (IntKind.i64.wrap ((IntKind.i64.wrap (s * z)).tdiv (massV wt s)) = (partV wt s z)) := by
    show _ = _
    rw [IntWalk.i64_left, IntWalk.i64_left]
    rfl
  go_enter Tryd.func76, Tryd.ntmps76
  have hz0 : (z == 0) = false := by simp [hz]
  go_wp2_with fail
  refine wp_region_held_drew (S := fun w' => Below (((w.alloc (.cells #[.int .i64 wt, .int .i64 s] 46)).alloc (.cells #[.int .i64 0, .int .i64 0] 46))).heap.size (((w.alloc (.cells #[.int .i64 wt, .int .i64 s] 46)).alloc (.cells #[.int .i64 0, .int .i64 0] 46))) w') (by kernel_rfl) ((Below.refl _ _).drew) (fun hHeld => ?_)
  refine tk (v := ?_) 0 9 HF rfl ?_ hHeld ?_
  rotate_left; · (intro _ _ _; go_simp; try with_reducible rfl)
  simp only [Act.put, p1, p2, p3]
  refine tk (v := ?_) 1 10 HF rfl ?_ hHeld ?_
  rotate_left; · (intro _ _ _; go_simp; try with_reducible rfl)
  simp only [Act.put, p1, p2, p3]
  refine tk (v := ?_) 2 11 HF rfl ?_ hHeld ?_
  rotate_left; · (intro _ _ _; go_simp; try with_reducible rfl)
  simp only [Act.put, p1, p2, p3]
  refine tk (v := ?_) 3 12 HF rfl ?_ hHeld ?_
  rotate_left; · (intro _ _ _; go_simp; try with_reducible rfl)
  simp only [Act.put, p1, p2, p3]
  refine tk (v := ?_) 4 13 HF rfl ?_ hHeld ?_
  rotate_left; · (intro _ _ _; go_simp; try with_reducible rfl)
  simp only [Act.put, p1, p2, p3]
  refine wpAnyH_ready (rs := [5]) (by kernel_rfl) (by simp) ?_
  refine AllReadyH.cons rfl (fun K hK => ?_) AllReadyH.nil
  go_simp
  (go_at_call 33; refine (mass_any _ _ _).mono ?_; rintro e w2 ⟨rfl, hb2⟩)
  refine hK.out _ _ (hHeld.trans (hb2.mono hHeld.size)) (fun hHeld => ?_)
  clear hK K hb2
  refine tk (v := ?_) 6 15 HF rfl ?_ hHeld ?_
  rotate_left; · (intro _ _ _; go_simp; try with_reducible rfl)
  simp only [Act.put, p1, p2, p3]
  refine tk (v := ?_) 7 5 HF rfl ?_ hHeld ?_
  rotate_left; · (intro _ _ _; go_simp; try with_reducible rfl)
  simp only [Act.put, p1, p2, p3]
  refine wpAnyH_done (by kernel_rfl) ?_ _
  have r0 := (hHeld.cell (p := ⟨w.heap.size + 1, 0, none⟩) (by simp)).trans (by go_simp : _ = some (.int .i64 0))
  have r1 := (hHeld.cell (p := ⟨w.heap.size + 1, 1, none⟩) (by simp)).trans (by go_simp : _ = some (.int .i64 0))
  have f0 : w2.frozen? ⟨w.heap.size + 1, 0, none⟩ = false := (hHeld.frozen (p := ⟨w.heap.size + 1, 0, none⟩) (by simp)).trans (by go_simp)
  have f1 : w2.frozen? ⟨w.heap.size + 1, 1, none⟩ = false := (hHeld.frozen (p := ⟨w.heap.size + 1, 1, none⟩) (by simp)).trans (by go_simp)
  have BX : Below w.heap.size w w2 := (((Below.refl _ w).alloc (Nat.le_refl _) _).alloc (by simp) _).trans (hHeld.mono (by simp; omega))
  clear hHeld HF
  generalize IntKind.i64.wrap ((IntKind.i64.wrap (s * z)).tdiv (massV wt s)) = sv at *
  go_wp2
  obtain ⟨wq, hwq⟩ : ∃ wq, wq = ((w2.setCell ⟨w.heap.size + 1, 0, none⟩ (.int .i64 (wrap64 (z - sv)))).setCell ⟨w.heap.size + 1, 1, none⟩ (.int .i64 sv)) := ⟨_, rfl⟩
  rw [← hwq]
  have q0 : wq.cell? ⟨w.heap.size + 1, 0, none⟩ = some (.int .i64 (wrap64 (z - sv))) := by rw [hwq]; go_simp
  have q1 : wq.cell? ⟨w.heap.size + 1, 1, none⟩ = some (.int .i64 sv) := by rw [hwq]; go_simp
  have hBq : Below w.heap.size w wq := by
    rw [hwq]
    exact (BX.setCell (show w.heap.size ≤ w.heap.size + 1 by omega) _).setCell (show w.heap.size ≤ w.heap.size + 1 by omega) _
  clear hwq
  try simp only [Exit.inBlock, Exit.then]
  refine bodyPost_ret (by simp [results, Tryd.results76, go_sem, q0, q1]; try rfl) rfl ?_
  rw [← HV.out]
  exact ⟨rfl, hBq⟩
set_option maxRecDepth 100000 in
set_option maxHeartbeats 2000000 in
theorem stepPan_take (g ga lo n c' : Nat) (f : Nat → Int) (I H S P : Int) (id tt0 z : Int) (i : Nat) (hi' : i < n) (hn : n ≤ 1000) (w : World) (hg : w.heap[g]? = some (.cells #[.slice (some ⟨ga, 0, none⟩) n c', .int .i64 I, .int .i64 H, .int .i64 S, .int .i64 P] 26 (0, 0))) (hO : w.ownsRow lo 48 4 (.slice (some ⟨ga, 0, none⟩) n c') n ((cellsL f n).map (Value.int .i64))) (hlo : lo ≤ g) :
    Calls Tryd.prog 59 #[.pointer (some ⟨g, 0, none⟩), .int .i64 i, .agg #[.int .i64 2, .int .i64 id, .int .i64 tt0, .int .i64 z]] w (fun e w' => e = .returned (.bool true) ∧ (true = true → BoxRow w' lo g ga n c' (cellsL (setB f i (wrap64 (f (i * 4 + 2) + wrap64 (z - takeV z))) (wrap64 (f (i * 4 + 3) + takeV z))) n) (wrap64 (I + takeV z)) H S P) ∧ Below lo w w') := by
  go_enter Tryd.func59, Tryd.ntmps59
  have nga : ga ≠ g := by
    intro e
    subst e
    exact row_ne hO hg (by decide)
  have lg : g < w.heap.size := (Array.getElem?_eq_some_iff.1 hg).1
  have lga := World.ownsRow.lt hO ga rfl
  have hnc : n ≤ c' ∧ c' ≤ maxLen := by
    obtain ⟨_, _, e, h1, h2⟩ := row_slice hO
    cases e
    exact ⟨h1, h2⟩
  have hncI : (n : Int) ≤ (c' : Int) := by omega
  have hi0 : (0 : Int) ≤ (i : Int) := by omega
  have hin : (i : Int) < (n : Int) := by omega
  go_upto_region 1 with fail
  refine name_wp ?_
  intro w1 hw1
  have hb1 : Below w.heap.size w w1 := by rw [hw1]; exact (Below.refl _ w).alloc (Nat.le_refl _) _
  have hs1 : w1.heap[w.heap.size]? = some (.cells #[.int .i64 2, .int .i64 id, .int .i64 tt0, .int .i64 z] 34) := by rw [hw1]; exact heap_alloc_new w _
  have hg1 := (hb1.block g lg).trans hg
  have hO1 := ownsRow_below hO hb1
  have hB1 : Below lo w w1 := hb1.mono (by omega)
  clear hw1 hg hO hb1
  have lg1 := (Array.getElem?_eq_some_iff.1 hg1).1
  have ls1 := (Array.getElem?_eq_some_iff.1 hs1).1
  have lw1 : lo ≤ w1.heap.size := by omega
  obtain ⟨s, hs⟩ : ∃ s, s = w.heap.size := ⟨_, rfl⟩
  rw [← hs] at hs1 lg lga ls1
  have ngs : g ≠ s := by omega
  have nsg : s ≠ g := by omega
  have nas : ga ≠ s := by omega
  have nsa : s ≠ ga := by omega
  have nga' : g ≠ ga := Ne.symm nga
  have hles : lo ≤ s := by omega
  have HS0 := Lib.hid hs
  clear hs
  obtain ⟨s0, s1, s2, s3⟩ := cells4 hs1
  obtain ⟨e0, e1, e2, e3, e4⟩ := cells5 hg1
  have ef : ∀ j, w1.frozen? ⟨g, j, none⟩ = false := fun j => frozen_of_row w1 g j _ _ hg1
  have a2 : w1.cell? ⟨ga, i * 4 + 2, none⟩ = some (.int .i64 (f (i * 4 + 2))) := by rw [World.ownsRow.cellAt hO1 (i * 4 + 2) (by omega), List.getElem?_map, cellsL_at f n _ (by omega)]; rfl
  have a3 : w1.cell? ⟨ga, i * 4 + 3, none⟩ = some (.int .i64 (f (i * 4 + 3))) := by rw [World.ownsRow.cellAt hO1 (i * 4 + 3) (by omega), List.getElem?_map, cellsL_at f n _ (by omega)]; rfl
  have af : ∀ j, w1.frozen? ⟨ga, j, none⟩ = false := fun j => World.ownsRow.frozenAt hO1 j
  have HG1 := Lib.hid hg1
  have HO1 := Lib.hid hO1
  have HB1 := Lib.hid hB1
  clear hg1 hO1 hB1 hs1
  have hszS : w.heap.size = s := HS0.out.symm
  rw [hszS]
  clear hszS
  have HBS := HB1
  go_wp2_with fail
  generalize hsv : wrap64 ((wrap64 (z * 35)).tdiv 1000) = sv at *
  have HSV : Hid (takeV z = sv) := hsv
  clear hsv
  obtain ⟨cur, hcur, hcs, hput⟩ := row_open HO1.out
  have hfit : i * 4 + 2 + 2 ≤ cur.size := by omega
  have HF : Hid (∀ w', w1.grownBy w' (some ga) → w'.cell? ⟨s, 3, none⟩ = some (.int .i64 z) ∧ w'.cell? ⟨g, 1, none⟩ = some (.int .i64 I)) := by
    intro w' hq
    exact ⟨(World.cell?_of_block (a := ⟨s, 3, none⟩) (hq.block _ (World.block_lt_of_cell? _ _ s3) (by simp; omega))).trans s3, (World.cell?_of_block (a := ⟨g, 1, none⟩) (hq.block _ (World.block_lt_of_cell? _ _ e1) (by simp; omega))).trans e1⟩
  refine wp_region_held_drew (S := fun w' => w1.grownBy w' (some ga)) (by kernel_rfl) ⟨rfl, rfl, rfl, Nat.le_refl _, fun _ _ _ => rfl⟩ (fun hHeld => ?_)
  refine tk (v := ?_) 0 26 HF rfl ?_ hHeld ?_
  rotate_left; · (intro _ _ _; go_simp; try with_reducible rfl)
  simp only [Act.put, p1, p2, p3]
  refine tk (v := ?_) 1 27 HF rfl ?_ hHeld ?_
  rotate_left; · (intro _ _ _; go_simp; try with_reducible rfl)
  simp only [Act.put, p1, p2, p3]
  refine tk (v := ?_) 5 31 HF rfl ?_ hHeld ?_
  rotate_left; · (intro _ _ _; go_simp; try with_reducible rfl)
  simp only [Act.put, p1, p2, p3]
  refine tk (v := ?_) 7 33 HF rfl ?_ hHeld ?_
  rotate_left; · (intro _ _ _; go_simp; try with_reducible rfl)
  simp only [Act.put, p1, p2, p3]
  refine tk (v := ?_) 9 35 HF rfl ?_ hHeld ?_
  rotate_left; · (intro _ _ _; go_simp; try with_reducible rfl)
  simp only [Act.put, p1, p2, p3]
  refine tk (v := ?_) 2 28 HF rfl ?_ hHeld ?_
  rotate_left; · (intro _ _ _; go_simp; try with_reducible rfl)
  simp only [Act.put, p1, p2, p3]
  refine tk (v := ?_) 6 32 HF rfl ?_ hHeld ?_
  rotate_left; · (intro _ _ _; go_simp; try with_reducible rfl)
  simp only [Act.put, p1, p2, p3]
  refine tk (v := ?_) 3 29 HF rfl ?_ hHeld ?_
  rotate_left; · (intro _ _ _; go_simp; try with_reducible rfl)
  simp only [Act.put, p1, p2, p3]
  refine tk (v := ?_) 8 34 HF rfl ?_ hHeld ?_
  rotate_left; · (intro _ _ _; go_simp; try with_reducible rfl)
  simp only [Act.put, p1, p2, p3]
  refine tk (v := ?_) 10 36 HF rfl ?_ hHeld ?_
  rotate_left; · (intro _ _ _; go_simp; try with_reducible rfl)
  simp only [Act.put, p1, p2, p3]
  refine wpAnyH_ready (rs := [4]) (by kernel_rfl) (by simp) ?_
  refine AllReadyH.cons rfl (fun K hK => ?_) AllReadyH.nil
  go_simp
  refine hK.out _ _ hHeld (fun hHeld => ?_)
  clear hK K
  refine wpAnyH_job (fuel := 3) (i := 11) (d := 37) (skip := []) (Post := fun v _ => v = (.agg #[.int .i64 (wrap64 (f (i * 4 + 2) + wrap64 (z - sv))), .int .i64 (wrap64 (f (i * 4 + 3) + sv))])) rfl rfl (by kernel_rfl) ?jt but_stays hHeld ?nt
  case jt =>
    intro a' w1' K hev hb hK
    have h1 : a'.eval (.tmp 30) = .agg #[.int .i64 (f (i * 4 + 2)), .int .i64 (f (i * 4 + 3))] := (hev 30 (by decide)).trans rfl
    have h2 : a'.tmps[30]?.getD undef = .agg #[.int .i64 (f (i * 4 + 2)), .int .i64 (f (i * 4 + 3))] := by simpa [Act.eval] using h1
    have h3 : a'.eval (.tmp 36) = .agg #[.int .i64 (IntKind.i64.wrap (z - sv)), .int .i64 sv] := (hev 36 (by decide)).trans rfl
    rw [IntWalk.i64_left] at h3
    have h4 : a'.tmps[36]?.getD undef = .agg #[.int .i64 (wrap64 (z - sv)), .int .i64 sv] := by simpa [Act.eval] using h3
    have HK := Lib.hid hK
    clear hev h1 h3 hK HF
    go_simp
    go_at_call 75
    refine (plus_any _ _ _ _ w1').mono ?_
    rintro e w2' ⟨rfl, hb2⟩
    exact HK.out _ w2' rfl hb2
  case nt =>
  rintro v wl rfl hSl hbl
  simp only [Act.put, p1, p2, p3]
  have hHeld := hSl
  refine tk (v := ?_) 12 38 HF rfl ?_ hHeld ?_
  rotate_left; · (intro _ _ _; go_simp; try with_reducible rfl)
  simp only [Act.put, p1, p2, p3]
  refine tk (v := ?_) 13 39 HF rfl ?_ hHeld ?_
  rotate_left; · (intro _ _ _; go_simp; try with_reducible rfl)
  simp only [Act.put, p1, p2, p3]
  have hcurl : wl.heap[ga]? = some (.cells cur 48) := (hbl.block ga (Array.getElem?_eq_some_iff.1 hcur).1).trans hcur
  refine wpAnyH_store (fuel := 0) (i := 14) rfl (by kernel_rfl) ga (i * 4 + 2) (.agg #[.int .i64 (wrap64 (f (i * 4 + 2) + wrap64 (z - sv))), .int .i64 (wrap64 (f (i * 4 + 3) + sv))]) 48 cur rfl rfl infoBrine hcurl hfit (by simp [Value.cells, Value.oneCell']) (fun w' hg => grown_trans hSl hg) ?ku
  case ku =>
  intro w2 hhw2 hgw2 hSw2
  refine wpAnyH_done (by kernel_rfl) ?_ _
  rw [show putRow cur (i * 4 + 2) ((.agg #[.int .i64 (wrap64 (f (i * 4 + 2) + wrap64 (z - sv))), .int .i64 (wrap64 (f (i * 4 + 3) + sv))]) : Value).cells = _ from putRow_two cur _ _ _ hfit] at hhw2
  have hOw2 := hput w2 (i * 4 + 2) _ _ hhw2
  rw [cellsL_set, cellsL_set] at hOw2
  have hg2 := (hSw2.block g (Array.getElem?_eq_some_iff.1 HG1.out).1 (by simp; omega)).trans HG1.out
  have hB2 := HB1.out.grown hSw2 lw1 (fun k hk => by cases hk; omega)
  clear hHeld HF hSw2 hgw2 hhw2 hSl hbl hcurl hcur hput hcs hfit e0 e1 e2 e3 e4 ef a2 a3 af HO1 HG1 s0 s1 s2 s3

  obtain ⟨e0, e1, e2, e3, e4⟩ := cells5 hg2
  have ef : ∀ j, w2.frozen? ⟨g, j, none⟩ = false := fun j => frozen_of_row w2 g j _ _ hg2
  have HG2 := Lib.hid hg2
  have HO2 := Lib.hid hOw2
  have HB2 := Lib.hid hB2
  clear hg2 hOw2 hB2
  go_upto_region 7 with fail
  refine name_wp ?_
  intro w3 hw3'
  have hw3 : w3 = w2.setCell ⟨g, 1, none⟩ (.int .i64 (wrap64 (I + sv))) := hw3'
  clear hw3' e0 e1 e2 e3 e4 ef
  have hg3 : w3.heap[g]? = some (.cells #[.slice (some ⟨ga, 0, none⟩) n c', .int .i64 (wrap64 (I + sv)), .int .i64 H, .int .i64 S, .int .i64 P] 26) := by
    rw [hw3]
    exact heap_setCell_same _ g 1 #[.slice (some ⟨ga, 0, none⟩) n c', .int .i64 I, .int .i64 H, .int .i64 S, .int .i64 P] 26 _ HG2.out
  have hO3 := ownsRow_setCell_other (a := ⟨g, 1, none⟩) HO2.out (by simp [Value.ownBlock, nga]) (.int .i64 (wrap64 (I + sv)))
  rw [← hw3] at hO3
  have hB3 : Below lo w w3 := by
    rw [hw3]
    exact HB2.out.setCell (p := ⟨g, 1, none⟩) (show lo ≤ g by omega) _
  clear hw3 HG2 HO2 HB2
  go_wp2
  go_ret
  exact ⟨rfl, fun _ => by rw [HSV.out]; exact ⟨hg3, hO3⟩, hB3⟩
set_option maxRecDepth 100000 in
set_option maxHeartbeats 2000000 in
theorem stepPan_dry (g ga lo n c' : Nat) (f : Nat → Int) (I H S P : Int) (id tt0 z : Int) (i : Nat) (hi' : i < n) (hn : n ≤ 1000) (w : World) (hg : w.heap[g]? = some (.cells #[.slice (some ⟨ga, 0, none⟩) n c', .int .i64 I, .int .i64 H, .int .i64 S, .int .i64 P] 26 (0, 0))) (hO : w.ownsRow lo 48 4 (.slice (some ⟨ga, 0, none⟩) n c') n ((cellsL f n).map (Value.int .i64))) (hlo : lo ≤ g) :
    Calls Tryd.prog 59 #[.pointer (some ⟨g, 0, none⟩), .int .i64 i, .agg #[.int .i64 4, .int .i64 id, .int .i64 tt0, .int .i64 z]] w (fun e w' => e = .returned (.bool true) ∧ (true = true → BoxRow w' lo g ga n c' (cellsL (setB f i (wrap64 (f (i * 4 + 2) - z)) (f (i * 4 + 3))) n) I H S P) ∧ Below lo w w') := by
  go_enter Tryd.func59, Tryd.ntmps59
  have nga : ga ≠ g := by
    intro e
    subst e
    exact row_ne hO hg (by decide)
  have lg : g < w.heap.size := (Array.getElem?_eq_some_iff.1 hg).1
  have lga := World.ownsRow.lt hO ga rfl
  have hnc : n ≤ c' ∧ c' ≤ maxLen := by
    obtain ⟨_, _, e, h1, h2⟩ := row_slice hO
    cases e
    exact ⟨h1, h2⟩
  have hncI : (n : Int) ≤ (c' : Int) := by omega
  have hi0 : (0 : Int) ≤ (i : Int) := by omega
  have hin : (i : Int) < (n : Int) := by omega
  go_upto_region 1 with fail
  refine name_wp ?_
  intro w1 hw1
  have hb1 : Below w.heap.size w w1 := by rw [hw1]; exact (Below.refl _ w).alloc (Nat.le_refl _) _
  have hs1 : w1.heap[w.heap.size]? = some (.cells #[.int .i64 4, .int .i64 id, .int .i64 tt0, .int .i64 z] 34) := by rw [hw1]; exact heap_alloc_new w _
  have hg1 := (hb1.block g lg).trans hg
  have hO1 := ownsRow_below hO hb1
  have hB1 : Below lo w w1 := hb1.mono (by omega)
  clear hw1 hg hO hb1
  have lg1 := (Array.getElem?_eq_some_iff.1 hg1).1
  have ls1 := (Array.getElem?_eq_some_iff.1 hs1).1
  have lw1 : lo ≤ w1.heap.size := by omega
  obtain ⟨s, hs⟩ : ∃ s, s = w.heap.size := ⟨_, rfl⟩
  rw [← hs] at hs1 lg lga ls1
  have ngs : g ≠ s := by omega
  have nsg : s ≠ g := by omega
  have nas : ga ≠ s := by omega
  have nsa : s ≠ ga := by omega
  have nga' : g ≠ ga := Ne.symm nga
  have hles : lo ≤ s := by omega
  have HS0 := Lib.hid hs
  clear hs
  obtain ⟨s0, s1, s2, s3⟩ := cells4 hs1
  obtain ⟨e0, e1, e2, e3, e4⟩ := cells5 hg1
  have ef : ∀ j, w1.frozen? ⟨g, j, none⟩ = false := fun j => frozen_of_row w1 g j _ _ hg1
  have a2 : w1.cell? ⟨ga, i * 4 + 2, none⟩ = some (.int .i64 (f (i * 4 + 2))) := by rw [World.ownsRow.cellAt hO1 (i * 4 + 2) (by omega), List.getElem?_map, cellsL_at f n _ (by omega)]; rfl
  have a3 : w1.cell? ⟨ga, i * 4 + 3, none⟩ = some (.int .i64 (f (i * 4 + 3))) := by rw [World.ownsRow.cellAt hO1 (i * 4 + 3) (by omega), List.getElem?_map, cellsL_at f n _ (by omega)]; rfl
  have af : ∀ j, w1.frozen? ⟨ga, j, none⟩ = false := fun j => World.ownsRow.frozenAt hO1 j
  have HG1 := Lib.hid hg1
  have HO1 := Lib.hid hO1
  have HB1 := Lib.hid hB1
  clear hg1 hO1 hB1 hs1
  have hszS : w.heap.size = s := HS0.out.symm
  rw [hszS]
  clear hszS
  obtain ⟨cur, hcur, hcs, hput⟩ := row_open1 HO1.out
  have hfit : i * 4 + 2 + 1 ≤ cur.size := by omega
  have HF : Hid (∀ w', w1.grownBy w' (some ga) → w'.cell? ⟨s, 3, none⟩ = some (.int .i64 z) ∧ w'.cell? ⟨g, 1, none⟩ = some (.int .i64 I)) := by
    intro w' hq
    exact ⟨(World.cell?_of_block (a := ⟨s, 3, none⟩) (hq.block _ (World.block_lt_of_cell? _ _ s3) (by simp; omega))).trans s3, (World.cell?_of_block (a := ⟨g, 1, none⟩) (hq.block _ (World.block_lt_of_cell? _ _ e1) (by simp; omega))).trans e1⟩
  go_wp2_with fail
  refine wp_region_held_drew (S := fun w' => w1.grownBy w' (some ga)) (by kernel_rfl) ⟨rfl, rfl, rfl, Nat.le_refl _, fun _ _ _ => rfl⟩ (fun hHeld => ?_)
  refine tk (v := ?_) 0 108 HF rfl ?_ hHeld ?_
  rotate_left; · (intro _ _ _; go_simp; try with_reducible rfl)
  simp only [Act.put, p1, p2, p3]
  refine tk (v := ?_) 5 113 HF rfl ?_ hHeld ?_
  rotate_left; · (intro _ _ _; go_simp; try with_reducible rfl)
  simp only [Act.put, p1, p2, p3]
  refine tk (v := ?_) 1 109 HF rfl ?_ hHeld ?_
  rotate_left; · (intro _ _ _; go_simp; try with_reducible rfl)
  simp only [Act.put, p1, p2, p3]
  refine tk (v := ?_) 6 114 HF rfl ?_ hHeld ?_
  rotate_left; · (intro _ _ _; go_simp; try with_reducible rfl)
  simp only [Act.put, p1, p2, p3]
  refine tk (v := ?_) 2 110 HF rfl ?_ hHeld ?_
  rotate_left; · (intro _ _ _; go_simp; try with_reducible rfl)
  simp only [Act.put, p1, p2, p3]
  refine tk (v := ?_) 3 111 HF rfl ?_ hHeld ?_
  rotate_left; · (intro _ _ _; go_simp; try with_reducible rfl)
  simp only [Act.put, p1, p2, p3]
  refine wpAnyH_ready (rs := [4]) (by kernel_rfl) (by simp) ?_
  refine AllReadyH.cons rfl (fun K hK => ?_) AllReadyH.nil
  go_simp
  refine hK.out _ _ hHeld (fun hHeld => ?_)
  clear hK K
  refine tk (v := ?_) 7 115 HF rfl ?_ hHeld ?_
  rotate_left; · (intro _ _ _; go_simp; try with_reducible rfl)
  simp only [Act.put, p1, p2, p3]
  refine tk (v := ?_) 8 116 HF rfl ?_ hHeld ?_
  rotate_left; · (intro _ _ _; go_simp; try with_reducible rfl)
  simp only [Act.put, p1, p2, p3]
  refine tk (v := ?_) 9 117 HF rfl ?_ hHeld ?_
  rotate_left; · (intro _ _ _; go_simp; try with_reducible rfl)
  simp only [Act.put, p1, p2, p3]
  refine tk (v := ?_) 10 118 HF rfl ?_ hHeld ?_
  rotate_left; · (intro _ _ _; go_simp; try with_reducible rfl)
  simp only [Act.put, p1, p2, p3]
  refine wpAnyH_store (fuel := 0) (i := 11) rfl (by kernel_rfl) ga (i * 4 + 2) (.int .i64 (wrap64 (f (i * 4 + 2) - z))) 48 cur rfl (by first | rfl | exact congrArg (Value.int .i64) (IntWalk.i64_left _)) infoIntS hcur hfit (by simp [Value.cells, Value.oneCell']) (fun w' hg => grown_trans hHeld hg) ?kd
  case kd =>
  intro w2 hhw2 hgw2 hSw2
  refine wpAnyH_done (by kernel_rfl) ?_ _
  have hO2 := hput w2 (i * 4 + 2) (.int .i64 (wrap64 (f (i * 4 + 2) - z))) (by rw [hhw2]; congr 2; exact putRow_one cur _ _ hfit)
  rw [cellsL_set] at hO2
  have hg2 := (hSw2.block g (Array.getElem?_eq_some_iff.1 HG1.out).1 (by simp; omega)).trans HG1.out
  have hB2 := HB1.out.grown hSw2 lw1 (fun k hk => by cases hk; omega)
  clear hHeld HF hSw2 hgw2 hhw2 hcur hput hcs hfit e0 e1 e2 e3 e4 ef a2 a3 af HO1 HG1 s0 s1 s2 s3
  go_wp2
  go_ret
  exact ⟨rfl, fun _ => ⟨hg2, by rw [dryL f n i hi' z]; exact hO2⟩, hB2⟩
set_option maxRecDepth 100000 in
set_option maxHeartbeats 2000000 in
theorem stepPan_rake (g ga lo n c' : Nat) (f : Nat → Int) (I H S P : Int) (id tt0 z : Int) (i : Nat) (hi' : i < n) (hn : n ≤ 1000) (w : World) (hg : w.heap[g]? = some (.cells #[.slice (some ⟨ga, 0, none⟩) n c', .int .i64 I, .int .i64 H, .int .i64 S, .int .i64 P] 26 (0, 0))) (hO : w.ownsRow lo 48 4 (.slice (some ⟨ga, 0, none⟩) n c') n ((cellsL f n).map (Value.int .i64))) (hlo : lo ≤ g) :
    Calls Tryd.prog 59 #[.pointer (some ⟨g, 0, none⟩), .int .i64 i, .agg #[.int .i64 5, .int .i64 id, .int .i64 tt0, .int .i64 z]] w (fun e w' => e = .returned (.bool (mayV (f (i * 4 + 2)) (f (i * 4 + 3)))) ∧ ((mayV (f (i * 4 + 2)) (f (i * 4 + 3))) = true → BoxRow w' lo g ga n c' (cellsL (setB f i (f (i * 4 + 2)) (wrap64 (f (i * 4 + 3) - z))) n) I (wrap64 (H + z)) S P) ∧ Below lo w w') := by
  go_enter Tryd.func59, Tryd.ntmps59
  have nga : ga ≠ g := by
    intro e
    subst e
    exact row_ne hO hg (by decide)
  have lg : g < w.heap.size := (Array.getElem?_eq_some_iff.1 hg).1
  have lga := World.ownsRow.lt hO ga rfl
  have hnc : n ≤ c' ∧ c' ≤ maxLen := by
    obtain ⟨_, _, e, h1, h2⟩ := row_slice hO
    cases e
    exact ⟨h1, h2⟩
  have hncI : (n : Int) ≤ (c' : Int) := by omega
  have hi0 : (0 : Int) ≤ (i : Int) := by omega
  have hin : (i : Int) < (n : Int) := by omega
  go_upto_region 1 with fail
  refine name_wp ?_
  intro w1 hw1
  have hb1 : Below w.heap.size w w1 := by rw [hw1]; exact (Below.refl _ w).alloc (Nat.le_refl _) _
  have hs1 : w1.heap[w.heap.size]? = some (.cells #[.int .i64 5, .int .i64 id, .int .i64 tt0, .int .i64 z] 34) := by rw [hw1]; exact heap_alloc_new w _
  have hg1 := (hb1.block g lg).trans hg
  have hO1 := ownsRow_below hO hb1
  have hB1 : Below lo w w1 := hb1.mono (by omega)
  clear hw1 hg hO hb1
  have lg1 := (Array.getElem?_eq_some_iff.1 hg1).1
  have ls1 := (Array.getElem?_eq_some_iff.1 hs1).1
  have lw1 : lo ≤ w1.heap.size := by omega
  obtain ⟨s, hs⟩ : ∃ s, s = w.heap.size := ⟨_, rfl⟩
  rw [← hs] at hs1 lg lga ls1
  have ngs : g ≠ s := by omega
  have nsg : s ≠ g := by omega
  have nas : ga ≠ s := by omega
  have nsa : s ≠ ga := by omega
  have nga' : g ≠ ga := Ne.symm nga
  have hles : lo ≤ s := by omega
  have HS0 := Lib.hid hs
  clear hs
  obtain ⟨s0, s1, s2, s3⟩ := cells4 hs1
  obtain ⟨e0, e1, e2, e3, e4⟩ := cells5 hg1
  have ef : ∀ j, w1.frozen? ⟨g, j, none⟩ = false := fun j => frozen_of_row w1 g j _ _ hg1
  have a2 : w1.cell? ⟨ga, i * 4 + 2, none⟩ = some (.int .i64 (f (i * 4 + 2))) := by rw [World.ownsRow.cellAt hO1 (i * 4 + 2) (by omega), List.getElem?_map, cellsL_at f n _ (by omega)]; rfl
  have a3 : w1.cell? ⟨ga, i * 4 + 3, none⟩ = some (.int .i64 (f (i * 4 + 3))) := by rw [World.ownsRow.cellAt hO1 (i * 4 + 3) (by omega), List.getElem?_map, cellsL_at f n _ (by omega)]; rfl
  have af : ∀ j, w1.frozen? ⟨ga, j, none⟩ = false := fun j => World.ownsRow.frozenAt hO1 j
  have HG1 := Lib.hid hg1
  have HO1 := Lib.hid hO1
  have HB1 := Lib.hid hB1
  clear hg1 hO1 hB1 hs1
  have hszS : w.heap.size = s := HS0.out.symm
  rw [hszS]
  clear hszS
  go_wp2_with fail
  refine (mayRake_any _ _ w1).mono ?_
  rintro e w0 ⟨rfl, hb0⟩
  have hg0 := (hb0.block g (Array.getElem?_eq_some_iff.1 HG1.out).1).trans HG1.out
  have hO0 := ownsRow_below HO1.out hb0
  have lw0 : lo ≤ w0.heap.size := Nat.le_trans lw1 hb0.size
  have hB0 := below_of HB1.out hb0 lw1
  have s30 := (hb0.cell (p := ⟨s, 3, none⟩) (World.block_lt_of_cell? _ _ s3)).trans s3
  clear e0 e1 e2 e3 e4 ef a2 a3 af HG1 HO1 HB1 s0 s1 s2 s3 hb0
  obtain ⟨e0, e1, e2, e3, e4⟩ := cells5 hg0
  have ef : ∀ j, w0.frozen? ⟨g, j, none⟩ = false := fun j => frozen_of_row w0 g j _ _ hg0
  have a2 : w0.cell? ⟨ga, i * 4 + 2, none⟩ = some (.int .i64 (f (i * 4 + 2))) := by rw [World.ownsRow.cellAt hO0 (i * 4 + 2) (by omega), List.getElem?_map, cellsL_at f n _ (by omega)]; rfl
  have a3 : w0.cell? ⟨ga, i * 4 + 3, none⟩ = some (.int .i64 (f (i * 4 + 3))) := by rw [World.ownsRow.cellAt hO0 (i * 4 + 3) (by omega), List.getElem?_map, cellsL_at f n _ (by omega)]; rfl
  have af : ∀ j, w0.frozen? ⟨ga, j, none⟩ = false := fun j => World.ownsRow.frozenAt hO0 j
  have HG1 := Lib.hid hg0
  have HO1 := Lib.hid hO0
  have HB1 := Lib.hid hB0
  clear hg0 hO0 hB0
  obtain ⟨cur, hcur, hcs, hput⟩ := row_open1 HO1.out
  have hfit : i * 4 + 2 + 1 + 1 ≤ cur.size := by omega
  have HF : Hid (∀ w', w0.grownBy w' (some ga) → w'.cell? ⟨s, 3, none⟩ = some (.int .i64 z) ∧ w'.cell? ⟨g, 1, none⟩ = some (.int .i64 I)) := by
    intro w' hq
    exact ⟨(World.cell?_of_block (a := ⟨s, 3, none⟩) (hq.block _ (World.block_lt_of_cell? _ _ s30) (by simp; omega))).trans s30, (World.cell?_of_block (a := ⟨g, 1, none⟩) (hq.block _ (World.block_lt_of_cell? _ _ e1) (by simp; omega))).trans e1⟩
  go_wp2_with fail
  refine wp_region_held_drew (S := fun w' => w0.grownBy w' (some ga)) (by kernel_rfl) ⟨rfl, rfl, rfl, Nat.le_refl _, fun _ _ _ => rfl⟩ (fun hHeld => ?_)
  refine tk (v := ?_) 0 126 HF rfl ?_ hHeld ?_
  rotate_left; · (intro _ _ _; go_simp; try with_reducible rfl)
  simp only [Act.put, p1, p2, p3]
  refine tk (v := ?_) 5 131 HF rfl ?_ hHeld ?_
  rotate_left; · (intro _ _ _; go_simp; try with_reducible rfl)
  simp only [Act.put, p1, p2, p3]
  refine tk (v := ?_) 1 127 HF rfl ?_ hHeld ?_
  rotate_left; · (intro _ _ _; go_simp; try with_reducible rfl)
  simp only [Act.put, p1, p2, p3]
  refine tk (v := ?_) 6 132 HF rfl ?_ hHeld ?_
  rotate_left; · (intro _ _ _; go_simp; try with_reducible rfl)
  simp only [Act.put, p1, p2, p3]
  refine tk (v := ?_) 2 128 HF rfl ?_ hHeld ?_
  rotate_left; · (intro _ _ _; go_simp; try with_reducible rfl)
  simp only [Act.put, p1, p2, p3]
  refine tk (v := ?_) 3 129 HF rfl ?_ hHeld ?_
  rotate_left; · (intro _ _ _; go_simp; try with_reducible rfl)
  simp only [Act.put, p1, p2, p3]
  refine wpAnyH_ready (rs := [4]) (by kernel_rfl) (by simp) ?_
  refine AllReadyH.cons rfl (fun K hK => ?_) AllReadyH.nil
  go_simp
  refine hK.out _ _ hHeld (fun hHeld => ?_)
  clear hK K
  refine tk (v := ?_) 7 133 HF rfl ?_ hHeld ?_
  rotate_left; · (intro _ _ _; go_simp; try with_reducible rfl)
  simp only [Act.put, p1, p2, p3]
  refine tk (v := ?_) 8 134 HF rfl ?_ hHeld ?_
  rotate_left; · (intro _ _ _; go_simp; try with_reducible rfl)
  simp only [Act.put, p1, p2, p3]
  refine tk (v := ?_) 9 135 HF rfl ?_ hHeld ?_
  rotate_left; · (intro _ _ _; go_simp; try with_reducible rfl)
  simp only [Act.put, p1, p2, p3]
  refine tk (v := ?_) 10 136 HF rfl ?_ hHeld ?_
  rotate_left; · (intro _ _ _; go_simp; try with_reducible rfl)
  simp only [Act.put, p1, p2, p3]
  refine wpAnyH_store (fuel := 0) (i := 11) rfl (by kernel_rfl) ga (i * 4 + 2 + 1) (.int .i64 (wrap64 (f (i * 4 + 3) - z))) 48 cur rfl (by first | rfl | exact congrArg (Value.int .i64) (IntWalk.i64_left _)) infoIntS hcur hfit (by simp [Value.cells, Value.oneCell']) (fun w' hg => grown_trans hHeld hg) ?kd
  case kd =>
  intro w2 hhw2 hgw2 hSw2
  refine wpAnyH_done (by kernel_rfl) ?_ _
  have hO2 := hput w2 (i * 4 + 2 + 1) (.int .i64 (wrap64 (f (i * 4 + 3) - z))) (by rw [hhw2]; congr 2; exact putRow_one cur _ _ hfit)
  rw [cellsL_set] at hO2
  have hg2 := (hSw2.block g (Array.getElem?_eq_some_iff.1 HG1.out).1 (by simp; omega)).trans HG1.out
  have hB2 := HB1.out.grown hSw2 lw0 (fun k hk => by cases hk; omega)
  have hgz2 := hSw2.size
  have s32 := (World.cell?_of_block (a := ⟨s, 3, none⟩) (hSw2.block _ (World.block_lt_of_cell? _ _ s30) (by simp; omega))).trans s30
  clear hHeld HF hSw2 hgw2 hhw2 hcur hput hcs hfit e0 e1 e2 e3 e4 ef a2 a3 af HO1 HG1 s30 HB1
  obtain ⟨e0, e1, e2, e3, e4⟩ := cells5 hg2
  have HF : Hid (∀ w', w2.grownBy w' (some g) → w'.cell? ⟨s, 3, none⟩ = some (.int .i64 z)) := by
    intro w' hq
    exact (World.cell?_of_block (a := ⟨s, 3, none⟩) (hq.block _ (World.block_lt_of_cell? _ _ s32) (by simp; omega))).trans s32
  go_wp2_with fail
  refine wp_region_held_drew (S := fun w' => w2.grownBy w' (some g)) (by kernel_rfl) ⟨rfl, rfl, rfl, Nat.le_refl _, fun _ _ _ => rfl⟩ (fun hHeld => ?_)
  refine tk (v := ?_) 0 137 HF rfl ?_ hHeld ?_
  rotate_left; · (intro _ _ _; go_simp; try with_reducible rfl)
  simp only [Act.put, p1, p2, p3]
  refine tk (v := ?_) 4 141 HF rfl ?_ hHeld ?_
  rotate_left; · (intro _ _ _; go_simp; try with_reducible rfl)
  simp only [Act.put, p1, p2, p3]
  refine tk (v := ?_) 1 138 HF rfl ?_ hHeld ?_
  rotate_left; · (intro _ _ _; go_simp; try with_reducible rfl)
  simp only [Act.put, p1, p2, p3]
  refine tk (v := ?_) 5 142 HF rfl ?_ hHeld ?_
  rotate_left; · (intro _ _ _; go_simp; try with_reducible rfl)
  simp only [Act.put, p1, p2, p3]
  refine tk (v := ?_) 2 139 HF rfl ?_ hHeld ?_
  rotate_left; · (intro _ _ _; go_simp; try with_reducible rfl)
  simp only [Act.put, p1, p2, p3]
  refine wpAnyH_ready (rs := [3]) (by kernel_rfl) (by simp) ?_
  refine AllReadyH.cons rfl (fun K hK => ?_) AllReadyH.nil
  go_simp
  refine hK.out _ _ hHeld (fun hHeld => ?_)
  clear hK K
  refine tk (v := ?_) 6 143 HF rfl ?_ hHeld ?_
  rotate_left; · (intro _ _ _; go_simp; try with_reducible rfl)
  simp only [Act.put, p1, p2, p3]
  refine tk (v := ?_) 7 144 HF rfl ?_ hHeld ?_
  rotate_left; · (intro _ _ _; go_simp; try with_reducible rfl)
  simp only [Act.put, p1, p2, p3]
  refine tk (v := ?_) 8 145 HF rfl ?_ hHeld ?_
  rotate_left; · (intro _ _ _; go_simp; try with_reducible rfl)
  simp only [Act.put, p1, p2, p3]
  refine wpAnyH_store (fuel := 0) (i := 9) rfl (by kernel_rfl) g (2) (.int .i64 (wrap64 (H + z))) 26 #[.slice (some ⟨ga, 0, none⟩) n c', .int .i64 I, .int .i64 H, .int .i64 S, .int .i64 P] rfl (by first | rfl | exact congrArg (Value.int .i64) (IntWalk.i64_left _)) infoIntS hg2 (show 2 + 1 ≤ 5 by omega) (by simp [Value.cells, Value.oneCell']) (fun w' hg => grown_trans hHeld hg) ?kh
  case kh =>
  intro w3 hhw3 hgw3 hSw3
  refine wpAnyH_done (by kernel_rfl) ?_ _
  have hg3 : w3.heap[g]? = some (.cells #[.slice (some ⟨ga, 0, none⟩) n c', .int .i64 I, .int .i64 (wrap64 (H + z)), .int .i64 S, .int .i64 P] 26) := hhw3
  have hO3 := own_other hO2 hg2 (by decide) hSw3
  have hB3 := hB2.grown hSw3 (Nat.le_trans lw0 hgz2) (fun k hk => by cases hk; omega)
  clear hHeld HF hSw3 hgw3 hhw3 e0 e1 e2 e3 e4 s32
  go_wp2
  go_ret
  exact ⟨rfl, fun _ => ⟨hg3, by rw [rakeL f n i hi' z]; exact hO3⟩, hB3⟩
end Go.Proofs.YtjkockhldaacbaaDoor
