/-
  RecoverLog, recordsOf, IsValidLog, l27Log, SyncLog: the same on both sides.
-/
import Derived.Test.YtegklcapfjigaaaDoorLogF
namespace Go.Proofs.YtegklcapfjigaaaDoor
open Go.RowKit
set_option linter.unusedVariables false
set_option linter.unusedSimpArgs false
attribute [local go_sem ↓] Go.wp_at_zero Go.wp_at_succ
theorem zero_row3 {w X w' : World} {g : Nat} {p q : BA} {z : Int} (hX : X.heap[g]? = some (.cells #[.string p, .string q, .int .i64 z] 34 (0, 0))) (h : Below X.heap.size X w') : w'.heap[g]? = some (.cells #[.string p, .string q, .int .i64 z] 34 (0, 0)) :=
  (h.block g (Array.getElem?_eq_some_iff.1 hX).1).trans hX
theorem row3 {w : World} {g : Nat} {p q : BA} {z : Int} (h : w.heap[g]? = some (.cells #[.string p, .string q, .int .i64 z] 34 (0, 0))) : w.cell? ⟨g, 0, none⟩ = some (.string p) ∧ w.cell? ⟨g, 1, none⟩ = some (.string q) ∧ w.cell? ⟨g, 2, none⟩ = some (.int .i64 z) ∧ w.frozen? ⟨g, 0, none⟩ = false ∧ w.frozen? ⟨g, 1, none⟩ = false ∧ w.frozen? ⟨g, 2, none⟩ = false := by
  refine ⟨by rw [cell_of_row w g 0 _ _ (0, 0) h]; rfl, by rw [cell_of_row w g 1 _ _ (0, 0) h]; rfl, by rw [cell_of_row w g 2 _ _ (0, 0) h]; rfl, by simp [World.frozen?, h], by simp [World.frozen?, h], by simp [World.frozen?, h]⟩
theorem row3_set {w : World} {g : Nat} {p q x y : BA} {z u : Int} (h : w.heap[g]? = some (.cells #[.string p, .string q, .int .i64 z] 34 (0, 0))) : (((w.setCell ⟨g, 0, none⟩ (.string x)).setCell ⟨g, 1, none⟩ (.string y)).setCell ⟨g, 2, none⟩ (.int .i64 u)).heap[g]? = some (.cells #[.string x, .string y, .int .i64 u] 34 (0, 0)) := by
  simp [World.setCell, Array.getElem?_modify, h]
theorem base_le {w : World} {b b' : Nat} {e : TypeId} {size : Nat} {v : Value} {n : Nat} {xs : List Value} (h : w.ownsRow b e size v n xs) (hb : b' ≤ b) : w.ownsRow b' e size v n xs := by
  obtain ⟨h1, h2⟩ := h
  refine ⟨h1, ?_⟩
  rcases h2 with h2 | ⟨g, cap, cur, h3, h4, h5⟩
  · exact .inl h2
  · exact .inr ⟨g, cap, cur, h3, Nat.le_trans hb h4, h5⟩
def recOk (s : BA) : Bool := decide (s.size ≤ 30000)
def recD (s : BA) : BA := if recOk s then s.extract 0 (readN s 60).2 else ⟨#[]⟩
def recC (s : BA) : Int := if recOk s then (readN s 60).1.length else 0
def recR (s : BA) : Int := if recOk s then ((readN s 60).2 : Nat) else 0
def logOk (D P : BA) (z : Int) : Bool := decide ((readN (D ++ P) 60).2 = (D ++ P).size) && decide ((readN D 60).2 = D.size) && decide (z = ((readN (D ++ P) 60).1.length : Nat))
theorem logOk_size {D P : BA} {z : Int} (h : logOk D P z = true) : D.size + P.size ≤ 24780 := by
  simp only [logOk, Bool.and_eq_true, decide_eq_true_eq] at h
  have := (readN_at (D ++ P) 60 (Nat.le_refl _)).2
  rw [h.1.1, size_app] at this
  omega
set_option maxHeartbeats 2000000 in
theorem recordsOf_any (D P : BA) (z : Int) (hD : D.size ≤ 1048576) (hP : P.size ≤ 1048576) (w : World) (ht : Tab w) (hm : Mx w) :
    Calls Tryd.prog 35 #[.agg #[.string D, .string P, .int .i64 z]] w fun e w' => ∃ v, e = .returned (.tuple #[v, .bool (logOk D P z)]) ∧ w'.ownsRow w.heap.size 84 2 v (readN (D ++ P) 60).1.length (recCells (readN (D ++ P) 60).1) ∧ Below w.heap.size w w' := by
  have HAL : Below w.heap.size w (w.alloc (.cells #[.string D, .string P, .int .i64 z] 34)) := (Below.refl _ w).alloc (Nat.le_refl _) _
  have HF0 : Hid (∀ w', Below (w.alloc (.cells #[.string D, .string P, .int .i64 z] 34)).heap.size (w.alloc (.cells #[.string D, .string P, .int .i64 z] 34)) w' → w'.cell? ⟨w.heap.size, 0, none⟩ = some (.string D) ∧ w'.cell? ⟨w.heap.size, 1, none⟩ = some (.string P) ∧ w'.cell? ⟨w.heap.size, 2, none⟩ = some (.int .i64 z)) := by
    intro w' hq
    exact ⟨(hq.cell (p := ⟨w.heap.size, 0, none⟩) (by simp)).trans (by simp), (hq.cell (p := ⟨w.heap.size, 1, none⟩) (by simp)).trans (by simp), (hq.cell (p := ⟨w.heap.size, 2, none⟩) (by simp)).trans (by simp)⟩
  have hsz : (D ++ P).size ≤ 4000000 := by rw [size_app]; omega
  have HR1 := Lib.hid (readRecords_any (D ++ P) hsz (w.alloc (.cells #[.string D, .string P, .int .i64 z] 34)) (ht.below HAL) (hm.below HAL))
  have HR2 := Lib.hid (fun W hT hM => readRecords_any D (by omega) W hT hM)
  have HOK : Hid (logOk D P z = (decide ((readN (D ++ P) 60).2 = (D ++ P).size) && decide ((readN D 60).2 = D.size) && decide (z = ((readN (D ++ P) 60).1.length : Nat)))) := rfl
  have hszn : D.size + P.size ≤ 4000000 := by omega
  have hsa : (D ++ P).size = D.size + P.size := size_app D P
  rw [hsa] at HOK
  generalize (readN (D ++ P) 60).2 = n1 at *
  generalize (readN (D ++ P) 60).1 = L at *
  generalize (readN D 60).2 = n2 at *
  generalize (readN D 60).1 = L2 at *
  clear hsa hsz
  go_enter Tryd.func35, Tryd.ntmps35
  go_wp2_with fail
  refine HR1.out.mono ?_
  rintro e w1 ⟨v1, rfl, hown1, hb1⟩
  obtain ⟨A1, c1, rfl, _, _⟩ := own_form hown1
  obtain ⟨q0, q1, q2⟩ := HF0.out w1 hb1
  have B1 := HAL.trans (hb1.mono (by simp))
  go_wp2_with fail
  refine (HR2.out w1 (ht.below B1) (hm.below B1)).mono ?_
  rintro e w2 ⟨v2, rfl, hown2, hb2⟩
  obtain ⟨A2, c2, rfl, _, _⟩ := own_form hown2
  have hb12 := hb1.trans (hb2.mono hb1.size)
  have B2 := HAL.trans (hb12.mono (by simp))
  have HO := Lib.hid (base_le (b' := w.heap.size) (ownsRow_below hown1 hb2) (by simp))
  have HF : Hid (∀ w', Below w2.heap.size w2 w' → w'.cell? ⟨w.heap.size, 0, none⟩ = some (.string D) ∧ w'.cell? ⟨w.heap.size, 1, none⟩ = some (.string P) ∧ w'.cell? ⟨w.heap.size, 2, none⟩ = some (.int .i64 z)) := fun w' hq => HF0.out w' (hb12.trans (hq.mono hb12.size))
  clear hown1 hown2 hb1 hb2 hb12 HF0 HR1 HR2 q0 q1 q2 HAL B1
  go_wp2_with fail
  by_cases e1 : n1 = D.size + P.size
  · have b1 : ((n1 : Int) == (D.size : Int) + (P.size : Int)) = true := by simp; omega
    have b1' : (n1 == D.size + P.size) = true := by simp [e1]
    by_cases e2 : n2 = D.size
    · have b2 : ((n2 : Int) == (D.size : Int)) = true := by simp; omega
      have b2' : (n2 == D.size) = true := by simp [e2]
      have HOK2 : Hid (logOk D P z = (z == ((L.length : Nat) : Int))) := by show _ = _; rw [HOK.out, e1, e2]; simp only [decide_true, Bool.true_and]; rw [Bool.eq_iff_iff]; simp
      clear e1 e2
      refine wp_region_held_drew (S := fun w' => Below (w2).heap.size (w2) w') (by kernel_rfl) ((Below.refl _ _).drew) (fun hHeld => ?_)
      refine wpAnyH_takeD (i := 0) (d := 25) (v := ?_) rfl (by kernel_rfl) (by kernel_rfl) (by kernel_rfl) (fun _ _ _ h => h) (by rfl) ?_ hHeld ?_
      rotate_left
      · intro wS hS
        have eF := HF.out wS hS
        go_simp
        try with_reducible rfl
      simp only [Act.put, List.setIfInBounds_toArray, List.set_cons_zero, List.set_cons_succ]
      refine wpAnyH_takeD (i := 1) (d := 26) (v := ?_) rfl (by kernel_rfl) (by kernel_rfl) (by kernel_rfl) (fun _ _ _ h => h) (by rfl) ?_ hHeld ?_
      rotate_left
      · intro wS hS
        have eF := HF.out wS hS
        go_simp
        try with_reducible rfl
      simp only [Act.put, List.setIfInBounds_toArray, List.set_cons_zero, List.set_cons_succ]
      refine wpAnyH_takeD (i := 2) (d := 27) (v := ?_) rfl (by kernel_rfl) (by kernel_rfl) (by kernel_rfl) (fun _ _ _ h => h) (by rfl) ?_ hHeld ?_
      rotate_left
      · intro wS hS
        have eF := HF.out wS hS
        go_simp
        try with_reducible rfl
      simp only [Act.put, List.setIfInBounds_toArray, List.set_cons_zero, List.set_cons_succ]
      refine wpAnyH_takeD (i := 3) (d := 28) (v := ?_) rfl (by kernel_rfl) (by kernel_rfl) (by kernel_rfl) (fun _ _ _ h => h) (by rfl) ?_ hHeld ?_
      rotate_left
      · intro wS hS
        have eF := HF.out wS hS
        go_simp
        try with_reducible rfl
      simp only [Act.put, List.setIfInBounds_toArray, List.set_cons_zero, List.set_cons_succ]
      refine wpAnyH_takeD (i := 4) (d := 29) (v := ?_) rfl (by kernel_rfl) (by kernel_rfl) (by kernel_rfl) (fun _ _ _ h => h) (by rfl) ?_ hHeld ?_
      rotate_left
      · intro wS hS
        have eF := HF.out wS hS
        go_simp
        try with_reducible rfl
      simp only [Act.put, List.setIfInBounds_toArray, List.set_cons_zero, List.set_cons_succ]
      refine wpAnyH_takeD (i := 5) (d := 30) (v := ?_) rfl (by kernel_rfl) (by kernel_rfl) (by kernel_rfl) (fun _ _ _ h => h) (by rfl) ?_ hHeld ?_
      rotate_left
      · intro wS hS
        have eF := HF.out wS hS
        go_simp
        try with_reducible rfl
      simp only [Act.put, List.setIfInBounds_toArray, List.set_cons_zero, List.set_cons_succ]
      refine wpAnyH_takeD (i := 6) (d := 31) (v := ?_) rfl (by kernel_rfl) (by kernel_rfl) (by kernel_rfl) (fun _ _ _ h => h) (by rfl) ?_ hHeld ?_
      rotate_left
      · intro wS hS
        have eF := HF.out wS hS
        go_simp
        try with_reducible rfl
      simp only [Act.put, List.setIfInBounds_toArray, List.set_cons_zero, List.set_cons_succ]
      refine wpAnyH_takeD (i := 7) (d := 32) (v := ?_) rfl (by kernel_rfl) (by kernel_rfl) (by kernel_rfl) (fun _ _ _ h => h) (by rfl) ?_ hHeld ?_
      rotate_left
      · intro wS hS
        have eF := HF.out wS hS
        go_simp
        try with_reducible rfl
      simp only [Act.put, List.setIfInBounds_toArray, List.set_cons_zero, List.set_cons_succ]
      refine wpAnyH_takeD (i := 8) (d := 33) (v := ?_) rfl (by kernel_rfl) (by kernel_rfl) (by kernel_rfl) (fun _ _ _ h => h) (by rfl) ?_ hHeld ?_
      rotate_left
      · intro wS hS
        have eF := HF.out wS hS
        go_simp
        try with_reducible rfl
      simp only [Act.put, List.setIfInBounds_toArray, List.set_cons_zero, List.set_cons_succ]
      refine wpAnyH_takeD (i := 9) (d := 34) (v := ?_) rfl (by kernel_rfl) (by kernel_rfl) (by kernel_rfl) (fun _ _ _ h => h) (by rfl) ?_ hHeld ?_
      rotate_left
      · intro wS hS
        have eF := HF.out wS hS
        go_simp
        try with_reducible rfl
      simp only [Act.put, List.setIfInBounds_toArray, List.set_cons_zero, List.set_cons_succ]
      refine wpAnyH_takeD (i := 10) (d := 35) (v := ?_) rfl (by kernel_rfl) (by kernel_rfl) (by kernel_rfl) (fun _ _ _ h => h) (by rfl) ?_ hHeld ?_
      rotate_left
      · intro wS hS
        have eF := HF.out wS hS
        go_simp
        try with_reducible rfl
      simp only [Act.put, List.setIfInBounds_toArray, List.set_cons_zero, List.set_cons_succ]
      refine wpAnyH_takeD (i := 11) (d := 36) (v := ?_) rfl (by kernel_rfl) (by kernel_rfl) (by kernel_rfl) (fun _ _ _ h => h) (by rfl) ?_ hHeld ?_
      rotate_left
      · intro wS hS
        have eF := HF.out wS hS
        go_simp
        try with_reducible rfl
      simp only [Act.put, List.setIfInBounds_toArray, List.set_cons_zero, List.set_cons_succ]
      refine wpAnyH_takeD (i := 12) (d := 37) (v := ?_) rfl (by kernel_rfl) (by kernel_rfl) (by kernel_rfl) (fun _ _ _ h => h) (by rfl) ?_ hHeld ?_
      rotate_left
      · intro wS hS
        have eF := HF.out wS hS
        go_simp
        try with_reducible rfl
      simp only [Act.put, List.setIfInBounds_toArray, List.set_cons_zero, List.set_cons_succ]
      refine wpAnyH_takeD (i := 13) (d := 38) (v := ?_) rfl (by kernel_rfl) (by kernel_rfl) (by kernel_rfl) (fun _ _ _ h => h) (by rfl) ?_ hHeld ?_
      rotate_left
      · intro wS hS
        have eF := HF.out wS hS
        go_simp
        try with_reducible rfl
      simp only [Act.put, List.setIfInBounds_toArray, List.set_cons_zero, List.set_cons_succ]
      refine wpAnyH_takeD (i := 14) (d := 39) (v := ?_) rfl (by kernel_rfl) (by kernel_rfl) (by kernel_rfl) (fun _ _ _ h => h) (by rfl) ?_ hHeld ?_
      rotate_left
      · intro wS hS
        have eF := HF.out wS hS
        go_simp
        try with_reducible rfl
      simp only [Act.put, List.setIfInBounds_toArray, List.set_cons_zero, List.set_cons_succ]
      refine wpAnyH_takeD (i := 15) (d := 40) (v := ?_) rfl (by kernel_rfl) (by kernel_rfl) (by kernel_rfl) (fun _ _ _ h => h) (by rfl) ?_ hHeld ?_
      rotate_left
      · intro wS hS
        have eF := HF.out wS hS
        go_simp
        try with_reducible rfl
      simp only [Act.put, List.setIfInBounds_toArray, List.set_cons_zero, List.set_cons_succ]
      refine wpAnyH_takeD (i := 16) (d := 41) (v := ?_) rfl (by kernel_rfl) (by kernel_rfl) (by kernel_rfl) (fun _ _ _ h => h) (by rfl) ?_ hHeld ?_
      rotate_left
      · intro wS hS
        have eF := HF.out wS hS
        go_simp
        try with_reducible rfl
      simp only [Act.put, List.setIfInBounds_toArray, List.set_cons_zero, List.set_cons_succ]
      refine wpAnyH_takeD (i := 17) (d := 42) (v := ?_) rfl (by kernel_rfl) (by kernel_rfl) (by kernel_rfl) (fun _ _ _ h => h) (by rfl) ?_ hHeld ?_
      rotate_left
      · intro wS hS
        have eF := HF.out wS hS
        go_simp
        try with_reducible rfl
      simp only [Act.put, List.setIfInBounds_toArray, List.set_cons_zero, List.set_cons_succ]
      refine wpAnyH_takeD (i := 18) (d := 43) (v := ?_) rfl (by kernel_rfl) (by kernel_rfl) (by kernel_rfl) (fun _ _ _ h => h) (by rfl) ?_ hHeld ?_
      rotate_left
      · intro wS hS
        have eF := HF.out wS hS
        go_simp
        try with_reducible rfl
      simp only [Act.put, List.setIfInBounds_toArray, List.set_cons_zero, List.set_cons_succ]
      refine wpAnyH_takeD (i := 19) (d := 2) (v := ?_) rfl (by kernel_rfl) (by kernel_rfl) (by kernel_rfl) (fun _ _ _ h => h) (by rfl) ?_ hHeld ?_
      rotate_left
      · intro wS hS
        have eF := HF.out wS hS
        go_simp
        try with_reducible rfl
      simp only [Act.put, List.setIfInBounds_toArray, List.set_cons_zero, List.set_cons_succ]
      refine wpAnyH_takeD (i := 20) (d := 3) (v := ?_) rfl (by kernel_rfl) (by kernel_rfl) (by kernel_rfl) (fun _ _ _ h => h) (by rfl) ?_ hHeld ?_
      rotate_left
      · intro wS hS
        have eF := HF.out wS hS
        go_simp
        try with_reducible rfl
      simp only [Act.put, List.setIfInBounds_toArray, List.set_cons_zero, List.set_cons_succ]
      refine wpAnyH_done (by kernel_rfl) ?_ _
      go_wp2_with fail
      go_ret2
      exact ⟨_, by rw [HOK2.out]; rfl, ownsRow_below HO.out hHeld, below_of B2 hHeld B2.size⟩
    · have b2 : ((n2 : Int) == (D.size : Int)) = false := by simp; omega
      have b2' : (n2 == D.size) = false := by simp [e2]
      have HOK2 : Hid (logOk D P z = false) := by show _ = _; rw [HOK.out]; simp [e2]
      clear e1 e2
      refine wp_region_held_drew (S := fun w' => Below (w2).heap.size (w2) w') (by kernel_rfl) ((Below.refl _ _).drew) (fun hHeld => ?_)
      refine wpAnyH_takeD (i := 0) (d := 25) (v := ?_) rfl (by kernel_rfl) (by kernel_rfl) (by kernel_rfl) (fun _ _ _ h => h) (by rfl) ?_ hHeld ?_
      rotate_left
      · intro wS hS
        have eF := HF.out wS hS
        go_simp
        try with_reducible rfl
      simp only [Act.put, List.setIfInBounds_toArray, List.set_cons_zero, List.set_cons_succ]
      refine wpAnyH_takeD (i := 1) (d := 26) (v := ?_) rfl (by kernel_rfl) (by kernel_rfl) (by kernel_rfl) (fun _ _ _ h => h) (by rfl) ?_ hHeld ?_
      rotate_left
      · intro wS hS
        have eF := HF.out wS hS
        go_simp
        try with_reducible rfl
      simp only [Act.put, List.setIfInBounds_toArray, List.set_cons_zero, List.set_cons_succ]
      refine wpAnyH_takeD (i := 2) (d := 27) (v := ?_) rfl (by kernel_rfl) (by kernel_rfl) (by kernel_rfl) (fun _ _ _ h => h) (by rfl) ?_ hHeld ?_
      rotate_left
      · intro wS hS
        have eF := HF.out wS hS
        go_simp
        try with_reducible rfl
      simp only [Act.put, List.setIfInBounds_toArray, List.set_cons_zero, List.set_cons_succ]
      refine wpAnyH_takeD (i := 3) (d := 28) (v := ?_) rfl (by kernel_rfl) (by kernel_rfl) (by kernel_rfl) (fun _ _ _ h => h) (by rfl) ?_ hHeld ?_
      rotate_left
      · intro wS hS
        have eF := HF.out wS hS
        go_simp
        try with_reducible rfl
      simp only [Act.put, List.setIfInBounds_toArray, List.set_cons_zero, List.set_cons_succ]
      refine wpAnyH_takeD (i := 4) (d := 29) (v := ?_) rfl (by kernel_rfl) (by kernel_rfl) (by kernel_rfl) (fun _ _ _ h => h) (by rfl) ?_ hHeld ?_
      rotate_left
      · intro wS hS
        have eF := HF.out wS hS
        go_simp
        try with_reducible rfl
      simp only [Act.put, List.setIfInBounds_toArray, List.set_cons_zero, List.set_cons_succ]
      refine wpAnyH_takeD (i := 5) (d := 30) (v := ?_) rfl (by kernel_rfl) (by kernel_rfl) (by kernel_rfl) (fun _ _ _ h => h) (by rfl) ?_ hHeld ?_
      rotate_left
      · intro wS hS
        have eF := HF.out wS hS
        go_simp
        try with_reducible rfl
      simp only [Act.put, List.setIfInBounds_toArray, List.set_cons_zero, List.set_cons_succ]
      refine wpAnyH_takeD (i := 6) (d := 31) (v := ?_) rfl (by kernel_rfl) (by kernel_rfl) (by kernel_rfl) (fun _ _ _ h => h) (by rfl) ?_ hHeld ?_
      rotate_left
      · intro wS hS
        have eF := HF.out wS hS
        go_simp
        try with_reducible rfl
      simp only [Act.put, List.setIfInBounds_toArray, List.set_cons_zero, List.set_cons_succ]
      refine wpAnyH_takeD (i := 7) (d := 32) (v := ?_) rfl (by kernel_rfl) (by kernel_rfl) (by kernel_rfl) (fun _ _ _ h => h) (by rfl) ?_ hHeld ?_
      rotate_left
      · intro wS hS
        have eF := HF.out wS hS
        go_simp
        try with_reducible rfl
      simp only [Act.put, List.setIfInBounds_toArray, List.set_cons_zero, List.set_cons_succ]
      refine wpAnyH_takeD (i := 8) (d := 33) (v := ?_) rfl (by kernel_rfl) (by kernel_rfl) (by kernel_rfl) (fun _ _ _ h => h) (by rfl) ?_ hHeld ?_
      rotate_left
      · intro wS hS
        have eF := HF.out wS hS
        go_simp
        try with_reducible rfl
      simp only [Act.put, List.setIfInBounds_toArray, List.set_cons_zero, List.set_cons_succ]
      refine wpAnyH_takeD (i := 9) (d := 34) (v := ?_) rfl (by kernel_rfl) (by kernel_rfl) (by kernel_rfl) (fun _ _ _ h => h) (by rfl) ?_ hHeld ?_
      rotate_left
      · intro wS hS
        have eF := HF.out wS hS
        go_simp
        try with_reducible rfl
      simp only [Act.put, List.setIfInBounds_toArray, List.set_cons_zero, List.set_cons_succ]
      refine wpAnyH_takeD (i := 10) (d := 35) (v := ?_) rfl (by kernel_rfl) (by kernel_rfl) (by kernel_rfl) (fun _ _ _ h => h) (by rfl) ?_ hHeld ?_
      rotate_left
      · intro wS hS
        have eF := HF.out wS hS
        go_simp
        try with_reducible rfl
      simp only [Act.put, List.setIfInBounds_toArray, List.set_cons_zero, List.set_cons_succ]
      refine wpAnyH_takeD (i := 11) (d := 36) (v := ?_) rfl (by kernel_rfl) (by kernel_rfl) (by kernel_rfl) (fun _ _ _ h => h) (by rfl) ?_ hHeld ?_
      rotate_left
      · intro wS hS
        have eF := HF.out wS hS
        go_simp
        try with_reducible rfl
      simp only [Act.put, List.setIfInBounds_toArray, List.set_cons_zero, List.set_cons_succ]
      refine wpAnyH_takeD (i := 12) (d := 37) (v := ?_) rfl (by kernel_rfl) (by kernel_rfl) (by kernel_rfl) (fun _ _ _ h => h) (by rfl) ?_ hHeld ?_
      rotate_left
      · intro wS hS
        have eF := HF.out wS hS
        go_simp
        try with_reducible rfl
      simp only [Act.put, List.setIfInBounds_toArray, List.set_cons_zero, List.set_cons_succ]
      refine wpAnyH_skips (by kernel_rfl) (fun _ _ _ _ _ h => h) hHeld [(13, 38), (14, 39), (15, 40), (16, 41), (17, 42)] 3 5 _ _ rfl (by kernel_rfl) ?_
      simp only [skipL, skipA, Act.put, List.setIfInBounds_toArray, List.set_cons_zero, List.set_cons_succ]
      refine wpAnyH_takeD (i := 18) (d := 43) (v := ?_) rfl (by kernel_rfl) (by kernel_rfl) (by kernel_rfl) (fun _ _ _ h => h) (by rfl) ?_ hHeld ?_
      rotate_left
      · intro wS hS
        have eF := HF.out wS hS
        go_simp
        try with_reducible rfl
      simp only [Act.put, List.setIfInBounds_toArray, List.set_cons_zero, List.set_cons_succ]
      refine wpAnyH_takeD (i := 19) (d := 2) (v := ?_) rfl (by kernel_rfl) (by kernel_rfl) (by kernel_rfl) (fun _ _ _ h => h) (by rfl) ?_ hHeld ?_
      rotate_left
      · intro wS hS
        have eF := HF.out wS hS
        go_simp
        try with_reducible rfl
      simp only [Act.put, List.setIfInBounds_toArray, List.set_cons_zero, List.set_cons_succ]
      refine wpAnyH_takeD (i := 20) (d := 3) (v := ?_) rfl (by kernel_rfl) (by kernel_rfl) (by kernel_rfl) (fun _ _ _ h => h) (by rfl) ?_ hHeld ?_
      rotate_left
      · intro wS hS
        have eF := HF.out wS hS
        go_simp
        try with_reducible rfl
      simp only [Act.put, List.setIfInBounds_toArray, List.set_cons_zero, List.set_cons_succ]
      refine wpAnyH_done (by kernel_rfl) ?_ _
      go_wp2_with fail
      go_ret2
      exact ⟨_, by rw [HOK2.out]; rfl, ownsRow_below HO.out hHeld, below_of B2 hHeld B2.size⟩
  · have b1 : ((n1 : Int) == (D.size : Int) + (P.size : Int)) = false := by simp; omega
    have b1' : (n1 == D.size + P.size) = false := by simp [e1]
    have HOK2 : Hid (logOk D P z = false) := by show _ = _; rw [HOK.out]; simp [e1]
    clear e1
    refine wp_region_held_drew (S := fun w' => Below (w2).heap.size (w2) w') (by kernel_rfl) ((Below.refl _ _).drew) (fun hHeld => ?_)
    refine wpAnyH_takeD (i := 0) (d := 25) (v := ?_) rfl (by kernel_rfl) (by kernel_rfl) (by kernel_rfl) (fun _ _ _ h => h) (by rfl) ?_ hHeld ?_
    rotate_left
    · intro wS hS
      have eF := HF.out wS hS
      go_simp
      try with_reducible rfl
    simp only [Act.put, List.setIfInBounds_toArray, List.set_cons_zero, List.set_cons_succ]
    refine wpAnyH_takeD (i := 1) (d := 26) (v := ?_) rfl (by kernel_rfl) (by kernel_rfl) (by kernel_rfl) (fun _ _ _ h => h) (by rfl) ?_ hHeld ?_
    rotate_left
    · intro wS hS
      have eF := HF.out wS hS
      go_simp
      try with_reducible rfl
    simp only [Act.put, List.setIfInBounds_toArray, List.set_cons_zero, List.set_cons_succ]
    refine wpAnyH_takeD (i := 2) (d := 27) (v := ?_) rfl (by kernel_rfl) (by kernel_rfl) (by kernel_rfl) (fun _ _ _ h => h) (by rfl) ?_ hHeld ?_
    rotate_left
    · intro wS hS
      have eF := HF.out wS hS
      go_simp
      try with_reducible rfl
    simp only [Act.put, List.setIfInBounds_toArray, List.set_cons_zero, List.set_cons_succ]
    refine wpAnyH_takeD (i := 3) (d := 28) (v := ?_) rfl (by kernel_rfl) (by kernel_rfl) (by kernel_rfl) (fun _ _ _ h => h) (by rfl) ?_ hHeld ?_
    rotate_left
    · intro wS hS
      have eF := HF.out wS hS
      go_simp
      try with_reducible rfl
    simp only [Act.put, List.setIfInBounds_toArray, List.set_cons_zero, List.set_cons_succ]
    refine wpAnyH_takeD (i := 4) (d := 29) (v := ?_) rfl (by kernel_rfl) (by kernel_rfl) (by kernel_rfl) (fun _ _ _ h => h) (by rfl) ?_ hHeld ?_
    rotate_left
    · intro wS hS
      have eF := HF.out wS hS
      go_simp
      try with_reducible rfl
    simp only [Act.put, List.setIfInBounds_toArray, List.set_cons_zero, List.set_cons_succ]
    refine wpAnyH_takeD (i := 5) (d := 30) (v := ?_) rfl (by kernel_rfl) (by kernel_rfl) (by kernel_rfl) (fun _ _ _ h => h) (by rfl) ?_ hHeld ?_
    rotate_left
    · intro wS hS
      have eF := HF.out wS hS
      go_simp
      try with_reducible rfl
    simp only [Act.put, List.setIfInBounds_toArray, List.set_cons_zero, List.set_cons_succ]
    refine wpAnyH_skips (by kernel_rfl) (fun _ _ _ _ _ h => h) hHeld [(6, 31), (7, 32), (8, 33), (9, 34), (10, 35)] 10 5 _ _ rfl (by kernel_rfl) ?_
    simp only [skipL, skipA, Act.put, List.setIfInBounds_toArray, List.set_cons_zero, List.set_cons_succ]
    refine wpAnyH_takeD (i := 11) (d := 36) (v := ?_) rfl (by kernel_rfl) (by kernel_rfl) (by kernel_rfl) (fun _ _ _ h => h) (by rfl) ?_ hHeld ?_
    rotate_left
    · intro wS hS
      have eF := HF.out wS hS
      go_simp
      try with_reducible rfl
    simp only [Act.put, List.setIfInBounds_toArray, List.set_cons_zero, List.set_cons_succ]
    refine wpAnyH_takeD (i := 12) (d := 37) (v := ?_) rfl (by kernel_rfl) (by kernel_rfl) (by kernel_rfl) (fun _ _ _ h => h) (by rfl) ?_ hHeld ?_
    rotate_left
    · intro wS hS
      have eF := HF.out wS hS
      go_simp
      try with_reducible rfl
    simp only [Act.put, List.setIfInBounds_toArray, List.set_cons_zero, List.set_cons_succ]
    refine wpAnyH_skips (by kernel_rfl) (fun _ _ _ _ _ h => h) hHeld [(13, 38), (14, 39), (15, 40), (16, 41), (17, 42)] 3 5 _ _ rfl (by kernel_rfl) ?_
    simp only [skipL, skipA, Act.put, List.setIfInBounds_toArray, List.set_cons_zero, List.set_cons_succ]
    refine wpAnyH_takeD (i := 18) (d := 43) (v := ?_) rfl (by kernel_rfl) (by kernel_rfl) (by kernel_rfl) (fun _ _ _ h => h) (by rfl) ?_ hHeld ?_
    rotate_left
    · intro wS hS
      have eF := HF.out wS hS
      go_simp
      try with_reducible rfl
    simp only [Act.put, List.setIfInBounds_toArray, List.set_cons_zero, List.set_cons_succ]
    refine wpAnyH_takeD (i := 19) (d := 2) (v := ?_) rfl (by kernel_rfl) (by kernel_rfl) (by kernel_rfl) (fun _ _ _ h => h) (by rfl) ?_ hHeld ?_
    rotate_left
    · intro wS hS
      have eF := HF.out wS hS
      go_simp
      try with_reducible rfl
    simp only [Act.put, List.setIfInBounds_toArray, List.set_cons_zero, List.set_cons_succ]
    refine wpAnyH_takeD (i := 20) (d := 3) (v := ?_) rfl (by kernel_rfl) (by kernel_rfl) (by kernel_rfl) (fun _ _ _ h => h) (by rfl) ?_ hHeld ?_
    rotate_left
    · intro wS hS
      have eF := HF.out wS hS
      go_simp
      try with_reducible rfl
    simp only [Act.put, List.setIfInBounds_toArray, List.set_cons_zero, List.set_cons_succ]
    refine wpAnyH_done (by kernel_rfl) ?_ _
    go_wp2_with fail
    go_ret2
    exact ⟨_, by rw [HOK2.out]; rfl, ownsRow_below HO.out hHeld, below_of B2 hHeld B2.size⟩
theorem IsValidLog_any (D P : BA) (z : Int) (hD : D.size ≤ 1048576) (hP : P.size ≤ 1048576) (w : World) (ht : Tab w) (hm : Mx w) :
    Calls Tryd.prog 18 #[.agg #[.string D, .string P, .int .i64 z]] w fun e w' => e = .returned (.bool (logOk D P z)) ∧ Below w.heap.size w w' := by
  have HAL : Below w.heap.size w (w.alloc (.cells #[.string D, .string P, .int .i64 z] 34)) := (Below.refl _ w).alloc (Nat.le_refl _) _
  go_enter Tryd.func18, Tryd.ntmps18
  go_wp2_with fail
  refine (recordsOf_any D P z hD hP _ (ht.below HAL) (hm.below HAL)).mono ?_
  rintro e w1 ⟨v, rfl, _, hb1⟩
  go_wp2_with fail
  go_ret
  exact ⟨rfl, HAL.trans (hb1.mono (by simp))⟩
set_option maxHeartbeats 2000000 in
theorem l27Log_any (D P : BA) (z : Int) (hD : D.size ≤ 1048576) (hP : P.size ≤ 1048576) (w : World) :
    Calls Tryd.prog 27 #[.agg #[.string D, .string P, .int .i64 z]] w fun e w' => e = .returned (.bool (logOk D P z)) ∧ Below w.heap.size w w' := by
  have HAL : Below w.heap.size w (w.alloc (.cells #[.string D, .string P, .int .i64 z] 34)) := (Below.refl _ w).alloc (Nat.le_refl _) _
  have HF0 : Hid (∀ w', Below (w.alloc (.cells #[.string D, .string P, .int .i64 z] 34)).heap.size (w.alloc (.cells #[.string D, .string P, .int .i64 z] 34)) w' → w'.cell? ⟨w.heap.size, 0, none⟩ = some (.string D) ∧ w'.cell? ⟨w.heap.size, 1, none⟩ = some (.string P) ∧ w'.cell? ⟨w.heap.size, 2, none⟩ = some (.int .i64 z)) := by
    intro w' hq
    exact ⟨(hq.cell (p := ⟨w.heap.size, 0, none⟩) (by simp)).trans (by simp), (hq.cell (p := ⟨w.heap.size, 1, none⟩) (by simp)).trans (by simp), (hq.cell (p := ⟨w.heap.size, 2, none⟩) (by simp)).trans (by simp)⟩
  have hsa : (D ++ P).size = D.size + P.size := size_app D P
  by_cases hbig : D.size + P.size ≤ 30000
  · have hbi : ¬ (30000 < (D.size : Int) + (P.size : Int)) := by omega
    have hsz : (D ++ P).size ≤ 4000000 := by omega
    have HR1 := Lib.hid (l27Open_any (D ++ P) hsz (w.alloc (.cells #[.string D, .string P, .int .i64 z] 34)))
    have HR2 := Lib.hid (fun W => l27Open_any D (by omega) W)
    have HOK : Hid (logOk D P z = (decide ((readN (D ++ P) 60).2 = (D ++ P).size) && decide ((readN D 60).2 = D.size) && decide (z = ((readN (D ++ P) 60).1.length : Nat)))) := rfl
    rw [hsa] at HOK
    generalize (readN (D ++ P) 60).2 = n1 at *
    generalize (readN (D ++ P) 60).1 = L at *
    generalize (readN D 60).2 = n2 at *
    generalize (readN D 60).1 = L2 at *
    clear hsa hsz
    go_enter Tryd.func27, Tryd.ntmps27
    go_wp2_with fail
    refine HR1.out.mono ?_
    rintro e w1 ⟨v1, rfl, hown1, hb1⟩
    obtain ⟨A1, c1, rfl, _, _⟩ := own_form hown1
    obtain ⟨q0, q1, q2⟩ := HF0.out w1 hb1
    go_wp2_with fail
    refine (HR2.out w1).mono ?_
    rintro e w2 ⟨v2, rfl, hown2, hb2⟩
    obtain ⟨A2, c2, rfl, _, _⟩ := own_form hown2
    have hb12 := hb1.trans (hb2.mono hb1.size)
    have B2 := HAL.trans (hb12.mono (by simp))
    obtain ⟨r0, r1, r2⟩ := HF0.out w2 hb12
    clear hown1 hown2 hb1 hb2 hb12 HF0 HR1 HR2 q0 q1 q2 HAL
    by_cases e1 : n1 = D.size + P.size
    · have b1 : ((n1 : Int) == (D.size : Int) + (P.size : Int)) = true := by simp; omega
      have b1' : (n1 == D.size + P.size) = true := by simp [e1]
      by_cases e2 : n2 = D.size
      · have b2 : ((n2 : Int) == (D.size : Int)) = true := by simp; omega
        have b2' : (n2 == D.size) = true := by simp [e2]
        by_cases e3 : z = ((L.length : Nat) : Int)
        · have HOK2 : Hid (logOk D P z = true) := by show _ = _; rw [HOK.out, e1, e2, e3]; simp
          have b3 : (((L.length : Nat) : Int) == z) = true := by simp; omega
          clear e1 e2 e3
          go_wp2_with fail
          go_ret
          exact ⟨ret_bool (by rw [HOK2.out]), B2⟩
        · have HOK2 : Hid (logOk D P z = false) := by show _ = _; rw [HOK.out]; simp [e3]
          have b3 : (((L.length : Nat) : Int) == z) = false := by simp; omega
          clear e1 e2 e3
          go_wp2_with fail
          go_ret
          exact ⟨ret_bool (by rw [HOK2.out]), B2⟩
      · have b2 : ((n2 : Int) == (D.size : Int)) = false := by simp; omega
        have b2' : (n2 == D.size) = false := by simp [e2]
        have HOK2 : Hid (logOk D P z = false) := by show _ = _; rw [HOK.out]; simp [e2]
        clear e1 e2
        go_wp2_with fail
        go_ret
        exact ⟨ret_bool (by rw [HOK2.out]), B2⟩
    · have b1 : ((n1 : Int) == (D.size : Int) + (P.size : Int)) = false := by simp; omega
      have b1' : (n1 == D.size + P.size) = false := by simp [e1]
      have HOK2 : Hid (logOk D P z = false) := by show _ = _; rw [HOK.out]; simp [e1]
      clear e1
      go_wp2_with fail
      go_ret
      exact ⟨ret_bool (by rw [HOK2.out]), B2⟩
  · have hbi : 30000 < (D.size : Int) + (P.size : Int) := by omega
    have HOK2 : Hid (logOk D P z = false) := by
      show logOk D P z = false
      cases h : logOk D P z with
      | false => rfl
      | true => have := logOk_size h; omega
    go_enter Tryd.func27, Tryd.ntmps27
    go_wp2_with fail
    go_ret
    exact ⟨ret_bool (by rw [HOK2.out]), HAL⟩
theorem toLog_any (D P : BA) (z : Int) (w : World) :
    Calls Tryd.prog 16 #[.agg #[.string D, .string P, .int .i64 z]] w fun e w' => e = .returned (.agg #[.string D, .string P, .int .i64 z]) ∧ Below w.heap.size w w' := by
  go_enter Tryd.func16, Tryd.ntmps16
  go_wp2
  go_returns
  exact ⟨rfl, by go_grown⟩
theorem szLog_ok (D P : BA) (z : Int) (w : World) (h : (D.size : Int) + (P.size : Int) ≤ 1048576) :
    Calls Tryd.prog 13 #[.agg #[.string D, .string P, .int .i64 z], .int .i64 1048576] w fun e w' => e = .returned (.int .i64 (1048576 - D.size - P.size)) ∧ Below w.heap.size w w' := by
  go_enter Tryd.func13, Tryd.ntmps13
  go_wp2
  go_ret
  exact ⟨rfl, by go_grown⟩
theorem szLog_big (D P : BA) (z : Int) (w : World) (hc : (D.size : Int) ≤ 9223372036854775807) (hr : (P.size : Int) ≤ 9223372036854775807) (h : 1048576 < (D.size : Int) + (P.size : Int)) :
    Calls Tryd.prog 13 #[.agg #[.string D, .string P, .int .i64 z], .int .i64 1048576] w fun e w' => e = .returned (.int .i64 (-1)) ∧ Below w.heap.size w w' := by
  by_cases h1 : 1048576 < (D.size : Int)
  · go_enter Tryd.func13, Tryd.ntmps13
    go_wp2
    go_ret
    exact ⟨rfl, by go_grown⟩
  · go_enter Tryd.func13, Tryd.ntmps13
    go_wp2
    go_ret
    exact ⟨rfl, by go_grown⟩
set_option maxHeartbeats 1000000 in
theorem eqLog_same (D P : BA) (z : Int) (w : World) :
    Calls Tryd.prog 20 #[.agg #[.string D, .string P, .int .i64 z], .agg #[.string D, .string P, .int .i64 z]] w fun e w' => e = .returned (.bool true) ∧ Below w.heap.size w w' := by
  go_enter Tryd.func20, Tryd.ntmps20
  go_wp2
  go_ret
  exact ⟨rfl, by go_grown⟩
end Go.Proofs.YtegklcapfjigaaaDoor
