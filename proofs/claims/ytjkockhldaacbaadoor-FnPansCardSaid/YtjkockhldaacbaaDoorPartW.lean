/-
  The reference's part of a brine.
-/
import Derived.Test.YtjkockhldaacbaaDoorPk1
import Derived.Test.YtjkockhldaacbaaDoorBrineW
namespace Go.Proofs.YtjkockhldaacbaaDoor
open Go.RowKit
set_option linter.unusedVariables false
set_option linter.unusedSimpArgs false
attribute [local go_sem ↓] Go.wp_at_zero Go.wp_at_succ
def partV (wt s z : Int) : Int := wrap64 ((wrap64 (s * z)).tdiv (massV wt s))
set_option maxRecDepth 100000 in
theorem l2Part_any (wt s z : Int) (w : World) (hz : z ≠ 0) (hm : massV wt s ≠ 0) :
    Calls Tryd.prog 81 #[.agg #[.int .i64 wt, .int .i64 s], .int .i64 z] w fun e w' => e = .returned (.agg #[.int .i64 (wrap64 (z - (partV wt s z))), .int .i64 (partV wt s z)]) ∧ Below w.heap.size w w' := by
  have HF : Hid (∀ w', Below ((w.alloc (.cells #[.int .i64 wt, .int .i64 s] 46)).alloc (.cells #[.int .i64 0, .int .i64 0] 46)).heap.size ((w.alloc (.cells #[.int .i64 wt, .int .i64 s] 46)).alloc (.cells #[.int .i64 0, .int .i64 0] 46)) w' → w'.cell? ⟨w.heap.size, 0, none⟩ = some (.int .i64 wt) ∧ w'.cell? ⟨w.heap.size, 1, none⟩ = some (.int .i64 s)) := fun w' hq => ⟨(hq.cell (p := ⟨w.heap.size, 0, none⟩) (by simp; omega)).trans (by go_simp), (hq.cell (p := ⟨w.heap.size, 1, none⟩) (by simp; omega)).trans (by go_simp)⟩
  have HV : Hid (IntKind.i64.wrap ((IntKind.i64.wrap (s * z)).tdiv (massV wt s)) = (partV wt s z)) := by
    show _ = _
    rw [IntWalk.i64_left, IntWalk.i64_left]
    rfl
  go_enter Tryd.func81, Tryd.ntmps81
  go_wp2_with fail
  refine wp_region_held_drew (S := fun w' => Below (((w.alloc (.cells #[.int .i64 wt, .int .i64 s] 46)).alloc (.cells #[.int .i64 0, .int .i64 0] 46))).heap.size (((w.alloc (.cells #[.int .i64 wt, .int .i64 s] 46)).alloc (.cells #[.int .i64 0, .int .i64 0] 46))) w') (by kernel_rfl) ((Below.refl _ _).drew) (fun hHeld => ?_)
  refine tk (v := ?_) 0 9 HF rfl ?_ hHeld ?_
  rotate_left; · (intro _ _ _; go_simp; try with_reducible rfl)
  simp only [Act.put, p1, p2, p3]
  refine tk (v := ?_) 1 10 HF rfl ?_ hHeld ?_
  rotate_left; · (intro _ _ _; go_simp; try with_reducible rfl)
  simp only [Act.put, p1, p2, p3]
  refine tk (v := ?_) 2 11 HF rfl ?_ hHeld ?_
  rotate_left; · (intro _ _ _; go_simp; try with_reducible rfl)
  simp only [Act.put, p1, p2, p3]
  refine tk (v := ?_) 3 12 HF rfl ?_ hHeld ?_
  rotate_left; · (intro _ _ _; go_simp; try with_reducible rfl)
  simp only [Act.put, p1, p2, p3]
  refine tk (v := ?_) 4 13 HF rfl ?_ hHeld ?_
  rotate_left; · (intro _ _ _; go_simp; try with_reducible rfl)
  simp only [Act.put, p1, p2, p3]
  refine wpAnyH_ready (rs := [5]) (by kernel_rfl) (by simp) ?_
  refine AllReadyH.cons rfl (fun K hK => ?_) AllReadyH.nil
  go_simp
  (go_at_call 28; refine (l2Mass_any _ _ _).mono ?_; rintro e w2 ⟨rfl, hb2⟩)
  refine hK.out _ _ (hHeld.trans (hb2.mono hHeld.size)) (fun hHeld => ?_)
  clear hK K hb2
  refine tk (v := ?_) 6 15 HF rfl ?_ hHeld ?_
  rotate_left; · (intro _ _ _; go_simp; try with_reducible rfl)
  simp only [Act.put, p1, p2, p3]
  refine tk (v := ?_) 7 5 HF rfl ?_ hHeld ?_
  rotate_left; · (intro _ _ _; go_simp; try with_reducible rfl)
  simp only [Act.put, p1, p2, p3]
  refine wpAnyH_done (by kernel_rfl) ?_ _
  have r0 := (hHeld.cell (p := ⟨w.heap.size + 1, 0, none⟩) (by simp)).trans (by go_simp : _ = some (.int .i64 0))
  have r1 := (hHeld.cell (p := ⟨w.heap.size + 1, 1, none⟩) (by simp)).trans (by go_simp : _ = some (.int .i64 0))
  have f0 : w2.frozen? ⟨w.heap.size + 1, 0, none⟩ = false := (hHeld.frozen (p := ⟨w.heap.size + 1, 0, none⟩) (by simp)).trans (by go_simp)
  have f1 : w2.frozen? ⟨w.heap.size + 1, 1, none⟩ = false := (hHeld.frozen (p := ⟨w.heap.size + 1, 1, none⟩) (by simp)).trans (by go_simp)
  have BX : Below w.heap.size w w2 := (((Below.refl _ w).alloc (Nat.le_refl _) _).alloc (by simp) _).trans (hHeld.mono (by simp; omega))
  clear hHeld HF
  generalize IntKind.i64.wrap ((IntKind.i64.wrap (s * z)).tdiv (massV wt s)) = sv at *
  go_wp2
  obtain ⟨wq, hwq⟩ : ∃ wq, wq = ((w2.setCell ⟨w.heap.size + 1, 0, none⟩ (.int .i64 (wrap64 (z - sv)))).setCell ⟨w.heap.size + 1, 1, none⟩ (.int .i64 sv)) := ⟨_, rfl⟩
  rw [← hwq]
  have q0 : wq.cell? ⟨w.heap.size + 1, 0, none⟩ = some (.int .i64 (wrap64 (z - sv))) := by rw [hwq]; go_simp
  have q1 : wq.cell? ⟨w.heap.size + 1, 1, none⟩ = some (.int .i64 sv) := by rw [hwq]; go_simp
  have hBq : Below w.heap.size w wq := by
    rw [hwq]
    exact (BX.setCell (show w.heap.size ≤ w.heap.size + 1 by omega) _).setCell (show w.heap.size ≤ w.heap.size + 1 by omega) _
  clear hwq
  try simp only [Exit.inBlock, Exit.then]
  refine bodyPost_ret (by simp [results, Tryd.results81, go_sem, q0, q1]; try rfl) rfl ?_
  rw [← HV.out]
  exact ⟨rfl, hBq⟩
end Go.Proofs.YtjkockhldaacbaaDoor
