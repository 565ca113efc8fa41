/-
  A block of the call's own that holds one struct of ints: new, read, written anew.
-/
import Derived.Test.YtcecpioiagfoiaaDoorMem
namespace Go.Proofs.YtcecpioiagfoiaaDoor
open Go.RowKit
set_option linter.unusedVariables false
theorem own_new2 (w : World) (e : TypeId) (z0 z1 : Int) (f : Nat → Int) (h0 : z0 = f 0) (h1 : z1 = f 1) :
    Own (w.alloc (.cells #[.int .i64 z0, .int .i64 z1] e)) w.heap.size (w.heap.size + 1) e 2 (some ⟨w.heap.size, 0, none⟩) 1 f := by
  subst h0 h1
  refine ⟨by simp, fun _ => ⟨w.heap.size, _, rfl, Nat.le_refl _, by omega, heap_alloc_new w _, by simp, fun j hj => ?_⟩⟩
  match j, hj with
  | 0, _ => rfl
  | 1, _ => rfl
theorem Own.cells2 {w : World} {lo hi : Nat} {e : TypeId} {g : Nat} {f : Nat → Int} (h : Own w lo hi e 2 (some ⟨g, 0, none⟩) 1 f) :
    w.cell? ⟨g, 0, none⟩ = some (.int .i64 (f 0)) ∧ w.cell? ⟨g, 1, none⟩ = some (.int .i64 (f 1)) ∧ (∀ j, w.frozen? ⟨g, j, none⟩ = false) ∧ g < w.heap.size := by
  refine ⟨(h.cell_ (by omega)).1, (h.cell_ (by omega)).1, fun j => ?_, ?_⟩
  · obtain ⟨g', cur, e1, h1, h2, h3, h4, h5⟩ := h.here (by omega)
    simp only [Option.some.injEq, Addr.mk.injEq, and_true] at e1
    subst e1
    simp [World.frozen?, h3]
  · have := (h.cell_ (i := 0) (by omega)).2.2.2; have := h.hi_le; omega
theorem Own.put2 {w : World} {lo hi : Nat} {e : TypeId} {g : Nat} {f f' : Nat → Int} (h : Own w lo hi e 2 (some ⟨g, 0, none⟩) 1 f) {z0 z1 : Int} (h0 : z0 = f' 0) (h1 : z1 = f' 1) :
    Own ((w.setCell ⟨g, 0, none⟩ (.int .i64 z0)).setCell ⟨g, 1, none⟩ (.int .i64 z1)) lo hi e 2 (some ⟨g, 0, none⟩) 1 f' := by
  subst h0 h1
  refine ((h.set_ (i := 0) (by omega) _).set_ (i := 1) (by omega) _).congr (fun j hj => ?_)
  match j, hj with
  | 0, _ => rfl
  | 1, _ => rfl
theorem own_new4 (w : World) (e : TypeId) (z0 z1 z2 z3 : Int) (f : Nat → Int) (h0 : z0 = f 0) (h1 : z1 = f 1) (h2 : z2 = f 2) (h3 : z3 = f 3) :
    Own (w.alloc (.cells #[.int .i64 z0, .int .i64 z1, .int .i64 z2, .int .i64 z3] e)) w.heap.size (w.heap.size + 1) e 4 (some ⟨w.heap.size, 0, none⟩) 1 f := by
  subst h0 h1 h2 h3
  refine ⟨by simp, fun _ => ⟨w.heap.size, _, rfl, Nat.le_refl _, by omega, heap_alloc_new w _, by simp, fun j hj => ?_⟩⟩
  match j, hj with
  | 0, _ => rfl
  | 1, _ => rfl
  | 2, _ => rfl
  | 3, _ => rfl
theorem Own.cells4 {w : World} {lo hi : Nat} {e : TypeId} {g : Nat} {f : Nat → Int} (h : Own w lo hi e 4 (some ⟨g, 0, none⟩) 1 f) :
    w.cell? ⟨g, 0, none⟩ = some (.int .i64 (f 0)) ∧ w.cell? ⟨g, 1, none⟩ = some (.int .i64 (f 1)) ∧ w.cell? ⟨g, 2, none⟩ = some (.int .i64 (f 2)) ∧ w.cell? ⟨g, 3, none⟩ = some (.int .i64 (f 3)) ∧ (∀ j, w.frozen? ⟨g, j, none⟩ = false) ∧ g < w.heap.size := by
  refine ⟨(h.cell_ (by omega)).1, (h.cell_ (by omega)).1, (h.cell_ (by omega)).1, (h.cell_ (by omega)).1, fun j => ?_, ?_⟩
  · obtain ⟨g', cur, e1, h1, h2, h3, h4, h5⟩ := h.here (by omega)
    simp only [Option.some.injEq, Addr.mk.injEq, and_true] at e1
    subst e1
    simp [World.frozen?, h3]
  · have := (h.cell_ (i := 0) (by omega)).2.2.2; have := h.hi_le; omega
theorem Own.put4 {w : World} {lo hi : Nat} {e : TypeId} {g : Nat} {f f' : Nat → Int} (h : Own w lo hi e 4 (some ⟨g, 0, none⟩) 1 f) {z0 z1 z2 z3 : Int} (h0 : z0 = f' 0) (h1 : z1 = f' 1) (h2 : z2 = f' 2) (h3 : z3 = f' 3) :
    Own ((((w.setCell ⟨g, 0, none⟩ (.int .i64 z0)).setCell ⟨g, 1, none⟩ (.int .i64 z1)).setCell ⟨g, 2, none⟩ (.int .i64 z2)).setCell ⟨g, 3, none⟩ (.int .i64 z3)) lo hi e 4 (some ⟨g, 0, none⟩) 1 f' := by
  subst h0 h1 h2 h3
  refine ((((h.set_ (i := 0) (by omega) _).set_ (i := 1) (by omega) _).set_ (i := 2) (by omega) _).set_ (i := 3) (by omega) _).congr (fun j hj => ?_)
  match j, hj with
  | 0, _ => rfl
  | 1, _ => rfl
  | 2, _ => rfl
  | 3, _ => rfl
theorem own_new7 (w : World) (e : TypeId) (z0 z1 z2 z3 z4 z5 z6 : Int) (f : Nat → Int) (h0 : z0 = f 0) (h1 : z1 = f 1) (h2 : z2 = f 2) (h3 : z3 = f 3) (h4 : z4 = f 4) (h5 : z5 = f 5) (h6 : z6 = f 6) :
    Own (w.alloc (.cells #[.int .i64 z0, .int .i64 z1, .int .i64 z2, .int .i64 z3, .int .i64 z4, .int .i64 z5, .int .i64 z6] e)) w.heap.size (w.heap.size + 1) e 7 (some ⟨w.heap.size, 0, none⟩) 1 f := by
  subst h0 h1 h2 h3 h4 h5 h6
  refine ⟨by simp, fun _ => ⟨w.heap.size, _, rfl, Nat.le_refl _, by omega, heap_alloc_new w _, by simp, fun j hj => ?_⟩⟩
  match j, hj with
  | 0, _ => rfl
  | 1, _ => rfl
  | 2, _ => rfl
  | 3, _ => rfl
  | 4, _ => rfl
  | 5, _ => rfl
  | 6, _ => rfl
theorem Own.cells7 {w : World} {lo hi : Nat} {e : TypeId} {g : Nat} {f : Nat → Int} (h : Own w lo hi e 7 (some ⟨g, 0, none⟩) 1 f) :
    w.cell? ⟨g, 0, none⟩ = some (.int .i64 (f 0)) ∧ w.cell? ⟨g, 1, none⟩ = some (.int .i64 (f 1)) ∧ w.cell? ⟨g, 2, none⟩ = some (.int .i64 (f 2)) ∧ w.cell? ⟨g, 3, none⟩ = some (.int .i64 (f 3)) ∧ w.cell? ⟨g, 4, none⟩ = some (.int .i64 (f 4)) ∧ w.cell? ⟨g, 5, none⟩ = some (.int .i64 (f 5)) ∧ w.cell? ⟨g, 6, none⟩ = some (.int .i64 (f 6)) ∧ (∀ j, w.frozen? ⟨g, j, none⟩ = false) ∧ g < w.heap.size := by
  refine ⟨(h.cell_ (by omega)).1, (h.cell_ (by omega)).1, (h.cell_ (by omega)).1, (h.cell_ (by omega)).1, (h.cell_ (by omega)).1, (h.cell_ (by omega)).1, (h.cell_ (by omega)).1, fun j => ?_, ?_⟩
  · obtain ⟨g', cur, e1, h1, h2, h3, h4, h5⟩ := h.here (by omega)
    simp only [Option.some.injEq, Addr.mk.injEq, and_true] at e1
    subst e1
    simp [World.frozen?, h3]
  · have := (h.cell_ (i := 0) (by omega)).2.2.2; have := h.hi_le; omega
theorem Own.put7 {w : World} {lo hi : Nat} {e : TypeId} {g : Nat} {f f' : Nat → Int} (h : Own w lo hi e 7 (some ⟨g, 0, none⟩) 1 f) {z0 z1 z2 z3 z4 z5 z6 : Int} (h0 : z0 = f' 0) (h1 : z1 = f' 1) (h2 : z2 = f' 2) (h3 : z3 = f' 3) (h4 : z4 = f' 4) (h5 : z5 = f' 5) (h6 : z6 = f' 6) :
    Own (((((((w.setCell ⟨g, 0, none⟩ (.int .i64 z0)).setCell ⟨g, 1, none⟩ (.int .i64 z1)).setCell ⟨g, 2, none⟩ (.int .i64 z2)).setCell ⟨g, 3, none⟩ (.int .i64 z3)).setCell ⟨g, 4, none⟩ (.int .i64 z4)).setCell ⟨g, 5, none⟩ (.int .i64 z5)).setCell ⟨g, 6, none⟩ (.int .i64 z6)) lo hi e 7 (some ⟨g, 0, none⟩) 1 f' := by
  subst h0 h1 h2 h3 h4 h5 h6
  refine (((((((h.set_ (i := 0) (by omega) _).set_ (i := 1) (by omega) _).set_ (i := 2) (by omega) _).set_ (i := 3) (by omega) _).set_ (i := 4) (by omega) _).set_ (i := 5) (by omega) _).set_ (i := 6) (by omega) _).congr (fun j hj => ?_)
  match j, hj with
  | 0, _ => rfl
  | 1, _ => rfl
  | 2, _ => rfl
  | 3, _ => rfl
  | 4, _ => rfl
  | 5, _ => rfl
  | 6, _ => rfl
end Go.Proofs.YtcecpioiagfoiaaDoor
