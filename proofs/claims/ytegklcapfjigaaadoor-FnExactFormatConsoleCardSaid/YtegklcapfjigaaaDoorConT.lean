/-
  IsValidConsole: the same on both sides; the laws' helpers for consoles.
-/
import Derived.Test.YtegklcapfjigaaaDoorConH
import Derived.Deep.Cut
namespace Go.Proofs.YtegklcapfjigaaaDoor
open Go.RowKit
set_option linter.unusedVariables false
set_option linter.unusedSimpArgs false
set_option maxRecDepth 100000 in
set_option maxHeartbeats 4000000 in
theorem toConsole_any (A : Option Addr) (n c lo hi : Nat) (f : Nat → Int) (I H S P : Int) (D Q : ByteArray) (z : Int) (w : World) (hs : Sl w lo hi 4 A n f) (hn : n ≤ 1048576) (hnc : n ≤ c) :
    Calls Tryd.prog 7 #[.agg #[.slice A n c, .int .i64 I, .int .i64 H, .int .i64 S, .int .i64 P, .string D, .string Q, .int .i64 z]] w fun e w' => ∃ g, e = .returned (.agg #[.slice (some ⟨g, 0, none⟩) n n, .int .i64 I, .int .i64 H, .int .i64 S, .int .i64 P, .string D, .string Q, .int .i64 z]) ∧ w.heap.size ≤ g ∧ g < w'.heap.size ∧ Own w' g (g + 1) 54 4 (some ⟨g, 0, none⟩) n f ∧ Below w.heap.size w w' := by
  have hX : Below w.heap.size w (((w.alloc (.cells #[.slice A n c, .int .i64 I, .int .i64 H, .int .i64 S, .int .i64 P, .string D, .string Q, .int .i64 z] 28)).alloc (.cells #[.slice none 0 0, .int .i64 0, .int .i64 0, .int .i64 0, .int .i64 0, .string ⟨#[]⟩, .string ⟨#[]⟩, .int .i64 0] 36)).alloc (.cells #[.slice none 0 0, .int .i64 0, .int .i64 0, .int .i64 0, .int .i64 0, .string ⟨#[]⟩, .string ⟨#[]⟩, .int .i64 0] 36)) := (((Below.refl _ w).alloc (Nat.le_refl _) _).alloc (by simp) _).alloc (by simp; omega) _
  have h0 : (((w.alloc (.cells #[.slice A n c, .int .i64 I, .int .i64 H, .int .i64 S, .int .i64 P, .string D, .string Q, .int .i64 z] 28)).alloc (.cells #[.slice none 0 0, .int .i64 0, .int .i64 0, .int .i64 0, .int .i64 0, .string ⟨#[]⟩, .string ⟨#[]⟩, .int .i64 0] 36)).alloc (.cells #[.slice none 0 0, .int .i64 0, .int .i64 0, .int .i64 0, .int .i64 0, .string ⟨#[]⟩, .string ⟨#[]⟩, .int .i64 0] 36)).heap[w.heap.size]? = some (.cells #[.slice A n c, .int .i64 I, .int .i64 H, .int .i64 S, .int .i64 P, .string D, .string Q, .int .i64 z] 28 (0, 0)) := by
    rw [heap_alloc_old _ _ (by simp; omega), heap_alloc_old _ _ (by simp)]
    exact heap_alloc_new w _
  have h1 : (((w.alloc (.cells #[.slice A n c, .int .i64 I, .int .i64 H, .int .i64 S, .int .i64 P, .string D, .string Q, .int .i64 z] 28)).alloc (.cells #[.slice none 0 0, .int .i64 0, .int .i64 0, .int .i64 0, .int .i64 0, .string ⟨#[]⟩, .string ⟨#[]⟩, .int .i64 0] 36)).alloc (.cells #[.slice none 0 0, .int .i64 0, .int .i64 0, .int .i64 0, .int .i64 0, .string ⟨#[]⟩, .string ⟨#[]⟩, .int .i64 0] 36)).heap[w.heap.size + 1]? = some (.cells #[.slice none 0 0, .int .i64 0, .int .i64 0, .int .i64 0, .int .i64 0, .string ⟨#[]⟩, .string ⟨#[]⟩, .int .i64 0] 36 (0, 0)) := by
    rw [heap_alloc_old _ _ (by simp)]
    have h := heap_alloc_new (w.alloc (.cells #[.slice A n c, .int .i64 I, .int .i64 H, .int .i64 S, .int .i64 P, .string D, .string Q, .int .i64 z] 28)) (.cells #[.slice none 0 0, .int .i64 0, .int .i64 0, .int .i64 0, .int .i64 0, .string ⟨#[]⟩, .string ⟨#[]⟩, .int .i64 0] 36)
    simpa using h
  have h2 : (((w.alloc (.cells #[.slice A n c, .int .i64 I, .int .i64 H, .int .i64 S, .int .i64 P, .string D, .string Q, .int .i64 z] 28)).alloc (.cells #[.slice none 0 0, .int .i64 0, .int .i64 0, .int .i64 0, .int .i64 0, .string ⟨#[]⟩, .string ⟨#[]⟩, .int .i64 0] 36)).alloc (.cells #[.slice none 0 0, .int .i64 0, .int .i64 0, .int .i64 0, .int .i64 0, .string ⟨#[]⟩, .string ⟨#[]⟩, .int .i64 0] 36)).heap[w.heap.size + 1 + 1]? = some (.cells #[.slice none 0 0, .int .i64 0, .int .i64 0, .int .i64 0, .int .i64 0, .string ⟨#[]⟩, .string ⟨#[]⟩, .int .i64 0] 36 (0, 0)) := by
    have h := heap_alloc_new ((w.alloc (.cells #[.slice A n c, .int .i64 I, .int .i64 H, .int .i64 S, .int .i64 P, .string D, .string Q, .int .i64 z] 28)).alloc (.cells #[.slice none 0 0, .int .i64 0, .int .i64 0, .int .i64 0, .int .i64 0, .string ⟨#[]⟩, .string ⟨#[]⟩, .int .i64 0] 36)) (.cells #[.slice none 0 0, .int .i64 0, .int .i64 0, .int .i64 0, .int .i64 0, .string ⟨#[]⟩, .string ⟨#[]⟩, .int .i64 0] 36)
    simpa using h
  have hS := hs.below hX
  clear hs
  go_enter Tryd.func7, Tryd.ntmps7
  go_upto_region 2 with fail
  refine name_wp ?_
  intro w1 hw1
  rw [← hw1] at hX h0 h1 h2 hS
  have hz1 : w1.heap.size = w.heap.size + 3 := by rw [hw1]; simp
  clear hw1
  generalize hRq : w.heap.size + 1 = R1 at *
  generalize hOq : R1 + 1 = O1 at *
  have hwR : w.heap.size < R1 := by omega
  have hRO : R1 < O1 := by omega
  have hwO : w.heap.size < O1 := by omega
  have hOz : O1 < w1.heap.size := by omega
  have HRq := Lib.hid hRq
  have HOq := Lib.hid hOq
  have HZ1 := Lib.hid hz1
  clear hRq hOq hz1
  have e0 : w1.cell? ⟨w.heap.size, 0, none⟩ = some (.slice A n c) := by rw [cell_of_row w1 (w.heap.size) 0 _ _ (0, 0) h0]; rfl
  have e1 : w1.cell? ⟨w.heap.size, 1, none⟩ = some (.int .i64 I) := by rw [cell_of_row w1 (w.heap.size) 1 _ _ (0, 0) h0]; rfl
  have e2 : w1.cell? ⟨w.heap.size, 2, none⟩ = some (.int .i64 H) := by rw [cell_of_row w1 (w.heap.size) 2 _ _ (0, 0) h0]; rfl
  have e3 : w1.cell? ⟨w.heap.size, 3, none⟩ = some (.int .i64 S) := by rw [cell_of_row w1 (w.heap.size) 3 _ _ (0, 0) h0]; rfl
  have e4 : w1.cell? ⟨w.heap.size, 4, none⟩ = some (.int .i64 P) := by rw [cell_of_row w1 (w.heap.size) 4 _ _ (0, 0) h0]; rfl
  have e5 : w1.cell? ⟨w.heap.size, 5, none⟩ = some (.string D) := by rw [cell_of_row w1 (w.heap.size) 5 _ _ (0, 0) h0]; rfl
  have e6 : w1.cell? ⟨w.heap.size, 6, none⟩ = some (.string Q) := by rw [cell_of_row w1 (w.heap.size) 6 _ _ (0, 0) h0]; rfl
  have e7 : w1.cell? ⟨w.heap.size, 7, none⟩ = some (.int .i64 z) := by rw [cell_of_row w1 (w.heap.size) 7 _ _ (0, 0) h0]; rfl
  go_wp2_with fail
  refine (toWorks_any A n c lo hi f I H S P w1 hS hn hnc).mono ?_
  rintro e w2 ⟨gt, rfl, lt2, kt2, hot, hb⟩
  have h0 := rowC h0 hb
  have h1 := rowC h1 hb
  have h2 := rowC h2 hb
  have hX := below_of hX hb hX.size
  have hgt : O1 < gt := by omega
  have hgw : w.heap.size ≤ gt := by omega
  clear hb hS e0 e1 e2 e3 e4 e5 e6 e7
  have e0 : w2.cell? ⟨w.heap.size, 0, none⟩ = some (.slice A n c) := by rw [cell_of_row w2 (w.heap.size) 0 _ _ (0, 0) h0]; rfl
  have e1 : w2.cell? ⟨w.heap.size, 1, none⟩ = some (.int .i64 I) := by rw [cell_of_row w2 (w.heap.size) 1 _ _ (0, 0) h0]; rfl
  have e2 : w2.cell? ⟨w.heap.size, 2, none⟩ = some (.int .i64 H) := by rw [cell_of_row w2 (w.heap.size) 2 _ _ (0, 0) h0]; rfl
  have e3 : w2.cell? ⟨w.heap.size, 3, none⟩ = some (.int .i64 S) := by rw [cell_of_row w2 (w.heap.size) 3 _ _ (0, 0) h0]; rfl
  have e4 : w2.cell? ⟨w.heap.size, 4, none⟩ = some (.int .i64 P) := by rw [cell_of_row w2 (w.heap.size) 4 _ _ (0, 0) h0]; rfl
  have e5 : w2.cell? ⟨w.heap.size, 5, none⟩ = some (.string D) := by rw [cell_of_row w2 (w.heap.size) 5 _ _ (0, 0) h0]; rfl
  have e6 : w2.cell? ⟨w.heap.size, 6, none⟩ = some (.string Q) := by rw [cell_of_row w2 (w.heap.size) 6 _ _ (0, 0) h0]; rfl
  have e7 : w2.cell? ⟨w.heap.size, 7, none⟩ = some (.int .i64 z) := by rw [cell_of_row w2 (w.heap.size) 7 _ _ (0, 0) h0]; rfl
  have o0 : w2.cell? ⟨O1, 0, none⟩ = some (.slice none 0 0) := by rw [cell_of_row w2 (O1) 0 _ _ (0, 0) h2]; rfl
  have o1 : w2.cell? ⟨O1, 1, none⟩ = some (.int .i64 0) := by rw [cell_of_row w2 (O1) 1 _ _ (0, 0) h2]; rfl
  have o2 : w2.cell? ⟨O1, 2, none⟩ = some (.int .i64 0) := by rw [cell_of_row w2 (O1) 2 _ _ (0, 0) h2]; rfl
  have o3 : w2.cell? ⟨O1, 3, none⟩ = some (.int .i64 0) := by rw [cell_of_row w2 (O1) 3 _ _ (0, 0) h2]; rfl
  have o4 : w2.cell? ⟨O1, 4, none⟩ = some (.int .i64 0) := by rw [cell_of_row w2 (O1) 4 _ _ (0, 0) h2]; rfl
  have o5 : w2.cell? ⟨O1, 5, none⟩ = some (.string ⟨#[]⟩) := by rw [cell_of_row w2 (O1) 5 _ _ (0, 0) h2]; rfl
  have o6 : w2.cell? ⟨O1, 6, none⟩ = some (.string ⟨#[]⟩) := by rw [cell_of_row w2 (O1) 6 _ _ (0, 0) h2]; rfl
  have o7 : w2.cell? ⟨O1, 7, none⟩ = some (.int .i64 0) := by rw [cell_of_row w2 (O1) 7 _ _ (0, 0) h2]; rfl
  have of : ∀ j, w2.frozen? ⟨O1, j, none⟩ = false := fun j => frozen_of_row w2 (O1) j _ _ h2
  go_upto_region 3 with fail
  refine name_wp ?_
  intro w3 hw3'
  have hw3 : w3 = (((((w2.setCell ⟨O1, 0, none⟩ (.slice (some ⟨gt, 0, none⟩) n n)).setCell ⟨O1, 1, none⟩ (.int .i64 I)).setCell ⟨O1, 2, none⟩ (.int .i64 H)).setCell ⟨O1, 3, none⟩ (.int .i64 S)).setCell ⟨O1, 4, none⟩ (.int .i64 P)) := hw3'
  have hF : Fr (O1) (O1 + 1) w2 w3 := by
    rw [hw3]
    exact (frS (frS (frS (frS (frS (Fr.refl _ _ _) _ _) _ _) _ _) _ _) _ _)
  have h23 : w3.heap[O1]? = some (.cells #[.slice (some ⟨gt, 0, none⟩) n n, .int .i64 I, .int .i64 H, .int .i64 S, .int .i64 P, .string ⟨#[]⟩, .string ⟨#[]⟩, .int .i64 0] 36 (0, 0)) := by
    rw [hw3]
    exact (heap_setCell_same _ (O1) 4 #[.slice (some ⟨gt, 0, none⟩) n n, .int .i64 I, .int .i64 H, .int .i64 S, .int .i64 0, .string ⟨#[]⟩, .string ⟨#[]⟩, .int .i64 0] 36 (.int .i64 P) (heap_setCell_same _ (O1) 3 #[.slice (some ⟨gt, 0, none⟩) n n, .int .i64 I, .int .i64 H, .int .i64 0, .int .i64 0, .string ⟨#[]⟩, .string ⟨#[]⟩, .int .i64 0] 36 (.int .i64 S) (heap_setCell_same _ (O1) 2 #[.slice (some ⟨gt, 0, none⟩) n n, .int .i64 I, .int .i64 0, .int .i64 0, .int .i64 0, .string ⟨#[]⟩, .string ⟨#[]⟩, .int .i64 0] 36 (.int .i64 H) (heap_setCell_same _ (O1) 1 #[.slice (some ⟨gt, 0, none⟩) n n, .int .i64 0, .int .i64 0, .int .i64 0, .int .i64 0, .string ⟨#[]⟩, .string ⟨#[]⟩, .int .i64 0] 36 (.int .i64 I) (heap_setCell_same _ (O1) 0 #[.slice none 0 0, .int .i64 0, .int .i64 0, .int .i64 0, .int .i64 0, .string ⟨#[]⟩, .string ⟨#[]⟩, .int .i64 0] 36 (.slice (some ⟨gt, 0, none⟩) n n) h2)))))
  have h03 := rowG h0 hF (Or.inl (by omega))
  have h13 := rowG h1 hF (Or.inl (by omega))
  have hot3 := hot.fr hF (Or.inr (by omega))
  have hX3 : Below w.heap.size w w3 := hX.trans (hF.below (by omega) hX.size)
  clear hw3' hw3 hF h0 h1 h2 hot hX e0 e1 e2 e3 e4 e5 e6 e7 of o0 o1 o2 o3 o4 o5 o6 o7
  have e0 : w3.cell? ⟨w.heap.size, 0, none⟩ = some (.slice A n c) := by rw [cell_of_row w3 (w.heap.size) 0 _ _ (0, 0) h03]; rfl
  have e1 : w3.cell? ⟨w.heap.size, 1, none⟩ = some (.int .i64 I) := by rw [cell_of_row w3 (w.heap.size) 1 _ _ (0, 0) h03]; rfl
  have e2 : w3.cell? ⟨w.heap.size, 2, none⟩ = some (.int .i64 H) := by rw [cell_of_row w3 (w.heap.size) 2 _ _ (0, 0) h03]; rfl
  have e3 : w3.cell? ⟨w.heap.size, 3, none⟩ = some (.int .i64 S) := by rw [cell_of_row w3 (w.heap.size) 3 _ _ (0, 0) h03]; rfl
  have e4 : w3.cell? ⟨w.heap.size, 4, none⟩ = some (.int .i64 P) := by rw [cell_of_row w3 (w.heap.size) 4 _ _ (0, 0) h03]; rfl
  have e5 : w3.cell? ⟨w.heap.size, 5, none⟩ = some (.string D) := by rw [cell_of_row w3 (w.heap.size) 5 _ _ (0, 0) h03]; rfl
  have e6 : w3.cell? ⟨w.heap.size, 6, none⟩ = some (.string Q) := by rw [cell_of_row w3 (w.heap.size) 6 _ _ (0, 0) h03]; rfl
  have e7 : w3.cell? ⟨w.heap.size, 7, none⟩ = some (.int .i64 z) := by rw [cell_of_row w3 (w.heap.size) 7 _ _ (0, 0) h03]; rfl
  go_wp2_with fail
  refine (toLog_any D Q z w3).mono ?_
  rintro e w4 ⟨rfl, hb⟩
  have h04 := rowC h03 hb
  have h14 := rowC h13 hb
  have h24 := rowC h23 hb
  have hX4 := below_of hX3 hb hX3.size
  have hot4 := hot3.below hb
  clear hb h03 h13 h23 hot3 hX3 h04 e0 e1 e2 e3 e4 e5 e6 e7
  have o0 : w4.cell? ⟨O1, 0, none⟩ = some (.slice (some ⟨gt, 0, none⟩) n n) := by rw [cell_of_row w4 (O1) 0 _ _ (0, 0) h24]; rfl
  have o1 : w4.cell? ⟨O1, 1, none⟩ = some (.int .i64 I) := by rw [cell_of_row w4 (O1) 1 _ _ (0, 0) h24]; rfl
  have o2 : w4.cell? ⟨O1, 2, none⟩ = some (.int .i64 H) := by rw [cell_of_row w4 (O1) 2 _ _ (0, 0) h24]; rfl
  have o3 : w4.cell? ⟨O1, 3, none⟩ = some (.int .i64 S) := by rw [cell_of_row w4 (O1) 3 _ _ (0, 0) h24]; rfl
  have o4 : w4.cell? ⟨O1, 4, none⟩ = some (.int .i64 P) := by rw [cell_of_row w4 (O1) 4 _ _ (0, 0) h24]; rfl
  have o5 : w4.cell? ⟨O1, 5, none⟩ = some (.string ⟨#[]⟩) := by rw [cell_of_row w4 (O1) 5 _ _ (0, 0) h24]; rfl
  have o6 : w4.cell? ⟨O1, 6, none⟩ = some (.string ⟨#[]⟩) := by rw [cell_of_row w4 (O1) 6 _ _ (0, 0) h24]; rfl
  have o7 : w4.cell? ⟨O1, 7, none⟩ = some (.int .i64 0) := by rw [cell_of_row w4 (O1) 7 _ _ (0, 0) h24]; rfl
  have of : ∀ j, w4.frozen? ⟨O1, j, none⟩ = false := fun j => frozen_of_row w4 (O1) j _ _ h24
  have HO5 := Lib.hid h24
  go_upto_region 4 with fail
  refine name_wp ?_
  intro w5 hw5'
  have hw5 : w5 = (((w4.setCell ⟨O1, 5, none⟩ (.string D)).setCell ⟨O1, 6, none⟩ (.string Q)).setCell ⟨O1, 7, none⟩ (.int .i64 z)) := hw5'
  have hF : Fr (O1) (O1 + 1) w4 w5 := by
    rw [hw5]
    exact (frS (frS (frS (Fr.refl _ _ _) _ _) _ _) _ _)
  have h25 : w5.heap[O1]? = some (.cells #[.slice (some ⟨gt, 0, none⟩) n n, .int .i64 I, .int .i64 H, .int .i64 S, .int .i64 P, .string D, .string Q, .int .i64 z] 36 (0, 0)) := by
    rw [hw5]
    exact (heap_setCell_same _ (O1) 7 #[.slice (some ⟨gt, 0, none⟩) n n, .int .i64 I, .int .i64 H, .int .i64 S, .int .i64 P, .string D, .string Q, .int .i64 0] 36 (.int .i64 z) (heap_setCell_same _ (O1) 6 #[.slice (some ⟨gt, 0, none⟩) n n, .int .i64 I, .int .i64 H, .int .i64 S, .int .i64 P, .string D, .string ⟨#[]⟩, .int .i64 0] 36 (.string Q) (heap_setCell_same _ (O1) 5 #[.slice (some ⟨gt, 0, none⟩) n n, .int .i64 I, .int .i64 H, .int .i64 S, .int .i64 P, .string ⟨#[]⟩, .string ⟨#[]⟩, .int .i64 0] 36 (.string D) HO5.out)))
  have h15 := rowG h14 hF (Or.inl (by omega))
  have hot5 := hot4.fr hF (Or.inr (by omega))
  have hX5 : Below w.heap.size w w5 := hX4.trans (hF.below (by omega) hX4.size)
  clear hw5' hw5 hF h14 h24 hot4 hX4 HO5 of o0 o1 o2 o3 o4 o5 o6 o7
  have o0 : w5.cell? ⟨O1, 0, none⟩ = some (.slice (some ⟨gt, 0, none⟩) n n) := by rw [cell_of_row w5 (O1) 0 _ _ (0, 0) h25]; rfl
  have o1 : w5.cell? ⟨O1, 1, none⟩ = some (.int .i64 I) := by rw [cell_of_row w5 (O1) 1 _ _ (0, 0) h25]; rfl
  have o2 : w5.cell? ⟨O1, 2, none⟩ = some (.int .i64 H) := by rw [cell_of_row w5 (O1) 2 _ _ (0, 0) h25]; rfl
  have o3 : w5.cell? ⟨O1, 3, none⟩ = some (.int .i64 S) := by rw [cell_of_row w5 (O1) 3 _ _ (0, 0) h25]; rfl
  have o4 : w5.cell? ⟨O1, 4, none⟩ = some (.int .i64 P) := by rw [cell_of_row w5 (O1) 4 _ _ (0, 0) h25]; rfl
  have o5 : w5.cell? ⟨O1, 5, none⟩ = some (.string D) := by rw [cell_of_row w5 (O1) 5 _ _ (0, 0) h25]; rfl
  have o6 : w5.cell? ⟨O1, 6, none⟩ = some (.string Q) := by rw [cell_of_row w5 (O1) 6 _ _ (0, 0) h25]; rfl
  have o7 : w5.cell? ⟨O1, 7, none⟩ = some (.int .i64 z) := by rw [cell_of_row w5 (O1) 7 _ _ (0, 0) h25]; rfl
  have r0 : w5.cell? ⟨R1, 0, none⟩ = some (.slice none 0 0) := by rw [cell_of_row w5 (R1) 0 _ _ (0, 0) h15]; rfl
  have r1 : w5.cell? ⟨R1, 1, none⟩ = some (.int .i64 0) := by rw [cell_of_row w5 (R1) 1 _ _ (0, 0) h15]; rfl
  have r2 : w5.cell? ⟨R1, 2, none⟩ = some (.int .i64 0) := by rw [cell_of_row w5 (R1) 2 _ _ (0, 0) h15]; rfl
  have r3 : w5.cell? ⟨R1, 3, none⟩ = some (.int .i64 0) := by rw [cell_of_row w5 (R1) 3 _ _ (0, 0) h15]; rfl
  have r4 : w5.cell? ⟨R1, 4, none⟩ = some (.int .i64 0) := by rw [cell_of_row w5 (R1) 4 _ _ (0, 0) h15]; rfl
  have r5 : w5.cell? ⟨R1, 5, none⟩ = some (.string ⟨#[]⟩) := by rw [cell_of_row w5 (R1) 5 _ _ (0, 0) h15]; rfl
  have r6 : w5.cell? ⟨R1, 6, none⟩ = some (.string ⟨#[]⟩) := by rw [cell_of_row w5 (R1) 6 _ _ (0, 0) h15]; rfl
  have r7 : w5.cell? ⟨R1, 7, none⟩ = some (.int .i64 0) := by rw [cell_of_row w5 (R1) 7 _ _ (0, 0) h15]; rfl
  have rf : ∀ j, w5.frozen? ⟨R1, j, none⟩ = false := fun j => frozen_of_row w5 (R1) j _ _ h15
  have nRO : R1 ≠ O1 := by omega
  have nOR : O1 ≠ R1 := by omega
  have HLE := Lib.hid (⟨hwR, hRO, hgt, hgw⟩ : w.heap.size < R1 ∧ R1 < O1 ∧ O1 < gt ∧ w.heap.size ≤ gt)
  clear hRO hwR hwO hOz hgt hgw
  have HX5 := Lib.hid hX5
  have HOT := Lib.hid hot5
  clear h25 h15 hX5 hot5
  go_wp2
  obtain ⟨wq, hwq⟩ : ∃ wq, wq = ((((((((w5.setCell ⟨R1, 0, none⟩ (.slice (some ⟨gt, 0, none⟩) n n)).setCell ⟨R1, 1, none⟩ (.int .i64 I)).setCell ⟨R1, 2, none⟩ (.int .i64 H)).setCell ⟨R1, 3, none⟩ (.int .i64 S)).setCell ⟨R1, 4, none⟩ (.int .i64 P)).setCell ⟨R1, 5, none⟩ (.string D)).setCell ⟨R1, 6, none⟩ (.string Q)).setCell ⟨R1, 7, none⟩ (.int .i64 z)) := ⟨_, rfl⟩
  rw [← hwq]
  have u0 : wq.cell? ⟨R1, 0, none⟩ = some (.slice (some ⟨gt, 0, none⟩) n n) := by rw [hwq]; go_simp
  have u1 : wq.cell? ⟨R1, 1, none⟩ = some (.int .i64 I) := by rw [hwq]; go_simp
  have u2 : wq.cell? ⟨R1, 2, none⟩ = some (.int .i64 H) := by rw [hwq]; go_simp
  have u3 : wq.cell? ⟨R1, 3, none⟩ = some (.int .i64 S) := by rw [hwq]; go_simp
  have u4 : wq.cell? ⟨R1, 4, none⟩ = some (.int .i64 P) := by rw [hwq]; go_simp
  have u5 : wq.cell? ⟨R1, 5, none⟩ = some (.string D) := by rw [hwq]; go_simp
  have u6 : wq.cell? ⟨R1, 6, none⟩ = some (.string Q) := by rw [hwq]; go_simp
  have u7 : wq.cell? ⟨R1, 7, none⟩ = some (.int .i64 z) := by rw [hwq]; go_simp
  have hF : Fr (R1) (R1 + 1) w5 wq := by
    rw [hwq]
    exact (frS (frS (frS (frS (frS (frS (frS (frS (Fr.refl _ _ _) _ _) _ _) _ _) _ _) _ _) _ _) _ _) _ _)
  clear hwq
  try simp only [Exit.inBlock, Exit.then]
  refine bodyPost_ret (by simp [results, Tryd.results7, go_sem, u0, u1, u2, u3, u4, u5, u6, u7]; try rfl) rfl ?_
  obtain ⟨q1, q2, q3, q4⟩ := HLE.out
  refine ⟨gt, rfl, by omega, ?_, HOT.out.fr hF (Or.inr (by omega)), HX5.out.trans (hF.below (by omega) HX5.out.size)⟩
  have h1 := HOT.out.hi_le
  have h2 := hF.size
  omega
end Go.Proofs.YtegklcapfjigaaaDoor
