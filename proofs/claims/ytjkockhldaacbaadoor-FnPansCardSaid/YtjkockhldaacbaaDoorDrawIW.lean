/-
  DrawIsWorks and the draws that are the same: some works of at most 7 pans, whatever the bytes.
-/
import Derived.Test.YtjkockhldaacbaaDoorPk1
import Derived.Test.YtjkockhldaacbaaDoorDrawWK
import Derived.Test.YtjkockhldaacbaaDoorPk8
namespace Go.Proofs.YtjkockhldaacbaaDoor
open Go.RowKit
set_option linter.unusedVariables false
set_option linter.unusedSimpArgs false
theorem Drawn.setRes {w : World} {lo : Nat} {e : TypeId} {k m c : Nat} {A : Option Addr} {f : Nat → Int} {p : Addr} (h : Drawn w lo e k A m c f) (hp : p.block < lo) (u : Value) : Drawn (w.setCell p u) lo e k A m c f :=
  ⟨h.le, h.max, h.nil, h.form, ⟨by simp [World.setCell], fun hn => by
    obtain ⟨g, cur, e1, h1, h2, h3⟩ := h.own.here hn
    exact ⟨g, cur, e1, h1, by simpa [World.setCell] using h2, by rw [heap_setCell_other _ _ _ _ (by omega)]; exact h3.1, h3.2⟩⟩⟩
set_option maxRecDepth 100000 in
set_option maxHeartbeats 1000000 in
theorem DrawIsWorks_any (A : Option Addr) (n c : Nat) (w : World) (hc : Code w A n) (hn : n ≤ 65536) :
    Calls Tryd.prog 32 #[.slice A n c] w fun e w' => ∃ (B : Option Addr) (m cm : Nat) (L : List Int) (I H S P : Int), e = .returned (.agg #[.slice B m cm, .int .i64 I, .int .i64 H, .int .i64 S, .int .i64 P]) ∧ m ≤ 7 ∧ Drawn w' w.heap.size 48 4 B m cm (lf L) ∧ Below w.heap.size w w' := by
  go_enter Tryd.func32, Tryd.ntmps32
  go_wp2_with fail
  refine nameC ?_
  intro w1 hw1
  have hB2 : Below w.heap.size w (w.alloc (.cells #[.slice none 0 0, .int .i64 0, .int .i64 0, .int .i64 0, .int .i64 0] 26)) := (Below.refl _ w).alloc (Nat.le_refl _) _
  have hB : Below w.heap.size w w1 := by rw [hw1]; exact hB2.alloc (by simp) _
  have h2 : w1.heap[w.heap.size]? = some (.cells #[.slice none 0 0, .int .i64 0, .int .i64 0, .int .i64 0, .int .i64 0] 26 (0, 0)) := by
    rw [hw1, heap_alloc_old _ _ (by simp)]
    exact heap_alloc_new w _
  have hC : Cur w1 (w.heap.size + 1) A n c 0 := by rw [hw1]; have h := (hc.below hB2).cur (c := c) (T := 64); simpa using h
  have hgl := hC.lt
  clear hw1 hc hB2
  refine (works_any (w.heap.size + 1) n c 0 A w1 hC hn (by omega)).mono ?_
  rintro e w2 ⟨B, m, cm, L, I, H, S, P, rfl, hm7, hmc, hcm, hown, hC, hf⟩
  have h2 := (hf.block _ (Array.getElem?_eq_some_iff.1 h2).1 (Or.inl (by omega))).trans h2
  have hB := hB.trans (hf.below (by omega) hB.size)
  have hown := ownsRow_monoP hown (show w.heap.size + 1 ≤ w1.heap.size by omega)
  clear hf hC
  obtain ⟨r0, r1, r2, r3, r4⟩ := cells5 h2
  have rf : ∀ j, w2.frozen? ⟨w.heap.size, j, none⟩ = false := fun j => frozen_of_row w2 (w.heap.size) j _ _ h2
  have H2 := Lib.hid h2
  have HB := Lib.hid hB
  have HO := Lib.hid hown
  clear h2 hB hown
  go_wp2
  obtain ⟨wq, hwq⟩ : ∃ wq, wq = (((((w2.setCell ⟨w.heap.size, 0, none⟩ (.slice B m cm)).setCell ⟨w.heap.size, 1, none⟩ (.int .i64 I)).setCell ⟨w.heap.size, 2, none⟩ (.int .i64 H)).setCell ⟨w.heap.size, 3, none⟩ (.int .i64 S)).setCell ⟨w.heap.size, 4, none⟩ (.int .i64 P)) := ⟨_, rfl⟩
  rw [← hwq]
  have q0 : wq.cell? ⟨w.heap.size, 0, none⟩ = some (.slice B m cm) := by rw [hwq]; go_simp
  have q1 : wq.cell? ⟨w.heap.size, 1, none⟩ = some (.int .i64 I) := by rw [hwq]; go_simp
  have q2 : wq.cell? ⟨w.heap.size, 2, none⟩ = some (.int .i64 H) := by rw [hwq]; go_simp
  have q3 : wq.cell? ⟨w.heap.size, 3, none⟩ = some (.int .i64 S) := by rw [hwq]; go_simp
  have q4 : wq.cell? ⟨w.heap.size, 4, none⟩ = some (.int .i64 P) := by rw [hwq]; go_simp
  have no : ∀ j : Nat, (Value.slice B m cm).ownBlock ≠ some (⟨w.heap.size, j, none⟩ : Addr).block := fun j e => row_none_ne HO.out H2.out (by decide) e
  have hq := (ownsRow_setCell_other (ownsRow_setCell_other (ownsRow_setCell_other (ownsRow_setCell_other (ownsRow_setCell_other HO.out (no 0) (.slice B m cm)) (no 1) (.int .i64 I)) (no 2) (.int .i64 H)) (no 3) (.int .i64 S)) (no 4) (.int .i64 P))
  have hBq := (((((HB.out.setCell (p := ⟨w.heap.size, 0, none⟩) (Nat.le_refl _) (.slice B m cm)).setCell (p := ⟨w.heap.size, 1, none⟩) (Nat.le_refl _) (.int .i64 I)).setCell (p := ⟨w.heap.size, 2, none⟩) (Nat.le_refl _) (.int .i64 H)).setCell (p := ⟨w.heap.size, 3, none⟩) (Nat.le_refl _) (.int .i64 S)).setCell (p := ⟨w.heap.size, 4, none⟩) (Nat.le_refl _) (.int .i64 P))
  rw [← hwq] at hq hBq
  obtain ⟨B9, c9, e9, hd⟩ := drawnRow_of 4 hq (show w.heap.size ≤ w.heap.size + 1 by omega)
  cases e9
  clear hwq HO H2
  try simp only [Exit.inBlock, Exit.then]
  refine bodyPost_ret (by simp [results, Tryd.results32, go_sem, q0, q1, q2, q3, q4]; try rfl) rfl ?_
  exact ⟨_, _, _, _, _, _, _, _, rfl, hm7, hd, hBq⟩
set_option maxHeartbeats 1000000 in
theorem DrawPanOrder_any (A : Option Addr) (n c : Nat) (w : World) (hc : Code w A n) (hn : n ≤ 65536) :
    Calls Tryd.prog 9 #[.slice A n c] w fun e w' => ∃ (B : Option Addr) (m cm : Nat) (L : List Int) (I H S P : Int), e = .returned (.agg #[.slice B m cm, .int .i64 I, .int .i64 H, .int .i64 S, .int .i64 P]) ∧ m ≤ 7 ∧ Drawn w' w.heap.size 48 4 B m cm (lf L) ∧ Below w.heap.size w w' := by
  go_enter Tryd.func9, Tryd.ntmps9
  go_wp2_with fail
  refine nameC ?_
  intro w1 hw1
  have hB : Below w.heap.size w w1 := by rw [hw1]; exact (Below.refl _ w).alloc (Nat.le_refl _) _
  have h2 : w1.heap[w.heap.size]? = some (.cells #[.slice none 0 0, .int .i64 0, .int .i64 0, .int .i64 0, .int .i64 0] 26 (0, 0)) := by rw [hw1]; exact heap_alloc_new w _
  have hc := hc.below hB
  clear hw1
  have hgl := (Array.getElem?_eq_some_iff.1 h2).1
  refine (DrawIsWorks_any A n c w1 hc hn).mono ?_
  rintro e w2 ⟨B, m, cm, L, I, H, S, P, rfl, hm7, hd, hb⟩
  have h2 := rowB h2 hb
  have hB := below_of hB hb hB.size
  clear hb
  obtain ⟨r0, r1, r2, r3, r4⟩ := cells5 h2
  have rf : ∀ j, w2.frozen? ⟨w.heap.size, j, none⟩ = false := fun j => frozen_of_row w2 (w.heap.size) j _ _ h2
  have HB := Lib.hid hB
  have HD := Lib.hid hd
  clear h2 hB hd
  go_wp2
  obtain ⟨wq, hwq⟩ : ∃ wq, wq = (((((w2.setCell ⟨w.heap.size, 0, none⟩ (.slice B m cm)).setCell ⟨w.heap.size, 1, none⟩ (.int .i64 I)).setCell ⟨w.heap.size, 2, none⟩ (.int .i64 H)).setCell ⟨w.heap.size, 3, none⟩ (.int .i64 S)).setCell ⟨w.heap.size, 4, none⟩ (.int .i64 P)) := ⟨_, rfl⟩
  rw [← hwq]
  have q0 : wq.cell? ⟨w.heap.size, 0, none⟩ = some (.slice B m cm) := by rw [hwq]; go_simp
  have q1 : wq.cell? ⟨w.heap.size, 1, none⟩ = some (.int .i64 I) := by rw [hwq]; go_simp
  have q2 : wq.cell? ⟨w.heap.size, 2, none⟩ = some (.int .i64 H) := by rw [hwq]; go_simp
  have q3 : wq.cell? ⟨w.heap.size, 3, none⟩ = some (.int .i64 S) := by rw [hwq]; go_simp
  have q4 : wq.cell? ⟨w.heap.size, 4, none⟩ = some (.int .i64 P) := by rw [hwq]; go_simp
  have hq := (((((HD.out.setRes (p := ⟨w.heap.size, 0, none⟩) (by show w.heap.size < w1.heap.size; omega) (.slice B m cm)).setRes (p := ⟨w.heap.size, 1, none⟩) (by show w.heap.size < w1.heap.size; omega) (.int .i64 I)).setRes (p := ⟨w.heap.size, 2, none⟩) (by show w.heap.size < w1.heap.size; omega) (.int .i64 H)).setRes (p := ⟨w.heap.size, 3, none⟩) (by show w.heap.size < w1.heap.size; omega) (.int .i64 S)).setRes (p := ⟨w.heap.size, 4, none⟩) (by show w.heap.size < w1.heap.size; omega) (.int .i64 P)).lo_le (show w.heap.size ≤ w1.heap.size by omega)
  have hBq := (((((HB.out.setCell (p := ⟨w.heap.size, 0, none⟩) (Nat.le_refl _) (.slice B m cm)).setCell (p := ⟨w.heap.size, 1, none⟩) (Nat.le_refl _) (.int .i64 I)).setCell (p := ⟨w.heap.size, 2, none⟩) (Nat.le_refl _) (.int .i64 H)).setCell (p := ⟨w.heap.size, 3, none⟩) (Nat.le_refl _) (.int .i64 S)).setCell (p := ⟨w.heap.size, 4, none⟩) (Nat.le_refl _) (.int .i64 P))
  rw [← hwq] at hq hBq
  clear hwq HD HB
  try simp only [Exit.inBlock, Exit.then]
  refine bodyPost_ret (by simp [results, Tryd.results9, go_sem, q0, q1, q2, q3, q4]; try rfl) rfl ?_
  exact ⟨_, _, _, _, _, _, _, _, rfl, hm7, hq, hBq⟩
end Go.Proofs.YtjkockhldaacbaaDoor
