/-
  The helpers of the laws for Works: copy, size, equality, marks.
-/
import Derived.Test.YtjhgpebppcbleaaFlatPan
import Derived.Deep.Cut
namespace Go.Proofs.Ytjhgpebppcbleaa
open Go.RowKit
set_option linter.unusedVariables false
set_option linter.unusedSimpArgs false
attribute [local go_sem ↓] Go.wp_at_zero Go.wp_at_succ
set_option maxHeartbeats 1600000 in
theorem toWorks_any (A : Option Addr) (n c lo hi : Nat) (f : Nat → Int) (I H S P : Int) (w : World) (hs : Sl w lo hi 4 A n f) (hn : n ≤ 1048576) (hnc : n ≤ c) :
    Calls Try.prog 24 #[.agg #[.slice A n c, .int .i64 I, .int .i64 H, .int .i64 S, .int .i64 P]] w fun e w' => ∃ g, e = .returned (.agg #[.slice (some ⟨g, 0, none⟩) n n, .int .i64 I, .int .i64 H, .int .i64 S, .int .i64 P]) ∧ w.heap.size ≤ g ∧ g < w'.heap.size ∧ Own w' g (g + 1) 87 4 (some ⟨g, 0, none⟩) n f ∧ Below w.heap.size w w' := by
  have HS : Hid (Sl w lo hi 4 A n f) := hs
  clear hs
  go_enter Try.func24, Try.ntmps24
  go_wp2_with fail
  refine (toPanS_any A n c lo hi f _ (HS.out.below (by go_grown)) hn hnc).mono ?_
  rintro e w2 ⟨rfl, ho2, hb2⟩
  have hz := hb2.size
  simp only [World.size_alloc] at hz
  have b1 : w2.cell? ⟨w.heap.size, 1, none⟩ = some (.int .i64 I) := (hb2.cell (p := ⟨w.heap.size, 1, none⟩) (by simp only [World.size_alloc]; omega)).trans (by go_simp)
  have b2 : w2.cell? ⟨w.heap.size, 2, none⟩ = some (.int .i64 H) := (hb2.cell (p := ⟨w.heap.size, 2, none⟩) (by simp only [World.size_alloc]; omega)).trans (by go_simp)
  have b3 : w2.cell? ⟨w.heap.size, 3, none⟩ = some (.int .i64 S) := (hb2.cell (p := ⟨w.heap.size, 3, none⟩) (by simp only [World.size_alloc]; omega)).trans (by go_simp)
  have b4 : w2.cell? ⟨w.heap.size, 4, none⟩ = some (.int .i64 P) := (hb2.cell (p := ⟨w.heap.size, 4, none⟩) (by simp only [World.size_alloc]; omega)).trans (by go_simp)
  have r0 : w2.cell? ⟨w.heap.size + 1, 0, none⟩ = some (.slice none 0 0) := (hb2.cell (p := ⟨w.heap.size + 1, 0, none⟩) (by simp only [World.size_alloc]; omega)).trans (by go_simp)
  have r1 : w2.cell? ⟨w.heap.size + 1, 1, none⟩ = some (.int .i64 0) := (hb2.cell (p := ⟨w.heap.size + 1, 1, none⟩) (by simp only [World.size_alloc]; omega)).trans (by go_simp)
  have r2 : w2.cell? ⟨w.heap.size + 1, 2, none⟩ = some (.int .i64 0) := (hb2.cell (p := ⟨w.heap.size + 1, 2, none⟩) (by simp only [World.size_alloc]; omega)).trans (by go_simp)
  have r3 : w2.cell? ⟨w.heap.size + 1, 3, none⟩ = some (.int .i64 0) := (hb2.cell (p := ⟨w.heap.size + 1, 3, none⟩) (by simp only [World.size_alloc]; omega)).trans (by go_simp)
  have r4 : w2.cell? ⟨w.heap.size + 1, 4, none⟩ = some (.int .i64 0) := (hb2.cell (p := ⟨w.heap.size + 1, 4, none⟩) (by simp only [World.size_alloc]; omega)).trans (by go_simp)
  have rf0 : w2.frozen? ⟨w.heap.size + 1, 0, none⟩ = false := (hb2.frozen (p := ⟨w.heap.size + 1, 0, none⟩) (by simp only [World.size_alloc]; omega)).trans (by go_simp)
  have rf1 : w2.frozen? ⟨w.heap.size + 1, 1, none⟩ = false := (hb2.frozen (p := ⟨w.heap.size + 1, 1, none⟩) (by simp only [World.size_alloc]; omega)).trans (by go_simp)
  have rf2 : w2.frozen? ⟨w.heap.size + 1, 2, none⟩ = false := (hb2.frozen (p := ⟨w.heap.size + 1, 2, none⟩) (by simp only [World.size_alloc]; omega)).trans (by go_simp)
  have rf3 : w2.frozen? ⟨w.heap.size + 1, 3, none⟩ = false := (hb2.frozen (p := ⟨w.heap.size + 1, 3, none⟩) (by simp only [World.size_alloc]; omega)).trans (by go_simp)
  have rf4 : w2.frozen? ⟨w.heap.size + 1, 4, none⟩ = false := (hb2.frozen (p := ⟨w.heap.size + 1, 4, none⟩) (by simp only [World.size_alloc]; omega)).trans (by go_simp)
  have o0 : w2.cell? ⟨w.heap.size + 1 + 1, 0, none⟩ = some (.slice none 0 0) := (hb2.cell (p := ⟨w.heap.size + 1 + 1, 0, none⟩) (by simp only [World.size_alloc]; omega)).trans (by go_simp)
  have o1 : w2.cell? ⟨w.heap.size + 1 + 1, 1, none⟩ = some (.int .i64 0) := (hb2.cell (p := ⟨w.heap.size + 1 + 1, 1, none⟩) (by simp only [World.size_alloc]; omega)).trans (by go_simp)
  have o2 : w2.cell? ⟨w.heap.size + 1 + 1, 2, none⟩ = some (.int .i64 0) := (hb2.cell (p := ⟨w.heap.size + 1 + 1, 2, none⟩) (by simp only [World.size_alloc]; omega)).trans (by go_simp)
  have o3 : w2.cell? ⟨w.heap.size + 1 + 1, 3, none⟩ = some (.int .i64 0) := (hb2.cell (p := ⟨w.heap.size + 1 + 1, 3, none⟩) (by simp only [World.size_alloc]; omega)).trans (by go_simp)
  have o4 : w2.cell? ⟨w.heap.size + 1 + 1, 4, none⟩ = some (.int .i64 0) := (hb2.cell (p := ⟨w.heap.size + 1 + 1, 4, none⟩) (by simp only [World.size_alloc]; omega)).trans (by go_simp)
  have of0 : w2.frozen? ⟨w.heap.size + 1 + 1, 0, none⟩ = false := (hb2.frozen (p := ⟨w.heap.size + 1 + 1, 0, none⟩) (by simp only [World.size_alloc]; omega)).trans (by go_simp)
  have of1 : w2.frozen? ⟨w.heap.size + 1 + 1, 1, none⟩ = false := (hb2.frozen (p := ⟨w.heap.size + 1 + 1, 1, none⟩) (by simp only [World.size_alloc]; omega)).trans (by go_simp)
  have of2 : w2.frozen? ⟨w.heap.size + 1 + 1, 2, none⟩ = false := (hb2.frozen (p := ⟨w.heap.size + 1 + 1, 2, none⟩) (by simp only [World.size_alloc]; omega)).trans (by go_simp)
  have of3 : w2.frozen? ⟨w.heap.size + 1 + 1, 3, none⟩ = false := (hb2.frozen (p := ⟨w.heap.size + 1 + 1, 3, none⟩) (by simp only [World.size_alloc]; omega)).trans (by go_simp)
  have of4 : w2.frozen? ⟨w.heap.size + 1 + 1, 4, none⟩ = false := (hb2.frozen (p := ⟨w.heap.size + 1 + 1, 4, none⟩) (by simp only [World.size_alloc]; omega)).trans (by go_simp)
  have B2 : Below w.heap.size w w2 := (((Below.refl _ w).alloc (Nat.le_refl _) _).alloc (by simp only [World.size_alloc]; omega) _ |>.alloc (by simp; omega) _).trans (hb2.mono (by simp only [World.size_alloc]; omega))
  simp only [World.size_alloc] at ho2 ⊢
  have HO : Hid (Own w2 (w.heap.size + 1 + 1 + 1) (w.heap.size + 1 + 1 + 1 + 1) 87 4 (some ⟨w.heap.size + 1 + 1 + 1, 0, none⟩) n f) := ho2
  clear ho2 hb2 HS
  have n1 : w.heap.size ≠ w.heap.size + 1 := by omega
  have n2 : w.heap.size ≠ w.heap.size + 1 + 1 := by omega
  have n3 : w.heap.size + 1 ≠ w.heap.size + 1 + 1 := by omega
  have n4 : w.heap.size + 1 ≠ w.heap.size := by omega
  have n5 : w.heap.size + 1 + 1 ≠ w.heap.size := by omega
  have n6 : w.heap.size + 1 + 1 ≠ w.heap.size + 1 := by omega
  have hxr : w.heap.size ≤ w.heap.size + 1 := by omega
  have hxo : w.heap.size ≤ w.heap.size + 1 + 1 := by omega
  have hro0 : (w.heap.size + 1) + 1 ≤ w.heap.size + 1 + 1 := Nat.le_refl _
  generalize hor : w.heap.size + 1 + 1 = o at *
  generalize hrr : w.heap.size + 1 = r at *
  generalize hxx : w.heap.size = x at *
  go_upto_region 7 with fail
  obtain ⟨wz, hwz⟩ : ∃ wz, wz = (((((w2.setCell ⟨o, 0, none⟩ (.slice (some ⟨o + 1, 0, none⟩) n n)).setCell ⟨o, 1, none⟩ (.int .i64 I)).setCell ⟨o, 2, none⟩ (.int .i64 H)).setCell ⟨o, 3, none⟩ (.int .i64 S)).setCell ⟨o, 4, none⟩ (.int .i64 P)) := ⟨_, rfl⟩
  rw [← hwz]
  have z0 : wz.cell? ⟨o, 0, none⟩ = some (.slice (some ⟨o + 1, 0, none⟩) n n) := by rw [hwz]; go_simp
  have z1 : wz.cell? ⟨o, 1, none⟩ = some (.int .i64 I) := by rw [hwz]; go_simp
  have z2 : wz.cell? ⟨o, 2, none⟩ = some (.int .i64 H) := by rw [hwz]; go_simp
  have z3 : wz.cell? ⟨o, 3, none⟩ = some (.int .i64 S) := by rw [hwz]; go_simp
  have z4 : wz.cell? ⟨o, 4, none⟩ = some (.int .i64 P) := by rw [hwz]; go_simp
  have y0 : wz.cell? ⟨r, 0, none⟩ = some (.slice none 0 0) := by rw [hwz]; go_simp
  have yf0 : wz.frozen? ⟨r, 0, none⟩ = false := by rw [hwz]; go_simp
  have y1 : wz.cell? ⟨r, 1, none⟩ = some (.int .i64 0) := by rw [hwz]; go_simp
  have yf1 : wz.frozen? ⟨r, 1, none⟩ = false := by rw [hwz]; go_simp
  have y2 : wz.cell? ⟨r, 2, none⟩ = some (.int .i64 0) := by rw [hwz]; go_simp
  have yf2 : wz.frozen? ⟨r, 2, none⟩ = false := by rw [hwz]; go_simp
  have y3 : wz.cell? ⟨r, 3, none⟩ = some (.int .i64 0) := by rw [hwz]; go_simp
  have yf3 : wz.frozen? ⟨r, 3, none⟩ = false := by rw [hwz]; go_simp
  have y4 : wz.cell? ⟨r, 4, none⟩ = some (.int .i64 0) := by rw [hwz]; go_simp
  have yf4 : wz.frozen? ⟨r, 4, none⟩ = false := by rw [hwz]; go_simp
  have BZ : Below x w wz := by rw [hwz]; exact (((((B2.setCell hxo _).setCell hxo _).setCell hxo _).setCell hxo _).setCell hxo _)
  have hF : Fr o (o + 1) w2 wz := by
    rw [hwz]
    refine Fr.setCell (Fr.setCell (Fr.setCell (Fr.setCell (Fr.setCell (Fr.refl _ _ _) ?_ ?_ _) ?_ ?_ _) ?_ ?_ _) ?_ ?_ _) ?_ ?_ _
    all_goals (first | exact Nat.le_refl _ | exact Nat.lt_succ_self _)
  have HZ : Hid (Own wz (o + 1) (o + 1 + 1) 87 4 (some ⟨o + 1, 0, none⟩) n f) := HO.out.fr hF (Or.inr (Nat.le_refl _))
  have hro : r + 1 ≤ o := by omega
  clear hF
  clear hwz B2 HO b1 b2 b3 b4 r0 r1 r2 r3 r4 rf0 rf1 rf2 rf3 rf4 o0 o1 o2 o3 o4 of0 of1 of2 of3 of4
  go_wp2
  have hF2 : Fr r (r + 1) wz (((((wz.setCell ⟨r, 0, none⟩ (.slice (some ⟨o + 1, 0, none⟩) n n)).setCell ⟨r, 1, none⟩ (.int .i64 I)).setCell ⟨r, 2, none⟩ (.int .i64 H)).setCell ⟨r, 3, none⟩ (.int .i64 S)).setCell ⟨r, 4, none⟩ (.int .i64 P)) := by
    refine Fr.setCell (Fr.setCell (Fr.setCell (Fr.setCell (Fr.setCell (Fr.refl _ _ _) ?_ ?_ _) ?_ ?_ _) ?_ ?_ _) ?_ ?_ _) ?_ ?_ _
    all_goals (first | exact Nat.le_refl _ | exact Nat.lt_succ_self _)
  obtain ⟨wq, hwq⟩ : ∃ wq, wq = (((((wz.setCell ⟨r, 0, none⟩ (.slice (some ⟨o + 1, 0, none⟩) n n)).setCell ⟨r, 1, none⟩ (.int .i64 I)).setCell ⟨r, 2, none⟩ (.int .i64 H)).setCell ⟨r, 3, none⟩ (.int .i64 S)).setCell ⟨r, 4, none⟩ (.int .i64 P)) := ⟨_, rfl⟩
  rw [← hwq] at hF2
  rw [← hwq]
  have q0 : wq.cell? ⟨r, 0, none⟩ = some (.slice (some ⟨o + 1, 0, none⟩) n n) := by rw [hwq]; go_simp
  have q1 : wq.cell? ⟨r, 1, none⟩ = some (.int .i64 I) := by rw [hwq]; go_simp
  have q2 : wq.cell? ⟨r, 2, none⟩ = some (.int .i64 H) := by rw [hwq]; go_simp
  have q3 : wq.cell? ⟨r, 3, none⟩ = some (.int .i64 S) := by rw [hwq]; go_simp
  have q4 : wq.cell? ⟨r, 4, none⟩ = some (.int .i64 P) := by rw [hwq]; go_simp
  clear hwq
  refine bodyPost_ret (by simp [results, Try.results24, go_sem, q0, q1, q2, q3, q4]; try rfl) rfl ?_
  refine ⟨o + 1, rfl, by omega, ?_, HZ.out.fr hF2 (Or.inr (by omega)), by rw [hxx]; exact BZ.trans (hF2.below hxr (by have := BZ.size; omega))⟩
  have h1 := HZ.out.hi_le
  have h2 := hF2.size
  omega
theorem szWorks_big (A : Option Addr) (n c : Nat) (I H S P left : Int) (w : World) (hn : (n : Int) ≤ 9223372036854775807) (h0 : 0 ≤ left) (hl : left ≤ 1048576) (h : left < n) :
    Calls Try.prog 23 #[.agg #[.slice A n c, .int .i64 I, .int .i64 H, .int .i64 S, .int .i64 P], .int .i64 left] w fun e w' => e = .returned (.int .i64 (-1)) ∧ Below w.heap.size w w' := by
  go_enter Try.func23, Try.ntmps23
  go_wp2_with (go_at_call 59; refine (szPanS_big _ _ _ _ _ hn h0 hl h).mono ?_; rintro e w2 ⟨rfl, rfl⟩)
  go_ret
  exact ⟨rfl, by go_grown⟩
theorem szWorks_ok (A : Option Addr) (n c : Nat) (I H S P left : Int) (w : World) (h0 : 0 ≤ left) (hl : left ≤ 1048576) (h : n ≤ left) :
    Calls Try.prog 23 #[.agg #[.slice A n c, .int .i64 I, .int .i64 H, .int .i64 S, .int .i64 P], .int .i64 left] w fun e w' => e = .returned (.int .i64 (left - n)) ∧ Below w.heap.size w w' := by
  have h1 : ¬ (left - (n : Int) < 0) := by omega
  go_enter Try.func23, Try.ntmps23
  go_wp2_with (go_at_call 59; refine (szPanS_ok _ _ _ _ _ h0 hl h).mono ?_; rintro e w2 ⟨rfl, rfl⟩)
  go_ret
  exact ⟨rfl, by go_grown⟩
set_option maxHeartbeats 800000 in
theorem eqWorks_same (A B : Option Addr) (n c d lo hi lo' hi' : Nat) (f : Nat → Int) (I H S P : Int) (w : World) (hs : Sl w lo hi 4 A n f) (ht : Sl w lo' hi' 4 B n f) (hn : n ≤ 1048576) (hnc : n ≤ c) (hnd : n ≤ d) :
    Calls Try.prog 26 #[.agg #[.slice A n c, .int .i64 I, .int .i64 H, .int .i64 S, .int .i64 P], .agg #[.slice B n d, .int .i64 I, .int .i64 H, .int .i64 S, .int .i64 P]] w fun e w' => e = .returned (.bool true) ∧ Below w.heap.size w w' := by
  have HS : Hid (Sl w lo hi 4 A n f) := hs
  have HT : Hid (Sl w lo' hi' 4 B n f) := ht
  clear hs ht
  go_enter Try.func26, Try.ntmps26
  go_wp2_with fail
  refine (eqPanS_same A B n c d lo hi lo' hi' f _ (HS.out.below (by go_grown)) (HT.out.below (by go_grown)) hn hnc hnd).mono ?_
  rintro e w2 ⟨rfl, hb2⟩
  have x1 : w2.cell? ⟨w.heap.size, 1, none⟩ = some (.int .i64 I) := (hb2.cell (p := ⟨w.heap.size, 1, none⟩) (by simp only [World.size_alloc]; omega)).trans (by go_simp)
  have x2 : w2.cell? ⟨w.heap.size, 2, none⟩ = some (.int .i64 H) := (hb2.cell (p := ⟨w.heap.size, 2, none⟩) (by simp only [World.size_alloc]; omega)).trans (by go_simp)
  have x3 : w2.cell? ⟨w.heap.size, 3, none⟩ = some (.int .i64 S) := (hb2.cell (p := ⟨w.heap.size, 3, none⟩) (by simp only [World.size_alloc]; omega)).trans (by go_simp)
  have x4 : w2.cell? ⟨w.heap.size, 4, none⟩ = some (.int .i64 P) := (hb2.cell (p := ⟨w.heap.size, 4, none⟩) (by simp only [World.size_alloc]; omega)).trans (by go_simp)
  have y1 : w2.cell? ⟨w.heap.size + 1, 1, none⟩ = some (.int .i64 I) := (hb2.cell (p := ⟨w.heap.size + 1, 1, none⟩) (by simp only [World.size_alloc]; omega)).trans (by go_simp)
  have y2 : w2.cell? ⟨w.heap.size + 1, 2, none⟩ = some (.int .i64 H) := (hb2.cell (p := ⟨w.heap.size + 1, 2, none⟩) (by simp only [World.size_alloc]; omega)).trans (by go_simp)
  have y3 : w2.cell? ⟨w.heap.size + 1, 3, none⟩ = some (.int .i64 S) := (hb2.cell (p := ⟨w.heap.size + 1, 3, none⟩) (by simp only [World.size_alloc]; omega)).trans (by go_simp)
  have y4 : w2.cell? ⟨w.heap.size + 1, 4, none⟩ = some (.int .i64 P) := (hb2.cell (p := ⟨w.heap.size + 1, 4, none⟩) (by simp only [World.size_alloc]; omega)).trans (by go_simp)
  have B2 : Below w.heap.size w w2 := ((Below.refl _ w).alloc (Nat.le_refl _) _).alloc (by simp only [World.size_alloc]; omega) _ |>.trans (hb2.mono (by simp only [World.size_alloc]; omega))
  clear hb2 HS HT
  go_wp2
  go_ret
  exact ⟨rfl, B2⟩
end Go.Proofs.Ytjhgpebppcbleaa
