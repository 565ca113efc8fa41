/-
  Texts of this claim, merged.
-/
import Derived.Test.YtpndjhelpoenpaaGreatDoorZA18
set_option linter.unusedVariables false
set_option linter.unusedSimpArgs false
set_option maxRecDepth 100000
set_option maxHeartbeats 8000000
namespace Go.Proofs.YtpndjhelpoenpaaGreatDoor
open Go.RowKit
attribute [local go_sem ↓] Go.wp_at_zero Go.wp_at_succ
theorem toWorks_any (A : Option Addr) (n c lo hi : Nat) (f : Nat → Int) (I H S P : Int) (w : World) (hs : Sl w lo hi 4 A n f) (hn : n ≤ 1048576) (hnc : n ≤ c) :
  Calls Tryz.prog 46 #[.agg #[.slice A n c, .int .i64 I, .int .i64 H, .int .i64 S, .int .i64 P]] w fun e w' => ∃ g, e = .returned (.agg #[.slice (some ⟨g, 0, none⟩) n n, .int .i64 I, .int .i64 H, .int .i64 S, .int .i64 P]) ∧ w.heap.size ≤ g ∧ g < w'.heap.size ∧ Own w' g (g + 1) 97 4 (some ⟨g, 0, none⟩) n f ∧ Below w.heap.size w w' := by
 have HS : Hid (Sl w lo hi 4 A n f) := hs
 clear hs
 go_enter Tryz.func46, Tryz.ntmps46
 go_wp2_with fail
 refine (toPanS_any A n c lo hi f _ (HS.out.below (by go_grown)) hn hnc).mono ?_
 rintro e w2 ⟨rfl, ho2, hb2⟩
 have hz := hb2.size
 simp only [World.size_alloc] at hz
 have b1 : w2.cell? ⟨w.heap.size, 1, none⟩ = some (.int .i64 I) := (hb2.cell (p := ⟨w.heap.size, 1, none⟩) (by simp only [World.size_alloc]; omega)).trans (by go_simp)
 have b2 : w2.cell? ⟨w.heap.size, 2, none⟩ = some (.int .i64 H) := (hb2.cell (p := ⟨w.heap.size, 2, none⟩) (by simp only [World.size_alloc]; omega)).trans (by go_simp)
 have b3 : w2.cell? ⟨w.heap.size, 3, none⟩ = some (.int .i64 S) := (hb2.cell (p := ⟨w.heap.size, 3, none⟩) (by simp only [World.size_alloc]; omega)).trans (by go_simp)
 have b4 : w2.cell? ⟨w.heap.size, 4, none⟩ = some (.int .i64 P) := (hb2.cell (p := ⟨w.heap.size, 4, none⟩) (by simp only [World.size_alloc]; omega)).trans (by go_simp)
 have r0 : w2.cell? ⟨w.heap.size + 1, 0, none⟩ = some (.slice none 0 0) := (hb2.cell (p := ⟨w.heap.size + 1, 0, none⟩) (by simp only [World.size_alloc]; omega)).trans (by go_simp)
 have r1 : w2.cell? ⟨w.heap.size + 1, 1, none⟩ = some (.int .i64 0) := (hb2.cell (p := ⟨w.heap.size + 1, 1, none⟩) (by simp only [World.size_alloc]; omega)).trans (by go_simp)
 have r2 : w2.cell? ⟨w.heap.size + 1, 2, none⟩ = some (.int .i64 0) := (hb2.cell (p := ⟨w.heap.size + 1, 2, none⟩) (by simp only [World.size_alloc]; omega)).trans (by go_simp)
 have r3 : w2.cell? ⟨w.heap.size + 1, 3, none⟩ = some (.int .i64 0) := (hb2.cell (p := ⟨w.heap.size + 1, 3, none⟩) (by simp only [World.size_alloc]; omega)).trans (by go_simp)
 have r4 : w2.cell? ⟨w.heap.size + 1, 4, none⟩ = some (.int .i64 0) := (hb2.cell (p := ⟨w.heap.size + 1, 4, none⟩) (by simp only [World.size_alloc]; omega)).trans (by go_simp)
 have rf0 : w2.frozen? ⟨w.heap.size + 1, 0, none⟩ = false := (hb2.frozen (p := ⟨w.heap.size + 1, 0, none⟩) (by simp only [World.size_alloc]; omega)).trans (by go_simp)
 have rf1 : w2.frozen? ⟨w.heap.size + 1, 1, none⟩ = false := (hb2.frozen (p := ⟨w.heap.size + 1, 1, none⟩) (by simp only [World.size_alloc]; omega)).trans (by go_simp)
 have rf2 : w2.frozen? ⟨w.heap.size + 1, 2, none⟩ = false := (hb2.frozen (p := ⟨w.heap.size + 1, 2, none⟩) (by simp only [World.size_alloc]; omega)).trans (by go_simp)
 have rf3 : w2.frozen? ⟨w.heap.size + 1, 3, none⟩ = false := (hb2.frozen (p := ⟨w.heap.size + 1, 3, none⟩) (by simp only [World.size_alloc]; omega)).trans (by go_simp)
 have rf4 : w2.frozen? ⟨w.heap.size + 1, 4, none⟩ = false := (hb2.frozen (p := ⟨w.heap.size + 1, 4, none⟩) (by simp only [World.size_alloc]; omega)).trans (by go_simp)
 have o0 : w2.cell? ⟨w.heap.size + 1 + 1, 0, none⟩ = some (.slice none 0 0) := (hb2.cell (p := ⟨w.heap.size + 1 + 1, 0, none⟩) (by simp only [World.size_alloc]; omega)).trans (by go_simp)
 have o1 : w2.cell? ⟨w.heap.size + 1 + 1, 1, none⟩ = some (.int .i64 0) := (hb2.cell (p := ⟨w.heap.size + 1 + 1, 1, none⟩) (by simp only [World.size_alloc]; omega)).trans (by go_simp)
 have o2 : w2.cell? ⟨w.heap.size + 1 + 1, 2, none⟩ = some (.int .i64 0) := (hb2.cell (p := ⟨w.heap.size + 1 + 1, 2, none⟩) (by simp only [World.size_alloc]; omega)).trans (by go_simp)
 have o3 : w2.cell? ⟨w.heap.size + 1 + 1, 3, none⟩ = some (.int .i64 0) := (hb2.cell (p := ⟨w.heap.size + 1 + 1, 3, none⟩) (by simp only [World.size_alloc]; omega)).trans (by go_simp)
 have o4 : w2.cell? ⟨w.heap.size + 1 + 1, 4, none⟩ = some (.int .i64 0) := (hb2.cell (p := ⟨w.heap.size + 1 + 1, 4, none⟩) (by simp only [World.size_alloc]; omega)).trans (by go_simp)
 have of0 : w2.frozen? ⟨w.heap.size + 1 + 1, 0, none⟩ = false := (hb2.frozen (p := ⟨w.heap.size + 1 + 1, 0, none⟩) (by simp only [World.size_alloc]; omega)).trans (by go_simp)
 have of1 : w2.frozen? ⟨w.heap.size + 1 + 1, 1, none⟩ = false := (hb2.frozen (p := ⟨w.heap.size + 1 + 1, 1, none⟩) (by simp only [World.size_alloc]; omega)).trans (by go_simp)
 have of2 : w2.frozen? ⟨w.heap.size + 1 + 1, 2, none⟩ = false := (hb2.frozen (p := ⟨w.heap.size + 1 + 1, 2, none⟩) (by simp only [World.size_alloc]; omega)).trans (by go_simp)
 have of3 : w2.frozen? ⟨w.heap.size + 1 + 1, 3, none⟩ = false := (hb2.frozen (p := ⟨w.heap.size + 1 + 1, 3, none⟩) (by simp only [World.size_alloc]; omega)).trans (by go_simp)
 have of4 : w2.frozen? ⟨w.heap.size + 1 + 1, 4, none⟩ = false := (hb2.frozen (p := ⟨w.heap.size + 1 + 1, 4, none⟩) (by simp only [World.size_alloc]; omega)).trans (by go_simp)
 have B2 : Below w.heap.size w w2 := (((Below.refl _ w).alloc (Nat.le_refl _) _).alloc (by simp only [World.size_alloc]; omega) _ |>.alloc (by simp; omega) _).trans (hb2.mono (by simp only [World.size_alloc]; omega))
 simp only [World.size_alloc] at ho2 ⊢
 have HO : Hid (Own w2 (w.heap.size + 1 + 1 + 1) (w.heap.size + 1 + 1 + 1 + 1) 97 4 (some ⟨w.heap.size + 1 + 1 + 1, 0, none⟩) n f) := ho2
 clear ho2 hb2 HS
 have n1 : w.heap.size ≠ w.heap.size + 1 := by omega
 have n2 : w.heap.size ≠ w.heap.size + 1 + 1 := by omega
 have n3 : w.heap.size + 1 ≠ w.heap.size + 1 + 1 := by omega
 have n4 : w.heap.size + 1 ≠ w.heap.size := by omega
 have n5 : w.heap.size + 1 + 1 ≠ w.heap.size := by omega
 have n6 : w.heap.size + 1 + 1 ≠ w.heap.size + 1 := by omega
 have hxr : w.heap.size ≤ w.heap.size + 1 := by omega
 have hxo : w.heap.size ≤ w.heap.size + 1 + 1 := by omega
 have hro0 : (w.heap.size + 1) + 1 ≤ w.heap.size + 1 + 1 := Nat.le_refl _
 generalize hor : w.heap.size + 1 + 1 = o at *
 generalize hrr : w.heap.size + 1 = r at *
 generalize hxx : w.heap.size = x at *
 go_upto_region 7 with fail
 obtain ⟨wz, hwz⟩ : ∃ wz, wz = (((((w2.setCell ⟨o, 0, none⟩ (.slice (some ⟨o + 1, 0, none⟩) n n)).setCell ⟨o, 1, none⟩ (.int .i64 I)).setCell ⟨o, 2, none⟩ (.int .i64 H)).setCell ⟨o, 3, none⟩ (.int .i64 S)).setCell ⟨o, 4, none⟩ (.int .i64 P)) := ⟨_, rfl⟩
 rw [← hwz]
 have z0 : wz.cell? ⟨o, 0, none⟩ = some (.slice (some ⟨o + 1, 0, none⟩) n n) := by rw [hwz]; go_simp
 have z1 : wz.cell? ⟨o, 1, none⟩ = some (.int .i64 I) := by rw [hwz]; go_simp
 have z2 : wz.cell? ⟨o, 2, none⟩ = some (.int .i64 H) := by rw [hwz]; go_simp
 have z3 : wz.cell? ⟨o, 3, none⟩ = some (.int .i64 S) := by rw [hwz]; go_simp
 have z4 : wz.cell? ⟨o, 4, none⟩ = some (.int .i64 P) := by rw [hwz]; go_simp
 have y0 : wz.cell? ⟨r, 0, none⟩ = some (.slice none 0 0) := by rw [hwz]; go_simp
 have yf0 : wz.frozen? ⟨r, 0, none⟩ = false := by rw [hwz]; go_simp
 have y1 : wz.cell? ⟨r, 1, none⟩ = some (.int .i64 0) := by rw [hwz]; go_simp
 have yf1 : wz.frozen? ⟨r, 1, none⟩ = false := by rw [hwz]; go_simp
 have y2 : wz.cell? ⟨r, 2, none⟩ = some (.int .i64 0) := by rw [hwz]; go_simp
 have yf2 : wz.frozen? ⟨r, 2, none⟩ = false := by rw [hwz]; go_simp
 have y3 : wz.cell? ⟨r, 3, none⟩ = some (.int .i64 0) := by rw [hwz]; go_simp
 have yf3 : wz.frozen? ⟨r, 3, none⟩ = false := by rw [hwz]; go_simp
 have y4 : wz.cell? ⟨r, 4, none⟩ = some (.int .i64 0) := by rw [hwz]; go_simp
 have yf4 : wz.frozen? ⟨r, 4, none⟩ = false := by rw [hwz]; go_simp
 have BZ : Below x w wz := by rw [hwz]; exact (((((B2.setCell hxo _).setCell hxo _).setCell hxo _).setCell hxo _).setCell hxo _)
 have hF : Fr o (o + 1) w2 wz := by
  rw [hwz]
  refine Fr.setCell (Fr.setCell (Fr.setCell (Fr.setCell (Fr.setCell (Fr.refl _ _ _) ?_ ?_ _) ?_ ?_ _) ?_ ?_ _) ?_ ?_ _) ?_ ?_ _
  all_goals (first | exact Nat.le_refl _ | exact Nat.lt_succ_self _)
 have HZ : Hid (Own wz (o + 1) (o + 1 + 1) 97 4 (some ⟨o + 1, 0, none⟩) n f) := HO.out.fr hF (Or.inr (Nat.le_refl _))
 have hro : r + 1 ≤ o := by omega
 clear hF
 clear hwz B2 HO b1 b2 b3 b4 r0 r1 r2 r3 r4 rf0 rf1 rf2 rf3 rf4 o0 o1 o2 o3 o4 of0 of1 of2 of3 of4
 go_wp2
 have hF2 : Fr r (r + 1) wz (((((wz.setCell ⟨r, 0, none⟩ (.slice (some ⟨o + 1, 0, none⟩) n n)).setCell ⟨r, 1, none⟩ (.int .i64 I)).setCell ⟨r, 2, none⟩ (.int .i64 H)).setCell ⟨r, 3, none⟩ (.int .i64 S)).setCell ⟨r, 4, none⟩ (.int .i64 P)) := by
  refine Fr.setCell (Fr.setCell (Fr.setCell (Fr.setCell (Fr.setCell (Fr.refl _ _ _) ?_ ?_ _) ?_ ?_ _) ?_ ?_ _) ?_ ?_ _) ?_ ?_ _
  all_goals (first | exact Nat.le_refl _ | exact Nat.lt_succ_self _)
 obtain ⟨wq, hwq⟩ : ∃ wq, wq = (((((wz.setCell ⟨r, 0, none⟩ (.slice (some ⟨o + 1, 0, none⟩) n n)).setCell ⟨r, 1, none⟩ (.int .i64 I)).setCell ⟨r, 2, none⟩ (.int .i64 H)).setCell ⟨r, 3, none⟩ (.int .i64 S)).setCell ⟨r, 4, none⟩ (.int .i64 P)) := ⟨_, rfl⟩
 rw [← hwq] at hF2
 rw [← hwq]
 have q0 : wq.cell? ⟨r, 0, none⟩ = some (.slice (some ⟨o + 1, 0, none⟩) n n) := by rw [hwq]; go_simp
 have q1 : wq.cell? ⟨r, 1, none⟩ = some (.int .i64 I) := by rw [hwq]; go_simp
 have q2 : wq.cell? ⟨r, 2, none⟩ = some (.int .i64 H) := by rw [hwq]; go_simp
 have q3 : wq.cell? ⟨r, 3, none⟩ = some (.int .i64 S) := by rw [hwq]; go_simp
 have q4 : wq.cell? ⟨r, 4, none⟩ = some (.int .i64 P) := by rw [hwq]; go_simp
 clear hwq
 refine bodyPost_ret (by simp [results, Tryz.results46, go_sem, q0, q1, q2, q3, q4]; try rfl) rfl ?_
 refine ⟨o + 1, rfl, by omega, ?_, HZ.out.fr hF2 (Or.inr (by omega)), by rw [hxx]; exact BZ.trans (hF2.below hxr (by have := BZ.size; omega))⟩
 have h1 := HZ.out.hi_le
 have h2 := hF2.size
 omega
theorem szWorks_big (A : Option Addr) (n c : Nat) (I H S P left : Int) (w : World) (hn : (n : Int) ≤ 9223372036854775807) (h0 : 0 ≤ left) (hl : left ≤ 1048576) (h : left < n) :
  Calls Tryz.prog 40 #[.agg #[.slice A n c, .int .i64 I, .int .i64 H, .int .i64 S, .int .i64 P], .int .i64 left] w fun e w' => e = .returned (.int .i64 (-1)) ∧ Below w.heap.size w w' := by
 go_enter Tryz.func40, Tryz.ntmps40
 go_wp2_with (go_at_call 78; refine (szPanS_big _ _ _ _ _ hn h0 hl h).mono ?_; rintro e w2 ⟨rfl, rfl⟩)
 go_ret
 exact ⟨rfl, by go_grown⟩
theorem szWorks_ok (A : Option Addr) (n c : Nat) (I H S P left : Int) (w : World) (h0 : 0 ≤ left) (hl : left ≤ 1048576) (h : n ≤ left) :
  Calls Tryz.prog 40 #[.agg #[.slice A n c, .int .i64 I, .int .i64 H, .int .i64 S, .int .i64 P], .int .i64 left] w fun e w' => e = .returned (.int .i64 (left - n)) ∧ Below w.heap.size w w' := by
 have h1 : ¬ (left - (n : Int) < 0) := by omega
 go_enter Tryz.func40, Tryz.ntmps40
 go_wp2_with (go_at_call 78; refine (szPanS_ok _ _ _ _ _ h0 hl h).mono ?_; rintro e w2 ⟨rfl, rfl⟩)
 go_ret
 exact ⟨rfl, by go_grown⟩
theorem eqWorks_same (A B : Option Addr) (n c d lo hi lo' hi' : Nat) (f : Nat → Int) (I H S P : Int) (w : World) (hs : Sl w lo hi 4 A n f) (ht : Sl w lo' hi' 4 B n f) (hn : n ≤ 1048576) (hnc : n ≤ c) (hnd : n ≤ d) :
  Calls Tryz.prog 52 #[.agg #[.slice A n c, .int .i64 I, .int .i64 H, .int .i64 S, .int .i64 P], .agg #[.slice B n d, .int .i64 I, .int .i64 H, .int .i64 S, .int .i64 P]] w fun e w' => e = .returned (.bool true) ∧ Below w.heap.size w w' := by
 have HS : Hid (Sl w lo hi 4 A n f) := hs
 have HT : Hid (Sl w lo' hi' 4 B n f) := ht
 clear hs ht
 go_enter Tryz.func52, Tryz.ntmps52
 go_wp2_with fail
 refine (eqPanS_same A B n c d lo hi lo' hi' f _ (HS.out.below (by go_grown)) (HT.out.below (by go_grown)) hn hnc hnd).mono ?_
 rintro e w2 ⟨rfl, hb2⟩
 have x1 : w2.cell? ⟨w.heap.size, 1, none⟩ = some (.int .i64 I) := (hb2.cell (p := ⟨w.heap.size, 1, none⟩) (by simp only [World.size_alloc]; omega)).trans (by go_simp)
 have x2 : w2.cell? ⟨w.heap.size, 2, none⟩ = some (.int .i64 H) := (hb2.cell (p := ⟨w.heap.size, 2, none⟩) (by simp only [World.size_alloc]; omega)).trans (by go_simp)
 have x3 : w2.cell? ⟨w.heap.size, 3, none⟩ = some (.int .i64 S) := (hb2.cell (p := ⟨w.heap.size, 3, none⟩) (by simp only [World.size_alloc]; omega)).trans (by go_simp)
 have x4 : w2.cell? ⟨w.heap.size, 4, none⟩ = some (.int .i64 P) := (hb2.cell (p := ⟨w.heap.size, 4, none⟩) (by simp only [World.size_alloc]; omega)).trans (by go_simp)
 have y1 : w2.cell? ⟨w.heap.size + 1, 1, none⟩ = some (.int .i64 I) := (hb2.cell (p := ⟨w.heap.size + 1, 1, none⟩) (by simp only [World.size_alloc]; omega)).trans (by go_simp)
 have y2 : w2.cell? ⟨w.heap.size + 1, 2, none⟩ = some (.int .i64 H) := (hb2.cell (p := ⟨w.heap.size + 1, 2, none⟩) (by simp only [World.size_alloc]; omega)).trans (by go_simp)
 have y3 : w2.cell? ⟨w.heap.size + 1, 3, none⟩ = some (.int .i64 S) := (hb2.cell (p := ⟨w.heap.size + 1, 3, none⟩) (by simp only [World.size_alloc]; omega)).trans (by go_simp)
 have y4 : w2.cell? ⟨w.heap.size + 1, 4, none⟩ = some (.int .i64 P) := (hb2.cell (p := ⟨w.heap.size + 1, 4, none⟩) (by simp only [World.size_alloc]; omega)).trans (by go_simp)
 have B2 : Below w.heap.size w w2 := ((Below.refl _ w).alloc (Nat.le_refl _) _).alloc (by simp only [World.size_alloc]; omega) _ |>.trans (hb2.mono (by simp only [World.size_alloc]; omega))
 clear hb2 HS HT
 go_wp2
 go_ret
 exact ⟨rfl, B2⟩
end Go.Proofs.YtpndjhelpoenpaaGreatDoor
namespace Go.Proofs.YtpndjhelpoenpaaGreatDoor
open Go.RowKit
attribute [local go_sem ↓] Go.wp_at_zero Go.wp_at_succ
def recCells : List (BA × BA) → List Value
 | [] => []
 | e :: L => .string e.1 :: .string e.2 :: recCells L
theorem recCells_app (L : List (BA × BA)) (e : BA × BA) : recCells (L ++ [e]) = recCells L ++ [.string e.1, .string e.2] := by
 induction L with
 | nil => rfl
 | cons x L ih => simp [recCells, ih]
def lenOf : Value → Nat
 | .slice _ n _ => n
 | _ => 0
theorem own_form {w : World} {base : Nat} {e : TypeId} {size : Nat} {v : Value} {n : Nat} {xs : List Value} (h : w.ownsRow base e size v n xs) : ∃ A c, v = .slice A n c ∧ n ≤ c ∧ c ≤ maxLen := by
 rcases h.2 with ⟨rfl, rfl⟩ | ⟨g, cap, cur, rfl, _, _, h1, h2, _⟩
 ·exact ⟨none, 0, rfl, Nat.le_refl _, by unfold maxLen; omega⟩
 ·exact ⟨_, cap, rfl, h1, h2⟩
theorem infoRec : (Tryz.prog.info? 70).map (fun i => (i.zero, i.size, i.bytes)) = some (some (.agg #[.string ⟨#[]⟩, .string ⟨#[]⟩]), 2, 32) := by kernel_rfl
theorem wpList_append_rec {ops : Array Oper} {rest : List Oper} {o : Oper} {a : Act} {Q : Exit → Act → World → Prop} (w : World) (hg : o.guard = none) (s x : Operand) (t : TypeId)
  (hop : o.op = Op.call { callee := Callee.builtin Builtin.append, args := #[s, x], argTypes := #[t, t] }) (base : Nat) (ht : Tryz.prog.underlying t = some (.slice 70)) (L : List (BA × BA)) (p q : BA) (v : Value) (hs : a.eval s = v)
  (hown : w.ownsRow base 70 2 v L.length (recCells L)) (b : Nat) (hx : a.eval x = .slice (some ⟨b, 0, none⟩) 1 1) (hc : w.cell? ⟨b, 0, none⟩ = some (.string p)) (hc1 : w.cell? ⟨b, 1, none⟩ = some (.string q)) (hlen : L.length ≤ 100000000) (hbase : base ≤ w.heap.size)
  (h : ∀ v' w', w'.ownsRow base 70 2 v' (L ++ [(p, q)]).length (recCells (L ++ [(p, q)])) → w.grownBy w' v.ownBlock → wpList Tryz.prog ops Q rest (a.put o.dst v') w') :
  wpList Tryz.prog ops Q (o :: rest) a w := by
 obtain ⟨i, hi, hz0, hz1, hz2⟩ := info_parts infoRec
 refine wpList_append_own w hg s x t hop base 70 i (.agg #[.string ⟨#[]⟩, .string ⟨#[]⟩]) 2 32 ht hi hz0 hz1 hz2 rfl (by decide) v L.length (recCells L) hs hown ⟨b, 0, none⟩ 1 1 [.string p, .string q] hx rfl ?_ ?_ ?_ ?_ hbase ?_
 ·intro j u' hj
  match j, hj with
  | 0, hj => simp at hj; subst hj; simpa [Addr.add] using hc
  | 1, hj => simp at hj; subst hj; simpa [Addr.add] using hc1
 ·intro u' hu
  simp at hu
  rcases hu with rfl | rfl <;> rfl
 ·unfold maxLen; omega
 ·omega
 ·intro v' w' hown' hgrow _
  exact h v' w' (by rw [recCells_app]; simpa using hown') hgrow
theorem implText_size (s : BA) : (implText s).size ≤ s.size := by
 unfold implText
 split
 ·exact bef_size 35 s
 ·exact Nat.zero_le _
theorem aft_size (c : UInt8) (s : BA) : (aft c s).size ≤ s.size := by
 rw [← size_list (aft c s), aft_data, List.length_drop, ← size_list s]
 have := (List.dropWhile_sublist (fun x => x != c) (l := s.data.toList)).length_le
 omega
theorem readRecords_any (s : BA) (hs : s.size ≤ 4000000) (w : World) (ht : Tab w) (hm : Mx w) :
  Calls Tryz.prog 74 #[.string s] w fun e w' => ∃ v, e = .returned (.tuple #[v, .int .i64 ((readN s 60).2 : Nat)]) ∧ w'.ownsRow w.heap.size 70 2 v (readN s 60).1.length (recCells (readN s 60).1) ∧ Below w.heap.size w w' := by
 have HT := lh ht
 have HM := lh hm
 clear ht hm
 go_enter Tryz.func74, Tryz.ntmps74
 go_wp2_with fail
 go_loopw [4, 5] (fun v rd wr => ∃ m : Nat, m ≤ 60 ∧ Hid ((readN s m).1.length = m) ∧ rd = .int .i64 ((readN s m).2 : Nat) ∧ wr.ownsRow w.heap.size 70 2 v (readN s m).1.length (recCells (readN s m).1) ∧ Below w.heap.size w wr) (fun v _ _ => 60 - lenOf v)
 case atStart => exact ⟨0, by omega, rfl, rfl, World.ownsRow_nil _ _ _ _, Below.refl _ _⟩
 case round =>
  obtain ⟨m, hm60, hlm, rfl, hown, hB⟩ := hrel
  obtain ⟨hat, _⟩ := readN_at s m hm60
  have hsz := hB.size
  obtain ⟨A4, c4, hv4, _, _⟩ := own_form hown
  rw [hlm.out] at hv4
  have HST : Hid (∀ n, m ≤ n → stepR s m (readN s m).2 = none → readN s n = readN s m) := fun n hn hs => readN_stop hlm.out hs hn
  have HYE : Hid (∀ e a, stepR s m (readN s m).2 = some (e, a) → readN s (m + 1) = ((readN s m).1 ++ [e], a)) := fun e a hs => readN_yes hlm.out hs
  have HL : Hid ((readN s m).1.length = m) := hlm.out
  have hl : (readN s m).1.length ≤ 100000000 := by rw [hlm.out]; omega
  clear hlm
  have HRN := lh (Eq.refl (readN s m))
  generalize hR : readN s m = RN at *
  obtain ⟨L, at_⟩ := RN
  simp only at *
  have HR := lh hR
  have HO : Hid (wr.ownsRow w.heap.size 70 2 u4 L.length (recCells L)) := hown
  clear hR HRN hown
  subst hv4
  have hat0 : (0 : Int) ≤ (at_ : Int) := by omega
  have hat1 : (at_ : Int) ≤ (s.size : Int) := by omega
  by_cases hlt : m < 60
  ·have hst : Hid (stepR s m at_ = if noByte (s.extract at_ s.size) 10 then none else (dec m (bef 10 (s.extract at_ s.size))).map fun e => (e, at_ + (bef 10 (s.extract at_ s.size)).size + 1)) := rfl
   have hxs : (s.extract at_ s.size).size ≤ 4000000 := by simp [ByteArray.size_extract]; omega
   have hmi : (m : Int) < 60 := by omega
   have hm0 : (0 : Int) ≤ (m : Int) := by omega
   generalize hX : s.extract at_ s.size = X at hst hxs
   have hls := bef_size 10 X
   go_wp2_with fail
   first | rw [hX] | skip
   refine (Cut_any X 10 (by omega) wr (HM.out.below hB)).mono ?_
   rintro e w1 ⟨rfl, hb1⟩
   clear hX
   have B1 := below_of hB hb1 hB.size
   cases hn : noByte X 10 with
   | true =>
    have hnone : Hid (stepR s m at_ = none) := by show _ = _; rw [hst.out, hn]; simp
    go_wp2_with fail
    go_ret2
    refine ⟨.slice A4 m c4, ?_, ?_, B1⟩
    ·have hq := HST.out 60 (by omega) hnone.out; rw [hq]; try rfl
    ·rw [HST.out 60 (by omega) hnone.out]; exact ownsRow_below HO.out hb1
   | false =>
    have hst2 : Hid (stepR s m at_ = (dec m (bef 10 X)).map fun e => (e, at_ + (bef 10 X).size + 1)) := by show _ = _; rw [hst.out, hn]; simp
    clear hst
    generalize hLN : bef 10 X = line at hst2 hls
    have HO1 := lh (ownsRow_below HO.out hb1)
    clear HO hb1
    have T1 := HT.out.below B1
    have M1 := HM.out.below B1
    go_wp2_with fail
    first | rw [hLN] | skip
    refine (VerifyChecksum_any line (by omega) w1 T1 M1).mono ?_
    rintro e w2 ⟨⟨bb, rfl⟩, hb2⟩
    have B2 := below_of B1 hb2 B1.size
    have hti := implText_size line
    have hid := lh (impl_dec (k := m) (line := line) (by omega) (by omega))
    generalize implText line = txt at hti hid
    have HO2 := lh (ownsRow_below HO1.out hb2)
    clear HO1 hb2 T1 M1
    go_wp2_with fail
    refine (Cut_any txt 32 (by omega) w2 (HM.out.below B2)).mono ?_
    rintro e w3 ⟨rfl, hb3⟩
    have B3 := below_of B2 hb3 B2.size
    have hrs := aft_size 32 txt
    generalize aft 32 txt = rst at hrs hid
    have HO3 := lh (ownsRow_below HO2.out hb3)
    clear HO2 hb3
    go_wp2_with fail
    refine (Cut_any rst 64 (by omega) w3 (HM.out.below B3)).mono ?_
    rintro e w4 ⟨rfl, hb4⟩
    have B4 := below_of B3 hb4 B3.size
    have hcs := bef_size 64 rst
    have hrs2 := aft_size 64 rst
    generalize bef 64 rst = cm at hcs hid
    generalize aft 64 rst = rp at hrs2 hid
    have HO4 := lh (ownsRow_below HO3.out hb4)
    clear HO3 hb4
    have hci : (cm.size : Int) ≤ 9223372036854775807 := by omega
    have hri : (rp.size : Int) ≤ 9223372036854775807 := by omega
    have hl1 : (line.size : Int) + 1 ≤ 9223372036854775807 := by omega
    have hl2 : line.size + 1 ≤ 9223372036854775807 := by omega
    have AL4 := (Below.refl _ w4).alloc (Nat.le_refl _) (.cells #[.string cm, .string rp] 70)
    have B5 : Below w.heap.size w (w4.alloc (.cells #[.string cm, .string rp] 70)) := B4.alloc B4.size _
    have hin : inR (m : Int) 0 59 = true := by simp only [inR, decide_eq_true_eq]; omega
    have HE := lh (EncodeRecord_any m cm rp hci hri _ (HT.out.below B5))
    rw [hin] at HE
    simp only [Bool.true_and] at HE
    go_wp2_with fail
    refine HE.out.mono ?_
    clear HE
    cases hgd : goodRec cm rp with
    | false =>
     have hnone : Hid (stepR s m at_ = none) := by show _ = _; rw [hst2.out, hid.out, lineIs, hgd]; rfl
     rintro e w6 ⟨rfl, hb6⟩
     go_wp2_with fail
     go_ret2
     refine ⟨.slice A4 m c4, ?_, ?_, below_of B5 hb6 B5.size⟩
     ·have hq := HST.out 60 (by omega) hnone.out; rw [hq]; try rfl
     ·rw [HST.out 60 (by omega) hnone.out]; exact ownsRow_below (ownsRow_below HO4.out AL4) hb6
    | true =>
     by_cases hsl : sealB (bodyB m cm rp) = line
     ·have hsome : Hid (stepR s m at_ = some ((cm, rp), at_ + line.size + 1)) := by show _ = _; rw [hst2.out, hid.out, lineIs, hgd, hsl]; simp
      have hcmp : ((lineB m cm rp).toList == (line ++ ⟨#[10]⟩).toList) = true := by rw [toList_beq, lineB, hsl]; simp
      have HC := lh hcmp
      clear hsl hcmp
      rintro e w6 ⟨rfl, hb6⟩
      obtain ⟨q0, q1⟩ := cells2 (bx (g := w4.heap.size) hb6)
      have HO6 := lh (ownsRow_below (ownsRow_below HO4.out AL4) hb6)
      have B6 := below_of B5 hb6 B5.size
      have hs6 := B6.size
      have hcmp := HC.out
      generalize lineB m cm rp = LB at hcmp
      clear HO4 hb6 AL4 B5 HC
      go_wp2_with (at_builtin; refine wpList_append_rec _ rfl _ _ 66 rfl w.heap.size Tryz.underlying66 L cm rp _ rfl (HO6.out.alloc _) _ rfl (by simp) (by simp) hl (by simp; omega) ?_; intro v' w7 hown7 hgrow7)
      go_roundw
      case rel => exact ⟨m + 1, by omega, by show _ = _; rw [HYE.out _ _ hsome.out]; simp [HL.out], by rw [HYE.out _ _ hsome.out]; go_num, by rw [HYE.out _ _ hsome.out]; exact hown7, below_app (B6.alloc hs6 _) (HO6.out.alloc _) hgrow7⟩
      case measure =>
       obtain ⟨A7, c7, rfl, _, _⟩ := own_form hown7
       have := HL.out
       simp [lenOf]; omega
     ·have hnone : Hid (stepR s m at_ = none) := by show _ = _; rw [hst2.out, hid.out, lineIs]; simp [hsl]
      have hcmp : ((lineB m cm rp).toList == (line ++ ⟨#[10]⟩).toList) = false := by
       rw [toList_beq]
       refine decide_eq_false (fun e => hsl ?_)
       have := congrArg (fun x : BA => x.data.toList) e
       simp only [lineB, Joins.data_append] at this
       exact ba_ext (List.append_cancel_right this)
      have HC := lh hcmp
      clear hsl hcmp
      rintro e w6 ⟨rfl, hb6⟩
      have hcmp := HC.out
      generalize lineB m cm rp = LB at hcmp
      clear HC
      go_wp2_with fail
      go_ret2
      refine ⟨.slice A4 m c4, ?_, ?_, below_of B5 hb6 B5.size⟩
      ·have hq := HST.out 60 (by omega) hnone.out; rw [hq]; try rfl
      ·rw [HST.out 60 (by omega) hnone.out]; exact ownsRow_below (ownsRow_below HO4.out AL4) hb6
  ·obtain rfl : m = 60 := by omega
   go_wp2_with fail
   go_ret2
   exact ⟨.slice A4 60 c4, by have hq := HR.out; rw [hq]; try rfl, by rw [HR.out]; exact HO.out, hB⟩
end Go.Proofs.YtpndjhelpoenpaaGreatDoor
namespace Go.Proofs.YtpndjhelpoenpaaGreatDoor
open Go.RowKit
attribute [local go_sem ↓] Go.wp_at_zero Go.wp_at_succ
def aheadB (k : Int) : BA := numB k ++ ⟨#[32]⟩
def restB (k : Int) (s : BA) : BA := (bef 35 s).extract (aheadB k).size (bef 35 s).size
def repB (k : Int) (s : BA) : BA := (restB k s).extract ((bef 64 (restB k s)).size + 1) (restB k s).size
theorem spec_facts {k : Int} {s c r : BA} (h0 : 0 ≤ k) (h : dec k s = some (c, r)) : ¬ (bef 35 s).size < (aheadB k).size ∧ (bef 35 s).extract 0 (aheadB k).size = aheadB k ∧ bef 64 (restB k s) = c ∧ (bef 64 (restB k s)).size ≠ (restB k s).size ∧ repB k s = r := by
 obtain ⟨h1, h2⟩ := spec_dec h0 h
 have h1' : bef 35 s = aheadB k ++ ((c ++ ⟨#[64]⟩) ++ r) := h1
 have hr : restB k s = (c ++ ⟨#[64]⟩) ++ r := by unfold restB; rw [h1']; exact ext_right rfl
 have h64 : (ByteArray.mk #[64]).size = 1 := rfl
 refine ⟨?_, ?_, ?_, ?_, ?_⟩
 ·rw [h1', size_app]; omega
 ·rw [h1']; exact ext_left _ _
 ·rw [hr]; exact h2
 ·rw [hr, h2, size_app, size_app]; omega
 ·unfold repB
  rw [hr, h2]
  have : c.size + 1 = (c ++ ⟨#[64]⟩).size := by rw [size_app]; rfl
  rw [this]
  exact ext_right rfl
theorem spec_none {k : Int} {s : BA} (h0 : 0 ≤ k) (h : (bef 35 s).size < (aheadB k).size ∨ (bef 35 s).extract 0 (aheadB k).size ≠ aheadB k ∨ (bef 64 (restB k s)).size = (restB k s).size ∨ lineIs k (bef 64 (restB k s)) (repB k s) s = false) : dec k s = none := by
 cases hd : dec k s with
 | none => rfl
 | some e =>
  exfalso
  obtain ⟨c, r⟩ := e
  obtain ⟨a1, a2, a3, a4, a5⟩ := spec_facts h0 hd
  rcases h with h | h | h | h
  ·exact a1 h
  ·exact h a2
  ·exact a4 h
  ·rw [a3, a5, dec_some hd] at h; cases h
theorem split_val {w : World} {lo : Nat} {v : Value} {P : List BA} {x : BA} (h : w.ownsRow lo 9 1 v P.length (P.map Value.string)) (h1 : 1 ≤ P.length) (hx : P.headD ⟨#[]⟩ = x) :
  ∃ g c, v = .slice (some ⟨g, 0, none⟩) P.length c ∧ w.cell? ⟨g, 0, none⟩ = some (.string x) := by
 rcases h.2 with ⟨_, h0⟩ | ⟨g, cap, cur, rfl, _, hg, _⟩
 ·omega
 ·refine ⟨g, cap, rfl, ?_⟩
  have := h.cells (g := g) rfl 0 (.string x) (by
   cases P with
   | nil => simp at h1
   | cons y P => simp at hx; subst hx; rfl)
  simpa [Addr.add] using this
theorem zero_row {w w' : World} (h : Below (w.alloc (.cells #[.string ⟨#[]⟩, .string ⟨#[]⟩] 70)).heap.size (w.alloc (.cells #[.string ⟨#[]⟩, .string ⟨#[]⟩] 70)) w') : w'.heap[w.heap.size]? = some (.cells #[.string ⟨#[]⟩, .string ⟨#[]⟩] 70 (0, 0)) :=
 (h.block w.heap.size (by simp)).trans (heap_alloc_new w _)
theorem row2 {w : World} {g : Nat} {p q : BA} (h : w.heap[g]? = some (.cells #[.string p, .string q] 70 (0, 0))) : w.cell? ⟨g, 0, none⟩ = some (.string p) ∧ w.cell? ⟨g, 1, none⟩ = some (.string q) ∧ w.frozen? ⟨g, 0, none⟩ = false ∧ w.frozen? ⟨g, 1, none⟩ = false := by
 refine ⟨by rw [cell_of_row w g 0 _ _ (0, 0) h]; rfl, by rw [cell_of_row w g 1 _ _ (0, 0) h]; rfl, by simp [World.frozen?, h], by simp [World.frozen?, h]⟩
theorem row2_set {w : World} {g : Nat} {p q x y : BA} (h : w.heap[g]? = some (.cells #[.string p, .string q] 70 (0, 0))) : ((w.setCell ⟨g, 0, none⟩ (.string x)).setCell ⟨g, 1, none⟩ (.string y)).heap[g]? = some (.cells #[.string x, .string y] 70 (0, 0)) := by
 simp [World.setCell, Array.getElem?_modify, h]
def ReadPost (w : World) (k : Int) (s : BA) (e : Ending) (w' : World) : Prop :=
 (∃ c r b, e = .returned (.tuple #[.agg #[.string c, .string r], .bool b]) ∧ (b = true → dec k s = some (c, r)) ∧ (b = false → dec k s = none)) ∧ Below w.heap.size w w'
theorem l27Read_any (s : BA) (k : Int) (h0 : 0 ≤ k) (h1 : k ≤ 59) (hs : s.size ≤ 4000000) (w : World) :
  Calls Tryz.prog 148 #[.string s, .int .i64 k] w (ReadPost w k s) := by
 have HAL : Below w.heap.size w (w.alloc (.cells #[.string ⟨#[]⟩, .string ⟨#[]⟩] 70)) := (Below.refl _ w).alloc (Nat.le_refl _) _
 have hts := bef_size 35 s
 have hnz := numB_size (n := k) (by omega) (by omega)
 have hAz : (aheadB k).size ≤ 22 := by
  have := numB_size (n := k) (by omega) (by omega)
  simp only [aheadB, ByteArray.size_append', ByteArray.size_mk', List.size_toArray, List.length_cons, List.length_nil]; omega
 have hAdef : Hid (numB k ++ ⟨#[32]⟩ = aheadB k) := rfl
 have HSN := lh (spec_none (k := k) (s := s) h0)
 have hrs : (restB k s).size ≤ 4000000 := by unfold restB; simp [ByteArray.size_extract]; omega
 have hask := bef_size 64 (restB k s)
 have hrp : (repB k s).size ≤ 4000000 := by unfold repB; simp [ByteArray.size_extract]; omega
 have hRdef : Hid ((bef 35 s).extract (aheadB k).size (bef 35 s).size = restB k s) := rfl
 have hPdef : Hid ((restB k s).extract ((bef 64 (restB k s)).size + 1) (restB k s).size = repB k s) := rfl
 have HDI := lh (fun h => dec_of_is (k := k) (c := bef 64 (restB k s)) (r := repB k s) (line := s) h0 h)
 by_cases c1 : (bef 35 s).size < (aheadB k).size
 ·have hNone : Hid (dec k s = none) := HSN.out (.inl c1)
  have c1i : ((bef 35 s).size : Int) < ((aheadB k).size : Int) := by omega
  go_enter Tryz.func148, Tryz.ntmps148
  go_wp2_with fail
  refine (l1Num_any k h0 (by omega) _).mono ?_
  rintro e w1 ⟨rfl, hb1⟩
  go_wp2_with fail
  refine (l1Split_any s 35 hs w1).mono ?_
  rintro e w2 ⟨v2, P2, rfl, hown2, hP1, hPh, _, _, hb2⟩
  have hbx := hb1.trans (hb2.mono hb1.size)
  obtain ⟨g2, c2, rfl, hc2⟩ := split_val hown2 hP1 hPh
  have hP2 : (0 : Int) < (P2.length : Int) := by omega
  have hP3 : 0 < P2.length := by omega
  clear hb1 hb2 hown2 hP1 hPh
  have h4_ := zero_row hbx
  obtain ⟨z0, z1, z2, z3⟩ := row2 h4_
  have B2 : Below w.heap.size w w2 := HAL.trans (hbx.mono (by simp))
  have lt2 : w.heap.size < w2.heap.size := Nat.lt_of_lt_of_le (by simp) hbx.size
  rw [hAdef.out]
  go_wp2_with fail
  obtain ⟨a0, a1, _, _⟩ := row2 (row2_set (x := ⟨#[]⟩) (y := ⟨#[]⟩) h4_)
  have BZ := (B2.setCell (p := ⟨w.heap.size, 0, none⟩) (Nat.le_refl _) (.string ⟨#[]⟩)).setCell (p := ⟨w.heap.size, 1, none⟩) (Nat.le_refl _) (.string ⟨#[]⟩)
  generalize (w2.setCell ⟨w.heap.size, 0, none⟩ (.string ⟨#[]⟩)).setCell ⟨w.heap.size, 1, none⟩ (.string ⟨#[]⟩) = WZ at *
  (try simp only [Exit.inBlock, Exit.then]); refine bodyPost_ret (by simp [results, Tryz.results148, go_sem, a0, a1]; try rfl) rfl ?_
  exact ⟨⟨_, _, _, rfl, (fun h => by cases h), fun _ => hNone.out⟩, BZ⟩
 ·have c1i : ¬ (((bef 35 s).size : Int) < ((aheadB k).size : Int)) := by omega
  have c1j : ((aheadB k).size : Int) ≤ ((bef 35 s).size : Int) := by omega
  have c1k : (0 : Int) ≤ ((aheadB k).size : Int) := by omega
  by_cases c2 : (bef 35 s).extract 0 (aheadB k).size = aheadB k
  ·have hcm : (((bef 35 s).extract 0 (aheadB k).size).toList == (aheadB k).toList) = true := by rw [toList_beq, c2]; simp
   clear c2
   by_cases c3 : (bef 64 (restB k s)).size = (restB k s).size
   ·have hNone : Hid (dec k s = none) := HSN.out (.inr (.inr (.inl c3)))
    have c3i : (((bef 64 (restB k s)).size : Int) == ((restB k s).size : Int)) = true := by rw [c3]; simp
    go_enter Tryz.func148, Tryz.ntmps148
    go_wp2_with fail
    refine (l1Num_any k h0 (by omega) _).mono ?_
    rintro e w1 ⟨rfl, hb1⟩
    go_wp2_with fail
    refine (l1Split_any s 35 hs w1).mono ?_
    rintro e w2 ⟨v2, P2, rfl, hown2, hP1, hPh, _, _, hb2⟩
    have hbx := hb1.trans (hb2.mono hb1.size)
    obtain ⟨g2, c2, rfl, hc2⟩ := split_val hown2 hP1 hPh
    have hP2 : (0 : Int) < (P2.length : Int) := by omega
    have hP3 : 0 < P2.length := by omega
    clear hb1 hb2 hown2 hP1 hPh
    have h4_ := zero_row hbx
    obtain ⟨z0, z1, z2, z3⟩ := row2 h4_
    have B2 : Below w.heap.size w w2 := HAL.trans (hbx.mono (by simp))
    have lt2 : w.heap.size < w2.heap.size := Nat.lt_of_lt_of_le (by simp) hbx.size
    rw [hAdef.out]
    go_wp2_with fail
    rw [hRdef.out]
    refine (l1Split_any (restB k s) 64 hrs w2).mono ?_
    rintro e w3 ⟨v3, P3, rfl, hown3, hQ1, hQh, _, _, hb3⟩
    obtain ⟨g3, c3', rfl, hc3⟩ := split_val hown3 hQ1 hQh
    have hQ2 : (0 : Int) < (P3.length : Int) := by omega
    have hQ3 : 0 < P3.length := by omega
    clear hown3 hQ1 hQh
    have B3 := below_of B2 hb3 B2.size
    have lt3 : w.heap.size < w3.heap.size := Nat.lt_of_lt_of_le lt2 hb3.size
    have h4w3 := (hb3.block w.heap.size lt2).trans h4_
    obtain ⟨y0, y1, y2, y3⟩ := row2 h4w3
    clear z0 z1 z2 z3 hc2
    go_wp2_with fail
    obtain ⟨a0, a1, _, _⟩ := row2 (row2_set (x := ⟨#[]⟩) (y := ⟨#[]⟩) h4w3)
    have BZ := (B3.setCell (p := ⟨w.heap.size, 0, none⟩) (Nat.le_refl _) (.string ⟨#[]⟩)).setCell (p := ⟨w.heap.size, 1, none⟩) (Nat.le_refl _) (.string ⟨#[]⟩)
    generalize (w3.setCell ⟨w.heap.size, 0, none⟩ (.string ⟨#[]⟩)).setCell ⟨w.heap.size, 1, none⟩ (.string ⟨#[]⟩) = WZ at *
    (try simp only [Exit.inBlock, Exit.then]); refine bodyPost_ret (by simp [results, Tryz.results148, go_sem, a0, a1]; try rfl) rfl ?_
    exact ⟨⟨_, _, _, rfl, (fun h => by cases h), fun _ => hNone.out⟩, BZ⟩
   ·have c3i : (((bef 64 (restB k s)).size : Int) == ((restB k s).size : Int)) = false := by simp; omega
    have c3j : ((bef 64 (restB k s)).size : Int) + 1 ≤ ((restB k s).size : Int) := by omega
    have c3k : (0 : Int) ≤ ((bef 64 (restB k s)).size : Int) + 1 := by omega
    have hci : ((bef 64 (restB k s)).size : Int) ≤ 9223372036854775807 := by omega
    have hri : ((repB k s).size : Int) ≤ 9223372036854775807 := by omega
    cases hg : goodRec (bef 64 (restB k s)) (repB k s) with
    | false =>
     have hli : lineIs k (bef 64 (restB k s)) (repB k s) s = false := by rw [lineIs, hg]; rfl
     have hNn := HSN.out (.inr (.inr (.inr hli)))
     have hT : Hid (false = true → dec k s = some (bef 64 (restB k s), repB k s)) := fun h => by cases h
     have hFf : Hid (false = false → dec k s = none) := fun _ => hNn
     clear hNn hli
     go_enter Tryz.func148, Tryz.ntmps148
     go_wp2_with fail
     refine (l1Num_any k h0 (by omega) _).mono ?_
     rintro e w1 ⟨rfl, hb1⟩
     go_wp2_with fail
     refine (l1Split_any s 35 hs w1).mono ?_
     rintro e w2 ⟨v2, P2, rfl, hown2, hP1, hPh, _, _, hb2⟩
     have hbx := hb1.trans (hb2.mono hb1.size)
     obtain ⟨g2, c2, rfl, hc2⟩ := split_val hown2 hP1 hPh
     have hP2 : (0 : Int) < (P2.length : Int) := by omega
     have hP3 : 0 < P2.length := by omega
     clear hb1 hb2 hown2 hP1 hPh
     have h4_ := zero_row hbx
     obtain ⟨z0, z1, z2, z3⟩ := row2 h4_
     have B2 : Below w.heap.size w w2 := HAL.trans (hbx.mono (by simp))
     have lt2 : w.heap.size < w2.heap.size := Nat.lt_of_lt_of_le (by simp) hbx.size
     rw [hAdef.out]
     go_wp2_with fail
     rw [hRdef.out]
     refine (l1Split_any (restB k s) 64 hrs w2).mono ?_
     rintro e w3 ⟨v3, P3, rfl, hown3, hQ1, hQh, _, _, hb3⟩
     obtain ⟨g3, c3', rfl, hc3⟩ := split_val hown3 hQ1 hQh
     have hQ2 : (0 : Int) < (P3.length : Int) := by omega
     have hQ3 : 0 < P3.length := by omega
     clear hown3 hQ1 hQh
     have B3 := below_of B2 hb3 B2.size
     have lt3 : w.heap.size < w3.heap.size := Nat.lt_of_lt_of_le lt2 hb3.size
     have h4w3 := (hb3.block w.heap.size lt2).trans h4_
     obtain ⟨y0, y1, y2, y3⟩ := row2 h4w3
     clear z0 z1 z2 z3 hc2
     go_wp2_with fail
     rw [hPdef.out]
     generalize hask2 : bef 64 (restB k s) = ask at *
     generalize hrp2 : repB k s = rp at *
     have h4_W : (w3.alloc (.cells #[.string ask, .string rp] 70)).heap[w.heap.size]? = some (.cells #[.string ⟨#[]⟩, .string ⟨#[]⟩] 70 (0, 0)) := (((Below.refl _ w3).alloc (Nat.le_refl _) _).block _ lt3).trans h4w3
     have S_W : (w3.alloc (.cells #[.string ask, .string rp] 70)).cell? ⟨w3.heap.size, 0, none⟩ = some (.string ask) ∧ (w3.alloc (.cells #[.string ask, .string rp] 70)).cell? ⟨w3.heap.size, 1, none⟩ = some (.string rp) := ⟨by simp, by simp⟩
     have lt_W : w.heap.size < (w3.alloc (.cells #[.string ask, .string rp] 70)).heap.size := by simp; omega
     have lg_W : w3.heap.size < (w3.alloc (.cells #[.string ask, .string rp] 70)).heap.size := by simp
     have B_W : Below w.heap.size w (w3.alloc (.cells #[.string ask, .string rp] 70)) := B3.alloc B3.size _
     have hne : w.heap.size ≠ w3.heap.size := by omega
     have hlt4 : w.heap.size < w.heap.size + 1 := by omega
     generalize (w3.alloc (.cells #[.string ask, .string rp] 70)) = W at *
     generalize w3.heap.size = g10 at *
     refine wp_region_held_drew (S := fun w' => w'.cell? ⟨g10, 0, none⟩ = some (.string ask) ∧ w'.cell? ⟨g10, 1, none⟩ = some (.string rp)) (by kernel_rfl) S_W (fun jd => ?_)
     have h4_W : W.drew.heap[w.heap.size]? = _ := h4_W
     have lt_W : w.heap.size < W.drew.heap.size := lt_W
     have lg_W : g10 < W.drew.heap.size := lg_W
     have B_W : Below w.heap.size w W.drew := B_W.drew
     clear S_W
     generalize W.drew = W at *
     refine tj 0 53 (lh fun _ h => h) rfl jd ?_
     refine tj 1 54 (lh fun _ h => h) rfl jd ?_
     refine wpAnyH_ready (rs := [2]) (by kernel_rfl) (by simp) ?_
     refine (AllReadyH.cons rfl (fun K hK => ?_) AllReadyH.nil)
     go_simp
     refine (l27Good_any ask rp hci hri _).mono ?_
     rw [hg]
     rintro e wa ⟨rfl, hb_wa⟩
     have h4_wa := (hb_wa.block w.heap.size (by first | exact hlt4 | exact lt_W)).trans h4_W
     have lt_wa : w.heap.size < wa.heap.size := Nat.lt_of_lt_of_le lt_W hb_wa.size
     have B_wa := below_of B_W hb_wa B_W.size
     have S_wa : wa.cell? ⟨g10, 0, none⟩ = some (.string ask) ∧ wa.cell? ⟨g10, 1, none⟩ = some (.string rp) := ⟨(hb_wa.cell (p := ⟨g10, 0, none⟩) lg_W).trans jd.1, (hb_wa.cell (p := ⟨g10, 1, none⟩) lg_W).trans jd.2⟩
     have lg_wa : g10 < wa.heap.size := Nat.lt_of_lt_of_le lg_W hb_wa.size
     refine hK.out _ _ S_wa (fun jd => ?_)
     clear hK K
     refine tj 3 56 (lh fun _ h => h) rfl jd ?_
     refine wpAnyH_skips (by kernel_rfl) (fun _ _ _ _ _ h => h) jd [(4, 57), (5, 58), (6, 59), (7, 60), (8, 61), (9, 62)] 3 6 _ _ rfl (by kernel_rfl) ?_
     simp only [skipL, skipA, Act.put, p1, p2, p3]
     refine tj 10 63 (lh fun _ h => h) rfl jd ?_
     refine wpAnyH_ready (rs := [11]) (by kernel_rfl) (by simp) ?_
     refine (AllReadyH.cons rfl (fun K hK => ?_) AllReadyH.nil)
     obtain ⟨z0, z1, z2, z3⟩ := row2 h4_wa
     have h4x := row2_set (x := ask) (y := rp) h4_wa
     have B_wb : Below w.heap.size w ((wa.setCell ⟨w.heap.size, 0, none⟩ (.string ask)).setCell ⟨w.heap.size, 1, none⟩ (.string rp)) := (B_wa.setCell (Nat.le_refl _) _).setCell (Nat.le_refl _) _
     have S_wb : ((wa.setCell ⟨w.heap.size, 0, none⟩ (.string ask)).setCell ⟨w.heap.size, 1, none⟩ (.string rp)).cell? ⟨g10, 0, none⟩ = some (.string ask) ∧ ((wa.setCell ⟨w.heap.size, 0, none⟩ (.string ask)).setCell ⟨w.heap.size, 1, none⟩ (.string rp)).cell? ⟨g10, 1, none⟩ = some (.string rp) := by
      refine ⟨?_, ?_⟩ <;> (rw [World.cell?_setCell_far _ _ _ _ (by exact hne), World.cell?_setCell_far _ _ _ _ (by exact hne)]; first | exact jd.1 | exact jd.2)
     have lt_wb : w.heap.size < ((wa.setCell ⟨w.heap.size, 0, none⟩ (.string ask)).setCell ⟨w.heap.size, 1, none⟩ (.string rp)).heap.size := by simpa [World.setCell] using lt_wa
     have lg_wb : g10 < ((wa.setCell ⟨w.heap.size, 0, none⟩ (.string ask)).setCell ⟨w.heap.size, 1, none⟩ (.string rp)).heap.size := by simpa [World.setCell] using lg_wa
     go_simp
     generalize ((wa.setCell ⟨w.heap.size, 0, none⟩ (.string ask)).setCell ⟨w.heap.size, 1, none⟩ (.string rp)) = wb at *
     have h4_wb := h4x
     refine hK.out _ _ S_wb (fun jd => ?_)
     clear hK K z0 z1 z2 z3 h4x
     refine tj 12 5 (lh fun _ h => h) rfl jd ?_
     refine wpAnyH_done (by kernel_rfl) ?_ _
     obtain ⟨z0, z1, z2, z3⟩ := row2 h4_wb
     go_wp2_with fail
     (try simp only [Exit.inBlock, Exit.then]); refine bodyPost_ret (by simp [results, Tryz.results148, go_sem, z0, z1]; try rfl) rfl ?_
     exact ⟨⟨_, _, _, rfl, by first | exact hT.out | exact fun _ => hT.out trivial | (intro h; cases h), by first | exact hFf.out | exact fun _ => hFf.out trivial | (intro h; cases h)⟩, B_wb⟩
    | true =>
     obtain ⟨_, hc1', hr1', _⟩ := goodRec_facts hg
     have hc1 : (bef 64 (restB k s)).size ≤ 1048576 := by omega
     have hr1 : (repB k s).size ≤ 1048576 := by omega
     by_cases hsl : sealB (bodyB k (bef 64 (restB k s)) (repB k s)) = s
     ·have hli : lineIs k (bef 64 (restB k s)) (repB k s) s = true := by simp [lineIs, hg, hsl]
      have hTn := HDI.out hli
      have hT : Hid (true = true → dec k s = some (bef 64 (restB k s), repB k s)) := fun _ => hTn
      have hFf : Hid (true = false → dec k s = none) := fun h => by cases h
      have hcmp : ((lineB k (bef 64 (restB k s)) (repB k s)).toList == (s ++ ⟨#[10]⟩).toList) = true := by rw [toList_beq, lineB, hsl]; simp
      clear hTn hli hsl HDI HSN
      go_enter Tryz.func148, Tryz.ntmps148
      go_wp2_with fail
      refine (l1Num_any k h0 (by omega) _).mono ?_
      rintro e w1 ⟨rfl, hb1⟩
      go_wp2_with fail
      refine (l1Split_any s 35 hs w1).mono ?_
      rintro e w2 ⟨v2, P2, rfl, hown2, hP1, hPh, _, _, hb2⟩
      have hbx := hb1.trans (hb2.mono hb1.size)
      obtain ⟨g2, c2, rfl, hc2⟩ := split_val hown2 hP1 hPh
      have hP2 : (0 : Int) < (P2.length : Int) := by omega
      have hP3 : 0 < P2.length := by omega
      clear hb1 hb2 hown2 hP1 hPh
      have h4_ := zero_row hbx
      obtain ⟨z0, z1, z2, z3⟩ := row2 h4_
      have B2 : Below w.heap.size w w2 := HAL.trans (hbx.mono (by simp))
      have lt2 : w.heap.size < w2.heap.size := Nat.lt_of_lt_of_le (by simp) hbx.size
      rw [hAdef.out]
      go_wp2_with fail
      rw [hRdef.out]
      refine (l1Split_any (restB k s) 64 hrs w2).mono ?_
      rintro e w3 ⟨v3, P3, rfl, hown3, hQ1, hQh, _, _, hb3⟩
      obtain ⟨g3, c3', rfl, hc3⟩ := split_val hown3 hQ1 hQh
      have hQ2 : (0 : Int) < (P3.length : Int) := by omega
      have hQ3 : 0 < P3.length := by omega
      clear hown3 hQ1 hQh
      have B3 := below_of B2 hb3 B2.size
      have lt3 : w.heap.size < w3.heap.size := Nat.lt_of_lt_of_le lt2 hb3.size
      have h4w3 := (hb3.block w.heap.size lt2).trans h4_
      obtain ⟨y0, y1, y2, y3⟩ := row2 h4w3
      clear z0 z1 z2 z3 hc2
      go_wp2_with fail
      rw [hPdef.out]
      generalize hask2 : bef 64 (restB k s) = ask at *
      generalize hrp2 : repB k s = rp at *
      have h4_W : (w3.alloc (.cells #[.string ask, .string rp] 70)).heap[w.heap.size]? = some (.cells #[.string ⟨#[]⟩, .string ⟨#[]⟩] 70 (0, 0)) := (((Below.refl _ w3).alloc (Nat.le_refl _) _).block _ lt3).trans h4w3
      have S_W : (w3.alloc (.cells #[.string ask, .string rp] 70)).cell? ⟨w3.heap.size, 0, none⟩ = some (.string ask) ∧ (w3.alloc (.cells #[.string ask, .string rp] 70)).cell? ⟨w3.heap.size, 1, none⟩ = some (.string rp) := ⟨by simp, by simp⟩
      have lt_W : w.heap.size < (w3.alloc (.cells #[.string ask, .string rp] 70)).heap.size := by simp; omega
      have lg_W : w3.heap.size < (w3.alloc (.cells #[.string ask, .string rp] 70)).heap.size := by simp
      have B_W : Below w.heap.size w (w3.alloc (.cells #[.string ask, .string rp] 70)) := B3.alloc B3.size _
      have hne : w.heap.size ≠ w3.heap.size := by omega
      have hlt4 : w.heap.size < w.heap.size + 1 := by omega
      generalize (w3.alloc (.cells #[.string ask, .string rp] 70)) = W at *
      generalize w3.heap.size = g10 at *
      refine wp_region_held_drew (S := fun w' => w'.cell? ⟨g10, 0, none⟩ = some (.string ask) ∧ w'.cell? ⟨g10, 1, none⟩ = some (.string rp)) (by kernel_rfl) S_W (fun jd => ?_)
      have h4_W : W.drew.heap[w.heap.size]? = _ := h4_W
      have lt_W : w.heap.size < W.drew.heap.size := lt_W
      have lg_W : g10 < W.drew.heap.size := lg_W
      have B_W : Below w.heap.size w W.drew := B_W.drew
      clear S_W
      generalize W.drew = W at *
      refine tj 0 53 (lh fun _ h => h) rfl jd ?_
      refine tj 1 54 (lh fun _ h => h) rfl jd ?_
      refine wpAnyH_ready (rs := [2]) (by kernel_rfl) (by simp) ?_
      refine (AllReadyH.cons rfl (fun K hK => ?_) AllReadyH.nil)
      go_simp
      refine (l27Good_any ask rp hci hri _).mono ?_
      rw [hg]
      rintro e wa ⟨rfl, hb_wa⟩
      have h4_wa := (hb_wa.block w.heap.size (by first | exact hlt4 | exact lt_W)).trans h4_W
      have lt_wa : w.heap.size < wa.heap.size := Nat.lt_of_lt_of_le lt_W hb_wa.size
      have B_wa := below_of B_W hb_wa B_W.size
      have S_wa : wa.cell? ⟨g10, 0, none⟩ = some (.string ask) ∧ wa.cell? ⟨g10, 1, none⟩ = some (.string rp) := ⟨(hb_wa.cell (p := ⟨g10, 0, none⟩) lg_W).trans jd.1, (hb_wa.cell (p := ⟨g10, 1, none⟩) lg_W).trans jd.2⟩
      have lg_wa : g10 < wa.heap.size := Nat.lt_of_lt_of_le lg_W hb_wa.size
      refine hK.out _ _ S_wa (fun jd => ?_)
      clear hK K
      refine tj 3 56 (lh fun _ h => h) rfl jd ?_
      refine tj 4 57 (lh fun _ h => h) rfl jd ?_
      refine tj 5 58 (lh fun _ h => h) rfl jd ?_
      refine tj 7 60 (lh fun _ h => h) rfl jd ?_
      refine wpAnyH_takeD (i := 8) (d := 61) (v := ?_) rfl (by kernel_rfl) (by kernel_rfl) (by kernel_rfl) (fun _ _ _ h => h) (by rfl) ?_ jd ?_
      rotate_left
      ·intro wS hS
       refine run_add_strP ⟨_, _, rfl, rfl, by simp only [ByteArray.size_append', ByteArray.size_mk', List.size_toArray, List.length_cons, List.length_nil]; omega, ?_⟩
       with_reducible rfl
      simp only [Act.put, p1, p2, p3]
      refine wpAnyH_ready (rs := [6]) (by kernel_rfl) (by simp) ?_
      refine (AllReadyH.cons rfl (fun K hK => ?_) AllReadyH.nil)
      go_simp
      refine (l27Line_any k ask rp h0 (by omega) hc1 hr1 _).mono ?_
      rintro e wb ⟨rfl, hb_wb⟩
      have h4_wb := (hb_wb.block w.heap.size (by first | exact hlt4 | exact lt_wa)).trans h4_wa
      have lt_wb : w.heap.size < wb.heap.size := Nat.lt_of_lt_of_le lt_wa hb_wb.size
      have B_wb := below_of B_wa hb_wb B_wa.size
      have S_wb : wb.cell? ⟨g10, 0, none⟩ = some (.string ask) ∧ wb.cell? ⟨g10, 1, none⟩ = some (.string rp) := ⟨(hb_wb.cell (p := ⟨g10, 0, none⟩) lg_wa).trans jd.1, (hb_wb.cell (p := ⟨g10, 1, none⟩) lg_wa).trans jd.2⟩
      have lg_wb : g10 < wb.heap.size := Nat.lt_of_lt_of_le lg_wa hb_wb.size
      refine hK.out _ _ S_wb (fun jd => ?_)
      clear hK K
      refine tj 9 62 (lh fun _ h => h) rfl jd ?_
      refine tj 10 63 (lh fun _ h => h) rfl jd ?_
      refine wpAnyH_ready (rs := [11]) (by kernel_rfl) (by simp) ?_
      refine (AllReadyH.cons rfl (fun K hK => ?_) AllReadyH.nil)
      obtain ⟨z0, z1, z2, z3⟩ := row2 h4_wb
      have h4x := row2_set (x := ask) (y := rp) h4_wb
      have B_wc : Below w.heap.size w ((wb.setCell ⟨w.heap.size, 0, none⟩ (.string ask)).setCell ⟨w.heap.size, 1, none⟩ (.string rp)) := (B_wb.setCell (Nat.le_refl _) _).setCell (Nat.le_refl _) _
      have S_wc : ((wb.setCell ⟨w.heap.size, 0, none⟩ (.string ask)).setCell ⟨w.heap.size, 1, none⟩ (.string rp)).cell? ⟨g10, 0, none⟩ = some (.string ask) ∧ ((wb.setCell ⟨w.heap.size, 0, none⟩ (.string ask)).setCell ⟨w.heap.size, 1, none⟩ (.string rp)).cell? ⟨g10, 1, none⟩ = some (.string rp) := by
       refine ⟨?_, ?_⟩ <;> (rw [World.cell?_setCell_far _ _ _ _ (by exact hne), World.cell?_setCell_far _ _ _ _ (by exact hne)]; first | exact jd.1 | exact jd.2)
      have lt_wc : w.heap.size < ((wb.setCell ⟨w.heap.size, 0, none⟩ (.string ask)).setCell ⟨w.heap.size, 1, none⟩ (.string rp)).heap.size := by simpa [World.setCell] using lt_wb
      have lg_wc : g10 < ((wb.setCell ⟨w.heap.size, 0, none⟩ (.string ask)).setCell ⟨w.heap.size, 1, none⟩ (.string rp)).heap.size := by simpa [World.setCell] using lg_wb
      go_simp
      generalize ((wb.setCell ⟨w.heap.size, 0, none⟩ (.string ask)).setCell ⟨w.heap.size, 1, none⟩ (.string rp)) = wc at *
      have h4_wc := h4x
      refine hK.out _ _ S_wc (fun jd => ?_)
      clear hK K z0 z1 z2 z3 h4x
      refine tj 12 5 (lh fun _ h => h) rfl jd ?_
      refine wpAnyH_done (by kernel_rfl) ?_ _
      obtain ⟨z0, z1, z2, z3⟩ := row2 h4_wc
      go_wp2_with fail
      (try simp only [Exit.inBlock, Exit.then]); refine bodyPost_ret (by simp [results, Tryz.results148, go_sem, z0, z1]; try rfl) rfl ?_
      exact ⟨⟨_, _, _, rfl, by first | exact hT.out | exact fun _ => hT.out trivial | (intro h; cases h), by first | exact hFf.out | exact fun _ => hFf.out trivial | (intro h; cases h)⟩, B_wc⟩
     ·have hli : lineIs k (bef 64 (restB k s)) (repB k s) s = false := by simp [lineIs, hsl]
      have hNn := HSN.out (.inr (.inr (.inr hli)))
      have hT : Hid (false = true → dec k s = some (bef 64 (restB k s), repB k s)) := fun h => by cases h
      have hFf : Hid (false = false → dec k s = none) := fun _ => hNn
      have hcmp : ((lineB k (bef 64 (restB k s)) (repB k s)).toList == (s ++ ⟨#[10]⟩).toList) = false := by
       rw [toList_beq]
       refine decide_eq_false (fun e => hsl ?_)
       have := congrArg (fun x : BA => x.data.toList) e
       simp only [lineB, Joins.data_append] at this
       exact ba_ext (List.append_cancel_right this)
      clear hNn hli hsl HDI HSN
      go_enter Tryz.func148, Tryz.ntmps148
      go_wp2_with fail
      refine (l1Num_any k h0 (by omega) _).mono ?_
      rintro e w1 ⟨rfl, hb1⟩
      go_wp2_with fail
      refine (l1Split_any s 35 hs w1).mono ?_
      rintro e w2 ⟨v2, P2, rfl, hown2, hP1, hPh, _, _, hb2⟩
      have hbx := hb1.trans (hb2.mono hb1.size)
      obtain ⟨g2, c2, rfl, hc2⟩ := split_val hown2 hP1 hPh
      have hP2 : (0 : Int) < (P2.length : Int) := by omega
      have hP3 : 0 < P2.length := by omega
      clear hb1 hb2 hown2 hP1 hPh
      have h4_ := zero_row hbx
      obtain ⟨z0, z1, z2, z3⟩ := row2 h4_
      have B2 : Below w.heap.size w w2 := HAL.trans (hbx.mono (by simp))
      have lt2 : w.heap.size < w2.heap.size := Nat.lt_of_lt_of_le (by simp) hbx.size
      rw [hAdef.out]
      go_wp2_with fail
      rw [hRdef.out]
      refine (l1Split_any (restB k s) 64 hrs w2).mono ?_
      rintro e w3 ⟨v3, P3, rfl, hown3, hQ1, hQh, _, _, hb3⟩
      obtain ⟨g3, c3', rfl, hc3⟩ := split_val hown3 hQ1 hQh
      have hQ2 : (0 : Int) < (P3.length : Int) := by omega
      have hQ3 : 0 < P3.length := by omega
      clear hown3 hQ1 hQh
      have B3 := below_of B2 hb3 B2.size
      have lt3 : w.heap.size < w3.heap.size := Nat.lt_of_lt_of_le lt2 hb3.size
      have h4w3 := (hb3.block w.heap.size lt2).trans h4_
      obtain ⟨y0, y1, y2, y3⟩ := row2 h4w3
      clear z0 z1 z2 z3 hc2
      go_wp2_with fail
      rw [hPdef.out]
      generalize hask2 : bef 64 (restB k s) = ask at *
      generalize hrp2 : repB k s = rp at *
      have h4_W : (w3.alloc (.cells #[.string ask, .string rp] 70)).heap[w.heap.size]? = some (.cells #[.string ⟨#[]⟩, .string ⟨#[]⟩] 70 (0, 0)) := (((Below.refl _ w3).alloc (Nat.le_refl _) _).block _ lt3).trans h4w3
      have S_W : (w3.alloc (.cells #[.string ask, .string rp] 70)).cell? ⟨w3.heap.size, 0, none⟩ = some (.string ask) ∧ (w3.alloc (.cells #[.string ask, .string rp] 70)).cell? ⟨w3.heap.size, 1, none⟩ = some (.string rp) := ⟨by simp, by simp⟩
      have lt_W : w.heap.size < (w3.alloc (.cells #[.string ask, .string rp] 70)).heap.size := by simp; omega
      have lg_W : w3.heap.size < (w3.alloc (.cells #[.string ask, .string rp] 70)).heap.size := by simp
      have B_W : Below w.heap.size w (w3.alloc (.cells #[.string ask, .string rp] 70)) := B3.alloc B3.size _
      have hne : w.heap.size ≠ w3.heap.size := by omega
      have hlt4 : w.heap.size < w.heap.size + 1 := by omega
      generalize (w3.alloc (.cells #[.string ask, .string rp] 70)) = W at *
      generalize w3.heap.size = g10 at *
      refine wp_region_held_drew (S := fun w' => w'.cell? ⟨g10, 0, none⟩ = some (.string ask) ∧ w'.cell? ⟨g10, 1, none⟩ = some (.string rp)) (by kernel_rfl) S_W (fun jd => ?_)
      have h4_W : W.drew.heap[w.heap.size]? = _ := h4_W
      have lt_W : w.heap.size < W.drew.heap.size := lt_W
      have lg_W : g10 < W.drew.heap.size := lg_W
      have B_W : Below w.heap.size w W.drew := B_W.drew
      clear S_W
      generalize W.drew = W at *
      refine tj 0 53 (lh fun _ h => h) rfl jd ?_
      refine tj 1 54 (lh fun _ h => h) rfl jd ?_
      refine wpAnyH_ready (rs := [2]) (by kernel_rfl) (by simp) ?_
      refine (AllReadyH.cons rfl (fun K hK => ?_) AllReadyH.nil)
      go_simp
      refine (l27Good_any ask rp hci hri _).mono ?_
      rw [hg]
      rintro e wa ⟨rfl, hb_wa⟩
      have h4_wa := (hb_wa.block w.heap.size (by first | exact hlt4 | exact lt_W)).trans h4_W
      have lt_wa : w.heap.size < wa.heap.size := Nat.lt_of_lt_of_le lt_W hb_wa.size
      have B_wa := below_of B_W hb_wa B_W.size
      have S_wa : wa.cell? ⟨g10, 0, none⟩ = some (.string ask) ∧ wa.cell? ⟨g10, 1, none⟩ = some (.string rp) := ⟨(hb_wa.cell (p := ⟨g10, 0, none⟩) lg_W).trans jd.1, (hb_wa.cell (p := ⟨g10, 1, none⟩) lg_W).trans jd.2⟩
      have lg_wa : g10 < wa.heap.size := Nat.lt_of_lt_of_le lg_W hb_wa.size
      refine hK.out _ _ S_wa (fun jd => ?_)
      clear hK K
      refine tj 3 56 (lh fun _ h => h) rfl jd ?_
      refine tj 4 57 (lh fun _ h => h) rfl jd ?_
      refine tj 5 58 (lh fun _ h => h) rfl jd ?_
      refine tj 7 60 (lh fun _ h => h) rfl jd ?_
      refine wpAnyH_takeD (i := 8) (d := 61) (v := ?_) rfl (by kernel_rfl) (by kernel_rfl) (by kernel_rfl) (fun _ _ _ h => h) (by rfl) ?_ jd ?_
      rotate_left
      ·intro wS hS
       refine run_add_strP ⟨_, _, rfl, rfl, by simp only [ByteArray.size_append', ByteArray.size_mk', List.size_toArray, List.length_cons, List.length_nil]; omega, ?_⟩
       with_reducible rfl
      simp only [Act.put, p1, p2, p3]
      refine wpAnyH_ready (rs := [6]) (by kernel_rfl) (by simp) ?_
      refine (AllReadyH.cons rfl (fun K hK => ?_) AllReadyH.nil)
      go_simp
      refine (l27Line_any k ask rp h0 (by omega) hc1 hr1 _).mono ?_
      rintro e wb ⟨rfl, hb_wb⟩
      have h4_wb := (hb_wb.block w.heap.size (by first | exact hlt4 | exact lt_wa)).trans h4_wa
      have lt_wb : w.heap.size < wb.heap.size := Nat.lt_of_lt_of_le lt_wa hb_wb.size
      have B_wb := below_of B_wa hb_wb B_wa.size
      have S_wb : wb.cell? ⟨g10, 0, none⟩ = some (.string ask) ∧ wb.cell? ⟨g10, 1, none⟩ = some (.string rp) := ⟨(hb_wb.cell (p := ⟨g10, 0, none⟩) lg_wa).trans jd.1, (hb_wb.cell (p := ⟨g10, 1, none⟩) lg_wa).trans jd.2⟩
      have lg_wb : g10 < wb.heap.size := Nat.lt_of_lt_of_le lg_wa hb_wb.size
      refine hK.out _ _ S_wb (fun jd => ?_)
      clear hK K
      refine tj 9 62 (lh fun _ h => h) rfl jd ?_
      refine tj 10 63 (lh fun _ h => h) rfl jd ?_
      refine wpAnyH_ready (rs := [11]) (by kernel_rfl) (by simp) ?_
      refine (AllReadyH.cons rfl (fun K hK => ?_) AllReadyH.nil)
      obtain ⟨z0, z1, z2, z3⟩ := row2 h4_wb
      have h4x := row2_set (x := ask) (y := rp) h4_wb
      have B_wc : Below w.heap.size w ((wb.setCell ⟨w.heap.size, 0, none⟩ (.string ask)).setCell ⟨w.heap.size, 1, none⟩ (.string rp)) := (B_wb.setCell (Nat.le_refl _) _).setCell (Nat.le_refl _) _
      have S_wc : ((wb.setCell ⟨w.heap.size, 0, none⟩ (.string ask)).setCell ⟨w.heap.size, 1, none⟩ (.string rp)).cell? ⟨g10, 0, none⟩ = some (.string ask) ∧ ((wb.setCell ⟨w.heap.size, 0, none⟩ (.string ask)).setCell ⟨w.heap.size, 1, none⟩ (.string rp)).cell? ⟨g10, 1, none⟩ = some (.string rp) := by
       refine ⟨?_, ?_⟩ <;> (rw [World.cell?_setCell_far _ _ _ _ (by exact hne), World.cell?_setCell_far _ _ _ _ (by exact hne)]; first | exact jd.1 | exact jd.2)
      have lt_wc : w.heap.size < ((wb.setCell ⟨w.heap.size, 0, none⟩ (.string ask)).setCell ⟨w.heap.size, 1, none⟩ (.string rp)).heap.size := by simpa [World.setCell] using lt_wb
      have lg_wc : g10 < ((wb.setCell ⟨w.heap.size, 0, none⟩ (.string ask)).setCell ⟨w.heap.size, 1, none⟩ (.string rp)).heap.size := by simpa [World.setCell] using lg_wb
      go_simp
      generalize ((wb.setCell ⟨w.heap.size, 0, none⟩ (.string ask)).setCell ⟨w.heap.size, 1, none⟩ (.string rp)) = wc at *
      have h4_wc := h4x
      refine hK.out _ _ S_wc (fun jd => ?_)
      clear hK K z0 z1 z2 z3 h4x
      refine tj 12 5 (lh fun _ h => h) rfl jd ?_
      refine wpAnyH_done (by kernel_rfl) ?_ _
      obtain ⟨z0, z1, z2, z3⟩ := row2 h4_wc
      go_wp2_with fail
      (try simp only [Exit.inBlock, Exit.then]); refine bodyPost_ret (by simp [results, Tryz.results148, go_sem, z0, z1]; try rfl) rfl ?_
      exact ⟨⟨_, _, _, rfl, by first | exact hT.out | exact fun _ => hT.out trivial | (intro h; cases h), by first | exact hFf.out | exact fun _ => hFf.out trivial | (intro h; cases h)⟩, B_wc⟩
  ·have hNone : Hid (dec k s = none) := HSN.out (.inr (.inl c2))
   have hcm : (((bef 35 s).extract 0 (aheadB k).size).toList == (aheadB k).toList) = false := by rw [toList_beq]; simp [c2]
   clear c2
   go_enter Tryz.func148, Tryz.ntmps148
   go_wp2_with fail
   refine (l1Num_any k h0 (by omega) _).mono ?_
   rintro e w1 ⟨rfl, hb1⟩
   go_wp2_with fail
   refine (l1Split_any s 35 hs w1).mono ?_
   rintro e w2 ⟨v2, P2, rfl, hown2, hP1, hPh, _, _, hb2⟩
   have hbx := hb1.trans (hb2.mono hb1.size)
   obtain ⟨g2, c2, rfl, hc2⟩ := split_val hown2 hP1 hPh
   have hP2 : (0 : Int) < (P2.length : Int) := by omega
   have hP3 : 0 < P2.length := by omega
   clear hb1 hb2 hown2 hP1 hPh
   have h4_ := zero_row hbx
   obtain ⟨z0, z1, z2, z3⟩ := row2 h4_
   have B2 : Below w.heap.size w w2 := HAL.trans (hbx.mono (by simp))
   have lt2 : w.heap.size < w2.heap.size := Nat.lt_of_lt_of_le (by simp) hbx.size
   rw [hAdef.out]
   go_wp2_with fail
   obtain ⟨a0, a1, _, _⟩ := row2 (row2_set (x := ⟨#[]⟩) (y := ⟨#[]⟩) h4_)
   have BZ := (B2.setCell (p := ⟨w.heap.size, 0, none⟩) (Nat.le_refl _) (.string ⟨#[]⟩)).setCell (p := ⟨w.heap.size, 1, none⟩) (Nat.le_refl _) (.string ⟨#[]⟩)
   generalize (w2.setCell ⟨w.heap.size, 0, none⟩ (.string ⟨#[]⟩)).setCell ⟨w.heap.size, 1, none⟩ (.string ⟨#[]⟩) = WZ at *
   (try simp only [Exit.inBlock, Exit.then]); refine bodyPost_ret (by simp [results, Tryz.results148, go_sem, a0, a1]; try rfl) rfl ?_
   exact ⟨⟨_, _, _, rfl, (fun h => by cases h), fun _ => hNone.out⟩, BZ⟩
end Go.Proofs.YtpndjhelpoenpaaGreatDoor
