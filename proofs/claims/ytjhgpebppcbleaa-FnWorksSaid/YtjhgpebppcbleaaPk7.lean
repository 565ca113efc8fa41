/-
  Several short texts in one: RegionQ, Draw.
-/
import Derived.WalkKit
import Derived.Deep.Quiet
import Derived.Test.YtjhgpebppcbleaaProg
import Derived.Test.YtjhgpebppcbleaaDrawM
import Derived.Deep.QuietTactic
import Derived.BigQuiet
import Derived.Handy
/-
  A region whose own operations only read, walked once in the text's order from every world of a class: step by step.
-/

namespace Go.Proofs.Ytjhgpebppcbleaa
set_option linter.unusedVariables false
set_option linter.unusedSimpArgs false
/-! A region whose own operations only read: one walk in the text's order, from every world of a class (the kit's Deep/Quiet), step by step. -/
theorem wp_region_class {P : Program} {id : Nat} {Q : Exit → Act → World → Prop} {a : Act} {w : World} {l : List Oper} {C : World → Prop} (hm : P.follows .mixedOrders = true) (hB : Region.lexB .any l.toArray = true) (hC : C w.drew)
    (h : wpQuiet P l.toArray C (fun a' => ∀ w', C w' → Q .normal a' w') l a) : (Code.region id l.toArray true).wp P Q a w :=
  wp_region_quiet (C := C) hm hB hC (by simpa using h)
section
variable {P : Program} {ops : Array Oper} {C : World → Prop} {Q : Act → Prop} {d : Nat} {op : Op} {ty : TypeId} {pos : String} {af : Array Edge} {gd : Option (Nat × Bool)} {v : Value} {a : Act} {rest : List Oper}
theorem wpQuiet_take (hw : Region.wanted ⟨some d, op, ty, pos, af, gd⟩ (yielded ops a.tmps) = true)
    (hy : ∀ w, C w → (execOp a.eval ⟨some d, op, ty, pos, af, gd⟩).run P w = .ok (.value v) w) (h : wpQuiet P ops C Q rest (a.put (some d) v)) : wpQuiet P ops C Q (⟨some d, op, ty, pos, af, gd⟩ :: rest) a := by
  refine wpQuiet_step fun K hK => ?_
  rw [if_pos hw]
  refine ⟨v, fun w hC => ?_, hK _ h⟩
  unfold Oper.quietAt
  rw [hy w hC]
  exact ⟨rfl, rfl⟩
theorem wpQuiet_meet (f : FuncId) (args : Array Value) (hw : Region.wanted ⟨some d, op, ty, pos, af, gd⟩ (yielded ops a.tmps) = true)
    (he : ∀ w, C w → (execOp a.eval ⟨some d, op, ty, pos, af, gd⟩).run P w = .ok (.enter f args) w) (hy : ∀ w, C w → Calls P f args w fun e w' => e = .returned v ∧ C w')
    (h : wpQuiet P ops C Q rest (a.put (some d) v)) : wpQuiet P ops C Q (⟨some d, op, ty, pos, af, gd⟩ :: rest) a := by
  refine wpQuiet_step fun K hK => ?_
  rw [if_pos hw]
  refine ⟨v, fun w hC => ?_, hK _ h⟩
  unfold Oper.quietAt
  rw [he w hC]
  exact ⟨rfl, hy w hC⟩
theorem wpQuiet_pass (hw : Region.wanted ⟨some d, op, ty, pos, af, gd⟩ (yielded ops a.tmps) = false)
    (h : wpQuiet P ops C Q rest (a.put (some d) undef)) : wpQuiet P ops C Q (⟨some d, op, ty, pos, af, gd⟩ :: rest) a := by
  refine wpQuiet_step fun K hK => ?_
  rw [if_neg (by rw [hw]; exact Bool.false_ne_true)]
  exact hK _ h
end
end Go.Proofs.Ytjhgpebppcbleaa
/-
  The cursor of the draws: each step yields some number in its range, and leaves the cursor fit for the next one.
-/

namespace Go.Proofs.Ytjhgpebppcbleaa
open Go.RowKit
set_option linter.unusedVariables false
set_option linter.unusedSimpArgs false
set_option maxHeartbeats 1000000 in
theorem next_any (g n c p : Nat) (A : Option Addr) (w : World) (hC : Cur w g A n c p) (hn : n ≤ 65536) (hp : p ≤ 1000000000) :
    Calls Try.prog 81 #[.pointer (some ⟨g, 0, none⟩)] w fun e w' => ∃ z : Nat, e = .returned (.int .i64 z) ∧ z < 256 ∧ Cur w' g A n c (p + 1) ∧ Fr g (g + 1) w w' := by
  obtain ⟨q, hq, c1⟩ := hC.c1
  obtain ⟨s, c2⟩ := hC.c2
  have c0 := hC.c0
  have f1 := hC.fz 1 (by omega)
  have f2 := hC.fz 2 (by omega)
  have hw1 : IntKind.i64.wrap ((q : Int) + 1) = ((q + 1 : Nat) : Int) := by rw [IntWalk.i64_in _ (by omega)]; omega
  have HC : Hid (Cur w g A n c p) := hC
  clear hC
  by_cases hlt : q < n
  · obtain ⟨b, off, rfl, hb, HB⟩ := HC.out.code (by omega)
    obtain ⟨z, hz, cb⟩ := HB q hlt
    have hne : b ≠ g := by omega
    have hi : (q : Int) < (n : Int) := by omega
    have hi2 : ((q + 1 : Nat) : Int) ≤ (n : Int) := by omega
    clear HB
    go_enter Try.func81, Try.ntmps81
    go_wp2
    go_quiet (fail)
    go_wp2
    go_quiet (fail)
    go_wp2
    go_quiet (fail)
    go_wp2
    go_ret
    exact ⟨z, rfl, hz, HC.out.done (by omega) (Nat.succ_le_succ hq) _ _ _, Fr.done _ _ _ _ _⟩
  · have hi : ¬ (q : Int) < (n : Int) := by omega
    have hi2 : ¬ ((q + 1 : Nat) : Int) ≤ (n : Int) := by omega
    go_enter Try.func81, Try.ntmps81
    go_wp2
    go_quiet (fail)
    go_wp2
    go_quiet (fail)
    go_wp2
    go_ret
    obtain ⟨z, hz, he⟩ := and_byte (IntKind.u64.wrap (IntKind.u64.wrap (IntKind.u64.wrap (s * 6364136223846793005)) + 101919) / 1099511627776)
    exact ⟨z, by rw [he]; rfl, hz, HC.out.done (by omega) (Nat.succ_le_succ hq) _ _ _, Fr.done _ _ _ _ _⟩
theorem pick_one (g m : Nat) (hm : m ≤ 1) (w : World) :
    Calls Try.prog 54 #[.pointer (some ⟨g, 0, none⟩), .int .i64 m] w fun e w' => e = .returned (.int .i64 0) ∧ w' = w := by
  have h : (m : Int) ≤ 1 := by omega
  go_enter Try.func54, Try.ntmps54
  go_wp2
  go_ret
  exact ⟨rfl, rfl⟩
set_option maxHeartbeats 1000000 in
/-- A number below m. -/
theorem pick_any (g n c p m : Nat) (A : Option Addr) (w : World) (hC : Cur w g A n c p) (hn : n ≤ 65536) (hp : p ≤ 900000000) (hm : 1 ≤ m) (hm2 : m ≤ 1000000000) :
    Calls Try.prog 54 #[.pointer (some ⟨g, 0, none⟩), .int .i64 m] w fun e w' => ∃ z : Nat, e = .returned (.int .i64 z) ∧ z < m ∧ Cur w' g A n c (p + 2) ∧ Fr g (g + 1) w w' := by
  by_cases h1 : m ≤ 1
  · refine (pick_one g m h1 w).mono ?_
    rintro e w1 ⟨rfl, rfl⟩
    exact ⟨0, rfl, by omega, hC.weaken (by omega), Fr.refl _ _ _⟩
  have h1i : ¬ ((m : Int) ≤ 1) := by omega
  have hm0 : ¬ ((m : Int) = 0) := by omega
  have HC : Hid (Cur w g A n c p) := hC
  clear hC
  by_cases h200 : m ≤ 200
  · have h2 : ¬ (200 < (m : Int)) := by omega
    go_enter Try.func54, Try.ntmps54
    go_wp2_with fail
    refine (next_any g n c p A w HC.out hn (by omega)).mono ?_
    rintro e w1 ⟨z, rfl, hz, hc1, hf1⟩
    go_wp2
    go_ret
    refine ⟨z % m, ?_, Nat.mod_lt _ (by omega), hc1.weaken (by omega), hf1⟩
    show Ending.returned (.int .i64 ((z : Int) % (m : Int))) = _
    rw [← Int.natCast_emod]
  · have h2 : 200 < (m : Int) := by omega
    go_enter Try.func54, Try.ntmps54
    go_wp2_with fail
    refine (next_any g n c p A w HC.out hn (by omega)).mono ?_
    rintro e w1 ⟨z, rfl, hz, hc1, hf1⟩
    go_wp2_with fail
    refine (next_any g n c _ A w1 hc1 hn (by omega)).mono ?_
    rintro e w2 ⟨z2, rfl, hz2, hc2, hf2⟩
    go_wp2
    go_ret
    refine ⟨(z * 256 + z2) % m, ?_, Nat.mod_lt _ (by omega), hc2, hf1.trans hf2⟩
    show Ending.returned (.int .i64 (((z : Int) * 256 + (z2 : Int)) % (m : Int))) = _
    rw [show (z : Int) * 256 + (z2 : Int) = ((z * 256 + z2 : Nat) : Int) by omega, ← Int.natCast_emod]
theorem one_any (g n c p m : Nat) (A : Option Addr) (w : World) (hC : Cur w g A n c p) (hn : n ≤ 65536) (hp : p ≤ 900000000) (hm : 1 ≤ m) (hm2 : m ≤ 1000000000) :
    Calls Try.prog 55 #[.pointer (some ⟨g, 0, none⟩), .int .i64 m] w fun e w' => ∃ b : Bool, e = .returned (.bool b) ∧ Cur w' g A n c (p + 2) ∧ Fr g (g + 1) w w' := by
  go_enter Try.func55, Try.ntmps55
  go_wp2_with fail
  refine (pick_any g n c p m A w hC hn hp hm hm2).mono ?_
  rintro e w1 ⟨z, rfl, hz, hc1, hf1⟩
  go_wp2
  go_ret
  exact ⟨_, rfl, hc1, hf1⟩
/-- One of a row of ints. -/
theorem among_any (g n c p m cm lo hi : Nat) (A B : Option Addr) (f : Nat → Int) (w : World) (hC : Cur w g A n c p) (hn : n ≤ 65536) (hp : p ≤ 900000000) (hm : 1 ≤ m) (hm2 : m ≤ 1000) (hs : Sl w lo hi 1 B m f) (hg : g < lo) :
    Calls Try.prog 66 #[.pointer (some ⟨g, 0, none⟩), .slice B m cm] w fun e w' => ∃ k : Nat, k < m ∧ e = .returned (.int .i64 (f k)) ∧ Cur w' g A n c (p + 2) ∧ Fr g (g + 1) w w' := by
  obtain ⟨b, off, rfl, hb1, hb2, _⟩ := hs.here (by omega)
  have HS : Hid (Sl w lo hi 1 (some ⟨b, off, none⟩) m f) := hs
  clear hs
  go_enter Try.func66, Try.ntmps66
  go_wp2_with fail
  refine (pick_any g n c p m A w hC hn hp hm (by omega)).mono ?_
  rintro e w1 ⟨z, rfl, hz, hc1, hf1⟩
  obtain ⟨b', off', e1, h1, h2, hcell⟩ := (HS.out.fr hf1 (by omega)).here (by omega)
  simp only [Option.some.injEq, Addr.mk.injEq, and_true] at e1
  obtain ⟨rfl, rfl⟩ := e1
  have c0 := hcell z (by omega)
  have hz1 : (z : Int) < (m : Int) := by omega
  clear hcell HS
  go_wp2
  go_ret
  exact ⟨z, hz, rfl, hc1, hf1⟩
/-- One of a literal row of ints. -/
theorem among_lit (g n c p cm : Nat) (A : Option Addr) (w : World) (L : List Int) (cs : Array Value) (T : TypeId) (m : Nat) (hcs : cs = (L.map (Value.int .i64)).toArray) (hm : m = L.length) (hm1 : 1 ≤ m) (hm2 : m ≤ 1000) (hC : Cur w g A n c p) (hn : n ≤ 65536) (hp : p ≤ 900000000) :
    Calls Try.prog 66 #[.pointer (some ⟨g, 0, none⟩), .slice (some ⟨w.heap.size, 0, none⟩) m cm] (w.alloc (.cells cs T)) fun e w' => ∃ z : Int, e = .returned (.int .i64 z) ∧ Cur w' g A n c (p + 2) ∧ Fr g (g + 1) w w' := by
  subst hm
  refine (among_any g n c p L.length cm w.heap.size (w.heap.size + 1) A _ _ _ (hC.alloc _) hn hp hm1 hm2 (sl_lit L hcs) hC.lt).mono ?_
  rintro e w1 ⟨k, _, rfl, h1, h2⟩
  exact ⟨_, rfl, h1, (Fr.of_below g (g + 1) ((Below.refl _ w).alloc (Nat.le_refl _) _)).trans h2⟩
end Go.Proofs.Ytjhgpebppcbleaa
