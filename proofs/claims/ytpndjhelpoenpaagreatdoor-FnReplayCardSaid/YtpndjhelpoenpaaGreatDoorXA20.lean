/-
  Texts of this claim, merged.
-/
import Derived.Test.YtpndjhelpoenpaaGreatDoorXA19
set_option linter.unusedVariables false
set_option linter.unusedSimpArgs false
set_option maxRecDepth 100000
set_option maxHeartbeats 8000000
namespace Go.Proofs.YtpndjhelpoenpaaGreatDoor
open Go.RowKit
theorem next_any (g n c p : Nat) (A : Option Addr) (w : World) (hC : Cur w g A n c p) (hn : n ≤ 65536) (hp : p ≤ 1000000000) :
  Calls Tryz.prog 108 #[.pointer (some ⟨g, 0, none⟩)] w fun e w' => ∃ z : Nat, e = .returned (.int .i64 z) ∧ z < 256 ∧ Cur w' g A n c (p + 1) ∧ Fr g (g + 1) w w' := by
 obtain ⟨q, hq, c1⟩ := hC.c1
 obtain ⟨s, c2⟩ := hC.c2
 have c0 := hC.c0
 have f1 := hC.fz 1 (by omega)
 have f2 := hC.fz 2 (by omega)
 have hw1 : IntKind.i64.wrap ((q : Int) + 1) = ((q + 1 : Nat) : Int) := by rw [IntWalk.i64_in _ (by omega)]; omega
 have HC : Hid (Cur w g A n c p) := hC
 clear hC
 by_cases hlt : q < n
 ·obtain ⟨b, off, rfl, hb, HB⟩ := HC.out.code (by omega)
  obtain ⟨z, hz, cb⟩ := HB q hlt
  have hne : b ≠ g := by omega
  have hi : (q : Int) < (n : Int) := by omega
  have hi2 : ((q + 1 : Nat) : Int) ≤ (n : Int) := by omega
  clear HB
  go_enter Tryz.func108, Tryz.ntmps108
  go_wp2
  go_quiet (fail)
  go_wp2
  go_quiet (fail)
  go_wp2
  go_quiet (fail)
  go_wp2
  go_ret
  exact ⟨z, rfl, hz, HC.out.done (by omega) (Nat.succ_le_succ hq) _ _ _, Fr.done _ _ _ _ _⟩
 ·have hi : ¬ (q : Int) < (n : Int) := by omega
  have hi2 : ¬ ((q + 1 : Nat) : Int) ≤ (n : Int) := by omega
  go_enter Tryz.func108, Tryz.ntmps108
  go_wp2
  go_quiet (fail)
  go_wp2
  go_quiet (fail)
  go_wp2
  go_ret
  obtain ⟨z, hz, he⟩ := and_byte (IntKind.u64.wrap (IntKind.u64.wrap (IntKind.u64.wrap (s * 6364136223846793005)) + 101919) / 1099511627776)
  exact ⟨z, by rw [he]; rfl, hz, HC.out.done (by omega) (Nat.succ_le_succ hq) _ _ _, Fr.done _ _ _ _ _⟩
theorem pick_one (g m : Nat) (hm : m ≤ 1) (w : World) :
  Calls Tryz.prog 62 #[.pointer (some ⟨g, 0, none⟩), .int .i64 m] w fun e w' => e = .returned (.int .i64 0) ∧ w' = w := by
 have h : (m : Int) ≤ 1 := by omega
 go_enter Tryz.func62, Tryz.ntmps62
 go_wp2
 go_ret
 exact z10
theorem pick_any (g n c p m : Nat) (A : Option Addr) (w : World) (hC : Cur w g A n c p) (hn : n ≤ 65536) (hp : p ≤ 900000000) (hm : 1 ≤ m) (hm2 : m ≤ 1000000000) :
  Calls Tryz.prog 62 #[.pointer (some ⟨g, 0, none⟩), .int .i64 m] w fun e w' => ∃ z : Nat, e = .returned (.int .i64 z) ∧ z < m ∧ Cur w' g A n c (p + 2) ∧ Fr g (g + 1) w w' := by
 by_cases h1 : m ≤ 1
 ·refine (pick_one g m h1 w).mono ?_
  rintro e w1 ⟨rfl, rfl⟩
  exact ⟨0, rfl, by omega, hC.weaken (by omega), Fr.refl _ _ _⟩
 have h1i : ¬ ((m : Int) ≤ 1) := by omega
 have hm0 : ¬ ((m : Int) = 0) := by omega
 have HC : Hid (Cur w g A n c p) := hC
 clear hC
 by_cases h200 : m ≤ 200
 ·have h2 : ¬ (200 < (m : Int)) := by omega
  go_enter Tryz.func62, Tryz.ntmps62
  go_wp2_with fail
  refine (next_any g n c p A w HC.out hn (by omega)).mono ?_
  rintro e w1 ⟨z, rfl, hz, hc1, hf1⟩
  go_wp2
  go_ret
  refine ⟨z % m, ?_, Nat.mod_lt _ (by omega), hc1.weaken (by omega), hf1⟩
  show Ending.returned (.int .i64 ((z : Int) % (m : Int))) = _
  rw [← Int.natCast_emod]
 ·have h2 : 200 < (m : Int) := by omega
  go_enter Tryz.func62, Tryz.ntmps62
  go_wp2_with fail
  refine (next_any g n c p A w HC.out hn (by omega)).mono ?_
  rintro e w1 ⟨z, rfl, hz, hc1, hf1⟩
  go_wp2_with fail
  refine (next_any g n c _ A w1 hc1 hn (by omega)).mono ?_
  rintro e w2 ⟨z2, rfl, hz2, hc2, hf2⟩
  go_wp2
  go_ret
  refine ⟨(z * 256 + z2) % m, ?_, Nat.mod_lt _ (by omega), hc2, hf1.trans hf2⟩
  show Ending.returned (.int .i64 (((z : Int) * 256 + (z2 : Int)) % (m : Int))) = _
  rw [show (z : Int) * 256 + (z2 : Int) = ((z * 256 + z2 : Nat) : Int) by omega, ← Int.natCast_emod]
theorem one_any (g n c p m : Nat) (A : Option Addr) (w : World) (hC : Cur w g A n c p) (hn : n ≤ 65536) (hp : p ≤ 900000000) (hm : 1 ≤ m) (hm2 : m ≤ 1000000000) :
  Calls Tryz.prog 63 #[.pointer (some ⟨g, 0, none⟩), .int .i64 m] w fun e w' => ∃ b : Bool, e = .returned (.bool b) ∧ Cur w' g A n c (p + 2) ∧ Fr g (g + 1) w w' := by
 go_enter Tryz.func63, Tryz.ntmps63
 go_wp2_with fail
 refine (pick_any g n c p m A w hC hn hp hm hm2).mono ?_
 rintro e w1 ⟨z, rfl, hz, hc1, hf1⟩
 go_wp2
 go_ret
 exact ⟨_, rfl, hc1, hf1⟩
theorem among_any (g n c p m cm lo hi : Nat) (A B : Option Addr) (f : Nat → Int) (w : World) (hC : Cur w g A n c p) (hn : n ≤ 65536) (hp : p ≤ 900000000) (hm : 1 ≤ m) (hm2 : m ≤ 1000) (hs : Sl w lo hi 1 B m f) (hg : g < lo) :
  Calls Tryz.prog 68 #[.pointer (some ⟨g, 0, none⟩), .slice B m cm] w fun e w' => ∃ k : Nat, k < m ∧ e = .returned (.int .i64 (f k)) ∧ Cur w' g A n c (p + 2) ∧ Fr g (g + 1) w w' := by
 obtain ⟨b, off, rfl, hb1, hb2, _⟩ := hs.here (by omega)
 have HS : Hid (Sl w lo hi 1 (some ⟨b, off, none⟩) m f) := hs
 clear hs
 go_enter Tryz.func68, Tryz.ntmps68
 go_wp2_with fail
 refine (pick_any g n c p m A w hC hn hp hm (by omega)).mono ?_
 rintro e w1 ⟨z, rfl, hz, hc1, hf1⟩
 obtain ⟨b', off', e1, h1, h2, hcell⟩ := (HS.out.fr hf1 (by omega)).here (by omega)
 simp only [Option.some.injEq, Addr.mk.injEq, and_true] at e1
 obtain ⟨rfl, rfl⟩ := e1
 have c0 := hcell z (by omega)
 have hz1 : (z : Int) < (m : Int) := by omega
 clear hcell HS
 go_wp2
 go_ret
 exact ⟨z, hz, rfl, hc1, hf1⟩
theorem among_lit (g n c p cm : Nat) (A : Option Addr) (w : World) (L : List Int) (cs : Array Value) (T : TypeId) (m : Nat) (hcs : cs = (L.map (Value.int .i64)).toArray) (hm : m = L.length) (hm1 : 1 ≤ m) (hm2 : m ≤ 1000) (hC : Cur w g A n c p) (hn : n ≤ 65536) (hp : p ≤ 900000000) :
  Calls Tryz.prog 68 #[.pointer (some ⟨g, 0, none⟩), .slice (some ⟨w.heap.size, 0, none⟩) m cm] (w.alloc (.cells cs T)) fun e w' => ∃ z : Int, e = .returned (.int .i64 z) ∧ Cur w' g A n c (p + 2) ∧ Fr g (g + 1) w w' := by
 subst hm
 refine (among_any g n c p L.length cm w.heap.size (w.heap.size + 1) A _ _ _ (hC.alloc _) hn hp hm1 hm2 (sl_lit L hcs) hC.lt).mono ?_
 rintro e w1 ⟨k, _, rfl, h1, h2⟩
 exact ⟨_, rfl, h1, (Fr.of_below g (g + 1) ((Below.refl _ w).alloc nL _)).trans h2⟩
structure Drawn (w : World) (lo : Nat) (e : TypeId) (k : Nat) (A : Option Addr) (m c : Nat) (f : Nat → Int) : Prop where
 le : m ≤ c
 max : c ≤ maxLen
 nil : A = none → m = 0 ∧ c = 0
 form : ∀ ad, A = some ad → ∃ b off, ad = ⟨b, off, none⟩
 own : Own w lo w.heap.size e k A m f
theorem drawnRow_of {w : World} {base lo : Nat} {e : TypeId} (k : Nat) {v : Value} {m : Nat} {L : List Int} (h : w.ownsRow base e k v m (L.map (Value.int .i64))) (hl : lo ≤ base) :
  ∃ A c, v = .slice A m c ∧ Drawn w lo e k A m c (fun j => L.getD j 0) := by
 obtain ⟨A, c, rfl, h1, h2, h3⟩ := own_of_row h
 refine ⟨A, c, rfl, h1, h2, fun ha => ?_, fun ad ha => ?_, h3.lo_le hl⟩
 ·subst ha
  rcases h.2 with ⟨e1, e2⟩ | ⟨g, cap, cur, e1, _⟩
  ·cases e1; exact z10
  ·cases e1
 ·subst ha
  rcases h.2 with ⟨e1, e2⟩ | ⟨g, cap, cur, e1, _⟩
  ·cases e1
  ·cases e1; exact ⟨_, _, rfl⟩
theorem Drawn.below {w w' : World} {lo : Nat} {e : TypeId} {k m c : Nat} {A : Option Addr} {f : Nat → Int} (h : Drawn w lo e k A m c f) (hb : bW w w') : Drawn w' lo e k A m c f :=
 ⟨h.le, h.max, h.nil, h.form, by
  have := h.own.below hb
  exact ⟨Nat.le_refl _, fun hn => by
   obtain ⟨g, cur, e1, h1, h2, h3⟩ := this.here hn
   exact ⟨g, cur, e1, h1, Nat.lt_of_lt_of_le h2 hb.size, h3⟩⟩⟩
theorem Drawn.lo_le {w : World} {lo lo' : Nat} {e : TypeId} {k m c : Nat} {A : Option Addr} {f : Nat → Int} (h : Drawn w lo e k A m c f) (hl : lo' ≤ lo) : Drawn w lo' e k A m c f :=
 ⟨h.le, h.max, h.nil, h.form, h.own.lo_le hl⟩
theorem Drawn.step {w w' : World} {lo g : Nat} {e : TypeId} {k m c : Nat} {A : Option Addr} {f : Nat → Int} (h : Drawn w lo e k A m c f) (hf : Fr g (g + 1) w w') (hg : g < lo) : Drawn w' lo e k A m c f :=
 ⟨h.le, h.max, h.nil, h.form, by
  have := h.own.fr hf (Or.inr hg)
  exact ⟨Nat.le_refl _, fun hn => by
   obtain ⟨g, cur, e1, h1, h2, h3⟩ := this.here hn
   exact ⟨g, cur, e1, h1, Nat.lt_of_lt_of_le h2 hf.size, h3⟩⟩⟩
theorem nameC {P : Program} {g : FuncId} {args : Array Value} {Q : Ending → World → Prop} {W : World} (h : ∀ w2, w2 = W → Calls P g args w2 Q) : Calls P g args W Q := h W rfl
end Go.Proofs.YtpndjhelpoenpaaGreatDoor
