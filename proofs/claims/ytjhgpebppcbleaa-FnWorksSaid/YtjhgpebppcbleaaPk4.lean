/-
  Several short texts in one: MarkW, ResW.
-/
import Derived.Test.YtjhgpebppcbleaaWorksH
import Derived.Lib.Hide
import Derived.Test.YtjhgpebppcbleaaStepF
import Derived.Deep.Cut
/-
  markWorks: the pans of a works are marked.
-/

namespace Go.Proofs.Ytjhgpebppcbleaa
open Go.RowKit
set_option linter.unusedVariables false
set_option linter.unusedSimpArgs false
set_option maxHeartbeats 800000 in
theorem markWorks_any (A : Option Addr) (n c lo hi : Nat) (k0 : Int) (f : Nat → Int) (I H S P : Int) (w : World) (hs : Own w lo hi 87 4 A n f) (hn : n ≤ 1048576) (hnc : n ≤ c) (h0 : 0 ≤ k0) (h1 : k0 ≤ 1000000) :
    Calls Try.prog 27 #[.agg #[.slice A n c, .int .i64 I, .int .i64 H, .int .i64 S, .int .i64 P], .int .i64 k0] w fun e w' => e = .returned (.int .i64 (k0 + (n : Int) * 4)) ∧ Own w' lo hi 87 4 A n (fun j => k0 + j) ∧ Fr lo hi w w' := by
  have hal := (Below.refl _ w).alloc (Nat.le_refl _) (.cells #[.slice A n c, .int .i64 I, .int .i64 H, .int .i64 S, .int .i64 P] 26)
  have HS := Lib.hid (hs.below hal)
  have HF := Lib.hid (Fr.of_below lo hi hal)
  clear hs hal
  go_enter Try.func27, Try.ntmps27
  go_wp2_with fail
  refine (markPanS_any A n c lo hi k0 f _ HS.out hn hnc h0 (by omega)).mono ?_
  rintro e w2 ⟨rfl, ho, hr⟩
  have HO := Lib.hid ho
  have HR := Lib.hid (HF.out.trans hr)
  clear ho hr
  go_wp2
  go_ret
  exact ⟨rfl, HO.out, HR.out⟩
end Go.Proofs.Ytjhgpebppcbleaa
/-
  The laws' helpers for results that are works.
-/

namespace Go.Proofs.Ytjhgpebppcbleaa
open Go.RowKit
set_option linter.unusedVariables false
set_option linter.unusedSimpArgs false
theorem own_tight {w : World} {base n c B : Nat} {A' : Option Addr} {zs : List Int} (h : w.ownsRow base 87 4 (.slice A' n c) n (zs.map (Value.int .i64))) (hB : B ≤ base) (hb : base ≤ w.heap.size) :
    ∃ lo hi, Own w lo hi 87 4 A' n (lf zs) ∧ B ≤ lo := by
  obtain ⟨A2, c2, e, _, _, ho⟩ := own_of_row h
  cases e
  by_cases hn : 0 < n
  · obtain ⟨g, cur, e1, h1, h2, h3, h4, h5⟩ := ho.here hn
    exact ⟨g, g + 1, ⟨(Array.getElem?_eq_some_iff.1 h3).1, fun _ => ⟨g, cur, e1, Nat.le_refl _, Nat.lt_succ_self _, h3, h4, h5⟩⟩, by omega⟩
  · have h0 : n = 0 := by omega
    subst h0
    exact ⟨base, base, Own.none_ hb, hB⟩
theorem own_but {w w' : World} {lo hi n g : Nat} {A' : Option Addr} {f : Nat → Int} (h : Own w lo hi 87 4 A' n f) (hg : w.grownBy w' (some g)) (hd : g < lo ∨ hi ≤ g) : Own w' lo hi 87 4 A' n f :=
  ⟨Nat.le_trans h.hi_le hg.size, fun hn => by
    obtain ⟨q, cur, e1, h1, h2, h3, h4⟩ := h.here hn
    have := h.hi_le
    exact ⟨q, cur, e1, h1, h2, (hg.block q (by omega) (by simp; omega)).trans h3, h4⟩⟩
theorem rowF {w w' : World} {lo hi g : Nat} {o : Obj} (h : w.heap[g]? = some o) (hf : Fr lo hi w w') (hd : g < lo ∨ hi ≤ g) : w'.heap[g]? = some o := (hf.block g (Array.getElem?_eq_some_iff.1 h).1 hd).trans h
theorem rowB {X w' : World} {g : Nat} {o : Obj} (hX : X.heap[g]? = some o) (h : Below X.heap.size X w') : w'.heap[g]? = some o :=
  (h.block g (Array.getElem?_eq_some_iff.1 hX).1).trans hX
theorem rowLt {w : World} {r : Nat} {o : Obj} (h : w.heap[r]? = some o) : r < w.heap.size := (Array.getElem?_eq_some_iff.1 h).1
set_option maxHeartbeats 1600000 in
theorem toWorksStep_any (k i t z : Int) (w : World) :
    Calls Try.prog 25 #[.agg #[.int .i64 k, .int .i64 i, .int .i64 t, .int .i64 z]] w fun e w' => e = .returned (.agg #[.int .i64 k, .int .i64 i, .int .i64 t, .int .i64 z]) ∧ Below w.heap.size w w' := by
  go_enter Try.func25, Try.ntmps25
  go_wp2
  go_returns
  exact ⟨rfl, by go_grown⟩
theorem heldWorks_any (A' : Option Addr) (n c lo hi : Nat) (k0 : Int) (I H S P : Int) (w : World) (hs : Sl w lo hi 4 A' n (fun j => k0 + j)) (hn : n ≤ 1048576) (hnc : n ≤ c) (h0 : 0 ≤ k0) (h1 : k0 ≤ 1000000) :
    Calls Try.prog 28 #[.agg #[.slice A' n c, .int .i64 I, .int .i64 H, .int .i64 S, .int .i64 P], .int .i64 k0] w fun e w' => e = .returned (.int .i64 (k0 + (n : Int) * 4)) ∧ Below w.heap.size w w' := by
  have hal := (Below.refl _ w).alloc (Nat.le_refl _) (.cells #[.slice A' n c, .int .i64 I, .int .i64 H, .int .i64 S, .int .i64 P] 26)
  have HS := Lib.hid (hs.below hal)
  have HA := Lib.hid hal
  clear hs hal
  have hnn : ¬ (k0 + (n : Int) * 4 < 0) := by omega
  go_enter Try.func28, Try.ntmps28
  go_wp2_with fail
  refine (heldPanS_any A' n c lo hi k0 _ HS.out hn hnc h0 (by omega)).mono ?_
  rintro e w2 ⟨rfl, rfl⟩
  go_wp2
  go_ret
  exact ⟨rfl, HA.out⟩
theorem stOk_len (f : Nat → Int) (n : Nat) (I H S P kd id t0 z : Int) (h : n ≤ 1048576) : (if stOk f n I H S P kd id t0 z then stN n kd else 0) ≤ 1048576 := by
  split
  · rename_i hk
    have hg : goodWorks f n I H S P = true := by
      cases hg : goodWorks f n I H S P with
      | true => rfl
      | false => simp [stOk, hg] at hk
    have hn := good_len hg
    unfold stN
    split
    · omega
    · split <;> omega
  · omega
end Go.Proofs.Ytjhgpebppcbleaa
