/-
  Several short texts in one: WkB, VWorks.
-/
import Derived.Test.YtjhgpebppcbleaaPk5
import Derived.Test.YtjhgpebppcbleaaRunS
import Derived.Test.YtjhgpebppcbleaaPk1
import Derived.Test.YtjhgpebppcbleaaPk4
/-
  Both sides' StepWorks, and both sides' RunWorks, as one fact each, with what the law FnWorks needs of the result.
-/

namespace Go.Proofs.Ytjhgpebppcbleaa
open Go.RowKit
set_option linter.unusedVariables false
set_option linter.unusedSimpArgs false
def RakeF (f : Nat → Int) (n : Nat) (I H S P id : Int) : Prop := goodWorks f n I H S P = true ∧ ∃ j, j < n ∧ findV (pid f) id n 0 = (j : Int) ∧ f (j * 4 + 3) ≠ 0 ∧ dryN (f (j * 4 + 2)) (f (j * 4 + 3)) = 0 ∧ hasB (fun i => (rakeRes f n true).getD i 0) (rakeRes f n true).length id = true
theorem step_both (f : Nat → Int) (n : Nat) (I H S P kd id to z : Int) (hn : n ≤ 1048576) :
    ∃ (L1 : List Int) (m1 : Nat) (I1 H1 S1 P1 : Int) (ok : Bool), m1 ≤ 1048576 ∧ Hid (ok = true → goodWorks (lf L1) m1 I1 H1 S1 P1 = true) ∧ Hid (ok = true → kd ≠ 2 → I1 = I) ∧ Hid (ok = true → kd = 5 → RakeF f n I H S P id) ∧
      Hid (∀ (Aq : Option Addr) (cq lo hi : Nat) (W : World), Sl W lo hi 4 Aq n f → n ≤ cq → (Aq = none → n = 0 ∧ cq = 0) → (∀ ad, Aq = some ad → ∃ b off, ad = ⟨b, off, none⟩) → Calls Try.prog 9 #[.agg #[.slice Aq n cq, .int .i64 I, .int .i64 H, .int .i64 S, .int .i64 P], .agg #[.int .i64 kd, .int .i64 id, .int .i64 to, .int .i64 z]] W fun e w' => ∃ A' c', e = .returned (.tuple #[.agg #[.slice A' m1 c', .int .i64 I1, .int .i64 H1, .int .i64 S1, .int .i64 P1], .bool ok]) ∧ m1 ≤ c' ∧ c' ≤ maxLen ∧ w'.ownsRow W.heap.size 87 4 (.slice A' m1 c') m1 (L1.map (Value.int .i64)) ∧ Below W.heap.size W w') ∧ Hid (∀ (Aq : Option Addr) (cq lo hi : Nat) (W : World), Sl W lo hi 4 Aq n f → n ≤ cq → (Aq = none → n = 0 ∧ cq = 0) → (∀ ad, Aq = some ad → ∃ b off, ad = ⟨b, off, none⟩) → Calls Try.prog 10 #[.agg #[.slice Aq n cq, .int .i64 I, .int .i64 H, .int .i64 S, .int .i64 P], .agg #[.int .i64 kd, .int .i64 id, .int .i64 to, .int .i64 z]] W fun e w' => ∃ A' c', e = .returned (.tuple #[.agg #[.slice A' m1 c', .int .i64 I1, .int .i64 H1, .int .i64 S1, .int .i64 P1], .bool ok]) ∧ m1 ≤ c' ∧ c' ≤ maxLen ∧ w'.ownsRow W.heap.size 87 4 (.slice A' m1 c') m1 (L1.map (Value.int .i64)) ∧ Below W.heap.size W w') := by
  refine ⟨_, _, _, _, _, _, stOk f n I H S P kd id to z, stOk_len f n I H S P kd id to z hn, fun h => ?_, fun h hk => ?_, fun h hk => ?_,
    fun Aq cq lo hi W hs h1 h2 h3 => StepWorks_any Aq n cq lo hi f I H S P kd id to z W hs hn h1 h2, fun Aq cq lo hi W hs h1 h2 h3 => sStepWorks_any Aq n cq lo hi f I H S P kd id to z W hs hn h1 h2 h3⟩
  · simp only [h, if_true]
    exact (wk_parts h).2.2.2.2
  · simp only [h, if_true]
    simp [stI, hk]
  · subst hk
    exact ⟨(wk_parts h).1, wk_rake h⟩
theorem run_both (f : Nat → Int) (n : Nat) (I H S P : Int) (n1 : Nat) (g : Nat → Int) (hn : n ≤ 1048576) (hn1 : n1 ≤ 1048576) :
    ∃ (L1 : List Int) (m1 : Nat) (I1 H1 S1 P1 : Int) (ct : Nat) (ok : Bool), m1 ≤ 1048576 ∧ Hid (ok = true → n1 ≤ 40 ∧ goodWorks f n I H S P = true ∧ (⟨L1, m1, I1, H1, S1, P1, ct⟩ : WkS) = runS ⟨cellsL f n, n, I, H, S, P, 0⟩ g n1) ∧ Hid (∀ (Aq : Option Addr) (cq lo hi : Nat) (Bq : Option Addr) (dq lo1 hi1 : Nat) (W : World), Sl W lo hi 4 Aq n f → n ≤ cq → (Aq = none → n = 0 ∧ cq = 0) → (∀ ad, Aq = some ad → ∃ b off, ad = ⟨b, off, none⟩) → Sl W lo1 hi1 4 Bq n1 g → n1 ≤ dq → Calls Try.prog 19 #[.agg #[.slice Aq n cq, .int .i64 I, .int .i64 H, .int .i64 S, .int .i64 P], .slice Bq n1 dq] W fun e w' => ∃ A' c', e = .returned (.tuple #[.agg #[.slice A' m1 c', .int .i64 I1, .int .i64 H1, .int .i64 S1, .int .i64 P1], .int .i64 ct, .bool ok]) ∧ m1 ≤ c' ∧ c' ≤ maxLen ∧ w'.ownsRow W.heap.size 87 4 (.slice A' m1 c') m1 (L1.map (Value.int .i64)) ∧ Below W.heap.size W w') ∧ Hid (∀ (Aq : Option Addr) (cq lo hi : Nat) (Bq : Option Addr) (dq lo1 hi1 : Nat) (W : World), Sl W lo hi 4 Aq n f → n ≤ cq → (Aq = none → n = 0 ∧ cq = 0) → (∀ ad, Aq = some ad → ∃ b off, ad = ⟨b, off, none⟩) → Sl W lo1 hi1 4 Bq n1 g → n1 ≤ dq → Calls Try.prog 20 #[.agg #[.slice Aq n cq, .int .i64 I, .int .i64 H, .int .i64 S, .int .i64 P], .slice Bq n1 dq] W fun e w' => ∃ A' c', e = .returned (.tuple #[.agg #[.slice A' m1 c', .int .i64 I1, .int .i64 H1, .int .i64 S1, .int .i64 P1], .int .i64 ct, .bool ok]) ∧ m1 ≤ c' ∧ c' ≤ maxLen ∧ w'.ownsRow W.heap.size 87 4 (.slice A' m1 c') m1 (L1.map (Value.int .i64)) ∧ Below W.heap.size W w') := by
  refine ⟨(runL f n I H S P g n1).1.L, _, _, _, _, _, (runL f n I H S P g n1).1.cnt, (runL f n I H S P g n1).2, ?_, fun h => ?_,
    fun Aq cq lo hi Bq dq lo1 hi1 W hs h1 h2 h3 ht h4 => RunWorks_any Aq n cq lo hi f I H S P Bq n1 dq lo1 hi1 g W hs hn h1 h2 h3 ht h4 hn1, fun Aq cq lo hi Bq dq lo1 hi1 W hs h1 h2 h3 ht h4 => sRunWorks_any Aq n cq lo hi f I H S P Bq n1 dq lo1 hi1 g W hs hn h1 h2 h3 ht h4 hn1⟩
  · cases h : (goodWorks f n I H S P && decide (n1 ≤ 40)) with
    | false => rw [runL_no h]; exact Nat.zero_le _
    | true =>
      rw [runL_yes h]
      have hg : goodWorks f n I H S P = true := by
        rw [Bool.and_eq_true] at h
        exact h.1
      exact Nat.le_trans (good_len (runGood (s0 := ⟨cellsL f n, n, I, H, S, P, 0⟩) (g := g) (by rw [← hg]; exact goodWorks_congr (fun j hj => cellsL_getD f n j hj)) n1)) (by omega)
  · cases hb : (goodWorks f n I H S P && decide (n1 ≤ 40)) with
    | false => rw [runL_no hb] at h; cases h
    | true =>
      rw [runL_yes hb]
      rw [Bool.and_eq_true, decide_eq_true_eq] at hb
      exact ⟨hb.2, hb.1, rfl⟩
end Go.Proofs.Ytjhgpebppcbleaa
/-
  The laws' vWorks says yes where both works are alike.
-/

namespace Go.Proofs.Ytjhgpebppcbleaa
open Go.RowKit
set_option linter.unusedVariables false
set_option linter.unusedSimpArgs false
set_option maxHeartbeats 1600000 in
theorem vWorks_same (A B : Option Addr) (n c d lo hi lo' hi' : Nat) (f : Nat → Int) (I H S P : Int) (w : World) (hs : Sl w lo hi 4 A n f) (ht : Sl w lo' hi' 4 B n f) (hn : n ≤ 1048576) :
    Calls Try.prog 11 #[.agg #[.slice A n c, .int .i64 I, .int .i64 H, .int .i64 S, .int .i64 P], .agg #[.slice B n d, .int .i64 I, .int .i64 H, .int .i64 S, .int .i64 P]] w fun e w' => e = .returned (.bool true) ∧ Below w.heap.size w w' := by
  have hX : Below w.heap.size w ((w.alloc (.cells #[.slice A n c, .int .i64 I, .int .i64 H, .int .i64 S, .int .i64 P] 26)).alloc (.cells #[.slice B n d, .int .i64 I, .int .i64 H, .int .i64 S, .int .i64 P] 26)) := ((Below.refl _ w).alloc (Nat.le_refl _) _).alloc (by simp) _
  have h0 : ((w.alloc (.cells #[.slice A n c, .int .i64 I, .int .i64 H, .int .i64 S, .int .i64 P] 26)).alloc (.cells #[.slice B n d, .int .i64 I, .int .i64 H, .int .i64 S, .int .i64 P] 26)).heap[w.heap.size]? = some (.cells #[.slice A n c, .int .i64 I, .int .i64 H, .int .i64 S, .int .i64 P] 26 (0, 0)) := by
    rw [heap_alloc_old _ _ (by simp)]
    exact heap_alloc_new w _
  have h1 : ((w.alloc (.cells #[.slice A n c, .int .i64 I, .int .i64 H, .int .i64 S, .int .i64 P] 26)).alloc (.cells #[.slice B n d, .int .i64 I, .int .i64 H, .int .i64 S, .int .i64 P] 26)).heap[w.heap.size + 1]? = some (.cells #[.slice B n d, .int .i64 I, .int .i64 H, .int .i64 S, .int .i64 P] 26 (0, 0)) := by
    have h := heap_alloc_new (w.alloc (.cells #[.slice A n c, .int .i64 I, .int .i64 H, .int .i64 S, .int .i64 P] 26)) (.cells #[.slice B n d, .int .i64 I, .int .i64 H, .int .i64 S, .int .i64 P] 26)
    simpa using h
  have HS := Lib.hid (hs.below hX)
  have HT := Lib.hid (ht.below hX)
  clear hs ht
  go_enter Try.func11, Try.ntmps11
  go_upto_region 1 with fail
  refine name_wp ?_
  intro w1 hw1
  rw [← hw1] at hX h0 h1 HS HT
  clear hw1
  obtain ⟨e0, e1, e2, e3, e4⟩ := cells5 h0
  obtain ⟨u0, u1, u2, u3, u4⟩ := cells5 h1
  go_wp2_with fail
  refine (vPans_same A B n c d lo hi lo' hi' f w1 HS.out HT.out hn).mono ?_
  rintro e w2 ⟨rfl, hb⟩
  have h0 := rowB h0 hb
  have h1 := rowB h1 hb
  have HB := Lib.hid (below_of hX hb hX.size)
  clear e0 e1 e2 e3 e4 u0 u1 u2 u3 u4 HS HT hX hb
  obtain ⟨e0, e1, e2, e3, e4⟩ := cells5 h0
  obtain ⟨u0, u1, u2, u3, u4⟩ := cells5 h1
  clear h0 h1
  have i0 : (I == I) = true := by simp
  have i1 : (H == H) = true := by simp
  have i2 : (S == S) = true := by simp
  have i3 : (P == P) = true := by simp
  go_wp2
  go_ret
  exact ⟨rfl, HB.out⟩
end Go.Proofs.Ytjhgpebppcbleaa
