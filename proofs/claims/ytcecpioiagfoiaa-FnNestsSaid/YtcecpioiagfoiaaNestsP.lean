/-
  What the law FnNests says of quiet ponds and of the longest run, as plain facts. No program in sight.
-/
import Derived.Test.YtcecpioiagfoiaaNestC
import Derived.Test.YtcecpioiagfoiaaNestH
import Derived.Test.YtcecpioiagfoiaaNestL
import Derived.Test.YtcecpioiagfoiaaRels
namespace Go.Proofs.Ytcecpioiagfoiaa
open Go.RowKit
set_option linter.unusedVariables false
set_option linter.unusedSimpArgs false
theorem mem_pick (t : Nat → Bool) (g : Nat → Int) (x : Int) : ∀ n, x ∈ pick t g n ↔ ∃ k, k < n ∧ t k = true ∧ g k = x := by
  intro n
  induction n with
  | zero => simp [pick]
  | succ n ih =>
    cases ht : t n with
    | true =>
      rw [pick_yes ht, List.mem_append, ih, List.mem_singleton]
      constructor
      · rintro (⟨k, h1, h2⟩ | rfl)
        · exact ⟨k, by omega, h2⟩
        · exact ⟨n, by omega, ht, rfl⟩
      · rintro ⟨k, h1, h2, h3⟩
        by_cases e : k = n
        · subst e; exact Or.inr h3.symm
        · exact Or.inl ⟨k, by omega, h2, h3⟩
    | false =>
      rw [pick_no ht, ih]
      constructor
      · rintro ⟨k, h1, h2⟩; exact ⟨k, by omega, h2⟩
      · rintro ⟨k, h1, h2, h3⟩
        by_cases e : k = n
        · subst e; rw [ht] at h2; cases h2
        · exact ⟨k, by omega, h2, h3⟩
theorem id_lt {f : Nat → Int} {n k : Nat} (h : goodNests f n = true) (hk : k + 1 < n) : f (k * 7) < f ((k + 1) * 7) := by
  simp only [goodNests, Bool.and_eq_true] at h
  have := allTo_at hk h.1
  simp only [okNestStep, Bool.and_eq_true, Bool.or_eq_true, decide_eq_true_eq] at this
  rcases this.2 with e | e
  · omega
  · exact e
theorem id_mono {f : Nat → Int} {n : Nat} (h : goodNests f n = true) (i : Nat) : ∀ d, i + d + 1 < n → f (i * 7) < f ((i + d + 1) * 7)
  | 0, hk => id_lt h hk
  | d + 1, hk => Int.lt_trans (id_mono h i d (by omega)) (id_lt h (k := i + d + 1) hk)
theorem id_inj {f : Nat → Int} {n i j : Nat} (h : goodNests f n = true) (hi : i < n) (hj : j < n) (e : f (i * 7) = f (j * 7)) : i = j := by
  rcases Nat.lt_trichotomy i j with hl | hl | hl
  · have := id_mono h i (j - i - 1) (by omega)
    rw [show i + (j - i - 1) + 1 = j by omega] at this; omega
  · exact hl
  · have := id_mono h j (i - j - 1) (by omega)
    rw [show j + (i - j - 1) + 1 = i by omega] at this; omega
theorem quietAt_iff (f : Nat → Int) (n : Nat) (pond day : Int) : quietAt f n pond day = true ↔ ∃ j, j < n ∧ f (j * 7 + 2) = pond ∧ aliveAt f day j = true := by
  unfold quietAt
  rw [decide_eq_true_eq]
  constructor
  · intro h
    rcases findP_cases (quietK f pond day) n 0 with ⟨h1, _⟩ | ⟨j, h1, h2, h3, h4⟩
    · omega
    · simp only [quietK, quietV, Bool.and_eq_true, decide_eq_true_eq] at h4
      exact ⟨j, by omega, h4.1, h4.2⟩
  · rintro ⟨j, h1, h2, h3⟩
    rcases findP_cases (quietK f pond day) n 0 with ⟨_, h4⟩ | ⟨i, _, _, h4, _⟩
    · have := h4 j (by omega) (by omega)
      simp only [quietK, quietV, Bool.and_eq_false_iff, decide_eq_false_iff_not] at this
      rcases this with h | h
      · exact absurd h2 h
      · exact absurd h3 (by rw [show aliveAt f day j = aliveV (f (j * 7 + 3)) (f (j * 7 + 4)) day from rfl, h]; exact Bool.false_ne_true)
    · omega
/-- A pond is among the quiet ones where a nest at it is alive. -/
theorem quiet_has {f : Nat → Int} {n : Nat} {day : Int} (h : aliveOk f n day = true) (pond : Int) :
    hasB (fun j => (quietRes f n day).getD j 0) (quietRes f n day).length pond = quietAt f n pond day := by
  rw [Bool.eq_iff_iff, hasB_list, quietAt_iff]
  unfold quietRes
  rw [if_pos h]
  show pond ∈ List.foldl putL [] _ ↔ _
  rw [foldPut_mem, mem_pick]
  constructor
  · rintro (h1 | ⟨j, h1, h2, h3⟩)
    · simp at h1
    · exact ⟨j, h1, h3, h2⟩
  · rintro ⟨j, h1, h2, h3⟩
    exact Or.inr ⟨j, h1, h3, h2⟩
/-- Where nest i's Id is among the living, nest i is alive. -/
theorem alive_has {f : Nat → Int} {n : Nat} {day : Int} (h : aliveOk f n day = true) {i : Nat} (hi : i < n)
    (hh : hasB (fun j => (aliveRes f n day).getD j 0) (aliveRes f n day).length (f (i * 7)) = true) : quietAt f n (f (i * 7 + 2)) day = true := by
  have hg : goodNests f n = true := by simp only [aliveOk, Bool.and_eq_true] at h; exact h.1
  rw [hasB_list] at hh
  unfold aliveRes at hh
  rw [if_pos h, mem_pick] at hh
  obtain ⟨k, h1, h2, h3⟩ := hh
  obtain rfl := id_inj hg h1 hi h3
  exact (quietAt_iff _ _ _ _).2 ⟨k, hi, rfl, h2⟩
theorem span_one {f : Nat → Int} {n : Nat} {day : Int} (h : aliveOk f n day = true) {i : Nat} (hi : i < n) : spanOk f n (f (i * 7 + 2)) day day = true := by
  simp only [aliveOk, Bool.and_eq_true] at h
  have h1 := goodNests_row h.1 hi
  have h2 : 0 ≤ day ∧ day ≤ 4000 := by have := h.2; simp only [inR, decide_eq_true_eq] at this; exact this
  simp only [okNestAt, okNest, decide_eq_true_eq] at h1
  simp only [spanOk, Bool.and_eq_true, h.1, inR, daysB, decide_eq_true_eq]
  exact ⟨⟨trivial, by omega⟩, by omega⟩
theorem wdays_one (q : Int → Bool) (a : Int) : wdays q a ((a - a).toNat + 1) = if q a then 0 else 1 := by
  rw [show (a - a).toNat = 0 by omega]
  simp [wdays]
/-! The longest run. -/
theorem runL_free (q : Int → Bool) (a : Int) : ∀ k d, a + k - runL q a k ≤ d → d < a + k → q d = false := by
  intro k
  induction k with
  | zero => intro d h1 h2; simp [runL] at h1 h2; omega
  | succ k ih =>
    intro d h1 h2
    unfold runL at h1
    split at h1
    · push_cast at h1 h2; omega
    · rename_i hq
      by_cases e : d = a + k
      · subst e; simpa using hq
      · exact ih d (by push_cast at h1; omega) (by push_cast at h2; omega)
theorem lastM_free (q : Int → Bool) (a : Int) : ∀ k, 0 < (lastM q a k).2 → (∀ d, (lastM q a k).1 - (lastM q a k).2 + 1 ≤ d → d ≤ (lastM q a k).1 → q d = false) ∧ a ≤ (lastM q a k).1 - (lastM q a k).2 + 1 ∧ (lastM q a k).1 < a + k := by
  intro k
  induction k with
  | zero => intro h; simp [lastM] at h
  | succ k ih =>
    intro h
    have hn := runL_nn q a (k + 1)
    unfold lastM at h ⊢
    split
    · rename_i hc
      refine ⟨fun d h1 h2 => ?_, ?_, ?_⟩
      · simp only at h1 h2
        exact runL_free q a (k + 1) d (by push_cast; omega) (by push_cast; omega)
      · simp only; push_cast at hn; omega
      · simp only; push_cast; omega
    · rename_i hc
      rw [if_neg hc] at h
      obtain ⟨h1, h2, h3⟩ := ih h
      exact ⟨h1, h2, by push_cast; omega⟩
theorem wdays_free (q : Int → Bool) (a : Int) : ∀ k : Nat, (∀ d, a ≤ d → d < a + k → q d = false) → wdays q a k = k := by
  intro k
  induction k with
  | zero => intro _; rfl
  | succ k ih =>
    intro h
    unfold wdays
    rw [if_neg (by rw [h (a + k) (by omega) (by push_cast; omega)]; exact Bool.false_ne_true), ih (fun d h1 h2 => h d h1 (by push_cast; omega))]
    push_cast; rfl
theorem wdays_add (q : Int → Bool) (a : Int) (s : Nat) : ∀ t : Nat, wdays q a (s + t) = wdays q a s + wdays q (a + s) t := by
  intro t
  induction t with
  | zero => simp [wdays]
  | succ t ih =>
    have e1 : wdays q a (s + (t + 1)) = if q (a + ((s + t : Nat) : Int)) then wdays q a (s + t) else wdays q a (s + t) + 1 := rfl
    have e2 : wdays q (a + s) (t + 1) = if q (a + s + (t : Int)) then wdays q (a + s) t else wdays q (a + s) t + 1 := rfl
    rw [e1, e2, show a + ((s + t : Nat) : Int) = a + s + t by push_cast; omega, ih]
    split
    · rfl
    · omega
theorem wdays_sub (q : Int → Bool) (a : Int) (s t T : Nat) (h : s + t ≤ T) : wdays q (a + s) t ≤ wdays q a T := by
  obtain ⟨r, rfl⟩ : ∃ r, T = s + t + r := ⟨T - s - t, by omega⟩
  rw [wdays_add, wdays_add]
  have h1 := wdays_bd q a s
  have h2 := wdays_bd q (a + (s + t : Nat)) r
  omega
/-- What is told of the longest run: it lies within the days, one may work on each of its days, and the days on which one may work are as many at least. -/
theorem longest {f : Nat → Int} {n : Nat} {pond a u : Int} (h : lgB f n pond a u = true) :
    spanOk f n pond a u = true ∧ spanOk f n pond (lg1 f n pond a u) (lg2 f n pond a u) = true ∧ 0 ≤ lg1 f n pond a u ∧ lg1 f n pond a u ≤ lg2 f n pond a u ∧ lg2 f n pond a u ≤ 4000 ∧
    wdays (quietAt f n pond) (lg1 f n pond a u) ((lg2 f n pond a u - lg1 f n pond a u).toNat + 1) = lg2 f n pond a u - lg1 f n pond a u + 1 ∧
    wdays (quietAt f n pond) (lg1 f n pond a u) ((lg2 f n pond a u - lg1 f n pond a u).toNat + 1) ≤ wdays (quietAt f n pond) a ((u - a).toNat + 1) ∧ a ≤ lg1 f n pond a u ∧ lg2 f n pond a u ≤ u := by
  have e1 : lg1 f n pond a u = (lgL f n pond a u).1 - (lgL f n pond a u).2 + 1 := by unfold lg1; rw [if_pos h]
  have e2 : lg2 f n pond a u = (lgL f n pond a u).1 := by unfold lg2; rw [if_pos h]
  simp only [lgB, Bool.and_eq_true, decide_eq_true_eq] at h
  obtain ⟨hs, hl⟩ := h
  rw [e1, e2]
  have hd : 0 ≤ a ∧ a ≤ u ∧ u ≤ 4000 := by
    simp only [spanOk, Bool.and_eq_true, daysB, decide_eq_true_eq] at hs; exact hs.2
  obtain ⟨h1, h2, h3⟩ := lastM_free (quietAt f n pond) a ((u - a).toNat + 1) hl
  unfold lgL at hl ⊢
  generalize lastM (quietAt f n pond) a ((u - a).toNat + 1) = p at hl h1 h2 h3 ⊢
  obtain ⟨e, l⟩ := p
  simp only at hl h1 h2 h3 ⊢
  have hw : wdays (quietAt f n pond) (e - l + 1) ((e - (e - l + 1)).toNat + 1) = ((e - (e - l + 1)).toNat + 1 : Nat) := wdays_free _ _ _ (fun d hd1 hd2 => h1 d hd1 (by omega))
  refine ⟨hs, ?_, by omega, by omega, by omega, by rw [hw]; push_cast; omega, ?_, h2, by omega⟩
  · simp only [spanOk, Bool.and_eq_true, daysB, decide_eq_true_eq] at hs ⊢
    exact ⟨hs.1, by omega⟩
  · have h5 := wdays_sub (quietAt f n pond) a (e - l + 1 - a).toNat ((e - (e - l + 1)).toNat + 1) ((u - a).toNat + 1) (by omega)
    rw [show a + ((e - l + 1 - a).toNat : Int) = e - l + 1 by omega] at h5
    exact h5
end Go.Proofs.Ytcecpioiagfoiaa
