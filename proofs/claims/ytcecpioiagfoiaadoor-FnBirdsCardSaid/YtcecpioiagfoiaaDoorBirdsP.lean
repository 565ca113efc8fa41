/-
  What the law FnBirds says of the nearest nest and of the nests past a path, as plain facts. No program in sight.
-/
import Derived.Test.YtcecpioiagfoiaaDoorNestB
import Derived.Test.YtcecpioiagfoiaaDoorNestC
import Derived.Test.YtcecpioiagfoiaaDoorNestN
import Derived.Test.YtcecpioiagfoiaaDoorRels
namespace Go.Proofs.YtcecpioiagfoiaaDoor
open Go.RowKit Go.Sort
set_option linter.unusedVariables false
set_option linter.unusedSimpArgs false
theorem mem_pick (t : Nat → Bool) (g : Nat → Int) (x : Int) : ∀ n, x ∈ pick t g n ↔ ∃ k, k < n ∧ t k = true ∧ g k = x := by
  intro n
  induction n with
  | zero => simp [pick]
  | succ n ih =>
    cases ht : t n with
    | true =>
      rw [pick_yes ht, List.mem_append, ih, List.mem_singleton]
      constructor
      · rintro (⟨k, h1, h2⟩ | rfl)
        · exact ⟨k, by omega, h2⟩
        · exact ⟨n, by omega, ht, rfl⟩
      · rintro ⟨k, h1, h2, h3⟩
        by_cases e : k = n
        · subst e; exact Or.inr h3.symm
        · exact Or.inl ⟨k, by omega, h2, h3⟩
    | false =>
      rw [pick_no ht, ih]
      constructor
      · rintro ⟨k, h1, h2⟩; exact ⟨k, by omega, h2⟩
      · rintro ⟨k, h1, h2, h3⟩
        by_cases e : k = n
        · subst e; rw [ht] at h2; cases h2
        · exact ⟨k, by omega, h2, h3⟩
theorem id_lt {f : Nat → Int} {n k : Nat} (h : goodNests f n = true) (hk : k + 1 < n) : f (k * 7) < f ((k + 1) * 7) := by
  simp only [goodNests, Bool.and_eq_true] at h
  have := allTo_at hk h.1
  simp only [okNestStep, Bool.and_eq_true, Bool.or_eq_true, decide_eq_true_eq] at this
  rcases this.2 with e | e
  · omega
  · exact e
theorem id_mono {f : Nat → Int} {n : Nat} (h : goodNests f n = true) (i : Nat) : ∀ d, i + d + 1 < n → f (i * 7) < f ((i + d + 1) * 7)
  | 0, hk => id_lt h hk
  | d + 1, hk => Int.lt_trans (id_mono h i d (by omega)) (id_lt h (k := i + d + 1) hk)
theorem id_inj {f : Nat → Int} {n i j : Nat} (h : goodNests f n = true) (hi : i < n) (hj : j < n) (e : f (i * 7) = f (j * 7)) : i = j := by
  rcases Nat.lt_trichotomy i j with hl | hl | hl
  · have := id_mono h i (j - i - 1) (by omega)
    rw [show i + (j - i - 1) + 1 = j by omega] at this; omega
  · exact hl
  · have := id_mono h j (i - j - 1) (by omega)
    rw [show j + (i - j - 1) + 1 = i by omega] at this; omega
theorem bestBy_min {W : Nat → Int} : ∀ k j, j < k → W (bestBy (fun a b => decide (W b < W a)) k) ≤ W j := by
  intro k
  induction k with
  | zero => intro j h; omega
  | succ k ih =>
    intro j hj
    unfold bestBy
    split
    · rename_i h
      simp only [decide_eq_true_eq] at h
      rcases Nat.lt_or_eq_of_le (Nat.le_of_lt_succ hj) with h2 | h2
      · have := ih j h2; omega
      · subst h2; exact Int.le_refl _
    · rename_i h
      simp only [decide_eq_true_eq] at h
      rcases Nat.lt_or_eq_of_le (Nat.le_of_lt_succ hj) with h2 | h2
      · exact ih j h2
      · subst h2; omega
/-- No nest is nearer; of the nearest one's Id there is none but the nearest. -/
theorem near_min (f : Nat → Int) (n : Nat) (x y : Int) (i : Nat) (hi : i < n) : sqAt f x y (nearTo f x y n) ≤ sqAt f x y i := bestBy_min (W := sqAt f x y) n i hi
theorem near_id {f : Nat → Int} {n : Nat} {x y : Int} (h : goodNests f n = true) {i : Nat} (hi : i < n) (e : f (i * 7) = f (nearTo f x y n * 7)) : sqAt f x y i = sqAt f x y (nearTo f x y n) := by
  have hb : nearTo f x y n < n := bestBy_lt _ (by omega) n (Nat.le_refl _)
  rw [id_inj h hi hb e]
theorem mem_insI {α : Type} [Inhabited α] (mv : α → α → Bool) (L : List α) (n x : α) (h : x ∈ insI mv L n) : x ∈ L ∨ x = n := by
  unfold insI at h
  rcases List.mem_append.1 h with h | h
  · exact Or.inl (List.mem_of_mem_take h)
  · rcases List.mem_cons.1 h with h | h
    · exact Or.inr h
    · exact Or.inl (List.mem_of_mem_drop h)
theorem mem_foldI {α : Type} [Inhabited α] (mv : α → α → Bool) (L : List α) : ∀ (M : List α) (x : α), x ∈ L.foldl (insI mv) M → x ∈ M ∨ x ∈ L := by
  induction L with
  | nil => intro M x h; exact Or.inl h
  | cons a L ih =>
    intro M x h
    rcases ih _ _ h with h | h
    · rcases mem_insI mv M a x h with h | h
      · exact Or.inl h
      · exact Or.inr (by rw [h]; exact List.mem_cons_self ..)
    · exact Or.inr (List.mem_cons_of_mem _ h)
theorem mem_pickN (t : Nat → Bool) : ∀ n k, k ∈ pickN t n → k < n ∧ t k = true := by
  intro n
  induction n with
  | zero => intro k h; simp [pickN] at h
  | succ n ih =>
    intro k h
    unfold pickN at h
    split at h
    · rename_i ht
      rcases List.mem_append.1 h with h | h
      · have := ih k h; exact ⟨by omega, this.2⟩
      · simp only [List.mem_singleton] at h; subst h; exact ⟨by omega, ht⟩
    · have := ih k h; exact ⟨by omega, this.2⟩
/-- Past a path there are living nests alone. -/
theorem past_alive {f : Nat → Int} {n : Nat} {x day : Int} (hne : pastRes f n x day ≠ []) : aliveOk f n day = true ∧ ∀ z ∈ pastRes f n x day, z ∈ aliveRes f n day := by
  unfold pastRes at hne ⊢
  split at hne
  · rename_i hp
    rw [if_pos hp]
    have ha : aliveOk f n day = true := by
      simp only [pastOk, Bool.and_eq_true] at hp
      simp only [aliveOk, Bool.and_eq_true]
      exact ⟨hp.1.1, hp.2⟩
    refine ⟨ha, fun z hz => ?_⟩
    unfold idsOf at hz
    obtain ⟨p, hp1, rfl⟩ := List.mem_map.1 hz
    rcases mem_foldI _ _ _ _ hp1 with h | h
    · simp at h
    · obtain ⟨h1, h2⟩ := mem_pickN _ _ _ h
      simp only [pastB, Bool.and_eq_true] at h2
      unfold aliveRes
      rw [if_pos ha, mem_pick]
      exact ⟨p, h1, h2.1, rfl⟩
  · exact absurd rfl hne
theorem past_has {f : Nat → Int} {n : Nat} {x day : Int} {k : Nat} (hk : k < (pastRes f n x day).length) :
    aliveOk f n day = true ∧ hasB (fun j => (aliveRes f n day).getD j 0) (aliveRes f n day).length ((pastRes f n x day).getD k 0) = true := by
  have hne : pastRes f n x day ≠ [] := fun e => by rw [e] at hk; simp at hk
  obtain ⟨h1, h2⟩ := past_alive hne
  refine ⟨h1, (hasB_list _ _).2 (h2 _ ?_)⟩
  simp only [List.getD, List.getElem?_eq_getElem hk, Option.getD_some]
  exact List.getElem_mem hk
end Go.Proofs.YtcecpioiagfoiaaDoor
