/-
  What the law FnYears says of years, added rows and runs, as plain facts. No program in sight.
-/
import Derived.Test.YtfejgoohefhjoaaCropE
import Derived.Test.YtfejgoohefhjoaaAddM
import Derived.Test.YtfejgoohefhjoaaCropH
namespace Go.Proofs.Ytfejgoohefhjoaa
open Go.RowKit
set_option linter.unusedVariables false
set_option linter.unusedSimpArgs false
theorem mem_pick (t : Nat → Bool) (g : Nat → Int) (x : Int) : ∀ n, x ∈ pick t g n ↔ ∃ k, k < n ∧ t k = true ∧ g k = x := by
  intro n
  induction n with
  | zero => simp [pick]
  | succ n ih =>
    cases ht : t n with
    | true =>
      rw [pick_yes ht, List.mem_append, ih, List.mem_singleton]
      constructor
      · rintro (⟨k, h1, h2⟩ | rfl)
        · exact ⟨k, by omega, h2⟩
        · exact ⟨n, by omega, ht, rfl⟩
      · rintro ⟨k, h1, h2, h3⟩
        by_cases e : k = n
        · subst e; exact Or.inr h3.symm
        · exact Or.inl ⟨k, by omega, h2, h3⟩
    | false =>
      rw [pick_no ht, ih]
      constructor
      · rintro ⟨k, h1, h2⟩; exact ⟨k, by omega, h2⟩
      · rintro ⟨k, h1, h2, h3⟩
        by_cases e : k = n
        · subst e; rw [ht] at h2; cases h2
        · exact ⟨k, by omega, h2, h3⟩
theorem stepOk_of {f : Nat → Int} {n k : Nat} (h : goodRows f n = true) (hk : k < n) : stepOk f k = true := by
  simp only [goodRows, Bool.and_eq_true] at h
  exact allTo_at hk h.1
theorem okAt_of {f : Nat → Int} {n k : Nat} (h : goodRows f n = true) (hk : k < n) : okAt f k = true := by
  have := stepOk_of h hk
  simp only [stepOk, Bool.and_eq_true] at this
  exact this.1
theorem tons_of {f : Nat → Int} {n k : Nat} (h : goodRows f n = true) (hk : k < n) : 0 ≤ f (k * 5 + 2) ∧ f (k * 5 + 2) ≤ 1000000 := by
  have := okAt_of h hk
  simp only [okAt, okRow, decide_eq_true_eq] at this
  omega
theorem year_of {f : Nat → Int} {n k : Nat} (h : goodRows f n = true) (hk : k < n) : 1800 ≤ f (k * 5) := by
  have := okAt_of h hk
  simp only [okAt, okRow, decide_eq_true_eq] at this
  omega
theorem year_lt {f : Nat → Int} {n k : Nat} (h : goodRows f n = true) (hk : k + 1 < n) : f (k * 5) < f ((k + 1) * 5) := by
  have := stepOk_of h hk
  simp only [stepOk, Bool.and_eq_true, Bool.or_eq_true, decide_eq_true_eq] at this
  rcases this.2 with e | e
  · omega
  · exact e
theorem sumW_tons {f : Nat → Int} {n : Nat} (h : goodRows f n = true) : ∀ k, k ≤ n → 0 ≤ sumW (tonsAt f) k ∧ sumW (tonsAt f) k ≤ 1000000 * (k : Int) := by
  have hn := goodRows_le h
  intro k
  induction k with
  | zero => intro _; simp [sumW]
  | succ k ih =>
    intro hk
    have h1 := ih (by omega)
    have h2 : 0 ≤ tonsAt f k ∧ tonsAt f k ≤ 1000000 := tons_of h (by omega)
    have e : sumW (tonsAt f) (k + 1) = wrap64 (sumW (tonsAt f) k + tonsAt f k) := rfl
    rw [e, IntWalk.wrap64_in _ ⟨by omega, by omega⟩]
    constructor
    · omega
    · push_cast; omega
/-- More percent give no more years. -/
theorem years_more {f : Nat → Int} {n : Nat} {z : Int} (h1 : yearsOk f n z = true) (h2 : yearsOk f n (wrap64 (z + 1)) = true) (x : Int) (hx : x ∈ yearsRes f n (wrap64 (z + 1))) : x ∈ yearsRes f n z := by
  have hz : 1 ≤ z ∧ z ≤ 1000 := by simp only [yearsOk, inR, Bool.and_eq_true, decide_eq_true_eq] at h1; exact h1.2
  have hg : goodRows f n = true := by simp only [yearsOk, Bool.and_eq_true] at h1; exact h1.1
  have hn := goodRows_le hg
  rw [yearsRes, if_pos h2] at hx
  rw [yearsRes, if_pos h1]
  rw [IntWalk.wrap64_in _ ⟨by omega, by omega⟩] at hx
  obtain ⟨k, hk, ht, he⟩ := (mem_pick _ _ _ _).1 hx
  refine (mem_pick _ _ _ _).2 ⟨k, hk, ?_, he⟩
  have hs := sumW_tons hg n (Nat.le_refl _)
  have ht2 := tons_of hg hk
  simp only [aboveB, decide_eq_true_eq] at ht ⊢
  generalize sumW (tonsAt f) n = S at hs ht
  generalize f (k * 5 + 2) = q at ht2 ht
  have hSn : S ≤ 12000000 := by omega
  have hm1 : z * S ≤ 1000 * 12000000 := Int.mul_le_mul hz.2 hSn hs.1 (by omega)
  have hm0 : 0 ≤ z * S := Int.mul_nonneg (by omega) hs.1
  have he1 : (z + 1) * S = z * S + S := by rw [Int.add_mul, Int.one_mul]
  rw [he1, IntWalk.wrap64_in (z * S + S) ⟨by omega, by omega⟩] at ht
  rw [IntWalk.wrap64_in (z * S) ⟨by omega, by omega⟩]
  omega
/-! The tons of an added row. -/
def accW (s : Int) (h : Nat → Int) : Nat → Int
  | 0 => s
  | k + 1 => wrap64 (accW s h k + h k)
def decW (s : Int) (h : Nat → Int) : Nat → Int
  | 0 => s
  | k + 1 => wrap64 (decW s h k - h k)
def sumT (h : Nat → Int) : Nat → Int
  | 0 => 0
  | k + 1 => sumT h k + h k
theorem sumT_le {h : Nat → Int} {B : Int} : ∀ n : Nat, (∀ k, k < n → 0 ≤ h k ∧ h k ≤ B) → 0 ≤ sumT h n ∧ sumT h n ≤ B * n
  | 0, _ => by simp [sumT]
  | n + 1, hh => by
    have := sumT_le n (fun k hk => hh k (by omega))
    have h2 := hh n (by omega)
    unfold sumT
    constructor
    · omega
    · push_cast; rw [Int.mul_add, Int.mul_one]; omega
theorem accW_eq {s : Int} {h : Nat → Int} (hs : 0 ≤ s ∧ s ≤ 1000000000) : ∀ n : Nat, n ≤ 100 → (∀ k, k < n → 0 ≤ h k ∧ h k ≤ 1000000) → accW s h n = s + sumT h n
  | 0, _, _ => by simp [accW, sumT]
  | n + 1, hn, hh => by
    have e := accW_eq hs n (by omega) (fun k hk => hh k (by omega))
    have h1 := sumT_le n (fun k hk => hh k (by omega))
    have h2 := hh n (by omega)
    unfold accW
    rw [e, IntWalk.wrap64_in _ ⟨by omega, by omega⟩, show sumT h (n + 1) = sumT h n + h n from rfl]
    omega
theorem decW_eq {s : Int} {h : Nat → Int} (hs : 0 ≤ s ∧ s ≤ 1000000000) : ∀ n : Nat, n ≤ 100 → (∀ k, k < n → 0 ≤ h k ∧ h k ≤ 1000000) → decW s h n = s - sumT h n
  | 0, _, _ => by simp [decW, sumT]
  | n + 1, hn, hh => by
    have e := decW_eq hs n (by omega) (fun k hk => hh k (by omega))
    have h1 := sumT_le n (fun k hk => hh k (by omega))
    have h2 := hh n (by omega)
    unfold decW
    rw [e, IntWalk.wrap64_in _ ⟨by omega, by omega⟩, show sumT h (n + 1) = sumT h n + h n from rfl]
    omega
theorem sumT_congr {a b : Nat → Int} : ∀ n : Nat, (∀ k, k < n → a k = b k) → sumT a n = sumT b n
  | 0, _ => rfl
  | n + 1, h => by unfold sumT; rw [sumT_congr n (fun k hk => h k (by omega)), h n (by omega)]
theorem sumT_put {a b : Nat → Int} {k : Nat} {x : Int} : ∀ n : Nat, k ≤ n → (∀ j, j < k → b j = a j) → b k = x → (∀ j, k < j → j < n + 1 → b j = a (j - 1)) → sumT b (n + 1) = sumT a n + x
  | 0, hk, _, hb, _ => by
    obtain rfl : k = 0 := by omega
    simp [sumT, hb]
  | n + 1, hk, h1, hb, h2 => by
    by_cases e : k = n + 1
    · subst e
      show sumT b (n + 1) + b (n + 1) = _
      rw [hb, sumT_congr (a := b) (b := a) (n + 1) (fun j hj => h1 j hj)]
    · have := sumT_put n (by omega) h1 hb (fun j hj1 hj2 => h2 j hj1 (by omega))
      show sumT b (n + 1) + b (n + 1) = sumT a n + a n + x
      rw [this, h2 (n + 1) (by omega) (by omega)]
      simp only [Nat.add_sub_cancel]; omega
theorem sumT_add {a b : Nat → Int} {k : Nat} {x : Int} : ∀ n : Nat, k < n → (∀ j, j < n → j ≠ k → b j = a j) → b k = a k + x → sumT b n = sumT a n + x
  | 0, hk, _, _ => by omega
  | n + 1, hk, h1, hb => by
    by_cases e : k = n
    · subst e
      unfold sumT
      rw [hb, sumT_congr (a := b) (b := a) k (fun j hj => h1 j (by omega) (by omega))]; omega
    · have := sumT_add n (by omega) (fun j hj hne => h1 j (by omega) hne) hb
      unfold sumT
      rw [this, h1 n (by omega) (fun e2 => e e2.symm)]; omega
/-- Added crops add their tons. -/
theorem add_tons {f r : Nat → Int} {n : Nat} (h : addOk f r n = true) : decW (accW (r 2) (tonsAt f) n) (tonsAt (addF f r n)) (addN f r n) = 0 := by
  simp only [addOk, Bool.and_eq_true] at h
  obtain ⟨⟨hg, hr⟩, hg2⟩ := h
  have hn := goodRows_le hg
  have hn2 := goodRows_le hg2
  have hr2 : 0 ≤ r 2 ∧ r 2 ≤ 1000000 := by simp only [okRow, decide_eq_true_eq] at hr; omega
  have hf : ∀ k, k < n → 0 ≤ tonsAt f k ∧ tonsAt f k ≤ 1000000 := fun k hk => tons_of hg hk
  have hf2 : ∀ k, k < addN f r n → 0 ≤ tonsAt (addF f r n) k ∧ tonsAt (addF f r n) k ≤ 1000000 := fun k hk => tons_of hg2 hk
  have hs := sumT_le n hf
  have hs1 : r 2 + sumT (tonsAt f) n ≤ 1000000000 := by omega
  rw [accW_eq ⟨hr2.1, by omega⟩ n (by omega) hf, decW_eq ⟨by omega, hs1⟩ _ (by omega) hf2]
  have key : sumT (tonsAt (addF f r n)) (addN f r n) = sumT (tonsAt f) n + r 2 := by
    have hle := placeC_le f (r 0) n 0
    cases hm : mrgB f n (r 0) with
    | true =>
      have hk : atC f n (r 0) < n := by simp only [mrgB, Bool.and_eq_true, decide_eq_true_eq] at hm; exact hm.1
      have e1 : addN f r n = n := by simp [addN, hm]
      have e2 : addF f r n = mrgF f r (atC f n (r 0)) := by simp [addF, hm]
      rw [e1, e2]
      generalize atC f n (r 0) = k at hk
      refine sumT_add n hk (fun j hj hne => ?_) ?_
      · show mrgF f r k (j * 5 + 2) = f (j * 5 + 2)
        unfold mrgF
        rw [if_neg (by omega), if_neg (by omega), if_neg (by omega)]
      · show mrgF f r k (k * 5 + 2) = f (k * 5 + 2) + r 2
        unfold mrgF
        rw [if_neg (by omega), if_pos rfl]
        have := tons_of hg hk
        exact IntWalk.wrap64_in _ ⟨by omega, by omega⟩
    | false =>
      have hk : atC f n (r 0) ≤ n := by have := hle.2.1; unfold atC; omega
      have e1 : addN f r n = n + 1 := by simp [addN, hm]
      have e2 : addF f r n = insF f r (atC f n (r 0)) := by simp [addF, hm]
      rw [e1, e2]
      generalize atC f n (r 0) = k at hk
      refine sumT_put n hk (fun j hj => ?_) ?_ (fun j hj1 hj2 => ?_)
      · show insF f r k (j * 5 + 2) = f (j * 5 + 2)
        unfold insF; rw [if_pos (by omega)]
      · show insF f r k (k * 5 + 2) = r 2
        unfold insF; rw [if_neg (by omega), if_pos (by omega)]
        congr 1; omega
      · show insF f r k (j * 5 + 2) = f ((j - 1) * 5 + 2)
        unfold insF; rw [if_neg (by omega), if_neg (by omega)]
        congr 1; omega
  rw [key]; omega
/-! Runs of one price do not overlap. -/
theorem runs_inv {f : Nat → Int} {n : Nat} (hg : goodRows f n = true) : ∀ m, m < n → (∀ x ∈ runsTo f m, 0 < x.1 ∧ x.1 < x.2 ∧ x.2 ≤ f (m * 5)) ∧ (runsTo f m).Pairwise (fun x y => x.2 < y.1) := by
  intro m
  induction m with
  | zero => intro _; exact ⟨by simp [runsTo], by simp [runsTo]⟩
  | succ m ih =>
    intro hm
    obtain ⟨h1, h2⟩ := ih (by omega)
    have hlt := year_lt hg hm
    have hy := year_of hg (show m < n by omega)
    unfold runsTo
    split
    · rcases eq_or_last (runsTo f m) with e | ⟨M, p, q, e⟩
      · rw [e, runAdd_nil]
        refine ⟨fun x hx => ?_, by simp⟩
        simp only [List.mem_singleton] at hx
        subst hx
        exact ⟨by show 0 < f (m * 5); omega, hlt, Int.le_refl _⟩
      · rw [e] at h1 h2 ⊢
        rw [List.pairwise_append] at h2
        have hl := h1 (p, q) (by simp)
        simp only at hl
        by_cases hq : q = f (m * 5)
        · rw [runAdd_yes _ _ _ _ _ hq]
          refine ⟨fun x hx => ?_, ?_⟩
          · rcases List.mem_append.1 hx with hx | hx
            · have := h1 x (by simp [hx]); omega
            · simp only [List.mem_singleton] at hx
              subst hx
              exact ⟨hl.1, by show p < f ((m + 1) * 5); omega, Int.le_refl _⟩
          · rw [List.pairwise_append]
            refine ⟨h2.1, by simp, fun x hx y hy' => ?_⟩
            simp only [List.mem_singleton] at hy'
            subst hy'
            exact h2.2.2 x hx (p, q) (by simp)
        · rw [runAdd_no _ _ _ _ _ hq]
          refine ⟨fun x hx => ?_, ?_⟩
          · rcases List.mem_append.1 hx with hx | hx
            · have := h1 x hx; omega
            · simp only [List.mem_singleton] at hx
              subst hx
              exact ⟨by show 0 < f (m * 5); omega, hlt, Int.le_refl _⟩
          · rw [List.pairwise_append]
            refine ⟨by rw [List.pairwise_append]; exact h2, by simp, fun x hx y hy' => ?_⟩
            simp only [List.mem_singleton] at hy'
            subst hy'
            show x.2 < f (m * 5)
            rcases List.mem_append.1 hx with hx | hx
            · have h3 := h2.2.2 x hx (p, q) (by simp)
              simp only at h3
              have := h1 (p, q) (by simp)
              simp only at this
              omega
            · simp only [List.mem_singleton] at hx
              subst hx
              show q < f (m * 5)
              omega
    · exact ⟨fun x hx => by have := h1 x hx; omega, h2⟩
/-- The end of the run ahead of run i. -/
def lastOf (L : List (Int × Int)) (i : Nat) : Int := if i = 0 then 0 else (L.getD (i - 1) (0, 0)).2
theorem runs_apart (f : Nat → Int) (n : Nat) (i : Nat) (hi : i < (runsRes f n).length) : lastOf (runsRes f n) i < ((runsRes f n).getD i (0, 0)).1 ∧ ((runsRes f n).getD i (0, 0)).1 < ((runsRes f n).getD i (0, 0)).2 := by
  unfold runsRes at hi ⊢
  split at hi
  · rename_i hg
    rw [if_pos hg]
    have hn : 0 < n := by
      rcases Nat.eq_zero_or_pos n with h | h
      · subst h; simp [runsTo] at hi
      · exact h
    obtain ⟨h1, h2⟩ := runs_inv hg (n - 1) (by omega)
    generalize runsTo f (n - 1) = L at hi h1 h2
    have ei : L.getD i (0, 0) = L[i] := by simp [List.getD, hi]
    have hx := h1 L[i] (List.getElem_mem hi)
    rw [ei]
    refine ⟨?_, hx.2.1⟩
    unfold lastOf
    split
    · exact hx.1
    · have ej : L.getD (i - 1) (0, 0) = L[i - 1] := by simp [List.getD, show i - 1 < L.length by omega]
      rw [ej]
      exact List.pairwise_iff_getElem.1 h2 (i - 1) i (by omega) hi (by omega)
  · simp at hi
end Go.Proofs.Ytfejgoohefhjoaa
