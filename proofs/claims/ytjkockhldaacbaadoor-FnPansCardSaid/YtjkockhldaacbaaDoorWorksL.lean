/-
  A raked pan of good works leaves good works: the plain law.
-/
import Derived.Test.YtjkockhldaacbaaDoorWorksM
namespace Go.Proofs.YtjkockhldaacbaaDoor
open Go.RowKit
set_option linter.unusedVariables false
set_option linter.unusedSimpArgs false
section
variable {f : Nat → Int} {i : Nat} {wt s : Int}
theorem setB_0 (k : Nat) : setB f i wt s (k * 4) = f (k * 4) := by
  have h1 : k * 4 ≠ i * 4 + 2 := by omega
  have h2 : k * 4 ≠ i * 4 + 3 := by omega
  simp only [setB, upd]
  rw [if_neg h2, if_neg h1]
theorem setB_1 (k : Nat) : setB f i wt s (k * 4 + 1) = f (k * 4 + 1) := by
  have h1 : k * 4 + 1 ≠ i * 4 + 2 := by omega
  have h2 : k * 4 + 1 ≠ i * 4 + 3 := by omega
  simp only [setB, upd]
  rw [if_neg h2, if_neg h1]
theorem setB_2 (k : Nat) (h : k ≠ i) : setB f i wt s (k * 4 + 2) = f (k * 4 + 2) := by
  have h1 : k * 4 + 2 ≠ i * 4 + 2 := by omega
  have h2 : k * 4 + 2 ≠ i * 4 + 3 := by omega
  simp only [setB, upd]
  rw [if_neg h2, if_neg h1]
theorem setB_3 (k : Nat) (h : k ≠ i) : setB f i wt s (k * 4 + 3) = f (k * 4 + 3) := by
  have h1 : k * 4 + 3 ≠ i * 4 + 2 := by omega
  have h2 : k * 4 + 3 ≠ i * 4 + 3 := by omega
  simp only [setB, upd]
  rw [if_neg h2, if_neg h1]
theorem setB_2i : setB f i wt s (i * 4 + 2) = wt := by simp [setB, upd]
theorem setB_3i : setB f i wt s (i * 4 + 3) = s := by simp [setB, upd]
theorem setB_pred (k : Nat) : setB f i wt s ((k - 1) * 4) = f ((k - 1) * 4) := setB_0 (k - 1)
end
theorem allTo_intro {p : Nat → Bool} {n : Nat} (h : ∀ k, k < n → p k = true) : allTo p n = true := by
  induction n with
  | zero => rfl
  | succ n ih => exact allTo_succ (ih fun k hk => h k (by omega)) (h n (by omega))
theorem sumW_bounds {g : Nat → Int} (n : Nat) (hn : n ≤ 6) (h : ∀ k, k < n → 0 ≤ g k ∧ g k ≤ 1000000) : ∀ k, k ≤ n → 0 ≤ sumW g k ∧ sumW g k ≤ k * 1000000 := by
  intro k
  induction k with
  | zero => intro _; exact ⟨Int.le_refl _, by simp [sumW]⟩
  | succ k ih =>
    intro hk
    obtain ⟨h1, h2⟩ := ih (by omega)
    obtain ⟨h3, h4⟩ := h k (by omega)
    rw [sumW, IntWalk.wrap64_in _ ⟨by omega, by omega⟩]
    constructor
    · omega
    · push_cast; omega
theorem sumW_less {g g' : Nat → Int} {n i : Nat} (hn : n ≤ 6) (hi : i < n) (h : ∀ k, k < n → 0 ≤ g k ∧ g k ≤ 1000000) (d : Int) (hd : 0 ≤ d) (hdi : d ≤ g i) (he : ∀ k, k ≠ i → g' k = g k) (hei : g' i = g i - d) :
    ∀ k, k ≤ n → sumW g' k = (if i < k then sumW g k - d else sumW g k) ∧ (i < k → d ≤ sumW g k) := by
  intro k
  induction k with
  | zero => intro _; simp [sumW]
  | succ k ih =>
    intro hk
    obtain ⟨h1, h2⟩ := ih (by omega)
    obtain ⟨h3, h4⟩ := h k (by omega)
    obtain ⟨b1, b2⟩ := sumW_bounds n hn h k (by omega)
    have e : sumW g (k + 1) = sumW g k + g k := by rw [sumW, IntWalk.wrap64_in _ ⟨by omega, by omega⟩]
    rw [e]
    by_cases hki : k = i
    · subst hki
      rw [if_neg (Nat.lt_irrefl _)] at h1
      rw [if_pos (Nat.lt_succ_self _)]
      refine ⟨?_, fun _ => by omega⟩
      rw [sumW, h1, hei, IntWalk.wrap64_in _ ⟨by omega, by omega⟩]
      omega
    · by_cases hlt : i < k
      · rw [if_pos hlt] at h1
        have := h2 hlt
        rw [if_pos (by omega)]
        refine ⟨?_, fun _ => by omega⟩
        rw [sumW, h1, he k hki, IntWalk.wrap64_in _ ⟨by omega, by omega⟩]
        omega
      · rw [if_neg hlt] at h1
        rw [if_neg (by omega)]
        refine ⟨?_, fun hx => absurd hx (by omega)⟩
        rw [sumW, h1, he k hki, IntWalk.wrap64_in _ ⟨by omega, by omega⟩]
theorem rake_ok {f : Nat → Int} {n : Nat} {I H S P : Int} (hg : goodWorks f n I H S P = true) {i : Nat} (hi : i < n) :
    (mayV (f (i * 4 + 2)) (f (i * 4 + 3)) && goodWorks (setB f i (f (i * 4 + 2)) (wrap64 (f (i * 4 + 3) - 1))) n I (wrap64 (H + 1)) S P) = mayV (f (i * 4 + 2)) (f (i * 4 + 3)) := by
  cases hm : mayV (f (i * 4 + 2)) (f (i * 4 + 3)) with
  | false => rfl
  | true =>
    rw [Bool.true_and]
    obtain ⟨b1, b2, b3, b4, h6⟩ := good_brine hg hi
    have hq := (mayV_iff (by omega) b2 b3 b4).1 hm
    have hbr : ∀ k, k < n → 0 ≤ saltAt f k ∧ saltAt f k ≤ 1000000 := fun k hk => by
      obtain ⟨_, _, h3, h4, _⟩ := good_brine hg hk
      exact ⟨h3, h4⟩
    rw [IntWalk.wrap64_in (f (i * 4 + 3) - 1) ⟨by omega, by omega⟩]
    simp only [goodWorks, pansOk, kilosOk, inR, Bool.and_eq_true, decide_eq_true_eq] at hg ⊢
    obtain ⟨⟨⟨hall, hlen⟩, hk⟩, hI⟩ := hg
    obtain ⟨⟨⟨⟨i0, i1⟩, ⟨k0, k1⟩⟩, ⟨s0, s1⟩⟩, ⟨p0, p1⟩⟩ := hk
    obtain ⟨t1, t2⟩ := sumW_bounds n hlen hbr n (Nat.le_refl _)
    obtain ⟨u1, u2⟩ := sumW_less (g := saltAt f) (g' := saltAt (setB f i (f (i * 4 + 2)) (f (i * 4 + 3) - 1))) hlen hi hbr 1 (by omega) (by unfold saltAt; omega) (fun k hk => setB_3 k hk) setB_3i n (Nat.le_refl _)
    rw [if_pos hi] at u1
    have u3 := u2 hi
    have ht : totalV f n H S P = sumW (saltAt f) n + H + S + P := by
      unfold totalV
      rw [IntWalk.wrap64_in (sumW (saltAt f) n + H) ⟨by omega, by omega⟩, IntWalk.wrap64_in (sumW (saltAt f) n + H + S) ⟨by omega, by omega⟩, IntWalk.wrap64_in _ ⟨by omega, by omega⟩]
    rw [ht] at hI
    rw [IntWalk.wrap64_in (H + 1) ⟨by omega, by omega⟩]
    refine ⟨⟨⟨?_, hlen⟩, ⟨⟨⟨i0, i1⟩, ⟨by omega, by omega⟩⟩, ⟨s0, s1⟩⟩, ⟨p0, p1⟩⟩, ?_⟩
    · refine allTo_intro fun k hk => ?_
      have hp := allTo_at hk hall
      simp only [panStep, okPanAt, setB_0, setB_1, setB_pred] at hp ⊢
      by_cases hki : k = i
      · subst hki
        rw [setB_2i, setB_3i]
        have m1 : massV (f (k * 4 + 2)) (f (k * 4 + 3)) = f (k * 4 + 2) + f (k * 4 + 3) := IntWalk.wrap64_in _ ⟨by omega, by omega⟩
        have m2 : massV (f (k * 4 + 2)) (f (k * 4 + 3) - 1) = f (k * 4 + 2) + (f (k * 4 + 3) - 1) := IntWalk.wrap64_in _ ⟨by omega, by omega⟩
        simp only [okPan, okBrine, inR, m1, m2, Bool.and_eq_true, decide_eq_true_eq] at hp ⊢
        obtain ⟨⟨⟨⟨⟨q1, q2⟩, ⟨q3, q4⟩⟩, ⟨⟨q5, q6⟩, ⟨q7, q8⟩⟩⟩, q9⟩, q10⟩ := hp
        exact ⟨⟨⟨⟨⟨q1, q2⟩, ⟨q3, q4⟩⟩, ⟨⟨q5, q6⟩, ⟨by omega, by omega⟩⟩⟩, by omega⟩, q10⟩
      · rw [setB_2 k hki, setB_3 k hki]
        exact hp
    · unfold totalV
      rw [u1, IntWalk.wrap64_in (sumW (saltAt f) n - 1 + (H + 1)) ⟨by omega, by omega⟩, IntWalk.wrap64_in (sumW (saltAt f) n - 1 + (H + 1) + S) ⟨by omega, by omega⟩, IntWalk.wrap64_in _ ⟨by omega, by omega⟩]
      omega
end Go.Proofs.YtjkockhldaacbaaDoor
