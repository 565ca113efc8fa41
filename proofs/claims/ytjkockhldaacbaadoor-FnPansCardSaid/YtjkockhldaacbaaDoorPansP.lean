/-
  Plain facts about pans that dry or may be raked, as the law FnPans wants them. No program in sight.
-/
import Derived.Test.YtjkockhldaacbaaDoorStepF
import Derived.Test.YtjkockhldaacbaaDoorWorksL
import Derived.Test.YtjkockhldaacbaaDoorPk6
import Derived.Test.YtjkockhldaacbaaDoorWorksN
import Derived.Test.YtjkockhldaacbaaDoorWorksD
namespace Go.Proofs.YtjkockhldaacbaaDoor
open Go.RowKit
set_option linter.unusedVariables false
set_option linter.unusedSimpArgs false
theorem pp_all {p q : Nat → Bool} : ∀ {n : Nat}, (∀ k, k < n → p k = q k) → allTo p n = allTo q n
  | 0, _ => rfl
  | n + 1, h => by
    unfold allTo
    rw [pp_all (n := n) (fun k hk => h k (by omega)), h n (by omega)]
theorem pp_congr {f g : Nat → Int} {n : Nat} {I H S P : Int} (h : ∀ j, j < n * 4 → f j = g j) : goodWorks f n I H S P = goodWorks g n I H S P := by
  have h1 : pansOk f n = pansOk g n := by
    unfold pansOk
    congr 1
    refine pp_all fun k hk => ?_
    simp only [panStep, okPanAt]
    rw [h (k * 4) (by omega), h (k * 4 + 1) (by omega), h (k * 4 + 2) (by omega), h (k * 4 + 3) (by omega), h ((k - 1) * 4) (by omega)]
  have h2 : ∀ m, m ≤ n → sumW (saltAt f) m = sumW (saltAt g) m := by
    intro m
    induction m with
    | zero => intro _; rfl
    | succ m ih =>
      intro hm
      simp only [sumW, saltAt]
      rw [ih (by omega)]
      have := h (m * 4 + 3) (by omega)
      simp only [this]
  unfold goodWorks totalV
  rw [h1, h2 n (Nat.le_refl _)]
theorem pp_cells {f : Nat → Int} {n : Nat} {I H S P : Int} : goodWorks (lf (cellsL f n)) n I H S P = goodWorks f n I H S P :=
  pp_congr (fun j hj => cellsL_getD f n j hj)
theorem pp_lf (f : Nat → Int) (n : Nat) {j : Nat} (h : j < n * 4) : lf (cellsL f n) j = f j := cellsL_getD f n j h
theorem pp_sum {f g : Nat → Int} {n : Nat} (h : ∀ k, k < n → f k = g k) : ∀ m, m ≤ n → sumW f m = sumW g m := by
  intro m
  induction m with
  | zero => intro _; rfl
  | succ m ih =>
    intro hm
    simp only [sumW]
    rw [ih (by omega), h m (by omega)]
/-- Water that goes off leaves good works. -/
theorem pp_off {f : Nat → Int} {n : Nat} {I H S P : Int} (hg : goodWorks f n I H S P = true) {i : Nat} (hi : i < n) {d : Int} (h0 : 0 ≤ d) (h1 : d ≤ f (i * 4 + 2)) :
    goodWorks (setB f i (f (i * 4 + 2) - d) (f (i * 4 + 3))) n I H S P = true := by
  simp only [goodWorks, pansOk, Bool.and_eq_true, decide_eq_true_eq] at hg ⊢
  obtain ⟨⟨⟨hall, hlen⟩, hk⟩, hI⟩ := hg
  refine ⟨⟨⟨?_, hlen⟩, hk⟩, ?_⟩
  · refine allTo_intro fun k hk => ?_
    have hp := allTo_at hk hall
    simp only [panStep, okPanAt, setB_0, setB_1, setB_pred] at hp ⊢
    by_cases hki : k = i
    · subst hki
      rw [setB_2i, setB_3i]
      simp only [okPan, okBrine, inR, Bool.and_eq_true, decide_eq_true_eq] at hp ⊢
      obtain ⟨⟨⟨⟨⟨q1, q2⟩, ⟨q3, q4⟩⟩, ⟨⟨q5, q6⟩, ⟨q7, q8⟩⟩⟩, q9⟩, q10⟩ := hp
      have m1 : massV (f (k * 4 + 2)) (f (k * 4 + 3)) = f (k * 4 + 2) + f (k * 4 + 3) := IntWalk.wrap64_in _ ⟨by omega, by omega⟩
      have m2 : massV (f (k * 4 + 2) - d) (f (k * 4 + 3)) = f (k * 4 + 2) - d + f (k * 4 + 3) := IntWalk.wrap64_in _ ⟨by omega, by omega⟩
      rw [m1] at q9
      rw [m2]
      exact ⟨⟨⟨⟨⟨q1, q2⟩, ⟨q3, q4⟩⟩, ⟨⟨by omega, by omega⟩, ⟨q7, q8⟩⟩⟩, by omega⟩, q10⟩
    · rw [setB_2 k hki, setB_3 k hki]
      exact hp
  · rw [hI]
    unfold totalV
    have hs : sumW (saltAt (setB f i (f (i * 4 + 2) - d) (f (i * 4 + 3)))) n = sumW (saltAt f) n := by
      refine pp_sum (fun k hk => ?_) n (Nat.le_refl _)
      unfold saltAt
      by_cases hki : k = i
      · subst hki; exact setB_3i
      · exact setB_3 k hki
    rw [hs]
theorem pans_dry {f : Nat → Int} {n : Nat} {I H S P id : Int} (hg : goodWorks f n I H S P = true) {j : Nat} (hj : j < n) (hfd : findV (pid f) id n 0 = (j : Int)) (hz : f (j * 4 + 3) ≠ 0) {d : Nat} (hd : dryN (f (j * 4 + 2)) (f (j * 4 + 3)) = d) (h0 : 0 < d) :
    stOk f n I H S P 4 id 0 d = true ∧ goodWorks (lf (stL f n 4 id 0 d)) n I H S P = true ∧ findV (pid (lf (stL f n 4 id 0 d))) id n 0 = (j : Int) ∧ lf (stL f n 4 id 0 d) (j * 4 + 3) ≠ 0 ∧ dryN (lf (stL f n 4 id 0 d) (j * 4 + 2)) (lf (stL f n 4 id 0 d) (j * 4 + 3)) = 0 := by
  obtain ⟨b1, b2, b3, b4, h6⟩ := good_brine hg hj
  have hat : atN f n id = j := by simp [atN, hfd]
  have hdw : (d : Int) ≤ f (j * 4 + 2) := by unfold dryN at hd; omega
  have hw : wrap64 (f (j * 4 + 2) - (d : Int)) = f (j * 4 + 2) - d := IntWalk.wrap64_in _ ⟨by omega, by omega⟩
  have hL : stL f n 4 id 0 d = cellsL (setB f j (f (j * 4 + 2) - d) (f (j * 4 + 3))) n := by
    simp [stL, hat, hw]
  have hgo := pp_off hg hj (d := (d : Int)) (by omega) hdw
  have hG : goodWorks (lf (stL f n 4 id 0 d)) n I H S P = true := by rw [hL, pp_cells]; exact hgo
  have h2 : lf (stL f n 4 id 0 d) (j * 4 + 2) = f (j * 4 + 2) - d := by rw [hL, pp_lf _ _ (by omega)]; exact setB_2i
  have h3 : lf (stL f n 4 id 0 d) (j * 4 + 3) = f (j * 4 + 3) := by rw [hL, pp_lf _ _ (by omega)]; exact setB_3i
  have hpj : f (j * 4) = id := by
    rcases findV_cases (pid f) id n 0 with ⟨e, _⟩ | ⟨i, _, hi, e, hp⟩
    · omega
    · have : i = j := by omega
      subst this; exact hp
  have hp' : lf (stL f n 4 id 0 d) (j * 4) = id := by rw [hL, pp_lf _ _ (by omega), setB_0]; exact hpj
  refine ⟨?_, hG, ?_, by rw [h3]; exact hz, by rw [h2, h3]; unfold dryN at hd ⊢; omega⟩
  · simp only [stOk, mkOk, hg, Bool.true_and, Bool.and_eq_true, decide_eq_true_eq]
    refine ⟨?_, by omega, by simp [stM], ?_⟩
    · simp [stV, hfd]; omega
    · simpa [stG, stN, stI, stH, stS, stP] using hG
  · have h := find_at hG hj
    rw [hp'] at h
    exact h
theorem pp_pick {t : Nat → Bool} {j : Nat} (ht : t j = true) : ∀ k, j < k → j ∈ pickN t k
  | 0, h => absurd h (by omega)
  | k + 1, h => by
    by_cases e : j = k
    · subst e; rw [pickN_yes ht]; simp
    · have := pp_pick ht k (by omega)
      unfold pickN
      split
      · simp [this]
      · exact this
theorem pans_may {f : Nat → Int} {n : Nat} {I H S P z : Int} (hg : goodWorks f n I H S P = true) (hz : z ∈ rakeRes f n true) :
    stOk f n I H S P 5 z 0 1 = true ∧ z ∈ ordRes f n true := by
  simp only [rakeRes, if_true, idsP] at hz
  obtain ⟨j, hjm, hjz⟩ := List.mem_map.1 hz
  obtain ⟨hj, hmay⟩ := pickN_lt (rakeB f) n j hjm
  have hm : mayV (f (j * 4 + 2)) (f (j * 4 + 3)) = true := hmay
  obtain ⟨b1, b2, b3, b4, h6⟩ := good_brine hg hj
  have hq := (mayV_iff (by omega) b2 b3 b4).1 hm
  have hfd := find_at hg hj
  rw [hjz] at hfd
  have hat : atN f n z = j := by simp [atN, hfd]
  have hr := rake_ok hg hj
  rw [hm, Bool.true_and] at hr
  refine ⟨?_, ?_⟩
  · simp only [stOk, mkOk, hg, Bool.true_and, Bool.and_eq_true, decide_eq_true_eq]
    refine ⟨by simp [stV, hfd], by omega, by simp [stM, hat, hm], ?_⟩
    have hL : stL f n 5 z 0 1 = cellsL (setB f j (f (j * 4 + 2)) (wrap64 (f (j * 4 + 3) - 1))) n := by simp [stL, hat]
    simp only [stG, hL]
    have := pp_cells (f := setB f j (f (j * 4 + 2)) (wrap64 (f (j * 4 + 3) - 1))) (n := n) (I := I) (H := wrap64 (H + 1)) (S := S) (P := P)
    rw [hr] at this
    simpa [stN, stI, stH, stS, stP] using this
  · simp only [ordRes, if_true, idsP, ordL]
    refine List.mem_map.2 ⟨j, (isortL_mem _ _ _).2 (pp_pick ?_ n hj), hjz⟩
    have m1 : massV (f (j * 4 + 2)) (f (j * 4 + 3)) = f (j * 4 + 2) + f (j * 4 + 3) := IntWalk.wrap64_in _ ⟨by omega, by omega⟩
    simp only [ordB, massAt, m1, decide_eq_true_eq]
    omega
theorem pans_room {f : Nat → Int} {n : Nat} {I H S P : Int} (hg : goodWorks f n I H S P = true) {j : Nat} (hj : j < n) : 0 ≤ roomAt f j := by
  simp only [goodWorks, pansOk, Bool.and_eq_true, decide_eq_true_eq] at hg
  have hp := allTo_at hj hg.1.1.1
  simp only [panStep, okPanAt, okPan, okBrine, inR, Bool.and_eq_true, decide_eq_true_eq] at hp
  obtain ⟨⟨⟨⟨⟨q1, q2⟩, ⟨q3, q4⟩⟩, ⟨⟨q5, q6⟩, ⟨q7, q8⟩⟩⟩, q9⟩, q10⟩ := hp
  have m1 : massV (f (j * 4 + 2)) (f (j * 4 + 3)) = f (j * 4 + 2) + f (j * 4 + 3) := IntWalk.wrap64_in _ ⟨by omega, by omega⟩
  rw [m1] at q9
  unfold roomAt
  rw [m1, IntWalk.wrap64_in _ ⟨by omega, by omega⟩]
  omega
end Go.Proofs.YtjkockhldaacbaaDoor
