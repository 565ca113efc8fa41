/-
  Runs of days, as plain lists: how many days they have, and which is the first of the longest.
-/
import Derived.WalkKit
namespace Go.Proofs.Ytcecpioiagfoiaa
def spStep (q : Int → Bool) (L : List (Int × Int)) (d : Int) : List (Int × Int) :=
  if q d then L else match L.getLast? with
    | none => L ++ [(d, d)]
    | some p => if p.2 = d - 1 then L.dropLast ++ [(p.1, d)] else L ++ [(d, d)]
def sp (q : Int → Bool) (a : Int) : Nat → List (Int × Int)
  | 0 => []
  | k + 1 => spStep q (sp q a k) (a + k)
def wdays (q : Int → Bool) (a : Int) : Nat → Int
  | 0 => 0
  | k + 1 => if q (a + k) then wdays q a k else wdays q a k + 1
def spSum : List (Int × Int) → Int
  | [] => 0
  | p :: L => (p.2 - p.1 + 1) + spSum L
theorem spSum_append (L M : List (Int × Int)) : spSum (L ++ M) = spSum L + spSum M := by
  induction L with
  | nil => simp [spSum]
  | cons p L ih => simp only [List.cons_append, spSum, ih]; omega
theorem snoc_of {L : List (Int × Int)} {p : Int × Int} (h : L.getLast? = some p) : L = L.dropLast ++ [p] := by
  have hne : L ≠ [] := by intro e; subst e; simp at h
  rw [List.getLast?_eq_some_getLast hne] at h
  have := List.dropLast_concat_getLast hne
  rw [Option.some.inj h] at this
  exact this.symm
theorem sp_sum (q : Int → Bool) (a : Int) : ∀ k, spSum (sp q a k) = wdays q a k
  | 0 => rfl
  | k + 1 => by
    have ih := sp_sum q a k
    unfold sp wdays spStep
    by_cases hq : q (a + k) = true
    · rw [if_pos hq, if_pos hq]; exact ih
    · rw [if_neg hq, if_neg hq]
      split
      · rw [spSum_append]; simp [spSum]; omega
      · rename_i p hp
        split
        · rename_i he
          rw [snoc_of hp, spSum_append] at ih
          rw [spSum_append]
          simp only [spSum] at ih ⊢
          omega
        · rw [spSum_append]; simp [spSum]; omega
theorem wdays_bd (q : Int → Bool) (a : Int) : ∀ k, 0 ≤ wdays q a k ∧ wdays q a k ≤ k
  | 0 => by simp [wdays]
  | k + 1 => by
    have := wdays_bd q a k
    unfold wdays
    split <;> omega
theorem sp_len (q : Int → Bool) (a : Int) : ∀ k, (sp q a k).length ≤ k
  | 0 => Nat.le_refl _
  | k + 1 => by
    have := sp_len q a k
    unfold sp spStep
    split
    · omega
    · split
      · simp; omega
      · split <;> simp <;> omega
/-- Every run lies within the days, and is one. -/
theorem sp_in (q : Int → Bool) (a : Int) : ∀ k, ∀ p ∈ sp q a k, a ≤ p.1 ∧ p.1 ≤ p.2 ∧ p.2 < a + k
  | 0 => by simp [sp]
  | k + 1 => by
    have ih := sp_in q a k
    intro p hp
    unfold sp spStep at hp
    split at hp
    · have := ih p hp; omega
    · split at hp
      · rcases List.mem_append.1 hp with h | h
        · have := ih p h; omega
        · simp at h; subst h; simp; omega
      · rename_i r hr
        have hr' := ih r (List.mem_of_getLast? hr)
        split at hp
        · rcases List.mem_append.1 hp with h | h
          · have := ih p (List.dropLast_subset _ h); omega
          · simp at h; subst h; simp; omega
        · rcases List.mem_append.1 hp with h | h
          · have := ih p h; omega
          · simp at h; subst h; simp; omega
/-! The longest. -/
def bstep (o : Option (Int × Int)) (s : Int × Int) : Option (Int × Int) :=
  match o with
  | none => some s
  | some b => if s.2 - s.1 > b.2 - b.1 then some s else some b
def bst (L : List (Int × Int)) : Option (Int × Int) := L.foldl bstep none
theorem bst_snoc (L : List (Int × Int)) (s : Int × Int) : bst (L ++ [s]) = bstep (bst L) s := by simp [bst, List.foldl_append]
def runL (q : Int → Bool) (a : Int) : Nat → Int
  | 0 => 0
  | k + 1 => if q (a + k) then 0 else runL q a k + 1
def lastM (q : Int → Bool) (a : Int) : Nat → Int × Int
  | 0 => (0, 0)
  | k + 1 => if runL q a (k + 1) > (lastM q a k).2 then (a + k, runL q a (k + 1)) else lastM q a k
theorem runL_nn (q : Int → Bool) (a : Int) : ∀ k, 0 ≤ runL q a k ∧ runL q a k ≤ k
  | 0 => by simp [runL]
  | k + 1 => by
    have := runL_nn q a k
    unfold runL; split <;> omega
theorem lastM_nn (q : Int → Bool) (a : Int) : ∀ k, 0 ≤ (lastM q a k).2 ∧ (lastM q a k).2 ≤ k ∧ runL q a k ≤ (lastM q a k).2
  | 0 => by simp [lastM, runL]
  | k + 1 => by
    have h1 := lastM_nn q a k
    have h2 := runL_nn q a (k + 1)
    unfold lastM
    split <;> simp <;> omega
/-- The last run, and the longest, as the reference counts them. -/
theorem sp_run (q : Int → Bool) (a : Int) : ∀ k,
    (runL q a k = 0 → ∀ p, (sp q a k).getLast? = some p → p.2 < a + k - 1) ∧ (0 < runL q a k → (sp q a k).getLast? = some (a + k - runL q a k, a + k - 1))
  | 0 => by simp [sp, runL]
  | k + 1 => by
    obtain ⟨h1, h2⟩ := sp_run q a k
    have hin := sp_in q a k
    unfold sp runL spStep
    by_cases hq : q (a + k) = true
    · rw [if_pos hq, if_pos hq]
      refine ⟨fun _ p hp => ?_, fun h => absurd h (by omega)⟩
      have := hin p (List.mem_of_getLast? hp)
      omega
    · rw [if_neg hq, if_neg hq]
      have hnn := runL_nn q a k
      refine ⟨fun h => absurd h (by omega), fun _ => ?_⟩
      split
      · rename_i hn
        have h0 : runL q a k = 0 := by
          by_cases h0 : 0 < runL q a k
          · rw [h2 h0] at hn; cases hn
          · omega
        simp; omega
      · rename_i p hp
        by_cases h0 : 0 < runL q a k
        · rw [h2 h0] at hp
          cases hp
          rw [if_pos rfl]
          simp; omega
        · have := h1 (by omega) p hp
          rw [if_neg (by omega)]
          simp; omega
theorem bstep_len {o : Option (Int × Int)} {s b : Int × Int} (h : bstep o s = some b) : s.2 - s.1 ≤ b.2 - b.1 := by
  unfold bstep at h
  split at h
  · cases h; omega
  · split at h <;> cases h <;> omega
theorem bst_sp (q : Int → Bool) (a : Int) : ∀ k,
    ((lastM q a k).2 = 0 → sp q a k = []) ∧ (0 < (lastM q a k).2 → bst (sp q a k) = some ((lastM q a k).1 - (lastM q a k).2 + 1, (lastM q a k).1))
  | 0 => by simp [sp, lastM]
  | k + 1 => by
    obtain ⟨h1, h2⟩ := bst_sp q a k
    obtain ⟨r1, r2⟩ := sp_run q a k
    have hn := lastM_nn q a k
    have hrn := runL_nn q a k
    unfold sp lastM spStep
    by_cases hq : q (a + k) = true
    · have e : runL q a (k + 1) = 0 := by unfold runL; rw [if_pos hq]
      rw [if_pos hq, e, if_neg (by omega)]
      exact ⟨h1, h2⟩
    · have e : runL q a (k + 1) = runL q a k + 1 := by rw [runL, if_neg hq]
      rw [if_neg hq, e]
      have hpos : 0 < (if runL q a k + 1 > (lastM q a k).2 then ((a + (k : Int)), runL q a k + 1) else lastM q a k).2 := by split <;> (try simp only) <;> omega
      refine ⟨fun h => absurd h (by omega), fun _ => ?_⟩
      clear hpos
      by_cases h0 : 0 < runL q a k
      · -- the last run goes on
        have hl := r2 h0
        rw [hl]
        simp only [if_true]
        rw [bst_snoc]
        have hb := h2 (by omega)
        rw [snoc_of hl, bst_snoc] at hb
        have hs := snoc_of hl
        generalize (sp q a k).dropLast = M at *
        cases hM : bst M with
        | none =>
          rw [hM] at hb
          simp only [bstep, Option.some.injEq, Prod.mk.injEq] at hb ⊢
          rw [if_pos (by omega)]
          simp; omega
        | some b =>
          rw [hM] at hb
          simp only [bstep] at hb ⊢
          split at hb
          · rename_i hc
            simp only [Option.some.injEq, Prod.mk.injEq] at hb
            skip
            rw [if_pos (by omega), if_pos (by omega)]
            simp; omega
          · rename_i hc
            simp only [Option.some.injEq] at hb
            skip
            have hb1 : b.1 = (lastM q a k).1 - (lastM q a k).2 + 1 := by rw [hb]
            have hb2 : b.2 = (lastM q a k).1 := by rw [hb]
            by_cases hg : runL q a k + 1 > (lastM q a k).2
            · rw [if_pos hg, if_pos (by omega)]
              simp; omega
            · rw [if_neg hg, if_neg (by omega), hb]
      · have hr0 : runL q a k = 0 := by omega
        have e1 : (match (sp q a k).getLast? with | none => sp q a k ++ [(a + (k : Int), a + (k : Int))] | some p => if p.2 = a + k - 1 then (sp q a k).dropLast ++ [(p.1, a + (k : Int))] else sp q a k ++ [(a + (k : Int), a + (k : Int))]) = sp q a k ++ [(a + (k : Int), a + (k : Int))] := by
          split
          · rfl
          · rename_i p hp
            have := r1 hr0 p hp
            rw [if_neg (by omega)]
        rw [e1, bst_snoc, hr0]
        by_cases hm : (lastM q a k).2 = 0
        · rw [h1 hm, hm]
          simp [bst, bstep]
        · have hb := h2 (by omega)
          rw [hb]
          simp only [bstep]
          rw [if_neg (by omega), if_neg (by omega)]
end Go.Proofs.Ytcecpioiagfoiaa
