/-
  AddCrop: what it computes, as plain functions: the place, the row put in or added to its row.
-/
import Derived.Test.YtfejgoohefhjoaaCropA
import Derived.Test.YtfejgoohefhjoaaInsM
namespace Go.Proofs.Ytfejgoohefhjoaa
open Go.RowKit
set_option linter.unusedVariables false
set_option linter.unusedSimpArgs false
/-- The first place from k on, m places at most, whose row has not a lesser year. -/
def placeC (f : Nat → Int) (y : Int) : Nat → Nat → Nat
  | 0, k => k
  | m + 1, k => if f (k * 5) < y then placeC f y m (k + 1) else k
theorem placeC_step {f : Nat → Int} {y : Int} {n k : Nat} (hk : k < n) (h : f (k * 5) < y) : placeC f y (n - k) k = placeC f y (n - (k + 1)) (k + 1) := by
  rw [show n - k = (n - k - 1) + 1 by omega]
  show (if f (k * 5) < y then placeC f y (n - k - 1) (k + 1) else k) = _
  rw [if_pos h]
  rfl
theorem placeC_stop {f : Nat → Int} {y : Int} {n k : Nat} (hk : k < n) (h : ¬ f (k * 5) < y) : placeC f y (n - k) k = k := by
  rw [show n - k = (n - k - 1) + 1 by omega]
  show (if f (k * 5) < y then placeC f y (n - k - 1) (k + 1) else k) = _
  rw [if_neg h]
theorem placeC_end (f : Nat → Int) (y : Int) (n : Nat) : placeC f y (n - n) n = n := by rw [Nat.sub_self]; rfl
theorem placeC_le (f : Nat → Int) (y : Int) : ∀ m k, k ≤ placeC f y m k ∧ placeC f y m k ≤ k + m ∧ ∀ j, k ≤ j → j < placeC f y m k → f (j * 5) < y
  | 0, k => ⟨Nat.le_refl _, Nat.le_refl _, fun j h1 h2 => by simp only [placeC] at h2; omega⟩
  | m + 1, k => by
    unfold placeC
    split
    · rename_i h
      obtain ⟨h1, h2, h3⟩ := placeC_le f y m (k + 1)
      refine ⟨by omega, by omega, fun j hj1 hj2 => ?_⟩
      rcases Nat.eq_or_lt_of_le hj1 with e | e
      · subst e; exact h
      · exact h3 j e hj2
    · exact ⟨Nat.le_refl _, by omega, fun j h1 h2 => by omega⟩
def atC (f : Nat → Int) (n : Nat) (y : Int) : Nat := placeC f y n 0
def mrgB (f : Nat → Int) (n : Nat) (y : Int) : Bool := decide (atC f n y < n) && decide (f (atC f n y * 5) = y)
def insF (f r : Nat → Int) (k : Nat) : Nat → Int := fun j => if j < k * 5 then f j else if j < k * 5 + 5 then r (j - k * 5) else f (j - 5)
def mrgF (f r : Nat → Int) (k : Nat) : Nat → Int := fun j => if j = k * 5 + 1 then wrap64 (f j + r 1) else if j = k * 5 + 2 then wrap64 (f j + r 2) else if j = k * 5 + 3 then wrap64 (f j + r 3) else f j
def addF (f r : Nat → Int) (n : Nat) : Nat → Int := if mrgB f n (r 0) then mrgF f r (atC f n (r 0)) else insF f r (atC f n (r 0))
def addN (f r : Nat → Int) (n : Nat) : Nat := if mrgB f n (r 0) then n else n + 1
def addOk (f r : Nat → Int) (n : Nat) : Bool := goodRows f n && okRow (r 0) (r 1) (r 2) (r 3) (r 4) && goodRows (addF f r n) (addN f r n)
def addM (f r : Nat → Int) (n : Nat) : Nat := if addOk f r n then addN f r n else 0
theorem goodRows_le {f : Nat → Int} {n : Nat} (h : goodRows f n = true) : n ≤ 12 := by
  simp only [goodRows, Bool.and_eq_true, decide_eq_true_eq] at h
  exact h.2
theorem addM_le (f r : Nat → Int) (n : Nat) : addM f r n ≤ 12 := by
  unfold addM
  split
  · rename_i h
    simp only [addOk, Bool.and_eq_true] at h
    exact goodRows_le h.2
  · omega
theorem mrgB_yes {f : Nat → Int} {n k : Nat} {y : Int} (hk : atC f n y = k) (h : k < n) (he : f (k * 5) = y) : mrgB f n y = true := by simp [mrgB, hk, h, he]
theorem mrgB_no {f : Nat → Int} {n k : Nat} {y : Int} (hk : atC f n y = k) (h : ¬ (k < n ∧ f (k * 5) = y)) : mrgB f n y = false := by
  simp only [mrgB, hk, Bool.and_eq_false_iff, decide_eq_false_iff_not]
  by_cases h1 : k < n
  · exact Or.inr (fun e => h ⟨h1, e⟩)
  · exact Or.inl h1
/-- The cells of the list with the row put in. -/
theorem ins_get (f : Nat → Int) (r : Nat → Int) (n k : Nat) (hk : k ≤ n) (row : List Int) (hr : row = [r 0, r 1, r 2, r 3, r 4]) (j : Nat) (hj : j < (n + 1) * 5) :
    ((cellsTo f (n * 5)).take (k * 5) ++ row ++ (cellsTo f (n * 5)).drop (k * 5)).getD j 0 = insF f r k j := by
  subst hr
  have hl : ((cellsTo f (n * 5)).take (k * 5)).length = k * 5 := by rw [List.length_take, cellsTo_length]; omega
  unfold insF
  split
  · rename_i h
    rw [List.append_assoc, List.getD_eq_getElem?_getD, List.getElem?_append_left (by omega), List.getElem?_take_of_lt h, ← List.getD_eq_getElem?_getD]
    exact cellsTo_get f _ _ (by omega)
  · rename_i h
    split
    · rename_i h2
      rw [List.append_assoc, List.getD_eq_getElem?_getD, List.getElem?_append_right (by omega), hl, List.getElem?_append_left (by simp; omega)]
      obtain ⟨i, rfl⟩ : ∃ i, j = k * 5 + i := ⟨j - k * 5, by omega⟩
      rw [Nat.add_sub_cancel_left]
      match i, (show i < 5 by omega) with
      | 0, _ => rfl
      | 1, _ => rfl
      | 2, _ => rfl
      | 3, _ => rfl
      | 4, _ => rfl
    · rename_i h2
      rw [List.getD_eq_getElem?_getD, List.getElem?_append_right (by simp only [List.length_append, hl, List.length_cons, List.length_nil]; omega), List.getElem?_drop, ← List.getD_eq_getElem?_getD]
      rw [show k * 5 + (j - (List.take (k * 5) (cellsTo f (n * 5)) ++ [r 0, r 1, r 2, r 3, r 4]).length) = j - 5 by simp only [List.length_append, hl, List.length_cons, List.length_nil]; omega]
      exact cellsTo_get f _ _ (by omega)
/-- The cells of the list with the row added to. -/
theorem mrg_get (f : Nat → Int) (r : Nat → Int) (n k : Nat) (hk : k < n) (j : Nat) (hj : j < n * 5) :
    ((cellsTo f (n * 5)).take (k * 5) ++ [f (k * 5), wrap64 (f (k * 5 + 1) + r 1), wrap64 (f (k * 5 + 2) + r 2), wrap64 (f (k * 5 + 3) + r 3), f (k * 5 + 4)] ++ (cellsTo f (n * 5)).drop ((k + 1) * 5)).getD j 0 = mrgF f r k j := by
  have hl : ((cellsTo f (n * 5)).take (k * 5)).length = k * 5 := by rw [List.length_take, cellsTo_length]; omega
  rcases Nat.lt_or_ge j (k * 5) with h | h
  · rw [List.append_assoc, List.getD_eq_getElem?_getD, List.getElem?_append_left (by omega), List.getElem?_take_of_lt h, ← List.getD_eq_getElem?_getD]
    unfold mrgF
    rw [if_neg (by omega), if_neg (by omega), if_neg (by omega)]
    exact cellsTo_get f _ _ (by omega)
  · rcases Nat.lt_or_ge j (k * 5 + 5) with h2 | h2
    · rw [List.append_assoc, List.getD_eq_getElem?_getD, List.getElem?_append_right (by omega), hl, List.getElem?_append_left (by simp; omega)]
      obtain ⟨i, rfl⟩ : ∃ i, j = k * 5 + i := ⟨j - k * 5, by omega⟩
      rw [Nat.add_sub_cancel_left]
      unfold mrgF
      match i, (show i < 5 by omega) with
      | 0, _ => rw [if_neg (by omega), if_neg (by omega), if_neg (by omega)]; rfl
      | 1, _ => rw [if_pos rfl]; rfl
      | 2, _ => rw [if_neg (by omega), if_pos rfl]; rfl
      | 3, _ => rw [if_neg (by omega), if_neg (by omega), if_pos rfl]; rfl
      | 4, _ => rw [if_neg (by omega), if_neg (by omega), if_neg (by omega)]; rfl
    · rw [List.getD_eq_getElem?_getD, List.getElem?_append_right (by simp only [List.length_append, hl, List.length_cons, List.length_nil]; omega), List.getElem?_drop, ← List.getD_eq_getElem?_getD]
      rw [show (k + 1) * 5 + (j - (List.take (k * 5) (cellsTo f (n * 5)) ++ [f (k * 5), wrap64 (f (k * 5 + 1) + r 1), wrap64 (f (k * 5 + 2) + r 2), wrap64 (f (k * 5 + 3) + r 3), f (k * 5 + 4)]).length) = j by simp only [List.length_append, hl, List.length_cons, List.length_nil]; omega]
      unfold mrgF
      rw [if_neg (by omega), if_neg (by omega), if_neg (by omega)]
      exact cellsTo_get f _ _ hj
theorem nameW {P : Program} {c : Code} {Q : Exit → Act → World → Prop} {a : Act} {W : World} (h : ∀ w2, w2 = W → c.wp P Q a w2) : c.wp P Q a W := h W rfl
theorem nameC {P : Program} {g : FuncId} {args : Array Value} {Q : Ending → World → Prop} {W : World} (h : ∀ w2, w2 = W → Calls P g args w2 Q) : Calls P g args W Q := h W rfl
/-- What AddCrop leaves. -/
def RowsPost (e0 : TypeId) (w : World) (m : Nat) (f : Nat → Int) (ok : Bool) (e : Ending) (w' : World) : Prop :=
  ∃ A c, e = .returned (.tuple #[.slice A m c, .bool ok]) ∧ m ≤ c ∧ c ≤ maxLen ∧ Own w' w.heap.size w'.heap.size e0 5 A m f ∧ Below w.heap.size w w'
theorem addM_of {f r : Nat → Int} {n m : Nat} {g : Nat → Int} (hg : goodRows f n = true) (hr : okRow (r 0) (r 1) (r 2) (r 3) (r 4) = true) (hn : addN f r n = m) (hf : addF f r n = g) : addOk f r n = goodRows g m ∧ (goodRows g m = true → addM f r n = m) ∧ (goodRows g m = false → addM f r n = 0) := by
  subst hn hf
  have e : addOk f r n = goodRows (addF f r n) (addN f r n) := by simp [addOk, hg, hr]
  refine ⟨e, fun h => ?_, fun h => ?_⟩
  · unfold addM; rw [e, h]; rfl
  · unfold addM; rw [e, h]; rfl
end Go.Proofs.Ytfejgoohefhjoaa
