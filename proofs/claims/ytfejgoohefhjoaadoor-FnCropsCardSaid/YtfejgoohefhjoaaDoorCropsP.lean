/-
  What the law FnCrops says of the best crop, the worst fall and the lines of a report, as plain facts. No program in sight.
-/
import Derived.Test.YtfejgoohefhjoaaDoorCropD
import Derived.Test.YtfejgoohefhjoaaDoorCropF
import Derived.Test.YtfejgoohefhjoaaDoorLineB
namespace Go.Proofs.YtfejgoohefhjoaaDoor
open Go.RowKit
set_option linter.unusedVariables false
set_option linter.unusedSimpArgs false
theorem okAt_of {f : Nat → Int} {n k : Nat} (h : goodRows f n = true) (hk : k < n) : okAt f k = true := by
  simp only [goodRows, Bool.and_eq_true] at h
  have := allTo_at hk h.1
  simp only [stepOk, Bool.and_eq_true] at this
  exact this.1
theorem year_of {f : Nat → Int} {n k : Nat} (h : goodRows f n = true) (hk : k < n) : 1800 ≤ f (k * 5) := by
  have := okAt_of h hk
  simp only [okAt, okRow, decide_eq_true_eq] at this
  omega
theorem year_lt {f : Nat → Int} {n k : Nat} (h : goodRows f n = true) (hk : k + 1 < n) : f (k * 5) < f ((k + 1) * 5) := by
  simp only [goodRows, Bool.and_eq_true] at h
  have := allTo_at hk h.1
  simp only [stepOk, Bool.and_eq_true, Bool.or_eq_true, decide_eq_true_eq] at this
  rcases this.2 with e | e
  · omega
  · exact e
theorem year_mono {f : Nat → Int} {n : Nat} (h : goodRows f n = true) (i : Nat) : ∀ d, i + d + 1 < n → f (i * 5) < f ((i + d + 1) * 5)
  | 0, hk => year_lt h hk
  | d + 1, hk => Int.lt_trans (year_mono h i d (by omega)) (year_lt h (k := i + d + 1) hk)
theorem year_inj {f : Nat → Int} {n i j : Nat} (h : goodRows f n = true) (hi : i < n) (hj : j < n) (e : f (i * 5) = f (j * 5)) : i = j := by
  rcases Nat.lt_trichotomy i j with hl | hl | hl
  · have := year_mono h i (j - i - 1) (by omega)
    rw [show i + (j - i - 1) + 1 = j by omega] at this; omega
  · exact hl
  · have := year_mono h j (i - j - 1) (by omega)
    rw [show j + (i - j - 1) + 1 = i by omega] at this; omega
theorem worth_in {f : Nat → Int} {n k : Nat} (h : goodRows f n = true) (hk : k < n) : 0 ≤ worthAt f k ∧ worthAt f k ≤ 10000000000 := by
  have h1 := okAt_of h hk
  have h2 := worthR_ok h1
  simp only [okAt, okRow, decide_eq_true_eq] at h1
  unfold worthR at h2
  unfold worthAt worthV
  rw [IntWalk.wrap64_in (f (k * 5 + 2) - f (k * 5 + 3)) ⟨by omega, by omega⟩, IntWalk.wrap64_in _ ⟨by omega, by omega⟩]
  exact h2
/-! The best one. -/
theorem bestBy_max {W : Nat → Int} : ∀ k j, j < k → W j ≤ W (bestBy (fun a b => decide (W a < W b)) k) := by
  intro k
  induction k with
  | zero => intro j h; omega
  | succ k ih =>
    intro j hj
    unfold bestBy
    split
    · rename_i h
      simp only [decide_eq_true_eq] at h
      rcases Nat.lt_or_eq_of_le (Nat.le_of_lt_succ hj) with h2 | h2
      · have := ih j h2; omega
      · subst h2; exact Int.le_refl _
    · rename_i h
      simp only [decide_eq_true_eq] at h
      rcases Nat.lt_or_eq_of_le (Nat.le_of_lt_succ hj) with h2 | h2
      · exact ih j h2
      · subst h2; omega
theorem best_max {f : Nat → Int} {n : Nat} : ∀ j, j < n → worthAt f j ≤ worthAt f (bestTo f n) := fun j hj => bestBy_max (W := worthAt f) n j hj
def mostTo (f : Nat → Int) (best : Int) : Nat → Int
  | 0 => 0
  | k + 1 => if f (k * 5) = best then worthAt f k else mostTo f best k
theorem mostTo_eq {f : Nat → Int} {n b : Nat} (h : goodRows f n = true) (hb : b < n) : ∀ k, k ≤ n → mostTo f (f (b * 5)) k = if b < k then worthAt f b else 0 := by
  intro k
  induction k with
  | zero => intro _; simp [mostTo]
  | succ k ih =>
    intro hk
    unfold mostTo
    split
    · rename_i e
      obtain rfl := year_inj h (show k < n by omega) hb e
      rw [if_pos (by omega)]
    · rename_i e
      rw [ih (by omega)]
      have : b ≠ k := fun h2 => e (by rw [h2])
      by_cases h3 : b < k
      · rw [if_pos h3, if_pos (by omega)]
      · rw [if_neg h3, if_neg (by omega)]
/-! The worst fall. -/
def fallTo (f : Nat → Int) (x y : Int) : Nat → Int
  | 0 => 0
  | k + 1 => if f (k * 5) = y then wrap64 ((if f (k * 5) = x then wrap64 (fallTo f x y k + worthAt f k) else fallTo f x y k) - worthAt f k) else (if f (k * 5) = x then wrap64 (fallTo f x y k + worthAt f k) else fallTo f x y k)
theorem fallTo_eq {f : Nat → Int} {n x y : Nat} (h : goodRows f n = true) (hx : x < n) (hy : y < n) (hxy : x ≠ y) : ∀ k, k ≤ n → fallTo f (f (x * 5)) (f (y * 5)) k = (if x < k then worthAt f x else 0) - (if y < k then worthAt f y else 0) := by
  have wx := worth_in h hx
  have wy := worth_in h hy
  intro k
  induction k with
  | zero => intro _; simp [fallTo]
  | succ k ih =>
    intro hk
    have ih := ih (by omega)
    unfold fallTo
    rw [ih]
    by_cases ey : k = y
    · subst ey
      have ex : ¬ f (k * 5) = f (x * 5) := fun e => hxy (year_inj h hx hy e.symm)
      rw [if_pos rfl, if_neg ex, if_neg (show ¬ k < k by omega), if_pos (show k < k + 1 by omega)]
      by_cases hl : x < k
      · rw [if_pos hl, if_pos (by omega)]
        exact (congrArg wrap64 (by omega)).trans (IntWalk.wrap64_in (worthAt f x - worthAt f k) ⟨by omega, by omega⟩)
      · rw [if_neg hl, if_neg (by omega)]
        exact (congrArg wrap64 (by omega)).trans (IntWalk.wrap64_in (0 - worthAt f k) ⟨by omega, by omega⟩)
    · have ey2 : ¬ f (k * 5) = f (y * 5) := fun e => ey (year_inj h (show k < n by omega) hy e)
      rw [if_neg ey2]
      have ey3 : (if y < k + 1 then worthAt f y else 0) = (if y < k then worthAt f y else 0) := by
        by_cases hl : y < k
        · rw [if_pos hl, if_pos (by omega)]
        · rw [if_neg hl, if_neg (by omega)]
      rw [ey3]
      by_cases ex : k = x
      · subst ex
        rw [if_pos rfl, if_neg (show ¬ k < k by omega), if_pos (show k < k + 1 by omega)]
        by_cases hl : y < k
        · rw [if_pos hl]
          exact (congrArg wrap64 (by omega)).trans (IntWalk.wrap64_in (worthAt f k - worthAt f y) ⟨by omega, by omega⟩)
        · rw [if_neg hl]
          exact (congrArg wrap64 (by omega)).trans (IntWalk.wrap64_in (worthAt f k - 0) ⟨by omega, by omega⟩)
      · have ex2 : ¬ f (k * 5) = f (x * 5) := fun e => ex (year_inj h (show k < n by omega) hx e)
        rw [if_neg ex2]
        have ex3 : (if x < k + 1 then worthAt f x else 0) = (if x < k then worthAt f x else 0) := by
          by_cases hl : x < k
          · rw [if_pos hl, if_pos (show x < k + 1 by omega)]
          · rw [if_neg hl, if_neg (show ¬ x < k + 1 by omega)]
        rw [ex3]
theorem wst_ge (f : Nat → Int) (s : Nat × Nat) (i k : Nat) : gapV f s.1 s.2 ≤ gapV f (wst f s i k).1 (wst f s i k).2 ∧ gapV f i k ≤ gapV f (wst f s i k).1 (wst f s i k).2 := by
  unfold wst
  split
  · rename_i h; exact ⟨by show gapV f s.1 s.2 ≤ gapV f i k; omega, Int.le_refl _⟩
  · rename_i h; exact ⟨Int.le_refl _, by omega⟩
theorem wsIn_ge (f : Nat → Int) (s : Nat × Nat) (i : Nat) : ∀ m, gapV f s.1 s.2 ≤ gapV f (wsIn f s i m).1 (wsIn f s i m).2 ∧ ∀ j, j < m → gapV f i (i + 1 + j) ≤ gapV f (wsIn f s i m).1 (wsIn f s i m).2 := by
  intro m
  induction m with
  | zero => exact ⟨Int.le_refl _, fun j h => by omega⟩
  | succ m ih =>
    have h := wst_ge f (wsIn f s i m) i (i + 1 + m)
    unfold wsIn
    refine ⟨by omega, fun j hj => ?_⟩
    rcases Nat.lt_or_eq_of_le (Nat.le_of_lt_succ hj) with h2 | h2
    · have := ih.2 j h2; omega
    · subst h2; exact h.2
theorem wsOut_ge (f : Nat → Int) (n : Nat) : ∀ i, ∀ a, a < i → ∀ b, a < b → b < n → gapV f a b ≤ gapV f (wsOut f n i).1 (wsOut f n i).2 := by
  intro i
  induction i with
  | zero => intro a h; omega
  | succ i ih =>
    intro a ha b hab hb
    have h := wsIn_ge f (wsOut f n i) i (n - (i + 1))
    show gapV f a b ≤ gapV f (wsIn f (wsOut f n i) i (n - (i + 1))).1 (wsIn f (wsOut f n i) i (n - (i + 1))).2
    rcases Nat.lt_or_eq_of_le (Nat.le_of_lt_succ ha) with h2 | h2
    · have := ih a h2 b hab hb; omega
    · subst h2
      have := h.2 (b - a - 1) (by omega)
      rw [show a + 1 + (b - a - 1) = b by omega] at this
      exact this
theorem wsIn_ord {f : Nat → Int} {s : Nat × Nat} {i : Nat} (hs : s.1 < s.2) : ∀ m, (wsIn f s i m).1 < (wsIn f s i m).2
  | 0 => hs
  | m + 1 => by
    unfold wsIn wst
    split
    · show i < i + 1 + m; omega
    · exact wsIn_ord hs m
theorem wsOut_ord (f : Nat → Int) (n : Nat) : ∀ i, (wsOut f n i).1 < (wsOut f n i).2
  | 0 => by show 0 < 1; omega
  | i + 1 => wsIn_ord (wsOut_ord f n i) _
/-- No fall is greater than the worst one. -/
theorem fall_max {f : Nat → Int} {n : Nat} (h : goodRows f n = true) (h2 : 2 ≤ n) (i k : Nat) (hik : i < k) (hk : k < n) :
    ¬ fallTo f (f ((wsOut f n n).1 * 5)) (f ((wsOut f n n).2 * 5)) n < wrap64 (worthAt f i - worthAt f k) := by
  obtain ⟨hx, hy⟩ := wsOut_lt (f := f) h2 n (Nat.le_refl _)
  have ho := wsOut_ord f n n
  have hg := wsOut_ge f n n i (by omega) k hik hk
  rw [fallTo_eq h hx hy (by omega) n (Nat.le_refl _), if_pos hx, if_pos hy]
  have wx := worth_in h hx
  have wy := worth_in h hy
  unfold gapV at hg
  rw [IntWalk.wrap64_in (worthAt f (wsOut f n n).1 - worthAt f (wsOut f n n).2) ⟨by omega, by omega⟩] at hg
  omega
theorem most_max {f : Nat → Int} {n : Nat} (h : goodRows f n = true) (h0 : 0 < n) (i : Nat) (hi : i < n) : ¬ mostTo f (f (bestTo f n * 5)) n < worthAt f i := by
  have hb : bestTo f n < n := bestBy_lt _ h0 n (Nat.le_refl _)
  rw [mostTo_eq h hb n (Nat.le_refl _), if_pos hb]
  have := best_max (f := f) i hi
  omega
/-! The lines of a report. -/
def nlIn (l : List UInt8) : Nat := l.count 10
theorem nlIn_app (a b : ByteArray) : nlIn (a ++ b).data.toList = nlIn a.data.toList + nlIn b.data.toList := by
  unfold nlIn
  rw [show (a ++ b).data.toList = a.data.toList ++ b.data.toList by simp [ByteArray.data_append], List.count_append]
theorem nlIn_dec : ∀ u : Nat, nlIn (Lib.decDigits u) = 0 := by
  intro u
  induction u using Nat.strongRecOn with
  | ind u ih =>
    by_cases h : u < 10
    · rw [Lib.decDigits_one h]
      match u, h with
      | 0, _ => rfl
      | 1, _ => rfl
      | 2, _ => rfl
      | 3, _ => rfl
      | 4, _ => rfl
      | 5, _ => rfl
      | 6, _ => rfl
      | 7, _ => rfl
      | 8, _ => rfl
      | 9, _ => rfl
    · rw [dec_step u h]
      have h1 := ih (u / 10) (by omega)
      unfold nlIn at h1 ⊢
      rw [List.count_append, h1]
      have hr : u % 10 < 10 := Nat.mod_lt _ (by omega)
      generalize u % 10 = r at hr
      match r, hr with
      | 0, _ => rfl
      | 1, _ => rfl
      | 2, _ => rfl
      | 3, _ => rfl
      | 4, _ => rfl
      | 5, _ => rfl
      | 6, _ => rfl
      | 7, _ => rfl
      | 8, _ => rfl
      | 9, _ => rfl
theorem nlIn_num {z : Int} (h : 0 ≤ z) : nlIn (numB z).data.toList = 0 := by
  obtain ⟨u, rfl⟩ := Int.eq_ofNat_of_zero_le h
  show nlIn (Lib.itoa (u : Int)).toArray.toList = 0
  rw [Lib.itoa_nonneg]
  simpa using nlIn_dec u
theorem nlIn_line {y d t l p : Int} (h : okRow y d t l p = true) : nlIn (lineText y d t l).data.toList = 0 := by
  obtain ⟨h1, h2, h3, h4, h5, h6, h7, h8, _, _⟩ := okRow_facts h
  have hh : nlIn (lineHead y d t).data.toList = 0 := by
    unfold lineHead
    simp only [nlIn_app, nlIn_num (show 0 ≤ y by omega), nlIn_num h3, nlIn_num h5]
    rfl
  have hd : nlIn (lineDay y d t).data.toList = 0 := by
    unfold lineDay
    split
    · exact hh
    · rw [nlIn_app, hh]; rfl
  unfold lineText
  split
  · rename_i hl
    have := pctV_ok (t := t) (l := l) (by omega) h7 h8 h6
    simp only [nlIn_app, hd, nlIn_num this.1]
    rfl
  · exact hd
theorem nlIn_rep {f : Nat → Int} {n : Nat} (h : goodRows f n = true) : ∀ k, k ≤ n → nlIn (repTo f k).data.toList = k := by
  intro k
  induction k with
  | zero => intro _; rfl
  | succ k ih =>
    intro hk
    show nlIn (repTo f k ++ (lineAt f k ++ ⟨#[10]⟩)).data.toList = k + 1
    rw [nlIn_app, nlIn_app, ih (by omega), show nlIn (lineAt f k).data.toList = 0 from nlIn_line (row_ok h (show k < n by omega))]
    rfl
theorem nlIn_report {f : Nat → Int} {n : Nat} (h : goodRows f n = true) : nlIn (repR f n).data.toList = n := by
  unfold repR
  rw [if_pos h, nlIn_app, nlIn_app, nlIn_rep h n (Nat.le_refl _), nlIn_num (sumR_ok h n (Nat.le_refl _)).1]
  rfl
def nlTo (s : ByteArray) (k : Nat) : Nat := nlIn (s.data.toList.take k)
theorem nlTo_all (s : ByteArray) {k : Nat} (h : s.size ≤ k) : nlTo s k = nlIn s.data.toList := by
  unfold nlTo
  rw [List.take_of_length_le (by simpa using h)]
theorem nlTo_step (s : ByteArray) {k : Nat} (hk : k < s.size) : nlTo s (k + 1) = nlTo s k + (if s.data.toList.getD k 0 = 10 then 1 else 0) := by
  unfold nlTo nlIn
  have hl : k < s.data.toList.length := by simpa using hk
  generalize s.data.toList = l at hl ⊢
  rw [List.take_succ_eq_append_getElem hl, List.count_append]
  congr 1
  have e : l.getD k 0 = l[k] := by simp [List.getD, hl]
  rw [e]
  by_cases h : l[k] = 10
  · rw [if_pos h, h]; rfl
  · rw [if_neg h, List.count_singleton]
    simp [h]
theorem nl_yes {s : ByteArray} {i : Nat} (h : i < s.size) (ht : (((s[i]'h).toNat : Int) == 10) = true) : nlTo s (i + 1) = nlTo s i + 1 := by
  have e : s.data.toList.getD i 0 = s[i]'h := by
    have hl : i < s.data.toList.length := by simpa using h
    rw [List.getD_eq_getElem?_getD, List.getElem?_eq_getElem hl, Option.getD_some]; rfl
  rw [nlTo_step s h, e, if_pos]
  have h2 : ((s[i]'h).toNat : Int) = 10 := by simpa using ht
  apply UInt8.toNat_inj.1
  show (s[i]'h).toNat = 10
  omega
theorem nl_no {s : ByteArray} {i : Nat} (h : i < s.size) (ht : (((s[i]'h).toNat : Int) == 10) = false) : nlTo s (i + 1) = nlTo s i := by
  have e : s.data.toList.getD i 0 = s[i]'h := by
    have hl : i < s.data.toList.length := by simpa using h
    rw [List.getD_eq_getElem?_getD, List.getElem?_eq_getElem hl, Option.getD_some]; rfl
  rw [nlTo_step s h, e, if_neg, Nat.add_zero]
  intro h3
  rw [h3] at ht
  simp at ht
theorem nlTo_le (s : ByteArray) (k : Nat) : nlTo s k ≤ k := by
  unfold nlTo nlIn
  exact Nat.le_trans List.count_le_length (by simp; omega)
end Go.Proofs.YtfejgoohefhjoaaDoor
