/-
  Each element put behind those that it does not move ahead of: what an insertion sort does.
-/
import Derived.WalkKit
import Derived.Sort.Defs
namespace Go.Proofs.Ytjhgpebppcbleaa
variable {α : Type}
/-- Where n stops, going back from place k of L: behind the first p that it does not pass (mv p n: n passes p). -/
def stopI [Inhabited α] (mv : α → α → Bool) (L : List α) (n : α) : Nat → Nat
  | 0 => 0
  | k + 1 => if mv (L[k]?.getD default) n then stopI mv L n k else k + 1
def insI [Inhabited α] (mv : α → α → Bool) (L : List α) (n : α) : List α := L.take (stopI mv L n L.length) ++ n :: L.drop (stopI mv L n L.length)
theorem stopI_le [Inhabited α] (mv : α → α → Bool) (L : List α) (n : α) : ∀ k, stopI mv L n k ≤ k
  | 0 => Nat.le_refl _
  | k + 1 => by
    have := stopI_le mv L n k
    unfold stopI; split <;> omega
theorem insI_length [Inhabited α] (mv : α → α → Bool) (L : List α) (n : α) : (insI mv L n).length = L.length + 1 := by
  have := stopI_le mv L n L.length
  simp [insI]; omega
theorem insI_mem [Inhabited α] (mv : α → α → Bool) (L : List α) (n z : α) : z ∈ insI mv L n ↔ z ∈ L ∨ z = n := by
  unfold insI
  rw [List.mem_append, List.mem_cons]
  conv => rhs; rw [← List.take_append_drop (stopI mv L n L.length) L, List.mem_append]
  constructor
  · rintro (h | h | h) <;> simp [h]
  · rintro ((h | h) | h) <;> simp [h]
def isortL [Inhabited α] (mv : α → α → Bool) (L : List α) : List α := L.foldl (insI mv) []
theorem foldIns_length [Inhabited α] (mv : α → α → Bool) (L : List α) : ∀ S : List α, (L.foldl (insI mv) S).length = S.length + L.length := by
  induction L with
  | nil => intro S; rfl
  | cons x t ih => intro S; rw [List.foldl_cons, ih, insI_length, List.length_cons]; omega
theorem foldIns_mem [Inhabited α] (mv : α → α → Bool) (L : List α) : ∀ (S : List α) (z : α), z ∈ L.foldl (insI mv) S ↔ z ∈ S ∨ z ∈ L := by
  induction L with
  | nil => simp
  | cons x t ih => intro S z; rw [List.foldl_cons, ih, insI_mem]; simp [or_assoc]
theorem isortL_mem [Inhabited α] (mv : α → α → Bool) (L : List α) (z : α) : z ∈ isortL mv L ↔ z ∈ L := by simp [isortL, foldIns_mem]
theorem isortL_length [Inhabited α] (mv : α → α → Bool) (L : List α) : (isortL mv L).length = L.length := by simp [isortL, foldIns_length]
theorem swp_list [Inhabited α] {d : Array α} {A B : List α} {x y : α} (h : d.toList = A ++ x :: y :: B) : (Sort.swp d (A.length + 1) A.length).toList = A ++ y :: x :: B := by
  have hs : d.size = A.length + (B.length + 2) := by rw [← Array.length_toList, h]; simp
  have h0 : d[A.length]! = x := by
    rw [getElem!_pos d _ (by omega), ← Array.getElem_toList, List.getElem_of_eq h]; simp
  have h1 : d[A.length + 1]! = y := by
    rw [getElem!_pos d _ (by omega), ← Array.getElem_toList, List.getElem_of_eq h]
    rw [List.getElem_append_right (by omega)]; simp
  unfold Sort.swp
  rw [h0, h1]
  simp only [Array.toList_setIfInBounds, h]
  rw [List.set_append_right _ _ (by omega), List.set_append_right _ _ (by omega)]
  simp
theorem inner_list [Inhabited α] (lt : α → α → Bool) (S R : List α) (n : α) : ∀ (j : Nat) (d : Array α), j ≤ S.length → d.toList = S.take j ++ n :: (S.drop j ++ R) →
    (Sort.insInner lt 0 j d).toList = S.take (stopI (fun p n => lt n p) S n j) ++ n :: (S.drop (stopI (fun p n => lt n p) S n j) ++ R)
  | 0, d, _, h => by simpa [Sort.insInner, stopI] using h
  | j + 1, d, hj, h => by
    have hjl : j < S.length := by omega
    have htk : S.take (j + 1) = S.take j ++ [S[j]] := by rw [List.take_succ_eq_append_getElem hjl]
    have hl : (S.take j).length = j := by simp; omega
    rw [htk, List.append_assoc, List.singleton_append] at h
    have hs : d.size = j + (S.drop (j + 1) ++ R).length + 2 := by rw [← Array.length_toList, h]; simp; omega
    have h0 : d[j]! = S[j] := by
      rw [getElem!_pos d _ (by omega), ← Array.getElem_toList, List.getElem_of_eq h, List.getElem_append_right (by omega)]
      simp [hl]
    have h1 : d[j + 1]! = n := by
      rw [getElem!_pos d _ (by omega), ← Array.getElem_toList, List.getElem_of_eq h, List.getElem_append_right (by omega)]
      simp [hl]
    have hsj : S[j]?.getD default = S[j] := by simp [hjl]
    unfold Sort.insInner stopI
    rw [h0, h1, hsj]
    by_cases hc : lt n S[j] = true
    · rw [if_pos (by simp [hc]), if_pos hc]
      have hw := swp_list h
      rw [hl] at hw
      refine inner_list lt S R n j _ (by omega) ?_
      rw [hw]
      congr 2
      rw [← List.cons_append, List.drop_eq_getElem_cons hjl]
    · rw [if_neg (by simp [hc]), if_neg hc, h, htk, List.append_assoc, List.singleton_append]
theorem outer_list [Inhabited α] (lt : α → α → Bool) (b : Nat) : ∀ (m i : Nat) (d : Array α) (S R : List α), m = b - i → S.length = i → d.toList = S ++ R → R.length = b - i → i ≤ b →
    (Sort.insOuter lt 0 b i d).toList = R.foldl (insI fun p n => lt n p) S := by
  intro m
  induction m with
  | zero =>
    intro i d S R hm hS hd hR hib
    have : R = [] := List.length_eq_zero_iff.1 (by omega)
    subst this
    unfold Sort.insOuter
    rw [if_neg (by omega), hd]
    simp
  | succ m ih =>
    intro i d S R hm hS hd hR hib
    cases R with
    | nil => simp at hR; omega
    | cons n R =>
      unfold Sort.insOuter
      rw [if_pos (by omega), List.foldl_cons]
      simp only [List.length_cons] at hR
      have hin := inner_list lt S R n i d (by omega) (by rw [← hS, List.take_length, List.drop_length]; simpa using hd)
      refine ih (i + 1) _ _ R (by omega) (by rw [insI_length, hS]) ?_ (by omega) (by omega)
      rw [hin, ← hS]
      unfold insI
      simp
theorem sort_list [Inhabited α] (lt : α → α → Bool) (d : Array α) : (Sort.insertionSort lt d 0 d.size).toList = isortL (fun p n => lt n p) d.toList := by
  unfold Sort.insertionSort isortL
  cases hd : d.toList with
  | nil =>
    have : d.size = 0 := by rw [← Array.length_toList, hd]; rfl
    unfold Sort.insOuter
    rw [if_neg (by omega), hd]
    rfl
  | cons x R =>
    have hs : d.size = R.length + 1 := by rw [← Array.length_toList, hd]; rfl
    rw [List.foldl_cons]
    exact outer_list lt d.size (d.size - 1) 1 d [x] R rfl rfl hd (by omega) (by omega)
end Go.Proofs.Ytjhgpebppcbleaa
