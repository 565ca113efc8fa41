/-
  Several short texts in one: Ins, RowW.
-/
import Derived.WalkKit
import Derived.Sort.Defs
import Derived.Test.YtjkockhldaacbaaDoorApp3
import Derived.Lib.Hide
/-
  Each element put behind those that it does not move ahead of: what an insertion sort does.
-/

namespace Go.Proofs.YtjkockhldaacbaaDoor
variable {α : Type}
/-- Where n stops, going back from place k of L: behind the first p that it does not pass (mv p n: n passes p). -/
def stopI [Inhabited α] (mv : α → α → Bool) (L : List α) (n : α) : Nat → Nat
  | 0 => 0
  | k + 1 => if mv (L[k]?.getD default) n then stopI mv L n k else k + 1
def insI [Inhabited α] (mv : α → α → Bool) (L : List α) (n : α) : List α := L.take (stopI mv L n L.length) ++ n :: L.drop (stopI mv L n L.length)
theorem stopI_le [Inhabited α] (mv : α → α → Bool) (L : List α) (n : α) : ∀ k, stopI mv L n k ≤ k
  | 0 => Nat.le_refl _
  | k + 1 => by
    have := stopI_le mv L n k
    unfold stopI; split <;> omega
theorem insI_length [Inhabited α] (mv : α → α → Bool) (L : List α) (n : α) : (insI mv L n).length = L.length + 1 := by
  have := stopI_le mv L n L.length
  simp [insI]; omega
theorem insI_mem [Inhabited α] (mv : α → α → Bool) (L : List α) (n z : α) : z ∈ insI mv L n ↔ z ∈ L ∨ z = n := by
  unfold insI
  rw [List.mem_append, List.mem_cons]
  conv => rhs; rw [← List.take_append_drop (stopI mv L n L.length) L, List.mem_append]
  constructor
  · rintro (h | h | h) <;> simp [h]
  · rintro ((h | h) | h) <;> simp [h]
def isortL [Inhabited α] (mv : α → α → Bool) (L : List α) : List α := L.foldl (insI mv) []
theorem foldIns_length [Inhabited α] (mv : α → α → Bool) (L : List α) : ∀ S : List α, (L.foldl (insI mv) S).length = S.length + L.length := by
  induction L with
  | nil => intro S; rfl
  | cons x t ih => intro S; rw [List.foldl_cons, ih, insI_length, List.length_cons]; omega
theorem foldIns_mem [Inhabited α] (mv : α → α → Bool) (L : List α) : ∀ (S : List α) (z : α), z ∈ L.foldl (insI mv) S ↔ z ∈ S ∨ z ∈ L := by
  induction L with
  | nil => simp
  | cons x t ih => intro S z; rw [List.foldl_cons, ih, insI_mem]; simp [or_assoc]
theorem isortL_mem [Inhabited α] (mv : α → α → Bool) (L : List α) (z : α) : z ∈ isortL mv L ↔ z ∈ L := by simp [isortL, foldIns_mem]
theorem isortL_length [Inhabited α] (mv : α → α → Bool) (L : List α) : (isortL mv L).length = L.length := by simp [isortL, foldIns_length]
theorem swp_list [Inhabited α] {d : Array α} {A B : List α} {x y : α} (h : d.toList = A ++ x :: y :: B) : (Sort.swp d (A.length + 1) A.length).toList = A ++ y :: x :: B := by
  have hs : d.size = A.length + (B.length + 2) := by rw [← Array.length_toList, h]; simp
  have h0 : d[A.length]! = x := by
    rw [getElem!_pos d _ (by omega), ← Array.getElem_toList, List.getElem_of_eq h]; simp
  have h1 : d[A.length + 1]! = y := by
    rw [getElem!_pos d _ (by omega), ← Array.getElem_toList, List.getElem_of_eq h]
    rw [List.getElem_append_right (by omega)]; simp
  unfold Sort.swp
  rw [h0, h1]
  simp only [Array.toList_setIfInBounds, h]
  rw [List.set_append_right _ _ (by omega), List.set_append_right _ _ (by omega)]
  simp
theorem inner_list [Inhabited α] (lt : α → α → Bool) (S R : List α) (n : α) : ∀ (j : Nat) (d : Array α), j ≤ S.length → d.toList = S.take j ++ n :: (S.drop j ++ R) →
    (Sort.insInner lt 0 j d).toList = S.take (stopI (fun p n => lt n p) S n j) ++ n :: (S.drop (stopI (fun p n => lt n p) S n j) ++ R)
  | 0, d, _, h => by simpa [Sort.insInner, stopI] using h
  | j + 1, d, hj, h => by
    have hjl : j < S.length := by omega
    have htk : S.take (j + 1) = S.take j ++ [S[j]] := by rw [List.take_succ_eq_append_getElem hjl]
    have hl : (S.take j).length = j := by simp; omega
    rw [htk, List.append_assoc, List.singleton_append] at h
    have hs : d.size = j + (S.drop (j + 1) ++ R).length + 2 := by rw [← Array.length_toList, h]; simp; omega
    have h0 : d[j]! = S[j] := by
      rw [getElem!_pos d _ (by omega), ← Array.getElem_toList, List.getElem_of_eq h, List.getElem_append_right (by omega)]
      simp [hl]
    have h1 : d[j + 1]! = n := by
      rw [getElem!_pos d _ (by omega), ← Array.getElem_toList, List.getElem_of_eq h, List.getElem_append_right (by omega)]
      simp [hl]
    have hsj : S[j]?.getD default = S[j] := by simp [hjl]
    unfold Sort.insInner stopI
    rw [h0, h1, hsj]
    by_cases hc : lt n S[j] = true
    · rw [if_pos (by simp [hc]), if_pos hc]
      have hw := swp_list h
      rw [hl] at hw
      refine inner_list lt S R n j _ (by omega) ?_
      rw [hw]
      congr 2
      rw [← List.cons_append, List.drop_eq_getElem_cons hjl]
    · rw [if_neg (by simp [hc]), if_neg hc, h, htk, List.append_assoc, List.singleton_append]
theorem outer_list [Inhabited α] (lt : α → α → Bool) (b : Nat) : ∀ (m i : Nat) (d : Array α) (S R : List α), m = b - i → S.length = i → d.toList = S ++ R → R.length = b - i → i ≤ b →
    (Sort.insOuter lt 0 b i d).toList = R.foldl (insI fun p n => lt n p) S := by
  intro m
  induction m with
  | zero =>
    intro i d S R hm hS hd hR hib
    have : R = [] := List.length_eq_zero_iff.1 (by omega)
    subst this
    unfold Sort.insOuter
    rw [if_neg (by omega), hd]
    simp
  | succ m ih =>
    intro i d S R hm hS hd hR hib
    cases R with
    | nil => simp at hR; omega
    | cons n R =>
      unfold Sort.insOuter
      rw [if_pos (by omega), List.foldl_cons]
      simp only [List.length_cons] at hR
      have hin := inner_list lt S R n i d (by omega) (by rw [← hS, List.take_length, List.drop_length]; simpa using hd)
      refine ih (i + 1) _ _ R (by omega) (by rw [insI_length, hS]) ?_ (by omega) (by omega)
      rw [hin, ← hS]
      unfold insI
      simp
theorem sort_list [Inhabited α] (lt : α → α → Bool) (d : Array α) : (Sort.insertionSort lt d 0 d.size).toList = isortL (fun p n => lt n p) d.toList := by
  unfold Sort.insertionSort isortL
  cases hd : d.toList with
  | nil =>
    have : d.size = 0 := by rw [← Array.length_toList, hd]; rfl
    unfold Sort.insOuter
    rw [if_neg (by omega), hd]
    rfl
  | cons x R =>
    have hs : d.size = R.length + 1 := by rw [← Array.length_toList, hd]; rfl
    rw [List.foldl_cons]
    exact outer_list lt d.size (d.size - 1) 1 d [x] R rfl rfl hd (by omega) (by omega)
end Go.Proofs.YtjkockhldaacbaaDoor
/-
  Rows of structs of ints that the call owns, told by the places that they came from.
-/

namespace Go.Proofs.YtjkockhldaacbaaDoor
open Go.RowKit
set_option linter.unusedVariables false
set_option linter.unusedSimpArgs false
theorem rowsOf_drop (f : Nat → Int) (k : Nat) (L : List Nat) (m : Nat) (hm : m ≤ L.length) (j : Nat) : (rowsOf f k (L.drop m))[j]? = (rowsOf f k L)[m * k + j]? := by
  have h : rowsOf f k L = rowsOf f k (L.take m) ++ rowsOf f k (L.drop m) := by rw [← rowsOf_append, List.take_append_drop]
  have hl : (rowsOf f k (L.take m)).length = m * k := by rw [rowsOf_length, List.length_take, Nat.min_eq_left hm]
  rw [h, List.getElem?_append_right (by rw [hl]; omega), hl, Nat.add_sub_cancel_left]
theorem rowsOf_take (f : Nat → Int) (k : Nat) (L : List Nat) (m : Nat) (hm : m ≤ L.length) (j : Nat) (u : Int) (hu : (rowsOf f k (L.take m))[j]? = some u) : (rowsOf f k L)[j]? = some u := by
  have h : rowsOf f k L = rowsOf f k (L.take m) ++ rowsOf f k (L.drop m) := by rw [← rowsOf_append, List.take_append_drop]
  rw [h, List.getElem?_append_left (List.getElem?_eq_some_iff.1 hu).1]
  exact hu
theorem rowsOf_at (f : Nat → Int) (k : Nat) (L : List Nat) (i j : Nat) (hi : i < L.length) (hj : j < k) : (rowsOf f k L)[i * k + j]? = some (f (L.getD i 0 * k + j)) := by
  have hlt : i * k + j < (rowsOf f k L).length := by
    rw [rowsOf_length]
    have : (i + 1) * k ≤ L.length * k := Nat.mul_le_mul_right k hi
    rw [Nat.succ_mul] at this
    omega
  have h := rowsOf_get f k L i j hi hj
  rw [List.getD_eq_getElem?_getD, List.getElem?_eq_getElem hlt] at h
  rw [List.getElem?_eq_getElem hlt]
  simpa using h
/-- A row of structs that the call owns, not nil: the rows of f at the places L. -/
def RRow (f : Nat → Int) (k : Nat) (e : TypeId) (w : World) (lo : Nat) (v : Value) (L : List Nat) : Prop :=
  (∃ g c, v = .slice (some ⟨g, 0, none⟩) L.length c ∧ L.length ≤ c ∧ c ≤ maxLen ∧ g < w.heap.size ∧ lo ≤ g) ∧ w.ownsRow lo e k v L.length ((rowsOf f k L).map (Value.int .i64))
section
variable {f : Nat → Int} {k : Nat} {e : TypeId}
theorem rows_below {w w' : World} {lo : Nat} {v : Value} {n : Nat} {xs : List Value} (h : w.ownsRow lo e k v n xs) (hb : Below w.heap.size w w') : w'.ownsRow lo e k v n xs := ownsRow_below h hb
theorem RRow.below {w w' : World} {lo : Nat} {v : Value} {L : List Nat} (h : RRow f k e w lo v L) (hb : Below w.heap.size w w') : RRow f k e w' lo v L := by
  obtain ⟨⟨g, c, e1, h1, h2, h3, h5⟩, h4⟩ := h
  exact ⟨⟨g, c, e1, h1, h2, Nat.lt_of_lt_of_le h3 hb.size, h5⟩, ownsRow_below h4 hb⟩
theorem RRow.of {w : World} {lo g c : Nat} {L : List Nat} {n : Nat} (hn : n = L.length) (h : w.ownsRow lo e k (.slice (some ⟨g, 0, none⟩) n c) n ((rowsOf f k L).map (Value.int .i64))) : RRow f k e w lo (.slice (some ⟨g, 0, none⟩) n c) L := by
  subst hn
  refine ⟨?_, h⟩
  have hlt := World.ownsRow.lt h g rfl
  rcases h.2 with ⟨h0, _⟩ | ⟨g', cap, cur, hv, hb, hg, hnc, hcm, _⟩
  · cases h0
  · cases hv
    exact ⟨g, c, rfl, hnc, hcm, hlt.2, hb⟩
theorem RRow.cellAt {w : World} {lo g c : Nat} {L : List Nat} {n : Nat} (h : w.ownsRow lo e k (.slice (some ⟨g, 0, none⟩) n c) n ((rowsOf f k L).map (Value.int .i64))) (hn : n = L.length) (i j : Nat) (hi : i < n) (hj : j < k) :
    w.cell? ⟨g, i * k + j, none⟩ = some (.int .i64 (f (L.getD i 0 * k + j))) := by
  subst hn
  rw [World.ownsRow.cellAt h (i * k + j) (by
    have : (i + 1) * k ≤ L.length * k := Nat.mul_le_mul_right k hi
    rw [Nat.succ_mul] at this
    omega), List.getElem?_map, rowsOf_at f k L i j hi hj]
  rfl
theorem RRow.cellR {w : World} {lo g c : Nat} {L : List Nat} {n : Nat} (h : RRow f k e w lo (.slice (some ⟨g, 0, none⟩) n c) L) (hn : n = L.length) (i j : Nat) (hi : i < n) (hj : j < k) :
    w.cell? ⟨g, i * k + j, none⟩ = some (.int .i64 (f (L.getD i 0 * k + j))) := by
  subst hn
  exact RRow.cellAt h.2 rfl i j hi hj
theorem RRow.srcTake {w : World} {lo g c : Nat} {L : List Nat} {n : Nat} (h : w.ownsRow lo e k (.slice (some ⟨g, 0, none⟩) n c) n ((rowsOf f k L).map (Value.int .i64))) (hn : n = L.length) (m c' : Nat) (hm : m ≤ n) :
    Src w k (some ⟨g, 0, none⟩) m c' (rowsOf f k (L.take m)) := by
  subst hn
  refine ⟨by rw [rowsOf_length, List.length_take, Nat.min_eq_left hm], (by intro h; cases h), fun ad had j u hu => ?_⟩
  cases had
  have hl := (List.getElem?_eq_some_iff.1 hu).1
  rw [rowsOf_length, List.length_take, Nat.min_eq_left hm] at hl
  rw [Addr.add_lit, Nat.zero_add, World.ownsRow.cellAt h j (Nat.lt_of_lt_of_le hl (Nat.mul_le_mul_right k hm)), List.getElem?_map, rowsOf_take f k L m hm j u hu]
  rfl
theorem RRow.srcDrop {w : World} {lo g c : Nat} {L : List Nat} {n : Nat} (h : w.ownsRow lo e k (.slice (some ⟨g, 0, none⟩) n c) n ((rowsOf f k L).map (Value.int .i64))) (hn : n = L.length) (m c' : Nat) (hm : m ≤ n) :
    Src w k (some ⟨g, m * k, none⟩) (n - m) c' (rowsOf f k (L.drop m)) := by
  subst hn
  refine ⟨by rw [rowsOf_length, List.length_drop], (by intro h; cases h), fun ad had j u hu => ?_⟩
  cases had
  have hl := (List.getElem?_eq_some_iff.1 hu).1
  rw [rowsOf_length, List.length_drop, Nat.sub_mul] at hl
  have hmk : m * k ≤ L.length * k := Nat.mul_le_mul_right k hm
  rw [rowsOf_drop f k L m hm] at hu
  rw [Addr.add_lit, World.ownsRow.cellAt h (m * k + j) (by omega), List.getElem?_map, hu]
  rfl
theorem RRow.grown_other {w w' : World} {lo lo' : Nat} {ov v : Value} {L : List Nat} {e' : TypeId} {k' n : Nat} {xs : List Value} (h : RRow f k e w lo ov L) (hown : w.ownsRow lo' e' k' v n xs) (hne : e ≠ e') (hg : w.grownBy w' v.ownBlock) : RRow f k e w' lo ov L := by
  obtain ⟨⟨g, c, rfl, h1, h2, h3, h5⟩, h4⟩ := h
  refine ⟨⟨g, c, rfl, h1, h2, Nat.lt_of_lt_of_le h3 hg.size, h5⟩, World.ownsRow.kept h4 hg (Or.inr ?_)⟩
  intro he
  rcases hown.2 with ⟨rfl, _⟩ | ⟨g', c', cur, rfl, _, hG, _⟩
  · simp [Value.ownBlock] at he
  · simp [Value.ownBlock] at he
    subst he
    rcases h4.2 with ⟨h0, _⟩ | ⟨g2, c2, cur2, hv, _, hG2, _⟩
    · cases h0
    · cases hv
      rw [hG] at hG2
      simp at hG2
      exact hne hG2.2.symm
theorem Src.none_of {w : World} {A : Option Addr} {c : Nat} {zs : List Int} (hz : zs = []) (hA : A ≠ none) : Src w k A 0 c zs := by
  subst hz
  exact ⟨by simp, fun h => absurd h hA, fun ad had j u hu => by simp at hu⟩
end
/-- The places among the first k that t takes. -/
def pickN (t : Nat → Bool) : Nat → List Nat
  | 0 => []
  | k + 1 => if t k then pickN t k ++ [k] else pickN t k
theorem pickN_yes {t : Nat → Bool} {k : Nat} (h : t k = true) : pickN t (k + 1) = pickN t k ++ [k] := by simp [pickN, h]
theorem pickN_no {t : Nat → Bool} {k : Nat} (h : t k = false) : pickN t (k + 1) = pickN t k := by simp [pickN, h]
theorem pickN_len (t : Nat → Bool) : ∀ k, (pickN t k).length ≤ k
  | 0 => Nat.le_refl _
  | k + 1 => by
    have := pickN_len t k
    unfold pickN
    split <;> simp <;> omega
theorem pickN_lt (t : Nat → Bool) : ∀ k, ∀ j ∈ pickN t k, j < k ∧ t j = true
  | 0 => by simp [pickN]
  | k + 1 => by
    intro j hj
    unfold pickN at hj
    split at hj
    · rename_i ht
      rcases List.mem_append.1 hj with h | h
      · have := pickN_lt t k j h; exact ⟨by omega, this.2⟩
      · simp at h; subst h; exact ⟨by omega, ht⟩
    · have := pickN_lt t k j hj; exact ⟨by omega, this.2⟩
theorem isortL_snoc {α : Type} [Inhabited α] (mv : α → α → Bool) (L : List α) (x : α) : isortL mv (L ++ [x]) = insI mv (isortL mv L) x := by simp [isortL, List.foldl_append]
theorem stop_step {mv : Nat → Nat → Bool} {L : List Nat} {n k : Nat} (h : mv (L.getD k 0) n = true) : stopI mv L n (k + 1) = stopI mv L n k := by
  show (if mv (L[k]?.getD default) n then stopI mv L n k else k + 1) = _
  rw [if_pos (by simpa [List.getD_eq_getElem?_getD] using h)]
theorem stop_here {mv : Nat → Nat → Bool} {L : List Nat} {n k : Nat} (h : mv (L.getD k 0) n = false) : stopI mv L n (k + 1) = k + 1 := by
  show (if mv (L[k]?.getD default) n then stopI mv L n k else k + 1) = _
  rw [if_neg (by simpa [List.getD_eq_getElem?_getD] using h)]
end Go.Proofs.YtjkockhldaacbaaDoor
