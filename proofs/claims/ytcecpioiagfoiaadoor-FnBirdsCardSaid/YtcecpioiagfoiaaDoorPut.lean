/-
  Numbers put into their place, each once: the same as sorted and made single.
-/
import Derived.WalkKit
import Derived.Lib.SlicesCompact
namespace Go.Proofs.YtcecpioiagfoiaaDoor
def putL (l : List Int) (n : Int) : List Int :=
  match l with
  | [] => [n]
  | x :: t => if x < n then x :: putL t n else if x = n then x :: t else n :: x :: t
theorem putL_mem (l : List Int) (n z : Int) : z ∈ putL l n ↔ z ∈ l ∨ z = n := by
  induction l with
  | nil => simp [putL]
  | cons x t ih =>
    unfold putL
    split
    · simp [ih, or_assoc]
    · split
      · rename_i h; subst h; simp; intro h; exact Or.inl h
      · simp; constructor
        · rintro (h | h | h) <;> simp [h]
        · rintro ((h | h) | h) <;> simp [h]
theorem putL_up {l : List Int} (n : Int) (h : l.Pairwise (· < ·)) : (putL l n).Pairwise (· < ·) := by
  induction l with
  | nil => simp [putL]
  | cons x t ih =>
    rw [List.pairwise_cons] at h
    unfold putL
    split
    · rename_i hx
      rw [List.pairwise_cons]
      refine ⟨fun z hz => ?_, ih h.2⟩
      rcases (putL_mem t n z).1 hz with h1 | h1
      · exact h.1 z h1
      · omega
    · split
      · exact List.pairwise_cons.2 h
      · rename_i h1 h2
        rw [List.pairwise_cons, List.pairwise_cons]
        refine ⟨fun z hz => ?_, h⟩
        rcases List.mem_cons.1 hz with h3 | h3
        · omega
        · have := h.1 z h3; omega
theorem foldPut_mem (L : List Int) : ∀ (l : List Int) (z : Int), z ∈ L.foldl putL l ↔ z ∈ l ∨ z ∈ L := by
  induction L with
  | nil => simp
  | cons x t ih =>
    intro l z
    rw [List.foldl_cons, ih, putL_mem]
    simp [or_assoc]
theorem foldPut_up (L : List Int) : ∀ (l : List Int), l.Pairwise (· < ·) → (L.foldl putL l).Pairwise (· < ·) := by
  induction L with
  | nil => simp
  | cons x t ih => intro l h; exact ih _ (putL_up x h)
theorem up_ext {a b : List Int} (ha : a.Pairwise (· < ·)) (hb : b.Pairwise (· < ·)) (h : ∀ z, z ∈ a ↔ z ∈ b) : a = b := by
  induction a generalizing b with
  | nil =>
    cases b with
    | nil => rfl
    | cons y t => exact absurd ((h y).2 (by simp)) (by simp)
  | cons x s ih =>
    cases b with
    | nil => exact absurd ((h x).1 (by simp)) (by simp)
    | cons y t =>
      rw [List.pairwise_cons] at ha hb
      have hxy : x = y := by
        have h1 := (h x).1 (by simp)
        have h2 := (h y).2 (by simp)
        rcases List.mem_cons.1 h1 with e | h1
        · exact e
        · rcases List.mem_cons.1 h2 with e | h2
          · exact e.symm
          · have := hb.1 x h1; have := ha.1 y h2; omega
      subst hxy
      congr 1
      refine ih ha.2 hb.2 fun z => ⟨fun hz => ?_, fun hz => ?_⟩
      · rcases List.mem_cons.1 ((h z).1 (by simp [hz])) with e | h1
        · have := ha.1 z hz; omega
        · exact h1
      · rcases List.mem_cons.1 ((h z).2 (by simp [hz])) with e | h1
        · have := hb.1 z hz; omega
        · exact h1
theorem compact_up (zs : List Int) (hs : zs.Pairwise (· ≤ ·)) : ∀ m, m ≤ zs.length →
    (Lib.compactUpTo zs.toArray m).Pairwise (· < ·) ∧ (∀ z, z ∈ Lib.compactUpTo zs.toArray m ↔ z ∈ zs.take m) := by
  intro m
  induction m with
  | zero => intro _; simp [Lib.compactUpTo]
  | succ m ih =>
    intro hm
    obtain ⟨h1, h2⟩ := ih (by omega)
    have hml : m < zs.length := by omega
    have hget : zs.toArray[m]! = zs[m] := by simp [hml]
    have htake : zs.take (m + 1) = zs.take m ++ [zs[m]] := by rw [List.take_succ_eq_append_getElem (by omega)]
    rw [Lib.compactUpTo_succ, hget, htake]
    clear htake
    by_cases hk : Lib.keeps zs.toArray m = true
    · rw [if_pos hk]
      refine ⟨?_, fun z => by rw [List.mem_append, List.mem_append, h2]⟩
      rw [List.pairwise_append]
      refine ⟨h1, by simp, fun a ha b hb => ?_⟩
      simp at hb
      subst hb
      rw [h2] at ha
      obtain ⟨i, hi, rfl⟩ := List.getElem_of_mem ha
      simp only [List.length_take] at hi
      have him : i < m := by omega
      have hi1 : (zs.take m)[i] = zs[i] := by simp
      rw [hi1]
      have hml1 : m - 1 < zs.length := by omega
      have hm1 : zs.toArray[m - 1]! = zs[m - 1] := by simp [hml1]
      have hne : zs[m - 1] ≠ zs[m] := by
        intro e
        simp only [Lib.keeps] at hk
        rw [hget, hm1, e] at hk
        simp at hk
        omega
      have hle1 : zs[m - 1] ≤ zs[m] := List.pairwise_iff_getElem.1 hs (m - 1) m (by omega) (by omega) (by omega)
      have hle2 : zs[i] ≤ zs[m - 1] := by
        by_cases e : i = m - 1
        · subst e; omega
        · exact List.pairwise_iff_getElem.1 hs i (m - 1) (by omega) (by omega) (by omega)
      omega
    · rw [if_neg hk, List.append_nil]
      refine ⟨h1, fun z => ?_⟩
      rw [h2]
      have hm0 : 0 < m := by
        rcases Nat.eq_zero_or_pos m with h | h
        · subst h; simp [Lib.keeps] at hk
        · exact h
      have hml1 : m - 1 < zs.length := by omega
      have hm1 : zs.toArray[m - 1]! = zs[m - 1] := by simp [hml1]
      have he : zs[m - 1] = zs[m] := by
        simp only [Lib.keeps] at hk
        rw [hget, hm1] at hk
        simp at hk
        have := hk
        omega
      constructor
      · intro h; exact List.mem_append_left _ h
      · intro h
        rcases List.mem_append.1 h with h | h
        · exact h
        · simp at h
          subst h
          rw [← he]
          have : (zs.take m)[m - 1]'(by simp; omega) = zs[m - 1] := by simp
          rw [← this]
          exact List.getElem_mem _
theorem put_compact (L : List Int) : Lib.compact (L.mergeSort fun x y => decide (x ≤ y)) = L.foldl putL [] := by
  have hs : (L.mergeSort fun x y => decide (x ≤ y)).Pairwise (· ≤ ·) := by
    have := List.pairwise_mergeSort (le := fun x y : Int => decide (x ≤ y)) (fun a b c h1 h2 => by simp at *; omega) (fun a b => by simp; omega) L
    exact this.imp (by simp)
  obtain ⟨h1, h2⟩ := compact_up _ hs _ (Nat.le_refl _)
  refine up_ext h1 (foldPut_up L [] (by simp)) fun z => ?_
  show z ∈ Lib.compactUpTo _ _ ↔ _
  rw [h2, List.take_length, foldPut_mem]
  simp [List.mem_mergeSort]
end Go.Proofs.YtcecpioiagfoiaaDoor
