/-
  A store of two ints at once into a row of the call's own.
-/
import Derived.Test.YtjkockhldaacbaaDoorWorksM
namespace Go.Proofs.YtjkockhldaacbaaDoor
open Go.RowKit
set_option linter.unusedVariables false
set_option linter.unusedSimpArgs false
theorem putRow_two (cur : Array Value) (o : Nat) (a b : Value) (h : o + 2 ≤ cur.size) : putRow cur o #[a, b] = (cur.setIfInBounds o a).setIfInBounds (o + 1) b := by
  apply Array.ext'
  simp only [putRow, Array.toList_setIfInBounds]
  apply List.ext_getElem?
  intro j
  have hl : (cur.toList.take o).length = o := by simp; omega
  simp only [List.getElem?_set, List.length_set, Array.length_toList]
  by_cases h1 : j < o
  · rw [List.append_assoc, List.getElem?_append_left (by omega), List.getElem?_take_of_lt h1, if_neg (by omega), if_neg (by omega)]
  · rw [List.append_assoc, List.getElem?_append_right (by omega), hl]
    by_cases h2 : j = o
    · subst h2
      rw [if_neg (by omega), if_pos rfl, if_pos (by omega)]
      simp
    · by_cases h3 : j = o + 1
      · subst h3
        rw [if_pos rfl, if_pos (by omega)]
        simp
      · rw [List.getElem?_append_right (by simp; omega), if_neg (by omega), if_neg (by omega), List.getElem?_drop]
        congr 1
        simp
        omega
/-- The row's block, with what it holds. -/
theorem row_open {w : World} {base k n c g : Nat} {e : TypeId} {xs : List Value} (h : w.ownsRow base e k (.slice (some ⟨g, 0, none⟩) n c) n xs) : ∃ cur, w.heap[g]? = some (.cells cur e (0, 0)) ∧ n * k ≤ cur.size ∧
    ∀ (w' : World) (j : Nat) (u v : Value), w'.heap[g]? = some (.cells ((cur.setIfInBounds j u).setIfInBounds (j + 1) v) e (0, 0)) → w'.ownsRow base e k (.slice (some ⟨g, 0, none⟩) n c) n ((xs.set j u).set (j + 1) v) := by
  rcases h.2 with ⟨h', _⟩ | ⟨g', cap', cur, h', hb, hg, hnc, hcm, hcs, htake⟩
  · cases h'
  · cases h'
    refine ⟨cur, hg, by rw [hcs]; exact Nat.mul_le_mul_right k hnc, fun w' j u v hw => ⟨by simpa using h.1, .inr ⟨g, c, _, rfl, hb, hw, hnc, hcm, by simpa using hcs, ?_⟩⟩⟩
    rw [Array.toList_setIfInBounds, Array.toList_setIfInBounds, ← htake, List.take_set, List.take_set]
end Go.Proofs.YtjkockhldaacbaaDoor
