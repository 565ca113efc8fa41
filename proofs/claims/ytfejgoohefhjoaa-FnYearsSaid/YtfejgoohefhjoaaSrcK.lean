/-
  A part of a row as the source of an append, K cells an element.
-/
import Derived.Test.YtfejgoohefhjoaaApp3
import Derived.Test.YtfejgoohefhjoaaInsM
namespace Go.Proofs.Ytfejgoohefhjoaa
open Go.RowKit
set_option linter.unusedVariables false
theorem Sl.srcTakeK {w : World} {lo hi K n c : Nat} {A : Option Addr} {f : Nat → Int} (h : Sl w lo hi K A n f) (hz : A = none → n = 0 ∧ c = 0) {p : Nat} (hp : p ≤ n) : Src w K A p c ((cellsTo f (n * K)).take (p * K)) := by
  have hpk : p * K ≤ n * K := Nat.mul_le_mul_right _ hp
  refine ⟨by rw [List.length_take, cellsTo_length]; omega, fun e => by have := hz e; omega, fun ad had j u hu => ?_⟩
  have hl := (List.getElem?_eq_some_iff.1 hu).1
  rw [List.length_take, cellsTo_length] at hl
  rw [List.getElem?_take_of_lt (by omega)] at hu
  obtain ⟨h1, rfl⟩ := cellsTo_get? hu
  have hn : 0 < n := by rcases Nat.eq_zero_or_pos n with h0 | h0; · subst h0; simp at h1
                        · exact h0
  obtain ⟨b, off, e, _, _, hc⟩ := h.here hn
  rw [had] at e
  cases e
  rw [Addr.add_lit]
  exact hc j h1
theorem Sl.srcDropK {w : World} {lo hi K n c' b off : Nat} {f : Nat → Int} (h : Sl w lo hi K (some ⟨b, off, none⟩) n f) {p : Nat} (hp : p ≤ n) : Src w K (some ⟨b, off + p * K, none⟩) (n - p) c' ((cellsTo f (n * K)).drop (p * K)) := by
  have hpk : p * K ≤ n * K := Nat.mul_le_mul_right _ hp
  refine ⟨by rw [List.length_drop, cellsTo_length, Nat.sub_mul], (by intro e; cases e), fun ad had j u hu => ?_⟩
  cases had
  rw [List.getElem?_drop] at hu
  obtain ⟨h1, rfl⟩ := cellsTo_get? hu
  have hn : 0 < n := by rcases Nat.eq_zero_or_pos n with h0 | h0; · subst h0; simp at h1
                        · exact h0
  obtain ⟨b', off', e, _, _, hc⟩ := h.here hn
  simp only [Option.some.injEq, Addr.mk.injEq, and_true] at e
  obtain ⟨rfl, rfl⟩ := e
  rw [Addr.add_lit, Nat.add_assoc]
  exact hc _ h1
theorem Src.nothing {w : World} {K c : Nat} {ad : Addr} {zs : List Int} (h : zs = []) : Src w K (some ad) 0 c zs := by
  subst h
  exact ⟨by simp, (by intro e; cases e), fun _ _ j u hu => by simp at hu⟩
theorem Src.nilNone {w : World} {K : Nat} : Src w K none 0 0 [] := ⟨by simp, fun _ => ⟨rfl, rfl⟩, fun _ h => by cases h⟩
theorem Fr.alloc {lo hi : Nat} {a w : World} (h : Fr lo hi a w) (o : Obj) : Fr lo hi a (w.alloc o) := h.trans (Fr.of_below lo hi ((Below.refl _ w).alloc (Nat.le_refl _) o))
theorem Own.hi_le_mono {w : World} {lo hi size n : Nat} {e : TypeId} {A : Option Addr} {f : Nat → Int} (h : Own w lo hi e size A n f) (hl : hi ≤ w.heap.size) : Own w lo w.heap.size e size A n f :=
  ⟨Nat.le_refl _, fun hn => by
    obtain ⟨g, cur, e1, h1, h2, h3⟩ := h.here hn
    exact ⟨g, cur, e1, h1, by omega, h3⟩⟩
end Go.Proofs.Ytfejgoohefhjoaa
