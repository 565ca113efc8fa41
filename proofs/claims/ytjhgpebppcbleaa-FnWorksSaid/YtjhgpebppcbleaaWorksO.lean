/-
  PanOrder of the program: the pans with a mass, sorted by their strength.
-/
import Derived.Test.YtjhgpebppcbleaaWorksE
import Derived.Test.YtjhgpebppcbleaaRowW
import Derived.Deep.Cut
namespace Go.Proofs.Ytjhgpebppcbleaa
open Go.RowKit Go.Sort
set_option linter.unusedVariables false
set_option linter.unusedSimpArgs false
attribute [local go_sem ↓] Go.wp_at_zero Go.wp_at_succ
theorem infoPan : (Try.prog.info? 87).map (fun i => (i.zero, i.size, i.bytes)) = some (some (.agg #[.int .i64 0, .int .i64 0, .int .i64 0, .int .i64 0]), 4, 32) := by kernel_rfl
def massAt (f : Nat → Int) (k : Nat) : Int := massV (f (k * 4 + 2)) (f (k * 4 + 3))
def ordB (f : Nat → Int) (k : Nat) : Bool := decide (0 < massAt f k)
/-- n stands ahead of p: it is stronger. -/
def ordMv (f : Nat → Int) (p n : Nat) : Bool := decide (wrap64 (f (p * 4 + 3) * massAt f n) < wrap64 (f (n * 4 + 3) * massAt f p))
def ordL (f : Nat → Int) (k : Nat) : List Nat := isortL (ordMv f) (pickN (ordB f) k)
def idsP (f : Nat → Int) (L : List Nat) : List Int := L.map fun p => f (p * 4)
def ordRes (f : Nat → Int) (n : Nat) (b : Bool) : List Int := if b then idsP f (ordL f n) else []
theorem ordL_len (f : Nat → Int) (k : Nat) : (ordL f k).length ≤ k := by
  rw [ordL, isortL_length]; exact pickN_len _ k
theorem ordRes_len (f : Nat → Int) (n : Nat) (b : Bool) : (ordRes f n b).length ≤ n := by
  unfold ordRes
  split
  · rw [idsP, List.length_map]; exact ordL_len f n
  · simp
theorem ordL_lt (f : Nat → Int) (n : Nat) : ∀ j ∈ ordL f n, j < n := by
  intro j hj
  rw [ordL, isortL_mem] at hj
  exact (pickN_lt _ n j hj).1
theorem row_oneP (f : Nat → Int) (k : Nat) : rowsOf f 4 [k] = [f (k * 4), f (k * 4 + 1), f (k * 4 + 2), f (k * 4 + 3)] := rfl
theorem form_ofP {w : World} {lo k : Nat} {e : TypeId} {v : Value} {n : Nat} {xs : List Value} (h : w.ownsRow lo e k v n xs) : (n = 0 ∧ ∃ A c, v = .slice A 0 c) ∨ ∃ g c, v = .slice (some ⟨g, 0, none⟩) n c := by
  rcases h.2 with ⟨rfl, rfl⟩ | ⟨g, c, cur, rfl, _⟩
  · exact Or.inl ⟨rfl, none, 0, rfl⟩
  · exact Or.inr ⟨g, c, rfl⟩
theorem good_len {f : Nat → Int} {n : Nat} {I H S P : Int} (hg : goodWorks f n I H S P = true) : n ≤ 6 := by
  simp only [goodWorks, pansOk, Bool.and_eq_true, decide_eq_true_eq] at hg
  exact hg.1.1.2
theorem ownsRow_monoP {w : World} {base base' : Nat} {e : TypeId} {size : Nat} {v : Value} {n : Nat} {xs : List Value} (h : w.ownsRow base e size v n xs) (hb : base' ≤ base) : w.ownsRow base' e size v n xs :=
  ⟨h.1, h.2.imp id fun ⟨g, cap, cur, h1, h2, h3⟩ => ⟨g, cap, cur, h1, Nat.le_trans hb h2, h3⟩⟩
theorem infoIntP : (Try.prog.info? 3).map (fun i => (i.zero, i.size, i.bytes)) = some (some (.int .i64 0), 1, 8) := by kernel_rfl

end Go.Proofs.Ytjhgpebppcbleaa
