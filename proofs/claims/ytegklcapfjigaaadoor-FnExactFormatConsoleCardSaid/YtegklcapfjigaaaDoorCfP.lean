/-
  FormatConsole.
-/
import Derived.Test.YtegklcapfjigaaaDoorWorksT
import Derived.Test.YtegklcapfjigaaaDoorWorksC
import Derived.Test.YtegklcapfjigaaaDoorLogG
import Derived.Deep.Cut
namespace Go.Proofs.YtegklcapfjigaaaDoor
open Go.RowKit
set_option linter.unusedVariables false
set_option linter.unusedSimpArgs false
def lineP (f : Nat → Int) (j : Nat) : ByteArray := ((numB (f (j * 4)) ++ ⟨#[58, 32]⟩) ++ panB (f (j * 4 + 1)) (f (j * 4 + 2)) (f (j * 4 + 3))) ++ ⟨#[10]⟩
def pansB (f : Nat → Int) : Nat → ByteArray
  | 0 => ⟨#[]⟩
  | k + 1 => pansB f k ++ lineP f k
/-- What FormatConsole returns of a good console. -/
def fmtB (f : Nat → Int) (n : Nat) (I H S z : Int) : ByteArray :=
  ((((((((pansB f n ++ ⟨#[105, 110, 32]⟩) ++ numB I) ++ ⟨#[59, 32, 104, 101, 97, 112, 32]⟩) ++ numB H) ++ ⟨#[59, 32, 115, 104, 105, 112, 112, 101, 100, 32]⟩) ++ numB S) ++ ⟨#[59, 32, 114, 101, 99, 111, 114, 100, 115, 32]⟩) ++ numB z) ++ ⟨#[10]⟩
theorem pans_step (f : Nat → Int) (k : Nat) : (((pansB f k ++ numB (f (k * 4))) ++ ⟨#[58, 32]⟩) ++ panB (f (k * 4 + 1)) (f (k * 4 + 2)) (f (k * 4 + 3))) ++ ⟨#[10]⟩ = pansB f (k + 1) := by
  simp only [pansB, lineP, ByteArray.append_assoc]
theorem panB_size {h wt s : Int} (hh : 1 ≤ h ∧ h ≤ 100000) (hw : 0 ≤ wt ∧ wt ≤ 1000000) (hs : 0 ≤ s ∧ s ≤ 1000000) : (panB h wt s).size ≤ 75 := by
  have h1 := brineB_size hw hs
  have h2 := numB_size (n := h) (by omega) (by omega)
  simp only [panB, ByteArray.size_append', ByteArray.size_mk', List.size_toArray, List.length_cons, List.length_nil]
  omega
theorem con_len {f : Nat → Int} {n : Nat} {I H S P : Int} (hg : goodWorks f n I H S P = true) : n ≤ 6 := by
  simp only [goodWorks, pansOk, Bool.and_eq_true, decide_eq_true_eq] at hg
  exact hg.1.1.2
theorem con_nums {f : Nat → Int} {n : Nat} {I H S P z : Int} {D Q : ByteArray} (hg : goodWorks f n I H S P = true) (hl : logOk D Q z = true) :
    (0 ≤ I ∧ I ≤ 1000000) ∧ (0 ≤ H ∧ H ≤ 1000000) ∧ (0 ≤ S ∧ S ≤ 1000000) ∧ 0 ≤ z ∧ z ≤ 60 := by
  simp only [goodWorks, kilosOk, inR, Bool.and_eq_true, decide_eq_true_eq] at hg
  simp only [logOk, Bool.and_eq_true, decide_eq_true_eq] at hl
  have := readN_len (D ++ Q) 60
  obtain ⟨⟨_, ⟨⟨hI, hH⟩, hS⟩, _⟩, _⟩ := hg
  refine ⟨by omega, by omega, by omega, by omega, ?_⟩
  rw [hl.2]
  omega
theorem pan_id {f : Nat → Int} {n : Nat} {I H S P : Int} (hg : goodWorks f n I H S P = true) {j : Nat} (hj : j < n) : 1 ≤ f (j * 4) ∧ f (j * 4) ≤ 99 := by
  simp only [goodWorks, pansOk, Bool.and_eq_true, decide_eq_true_eq] at hg
  have h := allTo_at hj hg.1.1.1
  simp only [panStep, okPanAt, okPan, inR, Bool.and_eq_true, decide_eq_true_eq] at h
  exact h.1.1.1.1
theorem pan_lt {f : Nat → Int} {n : Nat} {I H S P : Int} (hg : goodWorks f n I H S P = true) : ∀ j, j < n → ∀ i, i < j → f (i * 4) < f (j * 4)
  | 0, _, i, hi => by omega
  | j + 1, hj, i, hi => by
    have ih := pan_lt hg j (by omega) i
    simp only [goodWorks, pansOk, Bool.and_eq_true, decide_eq_true_eq] at hg
    have h := allTo_at hj hg.1.1.1
    simp only [panStep, Bool.and_eq_true, Bool.or_eq_true, decide_eq_true_eq] at h
    have h2 : f (j * 4) < f ((j + 1) * 4) := by
      rcases h.2 with h | h
      · omega
      · simpa using h
    by_cases e : i = j
    · subst e; exact h2
    · have := ih (by omega); omega
theorem pan_find {f : Nat → Int} {n : Nat} {I H S P : Int} (hg : goodWorks f n I H S P = true) {j : Nat} (hj : j < n) : findV (pid f) (f (j * 4)) n 0 = (j : Int) := by
  rcases findV_cases (pid f) (f (j * 4)) n 0 with ⟨_, h⟩ | ⟨i, _, hi, e, hi2⟩
  · exact absurd (rfl : f (j * 4) = f (j * 4)) (h j (Nat.zero_le _) (by omega))
  · have hi2 : f (i * 4) = f (j * 4) := hi2
    rcases Nat.lt_trichotomy i j with h | h | h
    · have := pan_lt hg j hj i h; omega
    · rw [e, h]
    · have := pan_lt hg i (by omega) j h; omega
theorem pansB_size {f : Nat → Int} {n : Nat} {I H S P : Int} (hg : goodWorks f n I H S P = true) : ∀ {k : Nat}, k ≤ n → (pansB f k).size ≤ 100 * k
  | 0, _ => Nat.le_refl _
  | k + 1, hk => by
    have ih := pansB_size hg (k := k) (by omega)
    obtain ⟨hid0, hid1⟩ := pan_id hg (j := k) (by omega)
    obtain ⟨hh, hw_, hs_, _, _⟩ := good_pan hg (j := k) (by omega)
    have hy1 := numB_size (n := f (k * 4)) (by omega) (by omega)
    have hy2 := panB_size hh hw_ hs_
    simp only [pansB, lineP, ByteArray.size_append', ByteArray.size_mk', List.size_toArray, List.length_cons, List.length_nil]
    omega
end Go.Proofs.YtegklcapfjigaaaDoor
