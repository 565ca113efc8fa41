/-
  Plain laws of the log's lines: a valid log and a new line are read to one record more. No program in sight.
-/
import Derived.Test.YtbhhlnciojcgbaaDoorLinesP
namespace Go.Proofs.YtbhhlnciojcgbaaDoor
open Go.RowKit
set_option linter.unusedVariables false
set_option linter.unusedSimpArgs false
theorem app_list (a b : BA) : (a ++ b).data.toList = a.data.toList ++ b.data.toList := by rw [Joins.data_append]
theorem app_assoc (a b c : BA) : a ++ (b ++ c) = (a ++ b) ++ c := by apply ba_ext; simp only [app_list, List.append_assoc]
theorem extract_all (s : BA) : s.extract 0 s.size = s := by
  apply ba_ext
  rw [extract_list _ _ _ (Nat.le_refl _)]
  have hl : s.data.toList.length = s.size := size_list s
  rw [List.take_of_length_le (by omega)]; rfl
theorem rest_ext {all X : BA} {a : Nat} (ha : a ≤ all.size) (h : noByte (all.extract a all.size) 10 = false) :
    noByte ((all ++ X).extract a (all ++ X).size) 10 = false ∧ bef 10 ((all ++ X).extract a (all ++ X).size) = bef 10 (all.extract a all.size) := by
  have hx := split_eq h
  have hno := bef_no 10 (all.extract a all.size)
  generalize bef 10 (all.extract a all.size) = L at *
  generalize aft 10 (all.extract a all.size) = R at *
  have hl : all.data.toList.length = all.size := size_list all
  have hl2 : (all ++ X).data.toList.length = (all ++ X).size := size_list _
  have e1 : all.data.toList.drop a = L.data.toList ++ 10 :: R.data.toList := by
    have e := extract_list all a all.size (Nat.le_refl _)
    rw [List.take_of_length_le (by omega)] at e
    rw [← e, hx, app3_data]
  have e2 : ((all ++ X).extract a (all ++ X).size).data.toList = L.data.toList ++ 10 :: (R.data.toList ++ X.data.toList) := by
    rw [extract_list _ _ _ (Nat.le_refl _), List.take_of_length_le (by omega), app_list, List.drop_append, e1]
    rw [show a - all.data.toList.length = 0 by omega, List.drop_zero]
    simp
  have e4 : (all ++ X).extract a (all ++ X).size = (L ++ ⟨#[10]⟩) ++ (R ++ X) := by
    apply ba_ext; rw [e2, app3_data, app_list]
  constructor
  · exact no_false (by rw [e2]; simp)
  · rw [e4, bef_mk hno]
theorem stepR_ext {all X : BA} {m a b : Nat} {e : BA × BA} (ha : a ≤ all.size) (h : stepR all m a = some (e, b)) : stepR (all ++ X) m a = some (e, b) := by
  unfold stepR at h ⊢
  split at h
  · cases h
  · rename_i hn
    have hn' : noByte (all.extract a all.size) 10 = false := by simpa using hn
    obtain ⟨r1, r2⟩ := rest_ext (X := X) ha hn'
    rw [r1, r2]
    exact h
theorem readN_lmono (all : BA) (m : Nat) : ∀ d, (readN all m).1.length ≤ (readN all (m + d)).1.length
  | 0 => Nat.le_refl _
  | d + 1 => by
    refine Nat.le_trans (readN_lmono all m d) ?_
    show _ ≤ (readN all (m + d + 1)).1.length
    rw [readN_succ]
    split
    · exact Nat.le_refl _
    · split
      · exact Nat.le_refl _
      · simp
theorem readN_short {all : BA} {n : Nat} (h : (readN all n).1.length < n) : ∀ d, readN all (n + d) = readN all n
  | 0 => rfl
  | d + 1 => by
    have i := readN_short h d
    show readN all (n + d + 1) = _
    rw [readN_succ, i, if_pos (by omega)]
/-- All rounds up to the number of records have read one each; the rounds behind read none. -/
theorem readN_full {all : BA} {N z : Nat} (hz : (readN all N).1.length = z) : ∀ n, n ≤ z → (readN all n).1.length = n ∧ (n < z → ∃ e b, stepR all n (readN all n).2 = some (e, b)) := by
  intro n hn
  have hN : z ≤ N := by rw [← hz]; exact readN_len all N
  have hl : (readN all n).1.length = n := by
    have := readN_len all n
    by_cases h : (readN all n).1.length < n
    · have e := readN_short h (N - n)
      rw [show n + (N - n) = N by omega] at e
      rw [e] at hz; omega
    · omega
  refine ⟨hl, fun hlt => ?_⟩
  cases hs : stepR all n (readN all n).2 with
  | none =>
    have e := readN_stop hl hs (n := N) (by omega)
    rw [e] at hz; omega
  | some p => exact ⟨p.1, p.2, rfl⟩
theorem readN_last {all : BA} {N z : Nat} (hz : (readN all N).1.length = z) : readN all z = readN all N := by
  have hN : z ≤ N := by rw [← hz]; exact readN_len all N
  have hl := (readN_full hz z (Nat.le_refl _)).1
  by_cases e : z = N
  · rw [e]
  · cases hs : stepR all z (readN all z).2 with
    | none => exact (readN_stop hl hs hN).symm
    | some p =>
      have hy := readN_yes hl hs
      have h2 := readN_lmono all (z + 1) (N - (z + 1))
      rw [show z + 1 + (N - (z + 1)) = N by omega, hy, hz] at h2
      simp [hl] at h2
      omega
theorem readN_ext {all X : BA} {N z : Nat} (hN60 : N ≤ 60) (hz : (readN all N).1.length = z) : ∀ n, n ≤ z → readN (all ++ X) n = readN all n := by
  have hzN : z ≤ N := by rw [← hz]; exact readN_len all N
  intro n
  induction n with
  | zero => intro _; rfl
  | succ n ih =>
    intro hn
    have i := ih (by omega)
    obtain ⟨hl, hs⟩ := readN_full hz n (by omega)
    obtain ⟨e, b, hs⟩ := hs (by omega)
    have ha := (readN_at all n (by omega)).1
    have hs2 := stepR_ext (X := X) ha hs
    rw [readN_yes hl hs, readN_yes (by rw [i]; exact hl) (by rw [i]; exact hs2), i]
theorem stepR_line {all : BA} {k : Nat} {c r : BA} (h1 : k ≤ 59) (hg : goodRec c r = true) : stepR (all ++ lineB k c r) k all.size = some ((c, r), (all ++ lineB k c r).size) := by
  have hno := seal_no (k := (k : Int)) (by omega) hg
  have hli : lineIs k c r (sealB (bodyB k c r)) = true := by simp [lineIs, hg]
  have e1 : lineB k c r = (sealB (bodyB k c r) ++ ⟨#[10]⟩) ++ ⟨#[]⟩ := by rw [app_nil]; rfl
  have hsz : (lineB k c r).size = (sealB (bodyB k c r)).size + 1 := by simp only [lineB, ByteArray.size_append', ByteArray.size_mk', List.size_toArray, List.length_cons, List.length_nil]
  have e3 : noByte (lineB k c r) 10 = false := no_false (by rw [e1, app3_data]; simp)
  have e4 : bef 10 (lineB k c r) = sealB (bodyB k c r) := by rw [e1, bef_mk hno]
  unfold stepR
  rw [ext_right rfl, e3, e4, dec_of_is (by omega) hli]
  simp only [ByteArray.size_append', hsz]
  rfl
/-- A valid log and its new line are read to one record more. -/
theorem app_read {D P c r : BA} {z : Int} (h : logOk D P z = true) (hg : goodRec c r = true) (hz : z ≠ 60) :
    readN (D ++ (P ++ lineB z c r)) 60 = ((readN (D ++ P) 60).1 ++ [(c, r)], (D ++ (P ++ lineB z c r)).size) := by
  have hc := logOk_cnt h
  simp only [logOk, Bool.and_eq_true, decide_eq_true_eq] at h
  obtain ⟨⟨h1, h2⟩, h3⟩ := h
  rw [app_assoc]
  generalize D ++ P = all at h1 h3 ⊢
  generalize hk : (readN all 60).1.length = k at h3
  subst h3
  have hk59 : k ≤ 59 := by omega
  have hlast := readN_last hk
  have hext := readN_ext (X := lineB (k : Int) c r) (Nat.le_refl 60) hk k (Nat.le_refl _)
  have hs := stepR_line (all := all) hk59 hg
  have hy := readN_yes (all := all ++ lineB (k : Int) c r) (m := k) (by rw [hext, hlast]; exact hk) (by rw [hext, hlast, h1]; exact hs)
  rw [hext, hlast] at hy
  have hst := readN_stop (all := all ++ lineB (k : Int) c r) (m := k + 1) (n := 60) (by rw [hy]; simp [hk]) (by rw [hy]; exact stepR_end) (by omega)
  rw [hst, hy]
theorem app_ok {D P c r : BA} {z : Int} (h : logOk D P z = true) (hg : goodRec c r = true) (hz : z ≠ 60) : logOk D (P ++ lineB z c r) (z + 1) = true := by
  have ha := app_read h hg hz
  simp only [logOk, Bool.and_eq_true, decide_eq_true_eq] at h ⊢
  obtain ⟨⟨h1, h2⟩, h3⟩ := h
  rw [ha]
  exact ⟨⟨rfl, h2⟩, by simp; exact h3⟩
end Go.Proofs.YtbhhlnciojcgbaaDoor
