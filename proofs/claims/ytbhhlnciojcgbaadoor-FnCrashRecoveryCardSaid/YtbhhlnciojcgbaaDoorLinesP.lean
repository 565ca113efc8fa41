/-
  Plain laws of the log's lines: a recovered log is read again to its end; an encoded line is read at its own place alone. No program in sight.
-/
import Derived.Test.YtbhhlnciojcgbaaDoorLogP
import Derived.Test.YtbhhlnciojcgbaaDoorLogI
import Derived.Test.YtbhhlnciojcgbaaDoorLogG
namespace Go.Proofs.YtbhhlnciojcgbaaDoor
open Go.RowKit
set_option linter.unusedVariables false
set_option linter.unusedSimpArgs false
theorem bef_no (c : UInt8) (s : BA) : noByte (bef c s) c = true := by
  rw [noByte_iff, bef_data]
  intro h
  have h2 : ∀ (l : List UInt8), c ∉ l.takeWhile (· != c) := by
    intro l
    induction l with
    | nil => simp
    | cons a l ih =>
      rw [List.takeWhile_cons]
      split
      · rename_i ha
        intro hm
        rcases List.mem_cons.1 hm with e | e
        · simp [e] at ha
        · exact ih e
      · simp
  exact h2 _ h
theorem no_false {s : BA} {c : UInt8} (h : c ∈ s.data.toList) : noByte s c = false := by
  cases hn : noByte s c with
  | false => rfl
  | true => exact absurd h ((noByte_iff s c).1 hn)
theorem extract_list (s : BA) (a b : Nat) (hb : b ≤ s.size) : (s.extract a b).data.toList = (s.data.toList.take b).drop a := by
  simp [ByteArray.data_extract, Array.toList_extract, List.extract_eq_take_drop, List.drop_take]
/-- The rest of a shorter text begins as the rest of the longer one. -/
theorem rest_cut {all : BA} {a B : Nat} (hB : B ≤ all.size) (h : noByte (all.extract a all.size) 10 = false) (hL : a + (bef 10 (all.extract a all.size)).size + 1 ≤ B) :
    noByte ((all.extract 0 B).extract a (all.extract 0 B).size) 10 = false ∧ bef 10 ((all.extract 0 B).extract a (all.extract 0 B).size) = bef 10 (all.extract a all.size) := by
  have hs : (all.extract 0 B).size = B := by simp [ByteArray.size_extract]; omega
  rw [hs]
  have hx := split_eq h
  have hno := bef_no 10 (all.extract a all.size)
  generalize bef 10 (all.extract a all.size) = L at *
  generalize aft 10 (all.extract a all.size) = R at *
  have e1 : (all.extract a all.size).data.toList = L.data.toList ++ 10 :: R.data.toList := by rw [hx, app3_data]
  have e2 : ((all.extract 0 B).extract a B).data.toList = (all.extract a all.size).data.toList.take (B - a) := by
    rw [extract_list _ _ _ (by omega), extract_list _ _ _ hB, extract_list _ _ _ (Nat.le_refl _)]
    have hl : all.data.toList.length = all.size := size_list all
    simp only [List.drop_zero, List.take_take, Nat.min_self]
    rw [show all.data.toList.take all.size = all.data.toList from List.take_of_length_le (by omega), List.drop_take]
  have e3 : ((all.extract 0 B).extract a B).data.toList = L.data.toList ++ 10 :: R.data.toList.take (B - a - L.size - 1) := by
    have hl : L.data.toList.length = L.size := size_list L
    rw [e2, e1, List.take_append, hl]
    have h1 : L.data.toList.take (B - a) = L.data.toList := List.take_of_length_le (by omega)
    rw [h1]
    obtain ⟨q, hq⟩ : ∃ q, B - a - L.size = q + 1 := ⟨B - a - L.size - 1, by omega⟩
    rw [hq, List.take_succ_cons]
    rfl
  have e4 : (all.extract 0 B).extract a B = (L ++ ⟨#[10]⟩) ++ ⟨(R.data.toList.take (B - a - L.size - 1)).toArray⟩ := by
    apply ba_ext; rw [e3, app3_data]
  constructor
  · exact no_false (by rw [e3]; simp)
  · rw [e4, bef_mk hno]
theorem stepR_cut {all : BA} {m a b B : Nat} {e : BA × BA} (hB : B ≤ all.size) (h : stepR all m a = some (e, b)) (hb : b ≤ B) : stepR (all.extract 0 B) m a = some (e, b) := by
  unfold stepR at h ⊢
  split at h
  · cases h
  · rename_i hn
    have hn' : noByte (all.extract a all.size) 10 = false := by simpa using hn
    obtain ⟨e', he, h2⟩ := Option.map_eq_some_iff.1 h
    obtain ⟨rfl, rfl⟩ := Prod.mk.inj h2
    obtain ⟨r1, r2⟩ := rest_cut hB hn' hb
    rw [r1, r2, he]
    rfl
theorem stepR_end {all : BA} {m : Nat} : stepR all m all.size = none := by
  unfold stepR
  have : noByte (all.extract all.size all.size) 10 = true := by
    rw [noByte_iff, extract_list _ _ _ (Nat.le_refl _)]
    have hl : all.data.toList.length = all.size := size_list all
    rw [List.take_of_length_le (by omega), ← hl, List.drop_length]
    simp
  rw [if_pos this]
theorem readN_mono (all : BA) : ∀ d m, m + d ≤ 60 → (readN all m).2 ≤ (readN all (m + d)).2
  | 0, m, _ => Nat.le_refl _
  | d + 1, m, h => by
    refine Nat.le_trans (readN_mono all d m (by omega)) ?_
    show _ ≤ (readN all (m + d + 1)).2
    rw [readN_succ]
    split
    · exact Nat.le_refl _
    · split
      · exact Nat.le_refl _
      · rename_i e a hs
        exact Nat.le_of_lt (stepR_at (readN_at all (m + d) (by omega)).1 (by omega) hs).2.2
theorem readN_cutB (all : BA) (B N : Nat) (hN : N = 60) (hBB : (readN all N).2 = B) : ∀ n, n ≤ N → readN (all.extract 0 B) n = readN all n := by
  have hB : B ≤ all.size := by rw [← hBB]; exact (readN_at all N (by omega)).1
  intro n
  induction n with
  | zero => intro _; rfl
  | succ n ih =>
    intro hn
    have i := ih (by omega)
    have hm := readN_mono all (N - (n + 1)) (n + 1) (by omega)
    rw [show n + 1 + (N - (n + 1)) = N by omega, hBB] at hm
    rw [readN_succ (all.extract 0 B) n, i]
    by_cases hl : (readN all n).1.length < n
    · rw [if_pos hl, readN_succ all n, if_pos hl]
    · rw [if_neg hl]
      have hlen : (readN all n).1.length = n := by have := readN_len all n; omega
      cases hs : stepR all n (readN all n).2 with
      | none =>
        have e := readN_stop hlen hs (n := N) (by omega)
        have e1 := readN_stop hlen hs (n := n + 1) (by omega)
        have hsz : (all.extract 0 B).size = (readN all n).2 := by rw [← e, hBB]; simp [ByteArray.size_extract]; omega
        have he := stepR_end (all := all.extract 0 B) (m := n)
        rw [hsz] at he
        rw [he, e1]
      | some p =>
        obtain ⟨e, a⟩ := p
        have hy := readN_yes hlen hs
        rw [hy] at hm
        rw [stepR_cut hB hs hm, hy]
theorem readN_cut (all : BA) : readN (all.extract 0 (readN all 60).2) 60 = readN all 60 := readN_cutB all _ 60 rfl rfl 60 (Nat.le_refl _)
theorem app_nil (D : BA) : D ++ (⟨#[]⟩ : BA) = D := by apply ba_ext; rw [Joins.data_append]; simp
/-- A log that was recovered is valid. -/
theorem rec_ok {s : BA} (h : recOk s = true) : logOk (recD s) ⟨#[]⟩ (recC s) = true := by
  have hB := (readN_at s 60 (Nat.le_refl _)).1
  have hc := readN_cut s
  have hsz : (s.extract 0 (readN s 60).2).size = (readN s 60).2 := by simp [ByteArray.size_extract]; omega
  simp only [logOk, recD, recC, h, if_true, app_nil, hc, hsz, decide_true, Bool.and_self]
theorem numB_ne0 {k : Int} (h0 : 1 ≤ k) (h1 : k ≤ 59) : numB k ≠ numB 0 := by
  obtain ⟨n, rfl⟩ : ∃ n : Nat, k = (n : Int) := ⟨k.toNat, by omega⟩
  have e0 : numB 0 = ⟨#[UInt8.ofNat 48]⟩ := numB_one (n := 0) (by omega)
  rw [e0]
  intro e
  by_cases h : n < 10
  · rw [numB_one h] at e
    have e2 : UInt8.ofNat (48 + n) = UInt8.ofNat 48 := by simpa using congrArg (fun b : BA => b.data.toList) e
    have e3 := congrArg UInt8.toNat e2
    simp only [UInt8.toNat_ofNat'] at e3
    omega
  · have hs := numB_step (q := n / 10) (r := n % 10) (by omega) (by omega)
    rw [show 10 * (n / 10) + n % 10 = n by omega] at hs
    rw [← hs, numB_one (n := n / 10) (by omega)] at e
    have e2 := congrArg (fun b : BA => b.data.toList.length) e
    simp [Joins.data_append] at e2
theorem seal_no {k : Int} {c r : BA} (h0 : 0 ≤ k) (hg : goodRec c r = true) : noByte (sealB (bodyB k c r)) 10 = true := by
  obtain ⟨_, _, _, pc, pr, _⟩ := goodRec_facts hg
  have hsum := (sumTo_ok (bodyB k c r) (bodyB k c r).size).1
  rw [noByte_iff]
  intro h
  simp only [sealB, bodyB] at h
  simp only [mem_append_data] at h
  rcases h with (((((h | h) | h) | h) | h) | h) | h
  · have := numB_byte h0 h; revert this; decide
  · revert h; decide
  · have := plain_byte pc h; revert this; decide
  · revert h; decide
  · have := plain_byte pr h; revert this; decide
  · revert h; decide
  · have := numB_byte hsum h; revert this; decide
/-- An encoded line is read at its own place alone. -/
theorem line_read {k : Int} {c r : BA} (h0 : 0 ≤ k) (h1 : k ≤ 59) (hg : goodRec c r = true) :
    readN (lineB k c r) 60 = if k = 0 then ([(c, r)], (lineB k c r).size) else ([], 0) := by
  have hno := seal_no h0 hg
  have hli : lineIs k c r (sealB (bodyB k c r)) = true := by simp [lineIs, hg]
  have e1 : lineB k c r = (sealB (bodyB k c r) ++ ⟨#[10]⟩) ++ ⟨#[]⟩ := by rw [app_nil]; rfl
  have hsz : (lineB k c r).size = (sealB (bodyB k c r)).size + 1 := by simp only [lineB, ByteArray.size_append', ByteArray.size_mk', List.size_toArray, List.length_cons, List.length_nil]
  have e2 : (lineB k c r).extract 0 (lineB k c r).size = lineB k c r := by
    apply ba_ext
    rw [extract_list _ _ _ (Nat.le_refl _)]
    have hl : (lineB k c r).data.toList.length = (lineB k c r).size := size_list _
    rw [List.take_of_length_le (by omega)]; rfl
  have e3 : noByte (lineB k c r) 10 = false := no_false (by rw [e1, app3_data]; simp)
  have e4 : bef 10 (lineB k c r) = sealB (bodyB k c r) := by rw [e1, bef_mk hno]
  by_cases hk : k = 0
  · subst hk
    rw [if_pos rfl]
    have s0 : stepR (lineB 0 c r) 0 0 = some ((c, r), (lineB 0 c r).size) := by
      unfold stepR
      rw [e2, e3, e4]
      have hd := dec_of_is (k := ((0 : Nat) : Int)) (Int.le_refl _) hli
      rw [hd, hsz]
      simp
    have r1 := readN_yes (all := lineB 0 c r) (m := 0) rfl s0
    have r2 := readN_stop (all := lineB 0 c r) (m := 1) (n := 60) (by rw [r1]; rfl) (by rw [r1]; exact stepR_end) (by omega)
    rw [r2, r1]
    rfl
  · rw [if_neg hk]
    have s0 : stepR (lineB k c r) 0 0 = none := by
      unfold stepR
      rw [e2, e3, e4]
      cases hd : dec ((0 : Nat) : Int) (sealB (bodyB k c r)) with
      | none => rfl
      | some e =>
        exfalso
        have hi := dec_some hd
        have p1 := (line_parts (Int.le_refl _) hi).2.1
        have p2 := (line_parts h0 hli).2.1
        rw [p2, body_assoc, body_assoc] at p1
        have p3 := congrArg (bef 32) p1
        rw [bef_mk (numB_no h0), bef_mk (numB_no (Int.le_refl _))] at p3
        exact numB_ne0 (by omega) h1 p3
    exact readN_stop (all := lineB k c r) (m := 0) (n := 60) rfl s0 (by omega)
end Go.Proofs.YtbhhlnciojcgbaaDoor
