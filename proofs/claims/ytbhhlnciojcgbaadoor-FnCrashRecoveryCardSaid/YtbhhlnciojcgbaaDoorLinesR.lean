/-
  Plain laws of a crashed log: what is read back is a beginning of the log's records, and it reaches the durable end. No program in sight.
-/
import Derived.Test.YtbhhlnciojcgbaaDoorLinesQ
import Derived.Test.YtbhhlnciojcgbaaDoorLogJ
import Derived.Test.YtbhhlnciojcgbaaDoorLogK
namespace Go.Proofs.YtbhhlnciojcgbaaDoor
open Go.RowKit
set_option linter.unusedVariables false
set_option linter.unusedSimpArgs false
theorem line_ascii {k : Int} {c r : BA} (h0 : 0 ≤ k) (hg : goodRec c r = true) : ∀ b ∈ (sealB (bodyB k c r)).data.toList, b.toNat < 128 := by
  intro b hb
  obtain ⟨_, _, _, hp, hq, _⟩ := goodRec_facts hg
  have h1 := (sumTo_ok (bodyB k c r) (bodyB k c r).size).1
  unfold sealB at hb
  generalize sumTo (bodyB k c r) (bodyB k c r).size = u at hb h1
  simp only [bodyB, mem_append_data] at hb
  rcases hb with (((((h | h) | h) | h) | h) | h) | h
  · have := numB_byte h0 h; omega
  · simp at h; subst h; decide
  · have := plain_byte hp h; omega
  · simp at h; subst h; decide
  · have := plain_byte hq h; omega
  · simp at h; subst h; decide
  · have := numB_byte h1 h; omega
theorem step_list {all : BA} {m a b : Nat} {e : BA × BA} (ha : a ≤ all.size) (h : stepR all m a = some (e, b)) :
    ∃ L R : BA, lineIs m e.1 e.2 L = true ∧ b = a + L.size + 1 ∧ all.data.toList.drop a = L.data.toList ++ 10 :: R.data.toList := by
  unfold stepR at h
  split at h
  · cases h
  · rename_i hn
    have hn' : noByte (all.extract a all.size) 10 = false := by simpa using hn
    obtain ⟨e', he, h2⟩ := Option.map_eq_some_iff.1 h
    obtain ⟨rfl, rfl⟩ := Prod.mk.inj h2
    have hi := dec_some he
    have hx := split_eq hn'
    have hl : all.data.toList.length = all.size := size_list all
    refine ⟨bef 10 (all.extract a all.size), aft 10 (all.extract a all.size), hi, rfl, ?_⟩
    have e := extract_list all a all.size (Nat.le_refl _)
    rw [List.take_of_length_le (by omega)] at e
    rw [← e, ← app3_data, ← hx]
theorem step_ascii {all : BA} {m a b : Nat} {e : BA × BA} (ha : a ≤ all.size) (h : stepR all m a = some (e, b)) (i : ∀ x ∈ all.data.toList.take a, x.toNat < 128) : ∀ x ∈ all.data.toList.take b, x.toNat < 128 := by
  obtain ⟨L, R, hi, rfl, hd⟩ := step_list ha h
  simp only [lineIs, Bool.and_eq_true, decide_eq_true_eq] at hi
  have hl : L.data.toList.length = L.size := size_list L
  intro x hx
  rw [show a + L.size + 1 = a + (L.size + 1) by omega, List.take_add, hd, List.take_append, List.take_of_length_le (l := L.data.toList) (by omega), show L.size + 1 - L.data.toList.length = 1 by omega] at hx
  rcases List.mem_append.1 hx with hx | hx
  · exact i x hx
  · rcases List.mem_append.1 hx with hx | hx
    · rw [← hi.2] at hx
      exact line_ascii (Int.natCast_nonneg m) hi.1 x hx
    · simp at hx; subst hx; decide
theorem readN_ascii (all : BA) : ∀ n, n ≤ 60 → ∀ x ∈ all.data.toList.take (readN all n).2, x.toNat < 128
  | 0, _ => by intro x hx; simp [readN] at hx
  | n + 1, hn => by
    have i := readN_ascii all n (by omega)
    rw [readN_succ]
    split
    · exact i
    · split
      · exact i
      · rename_i e a hs
        exact step_ascii (readN_at all n (by omega)).1 hs i
theorem readN_pre (all : BA) (m : Nat) : ∀ d, ∃ T, (readN all (m + d)).1 = (readN all m).1 ++ T
  | 0 => ⟨[], by simp⟩
  | d + 1 => by
    obtain ⟨T, hT⟩ := readN_pre all m d
    show ∃ T, (readN all (m + d + 1)).1 = _
    rw [readN_succ]
    split
    · exact ⟨T, hT⟩
    · split
      · exact ⟨T, hT⟩
      · rename_i e a hs
        exact ⟨T ++ [e], by rw [hT]; simp⟩
theorem readN_sim {s all : BA} (H : ∀ n a e b, n ≤ 59 → a ≤ s.size → stepR s n a = some (e, b) → stepR all n a = some (e, b)) : ∀ n, n ≤ 60 → ∃ m, m ≤ n ∧ readN s n = readN all m ∧ (readN all m).1.length = m
  | 0, _ => ⟨0, Nat.le_refl _, rfl, rfl⟩
  | n + 1, hn => by
    obtain ⟨m, hm, he, hl⟩ := readN_sim H n (by omega)
    rw [readN_succ]
    by_cases hlt : m < n
    · rw [if_pos (by rw [he, hl]; exact hlt)]
      exact ⟨m, by omega, he, hl⟩
    · obtain rfl : m = n := by omega
      rw [if_neg (by rw [he, hl]; omega)]
      have ha := (readN_at s m (by omega)).1
      cases hs : stepR s m (readN s m).2 with
      | none => exact ⟨m, by omega, he, hl⟩
      | some p =>
        obtain ⟨e, b⟩ := p
        have h2 := H _ _ _ _ (by omega) ha hs
        rw [he] at h2
        have hy := readN_yes hl h2
        exact ⟨m + 1, Nat.le_refl _, by rw [hy, he], by rw [hy]; simp [hl]⟩
theorem sim_torn {U X : BA} {y : UInt8} (hy : y ≠ 10) : ∀ n a e b, n ≤ 59 → a ≤ (U ++ ⟨#[y]⟩).size → stepR (U ++ ⟨#[y]⟩) n a = some (e, b) → stepR (U ++ X) n a = some (e, b) := by
  intro n a e b hn ha h
  obtain ⟨h1, _, h2⟩ := stepR_at ha hn h
  have hsz : (U ++ (⟨#[y]⟩ : BA)).size = U.size + 1 := by rw [size_app]; rfl
  by_cases hb : b ≤ U.size
  · have h3 := stepR_cut (B := U.size) (by omega) h hb
    rw [ext_left] at h3
    exact stepR_ext (by omega) h3
  · exfalso
    obtain ⟨L, R, _, hbb, hd⟩ := step_list ha h
    have hl : L.data.toList.length = L.size := size_list L
    have hlu : (U ++ (⟨#[y]⟩ : BA)).data.toList.length = (U ++ (⟨#[y]⟩ : BA)).size := size_list _
    have hlen := congrArg List.length hd
    rw [List.length_drop, hlu, List.length_append, List.length_cons, hl] at hlen
    have hR : R.data.toList = [] := List.eq_nil_of_length_eq_zero (by omega)
    rw [hR] at hd
    have e1 := List.take_append_drop a (U ++ (⟨#[y]⟩ : BA)).data.toList
    rw [hd, app_list] at e1
    have e2 := congrArg List.getLast? e1
    simp at e2
    exact hy e2.symm
/-- What a crash leaves is read to a beginning of the log's records, at least to the durable end. -/
theorem crash_facts {D P : BA} {z : Int} {n : Nat} {torn : Bool} (h : logOk D P z = true) (hn : n ≤ P.size) :
    (D ++ crB P n torn).size ≤ 24780 ∧ D.size ≤ (readN (D ++ crB P n torn) 60).2 ∧ (readN (D ++ crB P n torn) 60).2 ≤ (D ++ crB P n torn).size ∧
      ∃ T, (readN (D ++ P) 60).1 = (readN (D ++ crB P n torn) 60).1 ++ T := by
  have hsz := logOk_size h
  simp only [logOk, Bool.and_eq_true, decide_eq_true_eq] at h
  obtain ⟨⟨h1, h2⟩, _⟩ := h
  have hcs : (crB P n torn).size = n := by
    have e := crL_len P n torn hn
    show (crL P n torn).toArray.size = n
    simpa using e
  refine ⟨by rw [size_app, hcs]; omega, ?_, (readN_at _ 60 (Nat.le_refl _)).1, ?_⟩
  · have hl60 := readN_len D 60
    have e1 := readN_ext (X := crB P n torn) (Nat.le_refl 60) (rfl : (readN D 60).1.length = _) _ (Nat.le_refl _)
    have e2 := readN_last (rfl : (readN D 60).1.length = _)
    have e3 := readN_mono (D ++ crB P n torn) (60 - (readN D 60).1.length) (readN D 60).1.length (by omega)
    rw [show (readN D 60).1.length + (60 - (readN D 60).1.length) = 60 by omega, e1, e2, h2] at e3
    exact e3
  · have hsim : ∀ k a e b, k ≤ 59 → a ≤ (D ++ crB P n torn).size → stepR (D ++ crB P n torn) k a = some (e, b) → stepR (D ++ P) k a = some (e, b) := by
      have hPx : P.data.toList = (P.extract 0 n).data.toList ++ P.data.toList.drop n := by
        rw [extract_list _ _ _ hn, List.drop_zero, List.take_append_drop]
      have hTl : (P.extract 0 n).data.toList.length = n := by rw [size_list]; simp [ByteArray.size_extract]; omega
      by_cases ht : (torn && decide (0 < n)) = true
      · have ht2 : torn = true ∧ 0 < n := by simpa using ht
        obtain ⟨q, rfl⟩ : ∃ q, n = q + 1 := ⟨n - 1, by omega⟩
        generalize hT : (P.extract 0 (q + 1)).data.toList = T at hPx hTl
        have hTs : T = T.take q ++ [T.getD q 0] := by
          have e := List.take_append_drop q T
          have hd : T.drop q = [T.getD q 0] := by
            have hq : q < T.length := by omega
            rw [List.drop_eq_getElem_cons hq, List.drop_of_length_le (by omega)]
            simp [List.getD, List.getElem?_eq_getElem hq]
          rw [hd] at e; exact e.symm
        have hc : (crB P (q + 1) torn).data.toList = T.take q ++ [255 - T.getD q 0] := by
          show ((crL P (q + 1) torn).toArray).toList = _
          simp only [crL, ht, if_true, hT, List.toList_toArray]
          rw [show q + 1 - 1 = q by omega, List.set_eq_take_append_cons_drop, if_pos (by omega), List.drop_of_length_le (by omega)]
        have hasc := readN_ascii (D ++ P) 60 (Nat.le_refl _)
        rw [h1, List.take_of_length_le (by rw [size_list]; exact Nat.le_refl _)] at hasc
        generalize T.getD q 0 = b at hTs hc
        have hP2 : P.data.toList = T.take q ++ [b] ++ P.data.toList.drop (q + 1) := by rw [← hTs]; exact hPx
        have hmem : b ∈ (D ++ P).data.toList := by rw [app_list, hP2]; simp
        have hlt := hasc _ hmem
        have hy : (255 - b) ≠ (10 : UInt8) := by
          intro e
          have e2 := congrArg UInt8.toNat e
          have hb : b ≤ 255 := by rw [UInt8.le_iff_toNat_le]; show b.toNat ≤ 255; omega
          rw [UInt8.toNat_sub_of_le _ _ hb] at e2
          have e3 : (255 : UInt8).toNat - b.toNat = 10 := e2
          have e4 : (255 : UInt8).toNat = 255 := rfl
          omega
        have eS : D ++ crB P (q + 1) torn = (D ++ ⟨(T.take q).toArray⟩) ++ ⟨#[255 - b]⟩ := by
          apply ba_ext; simp only [app_list, hc, List.append_assoc]
        have eA : D ++ P = (D ++ ⟨(T.take q).toArray⟩) ++ ⟨(b :: P.data.toList.drop (q + 1)).toArray⟩ := by
          apply ba_ext
          simp only [app_list]
          generalize P.data.toList.drop (q + 1) = R at hP2 ⊢
          rw [hP2]
          simp [List.append_assoc]
        rw [eS, eA]
        exact sim_torn hy
      · have hc : crB P n torn = P.extract 0 n := by
          apply ba_ext
          show ((crL P n torn).toArray).toList = _
          simp only [crL, ht, List.toList_toArray]
          rfl
        rw [hc]
        intro k a e b _ ha hs
        have eA : D ++ P = (D ++ P.extract 0 n) ++ ⟨(P.data.toList.drop n).toArray⟩ := by
          apply ba_ext
          simp only [app_list, List.append_assoc]
          rw [← hPx]
        rw [eA]
        exact stepR_ext ha hs
    obtain ⟨m, hm, he, hl⟩ := readN_sim hsim 60 (Nat.le_refl _)
    obtain ⟨T, hT⟩ := readN_pre (D ++ P) m (60 - m)
    rw [show m + (60 - m) = 60 by omega] at hT
    exact ⟨T, by rw [hT, he]⟩
theorem flatR_app' (L M : List (BA × BA)) : flatR (L ++ M) = flatR L ++ flatR M := by
  induction L with
  | nil => rfl
  | cons a L ih => simp [flatR, ih]
theorem flatR_len' (L : List (BA × BA)) : (flatR L).length = L.length * 2 := by
  induction L with
  | nil => rfl
  | cons a L ih => simp [flatR, ih]; omega
theorem crash_no {D P s : BA} {z k : Int} {torn : Bool} (hs : s = crS D P z k torn) (hok : crT D P z k = false) : s = ⟨#[]⟩ := by
  rw [hs]; simp [crS, hok]
/-- What the law asks of a crashed log. -/
theorem crash_yes {D P s : BA} {z k : Int} {torn : Bool} (hs : s = crS D P z k torn) (hok : crT D P z k = true) :
    ∃ n m R : Nat, logOk D P z = true ∧ s.size ≤ 30000 ∧ lrN D P z = n ∧ lrN (recD s) ⟨#[]⟩ (recC s) = m ∧ m ≤ n ∧ n ≤ 60 ∧ (∀ j, j < m * 2 → lrF (recD s) ⟨#[]⟩ j = lrF D P j) ∧
      recR s = (R : Int) ∧ D.size ≤ R ∧ R ≤ s.size ∧ s.extract 0 R = recD s ∧ recOk s = true ∧ logOk (recD s) ⟨#[]⟩ (recC s) = true ∧ (recD s).size ≤ 30000 := by
  have h2 : logOk D P z = true ∧ inR k 0 (P.size : Int) = true := by simpa [crT] using hok
  obtain ⟨hl, hk⟩ := h2
  have hk2 : 0 ≤ k ∧ k ≤ (P.size : Int) := by simpa [inR] using hk
  have hs2 : s = D ++ crB P k.toNat torn := by rw [hs]; simp [crS, hok]
  obtain ⟨c1, c2, c3, T, hT⟩ := crash_facts (torn := torn) hl (show k.toNat ≤ P.size by omega)
  rw [← hs2] at c1 c2 c3 hT
  have hro : recOk s = true := by simp [recOk]; omega
  have hlo := rec_ok hro
  have hcut := readN_cut s
  have hD : recD s = s.extract 0 (readN s 60).2 := by simp [recD, hro]
  have hm : (readN (recD s ++ (⟨#[]⟩ : BA)) 60).1 = (readN s 60).1 := by rw [app_nil, hD, hcut]
  have hlen := congrArg List.length hT
  rw [List.length_append] at hlen
  have hln := readN_len (D ++ P) 60
  refine ⟨(readN (D ++ P) 60).1.length, (readN s 60).1.length, (readN s 60).2, hl, by omega, by simp [lrN, hl], ?_, by omega, by omega, ?_, by simp [recR, hro], c2, c3, hD.symm, hro, hlo, ?_⟩
  · simp only [lrN, hlo, if_true, hm]
  · intro j hj
    have hfl := flatR_len' (readN s 60).1
    simp only [lrF, hm, hT, flatR_app']
    simp only [List.getD]; rw [List.getElem?_append_left (by omega)]
  · rw [hD]; simp [ByteArray.size_extract]; omega
end Go.Proofs.YtbhhlnciojcgbaaDoor
