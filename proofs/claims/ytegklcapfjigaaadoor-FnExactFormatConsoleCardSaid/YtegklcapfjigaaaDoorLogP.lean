/-
  Plain laws about the lines of a log: a line decodes to at most one record; what the reader has read behind some rounds. No program in sight.
-/
import Derived.Test.YtegklcapfjigaaaDoorLogB
import Derived.Lib.IndexMore
import Derived.Lib.IndexLaws
namespace Go.Proofs.YtegklcapfjigaaaDoor
open Go.RowKit
set_option linter.unusedVariables false
set_option linter.unusedSimpArgs false
abbrev BA := ByteArray
theorem ba_ext {a b : BA} (h : a.data.toList = b.data.toList) : a = b := ByteArray.ext (Array.toList_inj.1 h)
theorem toList_beq (a b : BA) : (a.toList == b.toList) = decide (a = b) := by
  rw [ByteArray.toList_eq, ByteArray.toList_eq, Bool.eq_iff_iff]
  simp only [beq_iff_eq, decide_eq_true_eq]
  exact ⟨ba_ext, fun h => by rw [h]⟩
def bef (c : UInt8) (s : BA) : BA := ⟨(s.data.toList.takeWhile (· != c)).toArray⟩
def aft (c : UInt8) (s : BA) : BA := ⟨((s.data.toList.dropWhile (· != c)).drop 1).toArray⟩
theorem bef_data (c : UInt8) (s : BA) : (bef c s).data.toList = s.data.toList.takeWhile (· != c) := by simp [bef]
theorem aft_data (c : UInt8) (s : BA) : (aft c s).data.toList = (s.data.toList.dropWhile (· != c)).drop 1 := by simp [aft]
theorem take_all {c : UInt8} {l : List UInt8} (h : c ∉ l) : l.takeWhile (· != c) = l ∧ l.dropWhile (· != c) = [] := by
  induction l with
  | nil => simp
  | cons b l ih =>
    have hb : (b != c) = true := by simp; intro e; exact h (by simp [e])
    obtain ⟨i1, i2⟩ := ih (fun hm => h (by simp [hm]))
    rw [List.takeWhile_cons, List.dropWhile_cons, hb]
    simp [i1, i2]
theorem take_app {c : UInt8} {a b : List UInt8} (h : c ∉ a) : (a ++ c :: b).takeWhile (· != c) = a ∧ ((a ++ c :: b).dropWhile (· != c)).drop 1 = b := by
  induction a with
  | nil => simp
  | cons x a ih =>
    have hb : (x != c) = true := by simp; intro e; exact h (by simp [e])
    obtain ⟨i1, i2⟩ := ih (fun hm => h (by simp [hm]))
    rw [List.cons_append, List.takeWhile_cons, List.dropWhile_cons, hb]
    simp only [if_true, i1]
    exact ⟨trivial, i2⟩
theorem split_list {c : UInt8} {l : List UInt8} (h : c ∈ l) : l = l.takeWhile (· != c) ++ c :: (l.dropWhile (· != c)).drop 1 := by
  induction l with
  | nil => simp at h
  | cons b l ih =>
    rw [List.takeWhile_cons, List.dropWhile_cons]
    by_cases e : b = c
    · subst e; simp
    · have hb : (b != c) = true := by simpa using e
      have hm : c ∈ l := by rcases List.mem_cons.1 h with h | h; · exact absurd h.symm e
                            · exact h
      simp only [hb, if_true, List.cons_append]
      rw [← ih hm]
theorem app3_data (a b : BA) (c : UInt8) : ((a ++ ⟨#[c]⟩) ++ b).data.toList = a.data.toList ++ c :: b.data.toList := by
  rw [Joins.data_append, Joins.data_append]; simp
theorem bef_mk {a b : BA} {c : UInt8} (h : noByte a c = true) : bef c ((a ++ ⟨#[c]⟩) ++ b) = a := by
  apply ba_ext; rw [bef_data, app3_data]; exact (take_app ((noByte_iff a c).1 h)).1
theorem aft_mk {a b : BA} {c : UInt8} (h : noByte a c = true) : aft c ((a ++ ⟨#[c]⟩) ++ b) = b := by
  apply ba_ext; rw [aft_data, app3_data]; exact (take_app ((noByte_iff a c).1 h)).2
theorem bef_all {s : BA} {c : UInt8} (h : noByte s c = true) : bef c s = s := by
  apply ba_ext; rw [bef_data]; exact (take_all ((noByte_iff s c).1 h)).1
theorem split_eq {s : BA} {c : UInt8} (h : noByte s c = false) : s = (bef c s ++ ⟨#[c]⟩) ++ aft c s := by
  apply ba_ext
  rw [app3_data, bef_data, aft_data]
  refine split_list ?_
  refine Classical.byContradiction fun hn => ?_
  rw [(noByte_iff s c).2 hn] at h
  cases h
theorem size_app (a b : BA) : (a ++ b).size = a.size + b.size := by simp [ByteArray.size_append]
theorem bef_size (c : UInt8) (s : BA) : (bef c s).size ≤ s.size := by
  have h1 : (bef c s).size = (bef c s).data.toList.length := by rw [Array.length_toList]; rfl
  have h2 : s.size = s.data.toList.length := by rw [Array.length_toList]; rfl
  rw [h1, h2, bef_data]
  exact (List.takeWhile_sublist _).length_le
theorem bef_size_lt {c : UInt8} {s : BA} (h : noByte s c = false) : (bef c s).size + 1 + (aft c s).size = s.size := by
  have := congrArg ByteArray.size (split_eq h)
  simp only [size_app] at this
  have h1 : (ByteArray.mk #[c]).size = 1 := rfl
  omega
theorem size_list (s : BA) : s.data.toList.length = s.size := by rw [Array.length_toList]; rfl
theorem ext_left (a b : BA) : (a ++ b).extract 0 a.size = a := by
  apply ba_ext
  rw [Lib.extract_data, Joins.data_append]
  simp [size_list]
theorem ext_right {a b : BA} {n : Nat} (h : n = (a ++ b).size) : (a ++ b).extract a.size n = b := by
  subst h
  apply ba_ext
  rw [Lib.extract_data, Joins.data_append, size_app, ← size_list a, List.drop_left, List.take_of_length_le]
  rw [size_list]; omega
theorem cut_one (l : List UInt8) (c : UInt8) : Lib.cut l [c] = (l.takeWhile (· != c), (l.dropWhile (· != c)).drop 1, l.contains c) := by
  have key : ∀ l : List UInt8, (Lib.indexByte l c = -1 ∧ c ∉ l) ∨ (0 ≤ Lib.indexByte l c ∧ c ∈ l ∧ l.take (Lib.indexByte l c).toNat = l.takeWhile (· != c) ∧ l.drop ((Lib.indexByte l c).toNat + 1) = (l.dropWhile (· != c)).drop 1) := by
    intro l
    induction l with
    | nil => left; exact ⟨rfl, by simp⟩
    | cons b l ih =>
      by_cases e : b = c
      · subst e
        right
        have : Lib.indexByte (b :: l) b = 0 := by simp [Lib.indexByte]
        rw [this]; simp
      · have hb : (b == c) = false := by simpa using e
        have hb2 : (b != c) = true := by simpa using e
        rcases ih with ⟨i1, i2⟩ | ⟨i1, i2, i3, i4⟩
        · left
          exact ⟨by simp [Lib.indexByte, hb, i1], by simp only [List.mem_cons, not_or]; exact ⟨fun h => e h.symm, i2⟩⟩
        · right
          have hne : (Lib.indexByte l c == -1) = false := by simp; omega
          have h1 : Lib.indexByte (b :: l) c = Lib.indexByte l c + 1 := by simp only [Lib.indexByte, hb, hne]; rfl
          have h2 : (Lib.indexByte (b :: l) c).toNat = (Lib.indexByte l c).toNat + 1 := by rw [h1]; omega
          refine ⟨by omega, by simp [i2], ?_, ?_⟩
          · rw [h2, List.take_succ_cons, List.takeWhile_cons, hb2, i3]; rfl
          · rw [h2, List.drop_succ_cons, List.dropWhile_cons, hb2, i4]; rfl
  unfold Lib.cut
  rw [Lib.index_one]
  rcases key l with ⟨h1, h2⟩ | ⟨h1, h2, h3, h4⟩
  · rw [if_neg (by omega), (take_all h2).1, (take_all h2).2]
    simp [h2]
  · rw [if_pos h1, h3, show ([c] : List UInt8).length = 1 from rfl, h4]
    simp [h2]
theorem cut_bef (s : BA) (c : UInt8) : (⟨(Lib.cut s.data.toList [c]).1.toArray⟩ : BA) = bef c s ∧ (⟨(Lib.cut s.data.toList [c]).2.1.toArray⟩ : BA) = aft c s ∧ (Lib.cut s.data.toList [c]).2.2 = !noByte s c := by
  rw [cut_one]
  refine ⟨rfl, rfl, ?_⟩
  rw [← noByte_index, ← Lib.contains_iff_indexByte]

def parse (line : BA) : BA × BA := (bef 64 (aft 32 (bef 35 line)), aft 64 (aft 32 (bef 35 line)))
def lineIs (k : Int) (c r line : BA) : Bool := goodRec c r && decide (sealB (bodyB k c r) = line)
def dec (k : Int) (line : BA) : Option (BA × BA) := if lineIs k (parse line).1 (parse line).2 line then some (parse line) else none
theorem numB_no {k : Int} (hk : 0 ≤ k) : noByte (numB k) 32 = true := by
  rw [noByte_iff]
  intro hm
  have := numB_byte hk hm
  simp at this
theorem body_assoc (k : Int) (c r : BA) : bodyB k c r = (numB k ++ ⟨#[32]⟩) ++ ((c ++ ⟨#[64]⟩) ++ r) := by
  simp only [bodyB, ByteArray.append_assoc]
theorem line_parts {k : Int} {c r line : BA} (h0 : 0 ≤ k) (h : lineIs k c r line = true) : goodRec c r = true ∧ bef 35 line = bodyB k c r ∧ aft 32 (bodyB k c r) = (c ++ ⟨#[64]⟩) ++ r ∧ bef 64 ((c ++ ⟨#[64]⟩) ++ r) = c ∧ aft 64 ((c ++ ⟨#[64]⟩) ++ r) = r := by
  simp only [lineIs, Bool.and_eq_true, decide_eq_true_eq] at h
  obtain ⟨hg, hl⟩ := h
  obtain ⟨_, _, _, _, _, h64⟩ := goodRec_facts hg
  refine ⟨hg, ?_, ?_, bef_mk h64, aft_mk h64⟩
  · rw [← hl]; exact bef_mk (body_no h0 hg)
  · rw [body_assoc]; exact aft_mk (numB_no h0)
theorem parse_line {k : Int} {c r line : BA} (h0 : 0 ≤ k) (h : lineIs k c r line = true) : parse line = (c, r) := by
  obtain ⟨_, h1, h2, h3, h4⟩ := line_parts h0 h
  unfold parse
  rw [h1, h2, h3, h4]
theorem dec_of_is {k : Int} {c r line : BA} (h0 : 0 ≤ k) (h : lineIs k c r line = true) : dec k line = some (c, r) := by
  unfold dec
  rw [parse_line h0 h]
  simp [h]
theorem dec_some {k : Int} {line : BA} {e : BA × BA} (h : dec k line = some e) : lineIs k e.1 e.2 line = true := by
  unfold dec at h
  split at h
  · rename_i h1
    obtain rfl := Option.some.inj h
    exact h1
  · cases h
def implText (line : BA) : BA := if appOk (bef 35 line) && decide (sealB (bef 35 line) = line) then bef 35 line else ⟨#[]⟩
theorem impl_dec {k : Int} {line : BA} (h0 : 0 ≤ k) (h1 : k ≤ 59) :
    dec k line = if lineIs k (bef 64 (aft 32 (implText line))) (aft 64 (aft 32 (implText line))) line then some (bef 64 (aft 32 (implText line)), aft 64 (aft 32 (implText line))) else none := by
  split
  · rename_i h; exact dec_of_is h0 h
  · rename_i h
    cases hd : dec k line with
    | none => rfl
    | some e =>
      exfalso
      have hi := dec_some hd
      obtain ⟨p1, p2, p3, p4, p5⟩ := line_parts h0 hi
      have hl : sealB (bodyB k e.1 e.2) = line := by
        simp only [lineIs, Bool.and_eq_true, decide_eq_true_eq] at hi; exact hi.2
      have ht : implText line = bodyB k e.1 e.2 := by
        unfold implText
        rw [p2, body_ok h0 h1 p1, hl]
        simp
      rw [ht, p3, p4, p5] at h
      exact h hi
theorem spec_dec {k : Int} {line : BA} {c r : BA} (h0 : 0 ≤ k) (h : dec k line = some (c, r)) :
    bef 35 line = (numB k ++ ⟨#[32]⟩) ++ ((c ++ ⟨#[64]⟩) ++ r) ∧ bef 64 ((c ++ ⟨#[64]⟩) ++ r) = c := by
  have hi := dec_some h
  obtain ⟨p1, p2, p3, p4, p5⟩ := line_parts h0 hi
  exact ⟨by rw [p2, body_assoc], p4⟩
/-- One round of the reader at byte 'at' with m records read. -/
def stepR (all : BA) (m at_ : Nat) : Option ((BA × BA) × Nat) :=
  if noByte (all.extract at_ all.size) 10 then none else (dec m (bef 10 (all.extract at_ all.size))).map fun e => (e, at_ + (bef 10 (all.extract at_ all.size)).size + 1)
def readN (all : BA) : Nat → List (BA × BA) × Nat
  | 0 => ([], 0)
  | n + 1 => if (readN all n).1.length < n then readN all n else match stepR all n (readN all n).2 with
    | none => readN all n
    | some (e, a) => ((readN all n).1 ++ [e], a)
theorem readN_succ (all : BA) (n : Nat) : readN all (n + 1) = if (readN all n).1.length < n then readN all n else match stepR all n (readN all n).2 with
    | none => readN all n
    | some (e, a) => ((readN all n).1 ++ [e], a) := rfl
theorem readN_len (all : BA) (n : Nat) : (readN all n).1.length ≤ n := by
  induction n with
  | zero => simp [readN]
  | succ n ih =>
    rw [readN_succ]
    split
    · omega
    · split
      · omega
      · simp; omega
theorem readN_yes {all : BA} {m a : Nat} {e : BA × BA} (h : (readN all m).1.length = m) (hs : stepR all m (readN all m).2 = some (e, a)) : readN all (m + 1) = ((readN all m).1 ++ [e], a) := by
  rw [readN_succ, if_neg (by omega), hs]
theorem readN_stop {all : BA} {m n : Nat} (h : (readN all m).1.length = m) (hs : stepR all m (readN all m).2 = none) (hn : m ≤ n) : readN all n = readN all m := by
  induction n with
  | zero => obtain rfl : m = 0 := by omega
            rfl
  | succ n ih =>
    by_cases e : m = n + 1
    · subst e; rfl
    · have i := ih (by omega)
      rw [readN_succ]
      by_cases e2 : m = n
      · subst e2; rw [if_neg (by omega), hs]
      · rw [if_pos (by rw [i]; omega), i]
theorem stepR_at {all : BA} {m a b : Nat} {e : BA × BA} (ha : a ≤ all.size) (h0 : m ≤ 59) (h : stepR all m a = some (e, b)) : b ≤ all.size ∧ b ≤ a + 413 ∧ a < b := by
  unfold stepR at h
  split at h
  · cases h
  · rename_i hn
    have hn' : noByte (all.extract a all.size) 10 = false := by simpa using hn
    obtain ⟨e', he, h2⟩ := Option.map_eq_some_iff.1 h
    have hb := bef_size_lt hn'
    have hx : (all.extract a all.size).size = all.size - a := by simp [ByteArray.size_extract]
    have hi := dec_some he
    simp only [lineIs, Bool.and_eq_true, decide_eq_true_eq] at hi
    have h3 := sealB_size (bodyB m e'.1 e'.2)
    have h4 := bodyB_size (k := m) (by omega) (by omega) hi.1
    rw [hi.2] at h3
    obtain ⟨_, rfl⟩ := Prod.mk.inj h2
    omega
theorem readN_at (all : BA) (n : Nat) (hn : n ≤ 60) : (readN all n).2 ≤ all.size ∧ (readN all n).2 ≤ n * 413 := by
  induction n with
  | zero => exact ⟨Nat.zero_le _, Nat.zero_le _⟩
  | succ n ih =>
    obtain ⟨i1, i2⟩ := ih (by omega)
    have i3 : (readN all n).2 ≤ (n + 1) * 413 := Nat.le_trans i2 (Nat.mul_le_mul_right _ (Nat.le_succ n))
    rw [readN_succ]
    split
    · exact ⟨i1, i3⟩
    · split
      · exact ⟨i1, i3⟩
      · rename_i e a hs
        obtain ⟨s1, s2, _⟩ := stepR_at i1 (by omega) hs
        refine ⟨s1, Nat.le_trans s2 ?_⟩
        rw [Nat.succ_mul]
        exact Nat.add_le_add_right i2 413
theorem readN_good {all : BA} {n : Nat} (hn : n ≤ 60) : ∀ e ∈ (readN all n).1, goodRec e.1 e.2 = true := by
  induction n with
  | zero => simp [readN]
  | succ n ih =>
    rw [readN_succ]
    split
    · exact ih (by omega)
    · split
      · exact ih (by omega)
      · rename_i e a hs
        intro x hx
        rcases List.mem_append.1 hx with hx | hx
        · exact ih (by omega) x hx
        · simp only [List.mem_singleton] at hx
          subst hx
          unfold stepR at hs
          split at hs
          · cases hs
          · obtain ⟨e', he, h2⟩ := Option.map_eq_some_iff.1 hs
            have hi := dec_some he
            simp only [lineIs, Bool.and_eq_true, decide_eq_true_eq] at hi
            obtain ⟨rfl, _⟩ := Prod.mk.inj h2
            exact hi.1
end Go.Proofs.YtegklcapfjigaaaDoor
