/-
  Texts of this claim, merged.
-/
import Derived.Test.YtpndjhelpoenpaaGreatDoorXA4
set_option linter.unusedVariables false
set_option linter.unusedSimpArgs false
set_option maxRecDepth 100000
set_option maxHeartbeats 8000000
namespace Go.Proofs.YtpndjhelpoenpaaGreatDoor
open Go.RowKit
abbrev BA := ByteArray
theorem ba_ext {a b : BA} (h : a.data.toList = b.data.toList) : a = b := ByteArray.ext (Array.toList_inj.1 h)
theorem toList_beq (a b : BA) : (a.toList == b.toList) = decide (a = b) := by
 rw [ByteArray.toList_eq, ByteArray.toList_eq, Bool.eq_iff_iff]
 simp only [beq_iff_eq, decide_eq_true_eq]
 exact ⟨ba_ext, fun h => by rw [h]⟩
def bef (c : UInt8) (s : BA) : BA := ⟨(s.data.toList.takeWhile (· != c)).toArray⟩
def aft (c : UInt8) (s : BA) : BA := ⟨((s.data.toList.dropWhile (· != c)).drop 1).toArray⟩
theorem bef_data (c : UInt8) (s : BA) : (bef c s).data.toList = s.data.toList.takeWhile (· != c) := by simp [bef]
theorem aft_data (c : UInt8) (s : BA) : (aft c s).data.toList = (s.data.toList.dropWhile (· != c)).drop 1 := by simp [aft]
theorem take_all {c : UInt8} {l : List UInt8} (h : c ∉ l) : l.takeWhile (· != c) = l ∧ l.dropWhile (· != c) = [] := by
 induction l with
 | nil => simp
 | cons b l ih =>
  have hb : (b != c) = true := by simp; intro e; exact h (by simp [e])
  obtain ⟨i1, i2⟩ := ih (fun hm => h (by simp [hm]))
  rw [List.takeWhile_cons, List.dropWhile_cons, hb]
  simp [i1, i2]
theorem take_app {c : UInt8} {a b : List UInt8} (h : c ∉ a) : (a ++ c :: b).takeWhile (· != c) = a ∧ ((a ++ c :: b).dropWhile (· != c)).drop 1 = b := by
 induction a with
 | nil => simp
 | cons x a ih =>
  have hb : (x != c) = true := by simp; intro e; exact h (by simp [e])
  obtain ⟨i1, i2⟩ := ih (fun hm => h (by simp [hm]))
  rw [List.cons_append, List.takeWhile_cons, List.dropWhile_cons, hb]
  simp only [if_true, i1]
  exact ⟨trivial, i2⟩
theorem split_list {c : UInt8} {l : List UInt8} (h : c ∈ l) : l = l.takeWhile (· != c) ++ c :: (l.dropWhile (· != c)).drop 1 := by
  induction l with
  | nil => simp at h
  | cons b l ih =>
    rw [List.takeWhile_cons, List.dropWhile_cons]
    by_cases e : b = c
    · subst e; simp
    · have hb : (b != c) = true := by simpa using e
      have hm : c ∈ l := by rcases List.mem_cons.1 h with h | h; · exact absurd h.symm e
                            · exact h
      simp only [hb, if_true, List.cons_append]
      rw [← ih hm]
theorem app3_data (a b : BA) (c : UInt8) : ((a ++ ⟨#[c]⟩) ++ b).data.toList = a.data.toList ++ c :: b.data.toList := by
 rw [Joins.data_append, Joins.data_append]; simp
theorem bef_mk {a b : BA} {c : UInt8} (h : noByte a c = true) : bef c ((a ++ ⟨#[c]⟩) ++ b) = a := by
 apply ba_ext; rw [bef_data, app3_data]; exact (take_app ((noByte_iff a c).1 h)).1
theorem aft_mk {a b : BA} {c : UInt8} (h : noByte a c = true) : aft c ((a ++ ⟨#[c]⟩) ++ b) = b := by
 apply ba_ext; rw [aft_data, app3_data]; exact (take_app ((noByte_iff a c).1 h)).2
theorem bef_all {s : BA} {c : UInt8} (h : noByte s c = true) : bef c s = s := by
 apply ba_ext; rw [bef_data]; exact (take_all ((noByte_iff s c).1 h)).1
theorem split_eq {s : BA} {c : UInt8} (h : noByte s c = false) : s = (bef c s ++ ⟨#[c]⟩) ++ aft c s := by
 apply ba_ext
 rw [app3_data, bef_data, aft_data]
 refine split_list ?_
 refine Classical.byContradiction fun hn => ?_
 rw [(noByte_iff s c).2 hn] at h
 cases h
theorem size_app (a b : BA) : (a ++ b).size = a.size + b.size := by simp [ByteArray.size_append]
theorem bef_size (c : UInt8) (s : BA) : (bef c s).size ≤ s.size := by
 have h1 : (bef c s).size = (bef c s).data.toList.length := by rw [Array.length_toList]; rfl
 have h2 : s.size = s.data.toList.length := by rw [Array.length_toList]; rfl
 rw [h1, h2, bef_data]
 exact (List.takeWhile_sublist _).length_le
theorem bef_size_lt {c : UInt8} {s : BA} (h : noByte s c = false) : (bef c s).size + 1 + (aft c s).size = s.size := by
 have := congrArg ByteArray.size (split_eq h)
 simp only [size_app] at this
 have h1 : (ByteArray.mk #[c]).size = 1 := rfl
 omega
theorem size_list (s : BA) : s.data.toList.length = s.size := by rw [Array.length_toList]; rfl
theorem ext_left (a b : BA) : (a ++ b).extract 0 a.size = a := by
 apply ba_ext
 rw [Lib.extract_data, Joins.data_append]
 simp [size_list]
theorem ext_right {a b : BA} {n : Nat} (h : n = (a ++ b).size) : (a ++ b).extract a.size n = b := by
 subst h
 apply ba_ext
 rw [Lib.extract_data, Joins.data_append, size_app, ← size_list a, List.drop_left, List.take_of_length_le]
 rw [size_list]; omega
theorem cut_one (l : List UInt8) (c : UInt8) : Lib.cut l [c] = (l.takeWhile (· != c), (l.dropWhile (· != c)).drop 1, l.contains c) := by
 have key : ∀ l : List UInt8, (Lib.indexByte l c = -1 ∧ c ∉ l) ∨ (0 ≤ Lib.indexByte l c ∧ c ∈ l ∧ l.take (Lib.indexByte l c).toNat = l.takeWhile (· != c) ∧ l.drop ((Lib.indexByte l c).toNat + 1) = (l.dropWhile (· != c)).drop 1) := by
  intro l
  induction l with
  | nil => left; exact ⟨rfl, by simp⟩
  | cons b l ih =>
   by_cases e : b = c
   ·subst e
    right
    have : Lib.indexByte (b :: l) b = 0 := by simp [Lib.indexByte]
    rw [this]; simp
   ·have hb : (b == c) = false := by simpa using e
    have hb2 : (b != c) = true := by simpa using e
    rcases ih with ⟨i1, i2⟩ | ⟨i1, i2, i3, i4⟩
    ·left
     exact ⟨by simp [Lib.indexByte, hb, i1], by simp only [List.mem_cons, not_or]; exact ⟨fun h => e h.symm, i2⟩⟩
    ·right
     have hne : (Lib.indexByte l c == -1) = false := by simp; omega
     have h1 : Lib.indexByte (b :: l) c = Lib.indexByte l c + 1 := by simp only [Lib.indexByte, hb, hne]; rfl
     have h2 : (Lib.indexByte (b :: l) c).toNat = (Lib.indexByte l c).toNat + 1 := by rw [h1]; omega
     refine ⟨by omega, by simp [i2], ?_, ?_⟩
     ·rw [h2, List.take_succ_cons, List.takeWhile_cons, hb2, i3]; rfl
     ·rw [h2, List.drop_succ_cons, List.dropWhile_cons, hb2, i4]; rfl
 unfold Lib.cut
 rw [Lib.index_one]
 rcases key l with ⟨h1, h2⟩ | ⟨h1, h2, h3, h4⟩
 ·rw [if_neg (by omega), (take_all h2).1, (take_all h2).2]
  simp [h2]
 ·rw [if_pos h1, h3, show ([c] : List UInt8).length = 1 from rfl, h4]
  simp [h2]
theorem cut_bef (s : BA) (c : UInt8) : (⟨(Lib.cut s.data.toList [c]).1.toArray⟩ : BA) = bef c s ∧ (⟨(Lib.cut s.data.toList [c]).2.1.toArray⟩ : BA) = aft c s ∧ (Lib.cut s.data.toList [c]).2.2 = !noByte s c := by
 rw [cut_one]
 refine ⟨rfl, rfl, ?_⟩
 rw [← noByte_index, ← Lib.contains_iff_indexByte]
def parse (line : BA) : BA × BA := (bef 64 (aft 32 (bef 35 line)), aft 64 (aft 32 (bef 35 line)))
def lineIs (k : Int) (c r line : BA) : Bool := goodRec c r && decide (sealB (bodyB k c r) = line)
def dec (k : Int) (line : BA) : Option (BA × BA) := if lineIs k (parse line).1 (parse line).2 line then some (parse line) else none
theorem numB_no {k : Int} (hk : 0 ≤ k) : noByte (numB k) 32 = true := by
 rw [noByte_iff]
 intro hm
 have := numB_byte hk hm
 simp at this
theorem body_assoc (k : Int) (c r : BA) : bodyB k c r = (numB k ++ ⟨#[32]⟩) ++ ((c ++ ⟨#[64]⟩) ++ r) := by
 simp only [bodyB, ByteArray.append_assoc]
theorem line_parts {k : Int} {c r line : BA} (h0 : 0 ≤ k) (h : lineIs k c r line = true) : goodRec c r = true ∧ bef 35 line = bodyB k c r ∧ aft 32 (bodyB k c r) = (c ++ ⟨#[64]⟩) ++ r ∧ bef 64 ((c ++ ⟨#[64]⟩) ++ r) = c ∧ aft 64 ((c ++ ⟨#[64]⟩) ++ r) = r := by
 simp only [lineIs, Bool.and_eq_true, decide_eq_true_eq] at h
 obtain ⟨hg, hl⟩ := h
 obtain ⟨_, _, _, _, _, h64⟩ := goodRec_facts hg
 refine ⟨hg, ?_, ?_, bef_mk h64, aft_mk h64⟩
 ·rw [← hl]; exact bef_mk (body_no h0 hg)
 ·rw [body_assoc]; exact aft_mk (numB_no h0)
theorem parse_line {k : Int} {c r line : BA} (h0 : 0 ≤ k) (h : lineIs k c r line = true) : parse line = (c, r) := by
 obtain ⟨_, h1, h2, h3, h4⟩ := line_parts h0 h
 unfold parse
 rw [h1, h2, h3, h4]
theorem dec_of_is {k : Int} {c r line : BA} (h0 : 0 ≤ k) (h : lineIs k c r line = true) : dec k line = some (c, r) := by
 unfold dec
 rw [parse_line h0 h]
 simp [h]
theorem dec_some {k : Int} {line : BA} {e : BA × BA} (h : dec k line = some e) : lineIs k e.1 e.2 line = true := by
 unfold dec at h
 split at h
 ·rename_i h1
  obtain rfl := Option.some.inj h
  exact h1
 ·cases h
def implText (line : BA) : BA := if appOk (bef 35 line) && decide (sealB (bef 35 line) = line) then bef 35 line else ⟨#[]⟩
theorem impl_dec {k : Int} {line : BA} (h0 : 0 ≤ k) (h1 : k ≤ 59) :
  dec k line = if lineIs k (bef 64 (aft 32 (implText line))) (aft 64 (aft 32 (implText line))) line then some (bef 64 (aft 32 (implText line)), aft 64 (aft 32 (implText line))) else none := by
 split
 ·rename_i h; exact dec_of_is h0 h
 ·rename_i h
  cases hd : dec k line with
  | none => rfl
  | some e =>
   exfalso
   have hi := dec_some hd
   obtain ⟨p1, p2, p3, p4, p5⟩ := line_parts h0 hi
   have hl : sealB (bodyB k e.1 e.2) = line := by
    simp only [lineIs, Bool.and_eq_true, decide_eq_true_eq] at hi; exact hi.2
   have ht : implText line = bodyB k e.1 e.2 := by
    unfold implText
    rw [p2, body_ok h0 h1 p1, hl]
    simp
   rw [ht, p3, p4, p5] at h
   exact h hi
theorem spec_dec {k : Int} {line : BA} {c r : BA} (h0 : 0 ≤ k) (h : dec k line = some (c, r)) :
  bef 35 line = (numB k ++ ⟨#[32]⟩) ++ ((c ++ ⟨#[64]⟩) ++ r) ∧ bef 64 ((c ++ ⟨#[64]⟩) ++ r) = c := by
 have hi := dec_some h
 obtain ⟨p1, p2, p3, p4, p5⟩ := line_parts h0 hi
 exact ⟨by rw [p2, body_assoc], p4⟩
def stepR (all : BA) (m at_ : Nat) : Option ((BA × BA) × Nat) :=
 if noByte (all.extract at_ all.size) 10 then none else (dec m (bef 10 (all.extract at_ all.size))).map fun e => (e, at_ + (bef 10 (all.extract at_ all.size)).size + 1)
def readN (all : BA) : Nat → List (BA × BA) × Nat
 | 0 => ([], 0)
 | n + 1 => if (readN all n).1.length < n then readN all n else match stepR all n (readN all n).2 with
  | none => readN all n
  | some (e, a) => ((readN all n).1 ++ [e], a)
theorem readN_succ (all : BA) (n : Nat) : readN all (n + 1) = if (readN all n).1.length < n then readN all n else match stepR all n (readN all n).2 with
  | none => readN all n
  | some (e, a) => ((readN all n).1 ++ [e], a) := rfl
theorem readN_len (all : BA) (n : Nat) : (readN all n).1.length ≤ n := by
 induction n with
 | zero => simp [readN]
 | succ n ih =>
  rw [readN_succ]
  split
  ·omega
  ·split
   ·omega
   ·simp; omega
theorem readN_yes {all : BA} {m a : Nat} {e : BA × BA} (h : (readN all m).1.length = m) (hs : stepR all m (readN all m).2 = some (e, a)) : readN all (m + 1) = ((readN all m).1 ++ [e], a) := by
 rw [readN_succ, if_neg (by omega), hs]
theorem readN_stop {all : BA} {m n : Nat} (h : (readN all m).1.length = m) (hs : stepR all m (readN all m).2 = none) (hn : m ≤ n) : readN all n = readN all m := by
  induction n with
  | zero => obtain rfl : m = 0 := by omega
            rfl
  | succ n ih =>
    by_cases e : m = n + 1
    · subst e; rfl
    · have i := ih (by omega)
      rw [readN_succ]
      by_cases e2 : m = n
      · subst e2; rw [if_neg (by omega), hs]
      · rw [if_pos (by rw [i]; omega), i]
theorem stepR_at {all : BA} {m a b : Nat} {e : BA × BA} (ha : a ≤ all.size) (h0 : m ≤ 59) (h : stepR all m a = some (e, b)) : b ≤ all.size ∧ b ≤ a + 413 ∧ a < b := by
 unfold stepR at h
 split at h
 ·cases h
 ·refine z30 ?_
  intro hn' e' he h2
  have hb := bef_size_lt hn'
  have hx : (all.extract a all.size).size = all.size - a := by simp [ByteArray.size_extract]
  have hi := dec_some he
  simp only [lineIs, Bool.and_eq_true, decide_eq_true_eq] at hi
  have h3 := sealB_size (bodyB m e'.1 e'.2)
  have h4 := bodyB_size (k := m) (by omega) (by omega) hi.1
  rw [hi.2] at h3
  obtain ⟨_, rfl⟩ := Prod.mk.inj h2
  omega
theorem readN_at (all : BA) (n : Nat) (hn : n ≤ 60) : (readN all n).2 ≤ all.size ∧ (readN all n).2 ≤ n * 413 := by
 induction n with
 | zero => exact ⟨Nat.zero_le _, Nat.zero_le _⟩
 | succ n ih =>
  obtain ⟨i1, i2⟩ := ih (by omega)
  have i3 : (readN all n).2 ≤ (n + 1) * 413 := Nat.le_trans i2 (Nat.mul_le_mul_right _ (Nat.le_succ n))
  rw [readN_succ]
  split
  ·exact ⟨i1, i3⟩
  ·split
   ·exact ⟨i1, i3⟩
   ·rename_i e a hs
    obtain ⟨s1, s2, _⟩ := stepR_at i1 (by omega) hs
    refine ⟨s1, Nat.le_trans s2 ?_⟩
    rw [Nat.succ_mul]
    exact Nat.add_le_add_right i2 413
theorem ownsRow_below {w w' : World} {base : Nat} {e : TypeId} {size : Nat} {v : Value} {n : Nat} {xs : List Value} (h : w.ownsRow base e size v n xs) (hb : bW w w') : w'.ownsRow base e size v n xs :=
 h.kept (row := none) ⟨hb.os, hb.tape, hb.output, hb.size, fun k hk _ => hb.block k hk⟩ (by cases hv : v.ownBlock <;> simp)
theorem wpList_append_int1 {P : Program} {ops : Array Oper} {rest : List Oper} {o : Oper} {a : Act} {Q : Exit → Act → World → Prop} (w : World) (hg : o.guard = none) (s x : Operand) (t : TypeId)
  (hop : o.op = Op.call { callee := Callee.builtin Builtin.append, args := #[s, x], argTypes := #[t, t] }) (base : Nat) (e : TypeId) (ht : P.underlying t = some (.slice e))
  (hinfo : (P.info? e).map (fun i => (i.zero, i.size, i.bytes)) = some (some (.int .i64 0), 1, 8)) (zs : List Int) (z : Int) (v : Value) (hs : a.eval s = v)
  (hown : w.ownsRow base e 1 v zs.length (zs.map (Value.int .i64))) (b : Nat) (hx : a.eval x = .slice (some ⟨b, 0, none⟩) 1 1) (hc : cI w b 0 z) (hlen : zs.length ≤ 100000000) (hbase : base ≤ w.heap.size)
  (h : ∀ v' w', w'.ownsRow base e 1 v' (zs ++ [z]).length ((zs ++ [z]).map (Value.int .i64)) → bW w w' ∨ (∃ g, v.ownBlock = some g ∧ w.grownBy w' (some g)) → w.grownBy w' v.ownBlock → wpList P ops Q rest (a.put o.dst v') w') :
  wpList P ops Q (o :: rest) a w := by
 obtain ⟨i, hi, hz0, hz1, hz2⟩ := info_parts hinfo
 refine wpList_append_own w hg s x t hop base e i (.int .i64 0) 1 8 ht hi hz0 hz1 hz2 rfl (by decide) v zs.length (zs.map (Value.int .i64)) hs hown ⟨b, 0, none⟩ 1 1 [.int .i64 z] hx rfl ?_ ?_ ?_ ?_ hbase ?_
 ·intro j u hj
  exact z31
 ·intro u hu; simp at hu; subst hu; rfl
 ·unfold maxLen; omega
 ·omega
 ·intro v' w' hown' hgrow _
  refine h v' w' (by simpa using hown') ?_ hgrow
  cases hv : v.ownBlock with
  | none => rw [hv] at hgrow; exact Or.inl ⟨hgrow.os, hgrow.tape, hgrow.output, hgrow.size, fun k hk => hgrow.block k hk (by simp)⟩
  | some g => rw [hv] at hgrow; exact Or.inr ⟨g, rfl, hgrow⟩
theorem below_app {W w w' : World} {e : TypeId} {size : Nat} {v : Value} {n : Nat} {xs : List Value} (h : bW W w) (hown : w.ownsRow W.heap.size e size v n xs) (hg : w.grownBy w' v.ownBlock) : bW W w' :=
 h.grown hg h.size (fun k hk => (hown.lt k hk).1)
def IntsPost (e0 : TypeId) (w : World) (zs : List Int) (ok : Bool) (e : Ending) (w' : World) : Prop :=
 ∃ A c, e = .returned (.tuple #[.slice A zs.length c, .bool ok]) ∧ zs.length ≤ c ∧ c ≤ maxLen ∧ Own w' w.heap.size w'.heap.size e0 1 A zs.length (fun j => zs.getD j 0) ∧ bW w w'
theorem IntsPost.mk_ {e0 : TypeId} {w w' : World} {zs : List Int} {ok : Bool} {v : Value} (hown : w'.ownsRow w.heap.size e0 1 v zs.length (zs.map (Value.int .i64))) (hb : bW w w') :
  IntsPost e0 w zs ok (.returned (.tuple #[v, .bool ok])) w' := by
 obtain ⟨A, c, rfl, h1, h2, h3⟩ := own_of_row hown
 exact ⟨A, c, rfl, h1, h2, h3, hb⟩
theorem IntsPost.nil_ {e0 : TypeId} {w w' : World} {ok : Bool} (hb : bW w w') : IntsPost e0 w [] ok (.returned (.tuple #[.slice none 0 0, .bool ok])) w' :=
 ⟨none, 0, rfl, Nat.le_refl _, by unfold maxLen; omega, Own.none_ nL, hb⟩
attribute [local go_sem ↓] Go.wp_at_zero Go.wp_at_succ
def Mx (w : World) : Prop := ∃ m, cI w 0 0 m
theorem Mx.below {w w' : World} (h : Mx w) (hb : bW w w') : Mx w' := by
 obtain ⟨m, hm⟩ := h
 exact ⟨m, kp hb hm⟩
theorem below_draws (w : World) (n : Nat) : bW w (w.drewN n) := below_drewN (Below.refl _ w) n
theorem Cut_any (s : BA) (c : UInt8) (hs : s.size < 4294967281) (w : World) (hm : Mx w) :
  Calls Tryz.prog 116 (sV s ⟨#[c]⟩) w fun e w' => e = .returned (.tuple #[.string (bef c s), .string (aft c s), .bool (!noByte s c)]) ∧ bW w w' := by
 obtain ⟨m, hm⟩ := hm
 refine (Tryz.strings_Cut s ⟨#[c]⟩ m w hs hm).mono ?_
 rintro e w' ⟨rfl, n, rfl⟩
 obtain ⟨h1, h2, h3⟩ := cut_bef s c
 refine ⟨?_, below_draws w n⟩
 have e1 : (ByteArray.mk #[c]).data.toList = [c] := rfl
 rw [e1, h1, h2, h3]
theorem VerifyChecksum_any (s : BA) (hs : s.size ≤ 4000000000) (w : World) (ht : Tab w) (hm : Mx w) :
  Calls Tryz.prog 117 #[.string s] w fun e w' => (∃ b, e = .returned (.tuple #[.string (implText s), .bool b])) ∧ bW w w' := by
 have hbs := bef_size 35 s
 have hi : Hid (implText s = if appOk (bef 35 s) && decide (sealB (bef 35 s) = s) then bef 35 s else ⟨#[]⟩) := rfl
 have hbi : ((bef 35 s).size : Int) ≤ 9000000000000000000 := by omega
 cases hA : appOk (bef 35 s) with
 | false =>
  have hi2 : Hid (implText s = ⟨#[]⟩) := by show _ = _; rw [hi.out, hA]; simp
  exact z32
 | true =>
  by_cases hE : sealB (bef 35 s) = s
  ·have hi2 : Hid (implText s = bef 35 s) := by show _ = _; rw [hi.out, hA, hE]; simp
   have hTB : ((sealB (bef 35 s)).toList == s.toList) = true := by rw [toList_beq, hE]; simp
   clear hE
   exact z32
  ·have hi2 : Hid (implText s = ⟨#[]⟩) := by show _ = _; rw [hi.out]; simp [hE]
   have hTB : ((sealB (bef 35 s)).toList == s.toList) = false := by rw [toList_beq]; simp [hE]
   clear hE
   exact z32
theorem infoStr : (Tryz.prog.info? 9).map (fun i => (i.zero, i.size, i.bytes)) = some (some (.string ⟨#[]⟩), 1, 16) := by exact z12
theorem wpList_append_str {ops : Array Oper} {rest : List Oper} {o : Oper} {a : Act} {Q : Exit → Act → World → Prop} (w : World) (hg : o.guard = none) (s x : Operand) (t : TypeId)
  (hop : o.op = Op.call { callee := Callee.builtin Builtin.append, args := #[s, x], argTypes := #[t, t] }) (base : Nat) (ht : Tryz.prog.underlying t = some (.slice 9)) (L : List BA) (u : BA) (v : Value) (hs : a.eval s = v)
  (hown : w.ownsRow base 9 1 v L.length (L.map Value.string)) (b : Nat) (hx : a.eval x = .slice (some ⟨b, 0, none⟩) 1 1) (hc : cE w b 0 (.string u)) (hlen : L.length ≤ 100000000) (hbase : base ≤ w.heap.size)
  (h : ∀ v' w', w'.ownsRow base 9 1 v' (L ++ [u]).length ((L ++ [u]).map Value.string) → w.grownBy w' v.ownBlock → wpList Tryz.prog ops Q rest (a.put o.dst v') w') :
  wpList Tryz.prog ops Q (o :: rest) a w := by
 obtain ⟨i, hi, hz0, hz1, hz2⟩ := info_parts infoStr
 refine wpList_append_own w hg s x t hop base 9 i (.string ⟨#[]⟩) 1 16 ht hi hz0 hz1 hz2 rfl (by decide) v L.length (L.map Value.string) hs hown ⟨b, 0, none⟩ 1 1 [.string u] hx rfl ?_ ?_ ?_ ?_ hbase ?_
 ·intro j u' hj
  exact z31
 ·intro u' hu; simp at hu; subst hu; rfl
 ·unfold maxLen; omega
 ·omega
 ·intro v' w' hown' hgrow _
  exact h v' w' (by simpa using hown') hgrow
def SP (s : BA) (b : UInt8) (k F : Nat) (P : List BA) : Prop :=
 (allTo (fun j => decide (byteAt s j ≠ b)) k = true ∧ P = [] ∧ F = 0) ∨ (noByte s b = false ∧ 1 ≤ P.length ∧ P.headD ⟨#[]⟩ = bef b s)
theorem SP.next {s : BA} {b : UInt8} {k F : Nat} {P : List BA} (h : SP s b k F P) (hb : byteAt s k ≠ b) : SP s b (k + 1) F P := by
 rcases h with ⟨h1, h2⟩ | h
 ·exact .inl ⟨allTo_succ h1 (by simp [hb]), h2⟩
 ·exact .inr h
theorem list_at {l : List UInt8} {k : Nat} (h : k < l.length) : l = l.take k ++ l[k] :: l.drop (k + 1) := by
 rw [List.getElem_cons_drop, List.take_append_drop]
theorem SP.hit {s : BA} {b : UInt8} {k F : Nat} {P : List BA} (h : SP s b k F P) (hk : k < s.size) (hb : byteAt s k = b) : SP s b (k + 1) (k + 1) (P ++ [s.extract F k]) := by
 have hno : noByte s b = false := allTo_false hk (by simp [hb])
 rcases h with ⟨h1, rfl, rfl⟩ | ⟨_, h2, h3⟩
 ·right
  refine ⟨hno, by simp, ?_⟩
  simp only [List.nil_append, List.headD_cons]
  apply ba_ext
  rw [Lib.extract_data, bef_data]
  have hk' : k < s.data.toList.length := by rw [size_list]; exact hk
  have e : s.data.toList[k] = b := by rw [← hb]; unfold byteAt; rw [getD_lt hk']
  have hn : b ∉ s.data.toList.take k := by
   intro hm
   obtain ⟨j, hj, ej⟩ := List.getElem_of_mem hm
   rw [List.length_take] at hj
   have hjk : j < k := by omega
   have hj' : j < s.data.toList.length := by omega
   have := allTo_at hjk h1
   simp only [decide_eq_true_eq] at this
   apply this
   unfold byteAt
   rw [getD_lt hj', ← ej]
   simp
  have := (take_app (b := s.data.toList.drop (k + 1)) hn).1
  rw [← e, ← list_at hk'] at this
  rw [← e, this]
  simp
 ·right
  refine ⟨hno, by simp, ?_⟩
  rw [← h3]
  cases P with
  | nil => simp at h2
  | cons x P => rfl
theorem SP.fin {s : BA} {b : UInt8} {F : Nat} {P : List BA} (h : SP s b s.size F P) : 1 ≤ (P ++ [s.extract F s.size]).length ∧ (P ++ [s.extract F s.size]).headD ⟨#[]⟩ = bef b s ∧ noByte s b = decide ((P ++ [s.extract F s.size]).length < 2) := by
 rcases h with ⟨h1, rfl, rfl⟩ | ⟨h1, h2, h3⟩
 ·have h1' : noByte s b = true := h1
  refine ⟨by simp, ?_, by rw [h1']; rfl⟩
  rw [bef_all h1']
  simp only [List.nil_append, List.headD_cons]
  apply ba_ext
  rw [Lib.extract_data, List.drop_zero, List.take_of_length_le]
  rw [size_list]; omega
 ·refine ⟨by simp, ?_, ?_⟩
  ·rw [← h3]
   cases P with
   | nil => simp at h2
   | cons x P => rfl
  ·rw [h1, eq_comm]; simp; omega
theorem l1Split_any (s : BA) (b : UInt8) (hs : s.size ≤ 4000000) (w : World) :
  Calls Tryz.prog 56 #[.string s, .int .u8 (b.toNat : Int)] w fun e w' => ∃ (v : Value) (P : List BA), e = .returned v ∧ w'.ownsRow w.heap.size 9 1 v P.length (P.map Value.string) ∧ 1 ≤ P.length ∧ P.headD ⟨#[]⟩ = bef b s ∧ noByte s b = decide (P.length < 2) ∧ P.length ≤ 4000001 ∧ bW w w' := by
 go_enter Tryz.func56, Tryz.ntmps56
 go_wp2_with fail
 go_loopw [5, 6, 7] (fun v fr i wr => ∃ (k F : Nat) (P : List BA), k ≤ s.size ∧ F ≤ k ∧ i = .int .i64 k ∧ fr = .int .i64 F ∧ wr.ownsRow w.heap.size 9 1 v P.length (P.map Value.string) ∧ P.length ≤ k ∧ bW w wr ∧ Hid (SP s b k F P)) (fun _ _ i _ => s.size - (intOf i).toNat)
 case atStart => exact ⟨0, 0, [], Nat.zero_le _, Nat.le_refl _, rfl, rfl, World.ownsRow_made w #[] 0 nL (by unfold maxLen; omega) rfl, Nat.le_refl _, (Below.refl _ w).alloc nL _, Or.inl ⟨rfl, rfl, rfl⟩⟩
 case round =>
  obtain ⟨k, F, P, hk, hF, rfl, rfl, hown, hPl, hB, hSP⟩ := hrel
  revert hown
  refine z33 ?_
  intro hsz hl HO hF0 hlt
  ·obtain rfl : k = s.size := by omega
   have hfin := lh hSP.out.fin
   clear hSP
   have hF1 : (F : Int) ≤ (s.size : Int) := by omega
   generalize hX : s.extract F s.size = X at hfin
   go_wp2_with (at_builtin; refine z34 ?_; intro v' w3 hown3 hgrow3)
   go_ret
   obtain ⟨f1, f2, f3⟩ := hfin.out
   exact ⟨_, P ++ [X], rfl, hown3, f1, f2, f3, by simp; omega, below_app (hB.alloc hB.size _) (HO.out.alloc _) hgrow3⟩
end Go.Proofs.YtpndjhelpoenpaaGreatDoor
namespace Go.Proofs.YtpndjhelpoenpaaGreatDoor
open Go
theorem wrap_and_shaped {H : Type} {enc : TypeId × Value → H} {a : Assume} {C : Checked} {os : Os} {f : FuncId} {fn : Func} {s : ChangeSpec} {conds : List PathCond} {apart fresh handsOn again : Bool} {X : World → Array Value → Prop}
  (hX : ∀ (w w' : World) (args : Array Value), w.heap = w'.heap → X w args → X w' args)
  (own : ownKnob C.prog.godebug = none) (started : os.Started) (noInit : C.prog.inits.idxOf? f = none) (hfn : C.prog.funcs[f]? = some fn)
  (witness : ∃ (w : World) (tape : Tape) (i : Input), w.os = os ∧ (w.forCall tape i).Shaped C.prog ∧ i.vars = [] ∧ Input.okWide C.prog (w.forCall tape i) .any w.heap.size f i ∧
   ((s.pre enc C.prog fn conds apart (w.forCall tape i).memory i.args ∧ X (w.forCall tape i).memory i.args) ∧ sizedMet enc C.prog fn (OpenSpec.ofChange s) apart (w.forCall tape i).memory i.args) ∧ a.holds C.prog (lone (Frame.enter C.prog f i.args .normal) [] (w.forCall tape i)))
  (contract : ∀ (W : World) (base : Nat) (args : Array Value) (ds gs : List (DataW H)) (before : List MemPlace),
   (∀ (j : Nat) t v, fn.params[j]? = some t → args[j]? = some v → Value.okWide C.prog W .any base t v) →
   DataW.Whole enc C.prog fn.params.toList s.vars apart W args.toList ds gs before → X W args → W.ShapedOpen C.prog →
   Calls C.prog f args W fun e W' => ∃ v, e = .returned v ∧ s.post enc C.prog fn apart fresh handsOn again W args v W') :
  ReturnsInHanded a C os f .any (fun w args => (s.pre enc C.prog fn conds apart w args ∧ X w args) ∧ sizedMet enc C.prog fn (OpenSpec.ofChange s) apart w args) (s.post enc C.prog fn apart fresh handsOn again) := by
 refine returnsInHanded_of_calls own started noInit witness ?_
 intro w tape i _ hsh _ hok hpre hholds
 obtain ⟨_, _, _, fn', hfn', _, _, _, _, hval⟩ := hok
 have e : fn' = fn := Option.some.inj (hfn'.symm.trans hfn)
 subst e
 obtain ⟨⟨⟨ds, gs, before, hw, hc⟩, hx⟩, hz⟩ := hpre
 have hw' := DataW.Whole.of_heap (w' := w.forCall tape i) (by rfl) hw
 refine (contract (w.forCall tape i) w.heap.size i.args ds gs before hval hw' (hX _ _ _ (by rfl) hx) hsh).mono fun e W' ⟨v, he, hp⟩ => ?_
 subst he
 exact ChangeSpec.post_blind hp
theorem Mx.of_shape {w : World} (h : w.ShapedOpen Tryz.prog) : Mx w :=
 cell_of_shapedOpen_int (g := 0) (zero := #[.int .i64 0]) (t := 3) h (of_decide_eq_true (by exact z12)) (by exact z12) rfl (by exact z12) (by exact z12) Tryz.underlying3
end Go.Proofs.YtpndjhelpoenpaaGreatDoor
namespace Go.Proofs.YtpndjhelpoenpaaGreatDoor
open Go.RowKit
theorem decFrom_snoc : ∀ (l : List UInt8) (acc n : Nat) (b : UInt8) (d : Nat), Lib.decFrom acc l = some n → Lib.digitVal b = some d → Lib.decFrom acc (l ++ [b]) = some (n * 10 + d)
 | [], acc, n, b, d, h, hb => by
  simp only [Lib.decFrom, Option.some.injEq] at h
  subst h
  simp [Lib.decFrom, hb]
 | a :: t, acc, n, b, d, h, hb => by
  simp only [List.cons_append, Lib.decFrom] at h ⊢
  cases ha : Lib.digitVal a with
  | none => simp [ha] at h
  | some e =>
   simp only [ha] at h ⊢
   exact decFrom_snoc t _ n b d h hb
theorem digitVal_fin : ∀ p : Fin 10, Lib.digitVal (UInt8.ofNat (48 + p.val)) = some p.val := by exact z11
theorem digitVal_dig {r : Nat} (h : r < 10) : Lib.digitVal (UInt8.ofNat (48 + r)) = some r := digitVal_fin ⟨r, h⟩
theorem decFrom_one {r : Nat} (h : r < 10) : Lib.decFrom 0 [UInt8.ofNat (48 + r)] = some r := by
 unfold Lib.decFrom
 rw [digitVal_dig h]
 simp [Lib.decFrom]
theorem decFrom_digits (k : Nat) : ∀ u, u ≤ k → Lib.decFrom 0 (Lib.decDigits u) = some u := by
 induction k with
 | zero =>
  intro u h
  obtain rfl : u = 0 := by omega
  rw [Lib.decDigits_one (by omega)]
  exact decFrom_one (by omega)
 | succ k ih =>
  intro u h
  by_cases h10 : u < 10
  ·rw [Lib.decDigits_one h10]
   exact decFrom_one h10
  ·rw [dec_step u h10, decFrom_snoc _ _ _ _ _ (ih (u / 10) (by omega)) (digitVal_dig (Nat.mod_lt _ (by omega)))]
   congr 1
   omega
theorem digits_cons (u : Nat) : ∃ b r, Lib.decDigits u = b :: r ∧ 48 ≤ b.toNat ∧ b.toNat ≤ 57 := by
 have h := decFrom_digits u u nL
 cases e : Lib.decDigits u with
 | nil =>
  exfalso
  by_cases h10 : u < 10
  ·rw [Lib.decDigits_one h10] at e; cases e
  ·rw [dec_step u h10] at e; simp at e
 | cons b r =>
  rw [e] at h
  obtain ⟨d, hd⟩ := Lib.digit_of_decFrom _ _ _ h 0 b rfl
  obtain ⟨h1, h2, _⟩ := Lib.digitVal_eq hd
  exact ⟨b, r, rfl, h1, h2⟩
theorem decNat_digits (u : Nat) : Lib.decNat (Lib.decDigits u) = some u := by
 obtain ⟨b, r, e, _, _⟩ := digits_cons u
 have h := decFrom_digits u u nL
 rw [e] at h ⊢
 simpa [Lib.decNat] using h
theorem atoi_itoa (v : Int) : Lib.atoi (Lib.itoa v) = some v := by
 by_cases h0 : 0 ≤ v
 ·obtain ⟨u, rfl⟩ := Int.eq_ofNat_of_zero_le h0
  rw [Lib.itoa_nonneg]
  have h := decNat_digits u
  obtain ⟨b, r, e, h1, h2⟩ := digits_cons u
  rw [e] at h ⊢
  have h45 : (b == 45) = false := by
   rw [beq_eq_false_iff_ne]
   rintro rfl
   simp at h1
  have h43 : (b == 43) = false := by
   rw [beq_eq_false_iff_ne]
   rintro rfl
   simp at h1
  simp [Lib.atoi, h45, h43, h]
 ·obtain ⟨u, hu, rfl⟩ : ∃ u : Nat, 1 ≤ u ∧ v = -(u : Int) := ⟨v.natAbs, by omega, by omega⟩
  rw [Lib.itoa_neg u hu]
  simp [Lib.atoi, decNat_digits u]
theorem numB_data (v : Int) : (numB v).data.toList = Lib.itoa v := rfl
theorem numB_inj {a b : Int} (h : numB a = numB b) : a = b := by
 have h1 := atoi_itoa a
 rw [← numB_data, h, numB_data, atoi_itoa b] at h1
 exact (Option.some.inj h1).symm
open Classical in
noncomputable def parseV (s : ByteArray) : Option Int := if h : ∃ v : Int, -999999 ≤ v ∧ v ≤ 999999 ∧ numB v = s then some h.choose else none
theorem parseV_yes {s : ByteArray} {v : Int} (h0 : -999999 ≤ v) (h1 : v ≤ 999999) (h : numB v = s) : parseV s = some v := by
 have hx : ∃ v : Int, -999999 ≤ v ∧ v ≤ 999999 ∧ numB v = s := ⟨v, h0, h1, h⟩
 unfold parseV
 rw [dif_pos hx]
 exact congrArg some (numB_inj (hx.choose_spec.2.2.trans h.symm))
theorem parseV_no {s : ByteArray} (h : ∀ v : Int, -999999 ≤ v → v ≤ 999999 → numB v = s → False) : parseV s = none := by
 unfold parseV
 rw [dif_neg]
 rintro ⟨v, h0, h1, e⟩
 exact h v h0 h1 e
theorem nDigits_le6 {u : Nat} (h : u ≤ 999999) : Lib.nDigits u ≤ 6 := by
 rcases Nat.lt_or_ge u 100000 with h5 | h5
 ·by_cases h0 : u < 10
  ·rw [Lib.nDigits_small h0]; omega
  rw [Lib.nDigits_big h0]
  by_cases h1 : u / 10 < 10
  ·rw [Lib.nDigits_small h1]; omega
  rw [Lib.nDigits_big h1]
  by_cases h2 : u / 10 / 10 < 10
  ·rw [Lib.nDigits_small h2]; omega
  rw [Lib.nDigits_big h2]
  by_cases h3 : u / 10 / 10 / 10 < 10
  ·rw [Lib.nDigits_small h3]; omega
  rw [Lib.nDigits_big h3]
  by_cases h4 : u / 10 / 10 / 10 / 10 < 10
  ·rw [Lib.nDigits_small h4]; omega
  ·omega
 ·rw [Lib.nDigits_unique 5 u (by omega) (by omega)]; omega
theorem itoa_short {v : Int} (h0 : -999999 ≤ v) (h1 : v ≤ 999999) : (Lib.itoa v).length ≤ 18 := by
 have h := numB_size (n := v) (by omega) (by omega)
 by_cases hv : 0 ≤ v
 ·obtain ⟨u, rfl⟩ := Int.eq_ofNat_of_zero_le hv
  rw [Lib.itoa_nonneg, Lib.decDigits_length]
  have := nDigits_le6 (u := u) (by omega)
  omega
 ·obtain ⟨u, hu, rfl⟩ : ∃ u : Nat, 1 ≤ u ∧ v = -(u : Int) := ⟨v.natAbs, by omega, by omega⟩
  rw [Lib.itoa_neg u hu, List.length_cons, Lib.decDigits_length]
  have := nDigits_le6 (u := u) (by omega)
  omega
theorem atoiAll_num {v : Int} (h0 : -999999 ≤ v) (h1 : v ≤ 999999) : Lib.atoiAll (numB v).data.toList = .ok v := by
 rw [numB_data, Lib.atoiAll_short _ (itoa_short h0 h1), atoi_itoa]
 rfl
def tailT (s : ByteArray) : ByteArray := if 1 < s.size ∧ byteAt s 0 = 45 then s.extract 1 s.size else s
theorem tailT_size (s : ByteArray) : (tailT s).size ≤ s.size := by
 unfold tailT
 split
 ·rw [ByteArray.size_extract]; omega
 ·exact z35
theorem byte_zero {s : ByteArray} {b : UInt8} {r : List UInt8} (h : s.data.toList = b :: r) : byteAt s 0 = b := by unfold byteAt; rw [h]; rfl
theorem tail_num {s : ByteArray} {v : Int} (h0 : -999999 ≤ v) (h1 : v ≤ 999999) (h : numB v = s) :
  ∃ u : Nat, u ≤ 999999 ∧ (tailT s).data.toList = Lib.decDigits u ∧ ((v = (u : Int) ∧ ¬ (tailT s).size < s.size) ∨ (v = -(u : Int) ∧ 1 ≤ u ∧ (tailT s).size < s.size)) := by
 have hd : s.data.toList = Lib.itoa v := by rw [← h]; rfl
 by_cases hv : 0 ≤ v
 ·obtain ⟨u, rfl⟩ := Int.eq_ofNat_of_zero_le hv
  rw [Lib.itoa_nonneg] at hd
  obtain ⟨b, r, e, b0, b1⟩ := digits_cons u
  have hb : byteAt s 0 = b := byte_zero (hd.trans e)
  have ht : tailT s = s := by
   unfold tailT
   rw [if_neg]
   rintro ⟨_, e2⟩
   rw [hb] at e2
   subst e2
   simp at b0
  refine ⟨u, by omega, by rw [ht, hd], Or.inl ⟨rfl, by rw [ht]; omega⟩⟩
 ·obtain ⟨u, hu, rfl⟩ : ∃ u : Nat, 1 ≤ u ∧ v = -(u : Int) := ⟨v.natAbs, by omega, by omega⟩
  rw [Lib.itoa_neg u hu] at hd
  have hl := size_list s
  rw [hd, List.length_cons, Lib.decDigits_length] at hl
  have hp := Lib.nDigits_pos u
  have ht : tailT s = s.extract 1 s.size := by
   unfold tailT
   rw [if_pos ⟨by omega, byte_zero hd⟩]
  refine ⟨u, by omega, ?_, Or.inr ⟨rfl, hu, by rw [ht, ByteArray.size_extract]; omega⟩⟩
  rw [ht, Lib.extract_data, hd, List.drop_succ_cons, List.drop_zero, List.take_of_length_le (by rw [Lib.decDigits_length]; omega)]
theorem no_num_size {s : ByteArray} (h : ¬ (1 ≤ (tailT s).size ∧ (tailT s).size ≤ 6)) : parseV s = none := by
 refine parseV_no fun v h0 h1 e => h ?_
 obtain ⟨u, hu, ht, _⟩ := tail_num h0 h1 e
 have hl := size_list (tailT s)
 rw [ht, Lib.decDigits_length] at hl
 have := Lib.nDigits_pos u
 have := nDigits_le6 hu
 omega
theorem no_num_byte {s : ByteArray} {k : Nat} (hk : k < (tailT s).size) (h : (byteAt (tailT s) k).toNat < 48 ∨ 57 < (byteAt (tailT s) k).toNat) : parseV s = none := by
 refine parseV_no fun v h0 h1 e => ?_
 obtain ⟨u, hu, ht, _⟩ := tail_num h0 h1 e
 have hl := size_list (tailT s)
 have hb : (tailT s).data.toList[k]? = some (byteAt (tailT s) k) := by
  rw [List.getElem?_eq_getElem (by omega)]
  unfold byteAt
  rw [getD_lt (by omega)]
 obtain ⟨d, hd⟩ := Lib.digit_of_decFrom _ _ _ (by rw [ht]; exact decFrom_digits u u nL) k _ hb
 have := Lib.digitVal_eq hd
 omega
theorem num_loop {s : ByteArray} {m : Nat} {n : Int} (hm : Lib.decFrom 0 (tailT s).data.toList = some m) (hn : n = if (tailT s).size < s.size then -(m : Int) else (m : Int)) (h6 : m ≤ 999999) :
  parseV s = if numB n = s then some n else none := by
 by_cases e : numB n = s
 ·rw [if_pos e, parseV_yes (by split at hn <;> omega) (by split at hn <;> omega) e]
 ·rw [if_neg e]
  refine parseV_no fun v h0 h1 e2 => e ?_
  obtain ⟨u, hu, ht, hc⟩ := tail_num h0 h1 e2
  rw [ht, decFrom_digits u u nL] at hm
  obtain rfl := Option.some.inj hm
  rcases hc with ⟨rfl, hs⟩ | ⟨rfl, _, hs⟩
  ·rw [hn, if_neg hs]; exact e2
  ·rw [hn, if_pos hs]; exact e2
theorem dec_le6 {l : List UInt8} {k m : Nat} (h : Lib.decFrom 0 (l.take k) = some m) (hk : k ≤ 6) : m ≤ 999999 := by
 have h1 := Lib.decFrom_lt _ _ _ h
 have h2 : (l.take k).length ≤ 6 := by rw [List.length_take]; omega
 have h3 : 10 ^ (l.take k).length ≤ 10 ^ 6 := Nat.pow_le_pow_right (by omega) h2
 omega
theorem dec_next {s : ByteArray} {k m : Nat} (h : Lib.decFrom 0 (s.data.toList.take k) = some m) (hk : k < s.size) (h0 : 48 ≤ (byteAt s k).toNat) (h1 : (byteAt s k).toNat ≤ 57) :
  Lib.decFrom 0 (s.data.toList.take (k + 1)) = some (m * 10 + ((byteAt s k).toNat - 48)) := by
 refine Lib.decFrom_take _ k 0 m (byteAt s k) _ h ?_ (by unfold Lib.digitVal; rw [if_pos ⟨h0, h1⟩])
 have hl := size_list s
 rw [List.getElem?_eq_getElem (by omega)]
 unfold byteAt
 rw [getD_lt (by omega)]
theorem numB_neg {m : Nat} (h : 1 ≤ m) : numB (-(m : Int)) = ⟨#[45]⟩ ++ numB (m : Int) := by
 apply ByteArray.ext
 apply Array.toList_inj.1
 rw [numB_data, Lib.itoa_neg m h, Joins.data_append, numB_data, Lib.itoa_nonneg]
 rfl
end Go.Proofs.YtpndjhelpoenpaaGreatDoor
namespace Go.Proofs.YtpndjhelpoenpaaGreatDoor
def skipL : List (Nat × Nat) → Array Bool → Array Bool
 | [], l => l
 | (i, _) :: L, l => skipL L (l.setIfInBounds i true)
def skipA : List (Nat × Nat) → Act → Act
 | [], a => a
 | (_, d) :: L, a => skipA L (a.put (some d) undef)
def skipsOk (md : Region.Mode) (ops : Array Oper) : List (Nat × Nat) → Array Bool → Act → Bool
 | [], _, _ => true
 | (i, d) :: L, l, a => (match ops[i]? with
   | some o => (o.dst == some d) && !(Region.wanted o (yielded ops a.tmps))
   | none => false) && Region.free md ops l i && (Region.ready md ops l).contains i && skipsOk md ops L (l.setIfInBounds i true) (a.put (some d) undef)
theorem wpAnyH_skips {P : Program} {md : Region.Mode} {ops : Array Oper} {Q : Exit → Act → World → Prop} {S : World → Prop} {w : World} (hs : Region.noSelect ops = true)
  (hQ : ∀ c a (d : Nat) v w, Q (.panic c) (Act.put a (some d) v) w → Q (.panic c) a w) (hS : S w) (L : List (Nat × Nat)) : ∀ (fuel n : Nat) (l : Array Bool) (a : Act), L.length = n →
  skipsOk md ops L l a = true → wpAnyH P md ops Q S fuel (skipL L l) (skipA L a) w → wpAnyH P md ops Q S (fuel + n) l a w := by
 induction L with
 | nil =>
  intro fuel n l a hn _ h
  subst hn
  exact h
 | cons x L ih =>
  intro fuel n l a hn hok h
  obtain ⟨i, d⟩ := x
  subst hn
  simp only [skipsOk, Bool.and_eq_true] at hok
  obtain ⟨⟨⟨h1, h2⟩, h3⟩, h4⟩ := hok
  cases ho : ops[i]? with
  | none => rw [ho] at h1; simp at h1
  | some o =>
   rw [ho] at h1
   simp only [Bool.and_eq_true, beq_iff_eq, Bool.not_eq_true'] at h1
   obtain ⟨hd, hw⟩ := h1
   have := ih fuel L.length (l.setIfInBounds i true) (a.put (some d) undef) rfl h4 h
   rw [← hd] at this
   exact wpAnyH_take (fuel := fuel + L.length) ho hs h2 h3 (fun c a w hh => by rw [hd] at hh; exact hQ c a _ _ w hh) (Or.inr ⟨hw, rfl⟩) hS this
theorem wpAnyH_takeD {P : Program} {md : Region.Mode} {ops : Array Oper} {Q : Exit → Act → World → Prop} {S : World → Prop} {i d : Nat} {op : Op} {ty : TypeId} {pos : String} {af : Array Edge} {gd : Option (Nat × Bool)} {v : Value} {fuel : Nat} {listed : Array Bool} {a : Act} {w : World}
  (hi : ops[i]? = some ⟨some d, op, ty, pos, af, gd⟩) (hs : Region.noSelect ops = true) (hf : Region.free md ops listed i = true) (hr : (Region.ready md ops listed).contains i = true)
  (hQ : ∀ c a w, Q (.panic c) (a.put (some d) v) w → Q (.panic c) a w) (hwant : Region.wanted ⟨some d, op, ty, pos, af, gd⟩ (yielded ops a.tmps) = true)
  (hy : ∀ w, S w → (execOp a.eval ⟨some d, op, ty, pos, af, gd⟩).run P w = .ok (.value v) w) (hS : S w)
  (h : wpAnyH P md ops Q S fuel (listed.setIfInBounds i true) (a.put (some d) v) w) : wpAnyH P md ops Q S (fuel + 1) listed a w :=
 wpAnyH_take hi hs hf hr hQ (Or.inl ⟨hwant, hy⟩) hS h
end Go.Proofs.YtpndjhelpoenpaaGreatDoor
