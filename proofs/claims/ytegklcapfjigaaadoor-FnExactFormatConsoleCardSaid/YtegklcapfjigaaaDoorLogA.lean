/-
  Records of a log: the plain texts; IsValidRecord, the same on both sides.
-/
import Derived.Test.YtegklcapfjigaaaDoorProg
import Derived.Test.YtegklcapfjigaaaDoorBase
import Derived.Test.YtegklcapfjigaaaDoorSmall
import Derived.Test.YtegklcapfjigaaaDoorShelf
import Derived.Lib.IndexAny
import Derived.Lib.Hide
import Derived.BigGuardPart
import Derived.Handy
import Derived.Deep.RegionWith
import Derived.Deep.RegionHeld3
import Derived.Deep.DrawnRows
namespace Go.Proofs.YtegklcapfjigaaaDoor
open Go.RowKit
set_option linter.unusedVariables false
set_option linter.unusedSimpArgs false
attribute [local go_sem ↓] Go.wp_at_zero Go.wp_at_succ
theorem getD_lt {l : List UInt8} {k : Nat} (h : k < l.length) : l.getD k 0 = l[k] := by simp [List.getD, h]
def byteAt (s : ByteArray) (k : Nat) : UInt8 := s.data.toList.getD k 0
theorem byteAt_eq (s : ByteArray) (k : Nat) (h : k < s.size) : s[k]'h = byteAt s k := by
  unfold byteAt
  have h' : k < s.data.toList.length := by rw [Array.length_toList]; exact h
  rw [getD_lt h', Array.getElem_toList]
  rfl
def plainB (c : UInt8) : Bool := decide (32 ≤ c.toNat ∧ c.toNat ≤ 126 ∧ c.toNat ≠ 35)
def plain (s : ByteArray) : Bool := allTo (fun j => plainB (byteAt s j)) s.size
def noByte (s : ByteArray) (c : UInt8) : Bool := allTo (fun j => decide (byteAt s j ≠ c)) s.size
theorem allTo_iff {p : Nat → Bool} : ∀ {n : Nat}, allTo p n = true ↔ ∀ k, k < n → p k = true := by
  intro n
  constructor
  · intro h k hk; exact allTo_at hk h
  · induction n with
    | zero => intro _; rfl
    | succ n ih => intro h; exact allTo_succ (ih (fun k hk => h k (by omega))) (h n (by omega))
theorem noByte_iff (s : ByteArray) (c : UInt8) : noByte s c = true ↔ c ∉ s.data.toList := by
  unfold noByte
  rw [allTo_iff]
  constructor
  · intro h hm
    obtain ⟨k, hk, e⟩ := List.getElem_of_mem hm
    have h1 := h k (by rw [Array.length_toList] at hk; exact hk)
    simp only [decide_eq_true_eq] at h1
    exact h1 (by unfold byteAt; rw [getD_lt hk]; exact e)
  · intro h k hk
    simp only [decide_eq_true_eq]
    intro e
    have h' : k < s.data.toList.length := by rw [Array.length_toList]; exact hk
    exact h (by rw [← e]; unfold byteAt; rw [getD_lt h']; exact List.getElem_mem h')
theorem noByte_index (s : ByteArray) (c : UInt8) : decide (0 ≤ Lib.indexByte s.data.toList c) = !noByte s c := by
  rw [← Lib.contains_iff_indexByte]
  cases h : noByte s c with
  | true => simpa using (noByte_iff s c).1 h
  | false =>
    have h1 : ¬ (c ∉ s.data.toList) := fun hn => by rw [(noByte_iff s c).2 hn] at h; cases h
    simpa using h1
def goodRec (c r : ByteArray) : Bool := decide (1 ≤ c.size ∧ c.size ≤ 160) && decide (r.size ≤ 200) && plain c && plain r && noByte c 64
set_option maxHeartbeats 800000 in
theorem isPlain_any (s : ByteArray) (hs : (s.size : Int) ≤ 9223372036854775807) (w : World) :
    Calls Tryd.prog 77 #[.string s] w fun e w' => e = .returned (.bool (plain s)) ∧ w = w' := by
  go_enter Tryd.func77, Tryd.ntmps77
  go_wp2_with fail
  go_loop [6] (fun i => ∃ k : Nat, k ≤ s.size ∧ i = .int .i64 k ∧ Hid (allTo (fun j => plainB (byteAt s j)) k = true)) (fun i => s.size - (intOf i).toNat)
  case atStart => exact ⟨0, Nat.zero_le _, rfl, rfl⟩
  case round =>
    obtain ⟨k, hk, rfl, hall⟩ := hrel
    by_cases hlt : k < s.size
    · have hbk := byteAt_eq s k hlt
      have hk0 : (0 : Int) ≤ (k : Int) ∧ (k : Int) < (s.size : Int) := by omega
      obtain ⟨hk0, hk1⟩ := hk0
      cases hp : plainB (byteAt s k) with
      | false =>
        have hno : Hid (allTo (fun j => plainB (byteAt s j)) s.size = false) := allTo_false hlt hp
        generalize byteAt s k = c at hbk hp
        simp only [plainB, decide_eq_false_iff_not] at hp
        have hp' : ¬ (32 ≤ c.toNat) ∨ ¬ (c.toNat ≤ 126) ∨ c.toNat = 35 := by omega
        clear hp
        have hcc : c.toNat < 256 := UInt8.toNat_lt c
        go_wp2_with (fail)
        all_goals
          first
          | (go_ret; exact ⟨ret_bool (by rw [plain]; exact hno.out.symm), rfl⟩)
          | (exfalso; omega)
      | true =>
        have hyes : Hid (allTo (fun j => plainB (byteAt s j)) (k + 1) = true) := allTo_succ hall.out hp
        generalize byteAt s k = c at hbk hp
        simp only [plainB, decide_eq_true_eq] at hp
        obtain ⟨hp1, hp2, hp3⟩ := hp
        have hq1 : (32 : Int) ≤ (c.toNat : Int) := by omega
        have hq2 : (c.toNat : Int) ≤ 126 := by omega
        have hq3 : (c.toNat : Int) ≠ 35 := by omega
        have hcc : c.toNat < 256 := UInt8.toNat_lt c
        go_wp2_with (fail)
        go_round
        case rel => exact ⟨k + 1, by omega, by go_num, hyes⟩
        case measure => simp [intOf]; omega
    · obtain rfl : k = s.size := by omega
      go_wp2_with fail
      go_ret
      exact ⟨ret_bool (by rw [plain]; exact hall.out.symm), rfl⟩
set_option maxHeartbeats 800000 in
theorem l27Plain_any (s : ByteArray) (m : Int) (hs : (s.size : Int) ≤ 9223372036854775807) (w : World) :
    Calls Tryd.prog 71 #[.string s, .int .i64 m] w fun e w' => e = .returned (.bool (plain s && decide ((s.size : Int) ≤ m))) ∧ w = w' := by
  go_enter Tryd.func71, Tryd.ntmps71
  go_wp2_with fail
  go_loop [5] (fun i => ∃ k : Nat, k ≤ s.size ∧ i = .int .i64 k ∧ Hid (allTo (fun j => plainB (byteAt s j)) k = true)) (fun i => s.size - (intOf i).toNat)
  case atStart => exact ⟨0, Nat.zero_le _, rfl, rfl⟩
  case round =>
    obtain ⟨k, hk, rfl, hall⟩ := hrel
    by_cases hlt : k < s.size
    · have hbk := byteAt_eq s k hlt
      have hk0 : (0 : Int) ≤ (k : Int) ∧ (k : Int) < (s.size : Int) := by omega
      obtain ⟨hk0, hk1⟩ := hk0
      cases hp : plainB (byteAt s k) with
      | false =>
        have hno : Hid (allTo (fun j => plainB (byteAt s j)) s.size = false) := allTo_false hlt hp
        generalize byteAt s k = c at hbk hp
        simp only [plainB, decide_eq_false_iff_not] at hp
        have hp' : ¬ (32 ≤ c.toNat) ∨ ¬ (c.toNat ≤ 126) ∨ c.toNat = 35 := by omega
        clear hp
        have hin : inR (c.toNat : Int) 32 126 = decide (32 ≤ c.toNat ∧ c.toNat ≤ 126) := by rw [Bool.eq_iff_iff]; simp only [inR, decide_eq_true_eq]; omega
        have hcc : c.toNat < 256 := UInt8.toNat_lt c
        go_wp2_with (go_at_call 51; refine (l1In_any _ _ _ _).mono ?_; rintro e w3 ⟨rfl, rfl⟩)
        all_goals
          first
          | (go_ret; exact ⟨ret_bool (by rw [plain, hno.out]; rfl), rfl⟩)
          | (exfalso; omega)
      | true =>
        have hyes : Hid (allTo (fun j => plainB (byteAt s j)) (k + 1) = true) := allTo_succ hall.out hp
        generalize byteAt s k = c at hbk hp
        simp only [plainB, decide_eq_true_eq] at hp
        obtain ⟨hp1, hp2, hp3⟩ := hp
        have hq1 : (32 : Int) ≤ (c.toNat : Int) := by omega
        have hq2 : (c.toNat : Int) ≤ 126 := by omega
        have hq3 : (c.toNat : Int) ≠ 35 := by omega
        have hin : inR (c.toNat : Int) 32 126 = true := by simp only [inR, decide_eq_true_eq]; omega
        have hcc : c.toNat < 256 := UInt8.toNat_lt c
        go_wp2_with (go_at_call 51; refine (l1In_any _ _ _ _).mono ?_; rintro e w3 ⟨rfl, rfl⟩)
        go_round
        case rel => exact ⟨k + 1, by omega, by go_num, hyes⟩
        case measure => simp [intOf]; omega
    · obtain rfl : k = s.size := by omega
      go_wp2_with fail
      go_ret
      exact ⟨ret_bool (by rw [plain, hall.out, Bool.true_and]), rfl⟩
set_option maxHeartbeats 800000 in
theorem l1Stands_any (s : ByteArray) (b : UInt8) (hs : (s.size : Int) ≤ 9223372036854775807) (w : World) :
    Calls Tryd.prog 72 #[.string s, .int .u8 (b.toNat : Int)] w fun e w' => e = .returned (.bool (!noByte s b)) ∧ w = w' := by
  go_enter Tryd.func72, Tryd.ntmps72
  go_wp2_with fail
  go_loop [5] (fun i => ∃ k : Nat, k ≤ s.size ∧ i = .int .i64 k ∧ Hid (allTo (fun j => decide (byteAt s j ≠ b)) k = true)) (fun i => s.size - (intOf i).toNat)
  case atStart => exact ⟨0, Nat.zero_le _, rfl, rfl⟩
  case round =>
    obtain ⟨k, hk, rfl, hall⟩ := hrel
    by_cases hlt : k < s.size
    · have hbk := byteAt_eq s k hlt
      have hk0 : (0 : Int) ≤ (k : Int) ∧ (k : Int) < (s.size : Int) := by omega
      obtain ⟨hk0, hk1⟩ := hk0
      by_cases hp : byteAt s k = b
      · have hno : Hid (noByte s b = false) := allTo_false hlt (by simp [hp])
        rw [hp] at hbk
        clear hp hall
        go_wp2_with fail
        go_ret
        exact ⟨ret_bool (by rw [hno.out]; rfl), rfl⟩
      · have hyes : Hid (allTo (fun j => decide (byteAt s j ≠ b)) (k + 1) = true) := allTo_succ hall.out (by simp [hp])
        have hne : byteAt s k ≠ b := hp
        clear hp hall
        generalize byteAt s k = c at hbk hne
        have hn2 : c.toNat ≠ b.toNat := fun e => hne (UInt8.toNat_inj.1 e)
        have hn3 : ((c.toNat : Int) == (b.toNat : Int)) = false := by simp; omega
        go_wp2_with fail
        go_round
        case rel => exact ⟨k + 1, by omega, by go_num, hyes⟩
        case measure => simp [intOf]; omega
    · obtain rfl : k = s.size := by omega
      go_wp2_with fail
      go_ret
      exact ⟨ret_bool (by unfold noByte; rw [hall.out]; rfl), rfl⟩
set_option maxHeartbeats 120000 in
theorem IsValidRecord_any (c r : ByteArray) (hc : (c.size : Int) ≤ 9223372036854775807) (hr : (r.size : Int) ≤ 9223372036854775807) (w : World) :
    Calls Tryd.prog 66 #[.agg #[.string c, .string r]] w fun e w' => e = .returned (.bool (goodRec c r)) ∧ Below w.heap.size w w' := by
  have HAL : Below w.heap.size w (w.alloc (.cells #[.string c, .string r] 84)) := (Below.refl _ w).alloc (Nat.le_refl _) _
  have hin : inR (c.size : Int) 1 160 = decide (1 ≤ c.size ∧ c.size ≤ 160) := by rw [Bool.eq_iff_iff]; simp only [inR, decide_eq_true_eq]; omega
  have hix := noByte_index c 64
  have hg : goodRec c r = (decide (1 ≤ c.size ∧ c.size ≤ 160) && decide (r.size ≤ 200) && plain c && plain r && noByte c 64) := rfl
  have HG := Lib.hid hg
  clear hg
  generalize hA : decide (1 ≤ c.size ∧ c.size ≤ 160) = bA at hin HG
  clear hA
  go_enter Tryd.func66, Tryd.ntmps66
  go_wp2_with (first | (go_at_call 31; refine (within_any _ _ _ _).mono ?_; rw [hin]; rintro e w3 ⟨rfl, rfl⟩) | (go_at_call 77; refine (isPlain_any _ (by assumption) _).mono ?_; rintro e w3 ⟨rfl, rfl⟩) | (go_at_call 75; refine (Tryd.strings_Contains_one _ 64 _).mono ?_; rw [hix]; rintro e w3 ⟨rfl, rfl⟩))
  all_goals
    go_ret
    exact ⟨ret_bool (by rw [HG.out]; cases h1 : plain c <;> cases h2 : noByte c 64 <;> cases h3 : plain r <;> cases h4 : bA <;> simp_all <;> omega), HAL⟩
set_option maxHeartbeats 120000 in
theorem l27Good_any (c r : ByteArray) (hc : (c.size : Int) ≤ 9223372036854775807) (hr : (r.size : Int) ≤ 9223372036854775807) (w : World) :
    Calls Tryd.prog 62 #[.agg #[.string c, .string r]] w fun e w' => e = .returned (.bool (goodRec c r)) ∧ Below w.heap.size w w' := by
  have HAL : Below w.heap.size w (w.alloc (.cells #[.string c, .string r] 84)) := (Below.refl _ w).alloc (Nat.le_refl _) _
  by_cases h0 : c = ⟨#[]⟩
  · subst h0
    have hg : goodRec ⟨#[]⟩ r = false := by unfold goodRec; rfl
    go_enter Tryd.func62, Tryd.ntmps62
    go_wp2_with fail
    go_ret
    exact ⟨ret_bool hg.symm, HAL⟩
  · have h1 : 1 ≤ c.size := by
      rcases Nat.eq_zero_or_pos c.size with h | h
      · exact absurd (ByteArray.ext (Array.eq_empty_of_size_eq_zero h)) h0
      · exact h
    have hg : goodRec c r = ((plain c && decide ((c.size : Int) ≤ 160)) && noByte c 64 && (plain r && decide ((r.size : Int) ≤ 200))) := by
      unfold goodRec
      rw [Bool.eq_iff_iff]
      simp only [Bool.and_eq_true, decide_eq_true_eq]
      constructor
      · rintro ⟨⟨⟨⟨a, b⟩, c⟩, d⟩, e⟩; exact ⟨⟨⟨c, by omega⟩, e⟩, d, by omega⟩
      · rintro ⟨⟨⟨a, b⟩, c⟩, d, e⟩; exact ⟨⟨⟨⟨by omega, by omega⟩, a⟩, d⟩, c⟩
    have hnl : c.toList ≠ [] := by
      rw [ByteArray.toList_eq]
      intro e
      exact h0 (ByteArray.ext (Array.toList_inj.1 (by simpa using e)))
    have hne : (c.toList == []) = false := by
      cases hcl : c.toList with
      | nil => exact absurd hcl hnl
      | cons a l => rfl
    have HG := Lib.hid hg
    clear hg h1
    go_enter Tryd.func62, Tryd.ntmps62
    go_wp2_with (first | (go_at_call 71; refine (l27Plain_any _ _ (by assumption) _).mono ?_; rintro e w3 ⟨rfl, rfl⟩) | (go_at_call 72; refine (l1Stands_any _ 64 (by assumption) _).mono ?_; rintro e w3 ⟨rfl, rfl⟩))
    all_goals
      go_ret
      exact ⟨ret_bool (by rw [HG.out]; cases h1 : plain c <;> cases h2 : noByte c 64 <;> cases h3 : plain r <;> simp_all <;> omega), HAL⟩
end Go.Proofs.YtegklcapfjigaaaDoor
