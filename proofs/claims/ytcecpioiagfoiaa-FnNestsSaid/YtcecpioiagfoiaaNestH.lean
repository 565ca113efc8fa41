/-
  WorkDays and LongestWork: the program's and the reference's return the same.
-/
import Derived.Test.YtcecpioiagfoiaaNestG
import Derived.Test.YtcecpioiagfoiaaOwn
namespace Go.Proofs.Ytcecpioiagfoiaa
open Go.RowKit
set_option linter.unusedVariables false
set_option linter.unusedSimpArgs false
attribute [local go_sem ↓] Go.wp_at_zero Go.wp_at_succ
def daysB (a u : Int) : Bool := decide (0 ≤ a ∧ a ≤ u ∧ u ≤ 4000)
def spanOk (f : Nat → Int) (n : Nat) (pond a u : Int) : Bool := goodNests f n && inR pond 1 99 && daysB a u
def wdV (f : Nat → Int) (n : Nat) (pond a u : Int) : Int := if spanOk f n pond a u then wdays (quietAt f n pond) a ((u - a).toNat + 1) else 0
def lgL (f : Nat → Int) (n : Nat) (pond a u : Int) : Int × Int := lastM (quietAt f n pond) a ((u - a).toNat + 1)
def lgB (f : Nat → Int) (n : Nat) (pond a u : Int) : Bool := spanOk f n pond a u && decide (0 < (lgL f n pond a u).2)
def lg1 (f : Nat → Int) (n : Nat) (pond a u : Int) : Int := if lgB f n pond a u then (lgL f n pond a u).1 - (lgL f n pond a u).2 + 1 else 0
def lg2 (f : Nat → Int) (n : Nat) (pond a u : Int) : Int := if lgB f n pond a u then (lgL f n pond a u).1 else 0
theorem areDays_any (a u : Int) (w : World) : Calls Try.prog 27 #[.int .i64 a, .int .i64 u] w fun e w' => e = .returned (.bool (daysB a u)) ∧ w = w' := by
  have hd : daysB a u = (inR a 0 4000 && inR u 0 4000 && decide (a ≤ u)) := by
    rw [Bool.eq_iff_iff]; simp only [daysB, inR, decide_eq_true_eq, Bool.and_eq_true]; omega
  have HD := Lib.hid hd
  clear hd
  cases h1 : inR a 0 4000 <;> cases h2 : inR u 0 4000
  all_goals
    go_enter Try.func27, Try.ntmps27
    go_wp2_with (go_at_call 19; refine (isDay_any _ _).mono ?_; rintro e w2 ⟨rfl, rfl⟩)
    go_ret
    exact ⟨ret_bool (by rw [HD.out, h1, h2]; simp), rfl⟩
theorem l24Span_any (A : Option Addr) (n c lo hi : Nat) (f : Nat → Int) (pond a u : Int) (w : World) (hs : Sl w lo hi 7 A n f) (hn : n ≤ 1048576) (hnc : n ≤ c) :
    Calls Try.prog 30 #[.slice A n c, .int .i64 pond, .int .i64 a, .int .i64 u] w fun e w' => e = .returned (.bool (spanOk f n pond a u)) ∧ Below w.heap.size w w' := by
  have hd : daysB a u = (inR u 0 4000 && inR a 0 u) := by
    rw [Bool.eq_iff_iff]; simp only [daysB, inR, decide_eq_true_eq, Bool.and_eq_true]; omega
  have HD := Lib.hid hd
  have HS := Lib.hid hs
  clear hd hs
  cases hg : goodNests f n <;> cases h1 : inR pond 1 99 <;> cases h2 : inR u 0 4000
  all_goals
    go_enter Try.func30, Try.ntmps30
    go_wp2_with (first | (go_at_call 22; refine (sNestAll_any A n c lo hi f w HS.out hn hnc).mono ?_; rintro e w2 ⟨rfl, hb2⟩) | (go_at_call 45; refine (l23Pond_any _ _).mono ?_; rintro e w3 ⟨rfl, rfl⟩) | (go_at_call 23; refine (l2Day_any _ _).mono ?_; rintro e w3 ⟨rfl, rfl⟩) | (go_at_call 40; refine (l1In_any _ _ _ _).mono ?_; rintro e w3 ⟨rfl, rfl⟩))
    go_ret
    exact ⟨ret_bool (by simp only [spanOk, hg, h1, HD.out, h2]; simp), hb2⟩
def sumTo (g : Nat → Int) : Nat → Int
  | 0 => 0
  | k + 1 => sumTo g k + (g (k * 2 + 1) - g (k * 2) + 1)
theorem flatP_get (L : List (Int × Int)) (k : Nat) (hk : k < L.length) : flF L (k * 2) = L[k].1 ∧ flF L (k * 2 + 1) = L[k].2 := by
  induction L generalizing k with
  | nil => simp at hk
  | cons p L ih =>
    cases k with
    | zero => exact ⟨rfl, rfl⟩
    | succ k =>
      have := ih k (by simpa using hk)
      rw [show (k + 1) * 2 = k * 2 + 1 + 1 by omega]
      exact this
theorem sumTo_eq (L : List (Int × Int)) : ∀ k, k ≤ L.length → sumTo (flF L) k = spSum (L.take k)
  | 0, _ => rfl
  | k + 1, h => by
    obtain ⟨h1, h2⟩ := flatP_get L k (by omega)
    show sumTo (flF L) k + _ = _
    rw [sumTo_eq L k (by omega), List.take_succ_eq_append_getElem (by omega), spSum_append]
    show _ + (flF L (k * 2 + 1) - flF L (k * 2) + 1) = _
    rw [h1, h2]
    simp [spSum]
/-- Within bounds, whatever the rows: as long as each is a run of days. -/
theorem sp_cells (q : Int → Bool) (a : Int) (N k : Nat) (hk : k < (sp q a N).length) : a ≤ flF (sp q a N) (k * 2) ∧ flF (sp q a N) (k * 2) ≤ flF (sp q a N) (k * 2 + 1) ∧ flF (sp q a N) (k * 2 + 1) < a + N := by
  obtain ⟨h1, h2⟩ := flatP_get _ k hk
  rw [h1, h2]
  exact sp_in q a N _ (List.getElem_mem hk)
theorem sumTo_bd (q : Int → Bool) (a : Int) (N : Nat) : ∀ k, k ≤ (sp q a N).length → 0 ≤ sumTo (flF (sp q a N)) k ∧ sumTo (flF (sp q a N)) k ≤ k * N
  | 0, _ => by simp [sumTo]
  | k + 1, h => by
    have h1 := sumTo_bd q a N k (by omega)
    obtain ⟨h2, h3, h4⟩ := sp_cells q a N k (by omega)
    have e : sumTo (flF (sp q a N)) (k + 1) = sumTo (flF (sp q a N)) k + (flF (sp q a N) (k * 2 + 1) - flF (sp q a N) (k * 2) + 1) := rfl
    have e2 : ((k + 1 : Nat) : Int) * (N : Int) = (k : Int) * N + N := by rw [Int.natCast_add, Int.add_mul]; simp
    rw [e, e2]
    omega
set_option maxHeartbeats 800000 in
theorem WorkDays_no (A : Option Addr) (n c lo hi : Nat) (f : Nat → Int) (pond a u : Int) (w : World) (hs : Sl w lo hi 7 A n f) (hn : n ≤ 1048576) (hnc : n ≤ c) (h : spanOk f n pond a u = false) :
    Calls Try.prog 12 #[.slice A n c, .int .i64 pond, .int .i64 a, .int .i64 u] w fun e w' => e = .returned (.tuple #[.int .i64 0, .bool false]) ∧ Below w.heap.size w w' := by
  have HS := Lib.hid hs
  clear hs
  cases hg : goodNests f n <;> cases h1 : inR pond 1 99 <;> cases h2 : daysB a u <;> first | (simp [spanOk, hg, h1, h2] at h; done) | skip
  all_goals
    clear h
    go_enter Try.func12, Try.ntmps12
    go_wp2_with (first | (go_at_call 18; refine (NestAll_any A n c lo hi f w HS.out hn hnc).mono ?_; rintro e w1 ⟨rfl, hb1⟩) | (go_at_call 26; refine (isId_any _ _).mono ?_; rintro e w2 ⟨rfl, rfl⟩) | (go_at_call 27; refine (areDays_any _ _ _).mono ?_; rintro e w2 ⟨rfl, rfl⟩))
    go_ret2
    exact ⟨rfl, hb1⟩
set_option maxRecDepth 100000 in
set_option maxHeartbeats 1000000 in
theorem WorkDays_yes (A : Option Addr) (n c lo hi : Nat) (f : Nat → Int) (pond a u : Int) (w : World) (hs : Sl w lo hi 7 A n f) (hn : n ≤ 1048576) (hnc : n ≤ c) (h : spanOk f n pond a u = true) :
    Calls Try.prog 12 #[.slice A n c, .int .i64 pond, .int .i64 a, .int .i64 u] w fun e w' => e = .returned (.tuple #[.int .i64 (wdays (quietAt f n pond) a ((u - a).toNat + 1)), .bool true]) ∧ Below w.heap.size w w' := by
  have HS := Lib.hid hs
  clear hs
  have hu := h
  simp only [spanOk, Bool.and_eq_true, daysB, decide_eq_true_eq] at hu
  obtain ⟨⟨_, _⟩, hu1, hu2, hu3⟩ := hu
  obtain ⟨⟨hg, h1⟩, h2⟩ : (goodNests f n = true ∧ inR pond 1 99 = true) ∧ daysB a u = true := by simpa [spanOk] using h
  have H := Lib.hid h
  clear h
  go_enter Try.func12, Try.ntmps12
  go_wp2_with fail
  refine (NestAll_any A n c lo hi f w HS.out hn hnc).mono ?_
  rintro e w1 ⟨rfl, hb1⟩
  rw [hg]
  go_wp2_with fail
  refine (isId_any _ _).mono ?_
  rintro e w2 ⟨rfl, rfl⟩
  rw [h1]
  go_wp2_with fail
  refine (areDays_any _ _ _).mono ?_
  rintro e w2 ⟨rfl, rfl⟩
  rw [h2]
  go_wp2_with fail
  refine (workSpans_any A n c lo hi f pond a u w1 (HS.out.below hb1) hn hnc hu1 hu2 hu3).mono ?_
  rintro e w2 ⟨A2, c2, rfl, hc2, hc2m, ho2, hb2⟩
  have hB2 := below_of hb1 hb2 hb1.size
  have hlen := sp_len (quietAt f n pond) a ((u - a).toNat + 1)
  generalize hL : sp (quietAt f n pond) a ((u - a).toNat + 1) = L at *
  have HL := Lib.hid hL
  have HLN : Hid (L.length ≤ 4001) := by show _ ≤ _; omega
  clear hL hlen hb1 hb2
  obtain ⟨l, hl⟩ : ∃ l, l = L.length := ⟨_, rfl⟩
  rw [← hl] at hc2 ho2 ⊢
  have hl4 : l ≤ 4001 := by rw [hl]; exact HLN.out
  have HLL := Lib.hid hl
  have HO := Lib.hid ho2.sl
  clear ho2 hl
  have hbd := Lib.hid (fun k hk => sumTo_bd (quietAt f n pond) a ((u - a).toNat + 1) k hk)
  have hcd := Lib.hid (fun k hk => sp_cells (quietAt f n pond) a ((u - a).toNat + 1) k hk)
  have hfin : Hid (sumTo (flF L) L.length = wdays (quietAt f n pond) a ((u - a).toNat + 1)) := by
    show _ = _
    rw [sumTo_eq L _ (Nat.le_refl _), List.take_length, ← HL.out, sp_sum]
  rw [HL.out] at hbd hcd
  rw [← HLL.out] at hbd hcd hfin
  generalize flF L = g at *
  go_wp2_with fail
  go_loopw [10, 33] (fun sv kv wr => ∃ k : Nat, k ≤ l ∧ kv = .int .i64 k ∧ sv = .int .i64 (sumTo g k) ∧ Below w2.heap.size w2 wr) (fun _ kv _ => l - (intOf kv).toNat)
  case atStart => exact ⟨0, Nat.zero_le _, rfl, rfl, Below.refl _ _⟩
  case round =>
    obtain ⟨k, hk, rfl, rfl, hbel⟩ := hrel
    by_cases hlt : k < l
    · obtain ⟨b, off, rfl, hbw, HC⟩ := HO.out.open_ hbel (by omega)
      have c0 := HC.out (k * 2) (by omega)
      have c1 := HC.out (k * 2 + 1) (by omega)
      rw [← Nat.add_assoc] at c1
      obtain ⟨b1, b2⟩ := hbd.out k (by omega)
      obtain ⟨d1, d2, d3⟩ := hcd.out k hlt
      have hkN : (k : Int) * ((((u - a).toNat + 1 : Nat)) : Int) ≤ 4001 * 4001 := Int.mul_le_mul (by omega) (by omega) (by omega) (by omega)
      have hs : Hid (sumTo g (k + 1) = sumTo g k + (g (k * 2 + 1) - g (k * 2) + 1)) := rfl
      generalize sumTo g k = s at *
      generalize hg1 : g (k * 2 + 1) = x1 at *
      generalize hg0 : g (k * 2) = x0 at *
      have q1 : s ≤ 16008001 := by omega
      have q2 : x0 ≤ 8002 := by omega
      have q3 : x1 ≤ 8002 := by omega
      have q4 : 0 ≤ x0 := by omega
      have q5 : 0 ≤ x1 := by omega
      clear HC HO b2 d1 d2 d3 hkN hg1 hg0
      go_wp2
      go_roundw
      case rel => exact ⟨k + 1, by omega, by go_num, by rw [hs.out], below_of hbel ((Below.refl _ wr).alloc (Nat.le_refl _) _) hbel.size⟩
      case measure => simp [intOf]; omega
    · obtain rfl : k = l := by omega
      clear HO
      go_wp2
      go_ret2
      exact ⟨congrArg (fun z => Ending.returned (.tuple #[.int .i64 z, .bool true])) hfin.out, below_of hB2 hbel hB2.size⟩
theorem sWorkDays_no (A : Option Addr) (n c lo hi : Nat) (f : Nat → Int) (pond a u : Int) (w : World) (hs : Sl w lo hi 7 A n f) (hn : n ≤ 1048576) (hnc : n ≤ c) (h : spanOk f n pond a u = false) :
    Calls Try.prog 16 #[.slice A n c, .int .i64 pond, .int .i64 a, .int .i64 u] w fun e w' => e = .returned (.tuple #[.int .i64 0, .bool false]) ∧ Below w.heap.size w w' := by
  have HS := Lib.hid hs
  clear hs
  go_enter Try.func16, Try.ntmps16
  go_wp2_with fail
  refine (l24Span_any A n c lo hi f pond a u w HS.out hn hnc).mono ?_
  rw [h]
  rintro e w1 ⟨rfl, hb1⟩
  go_wp2
  go_ret2
  exact ⟨rfl, hb1⟩
set_option maxHeartbeats 800000 in
theorem sWorkDays_yes (A : Option Addr) (n c lo hi : Nat) (f : Nat → Int) (pond a u : Int) (w : World) (hs : Sl w lo hi 7 A n f) (hn : n ≤ 1048576) (hnc : n ≤ c) (h : spanOk f n pond a u = true) :
    Calls Try.prog 16 #[.slice A n c, .int .i64 pond, .int .i64 a, .int .i64 u] w fun e w' => e = .returned (.tuple #[.int .i64 (wdays (quietAt f n pond) a ((u - a).toNat + 1)), .bool true]) ∧ Below w.heap.size w w' := by
  have HS := Lib.hid hs
  clear hs
  have hu := h
  simp only [spanOk, Bool.and_eq_true, daysB, decide_eq_true_eq] at hu
  obtain ⟨⟨_, _⟩, hu1, hu2, hu3⟩ := hu
  obtain ⟨⟨hg, h1⟩, h2⟩ : (goodNests f n = true ∧ inR pond 1 99 = true) ∧ daysB a u = true := by simpa [spanOk] using h
  have H := Lib.hid h
  clear h
  go_enter Try.func16, Try.ntmps16
  go_wp2_with fail
  refine (l24Span_any A n c lo hi f pond a u w HS.out hn hnc).mono ?_
  rw [H.out]
  rintro e w1 ⟨rfl, hb1⟩
  have HS1 := Lib.hid (HS.out.below hb1)
  go_wp2_with fail
  go_loopw [10, 11] (fun nv dv wr => ∃ t : Nat, t ≤ (u - a).toNat + 1 ∧ dv = .int .i64 (a + t) ∧ nv = .int .i64 (wdays (quietAt f n pond) a t) ∧ Below w1.heap.size w1 wr) (fun _ dv _ => (u + 1 - intOf dv).toNat)
  case atStart => exact ⟨0, Nat.zero_le _, by simp, rfl, Below.refl _ _⟩
  case round =>
    obtain ⟨t, ht, rfl, rfl, hbel⟩ := hrel
    obtain ⟨b1, b2⟩ := wdays_bd (quietAt f n pond) a t
    by_cases hlt : t < (u - a).toNat + 1
    · have hle : a + (t : Int) ≤ u := by omega
      have hw : Hid (wdays (quietAt f n pond) a (t + 1) = if quietAt f n pond (a + t) then wdays (quietAt f n pond) a t else wdays (quietAt f n pond) a t + 1) := rfl
      generalize wdays (quietAt f n pond) a t = s at *
      cases hq : quietAt f n pond (a + t) with
      | true =>
        go_wp2_with fail
        refine (l24Quiet_any A n c lo hi f pond (a + t) wr (HS1.out.below hbel) hn hnc).mono ?_
        rintro e w2 ⟨rfl, hb2⟩
        rw [hq]
        go_wp2
        go_roundw
        case rel => exact ⟨t + 1, by omega, by go_num, by rw [hw.out, hq]; rfl, below_of hbel hb2 hbel.size⟩
        case measure => simp [intOf]; omega
      | false =>
        go_wp2_with fail
        refine (l24Quiet_any A n c lo hi f pond (a + t) wr (HS1.out.below hbel) hn hnc).mono ?_
        rintro e w2 ⟨rfl, hb2⟩
        rw [hq]
        go_wp2
        go_roundw
        case rel => exact ⟨t + 1, by omega, by go_num, by rw [hw.out, hq]; rfl, below_of hbel hb2 hbel.size⟩
        case measure => simp [intOf]; omega
    · have hle : ¬ (a + (t : Int) ≤ u) := by omega
      have hte : Hid (t = (u - a).toNat + 1) := by show _ = _; omega
      go_wp2
      go_ret2
      exact ⟨congrArg (fun z => Ending.returned (.tuple #[.int .i64 (wdays (quietAt f n pond) a z), .bool true])) hte.out, below_of hb1 hbel hb1.size⟩
theorem ret_iib {a a' b b' : Int} {c c' : Bool} (h1 : a = a') (h2 : b = b') (h3 : c = c') : Ending.returned (.tuple #[.int .i64 a, .int .i64 b, .bool c]) = Ending.returned (.tuple #[.int .i64 a', .int .i64 b', .bool c']) := by rw [h1, h2, h3]
theorem lastM_in (q : Int → Bool) (a : Int) : ∀ k, lastM q a k = (0, 0) ∨ (a ≤ (lastM q a k).1 ∧ (lastM q a k).1 < a + k)
  | 0 => Or.inl rfl
  | k + 1 => by
    unfold lastM
    split
    · right; simp only; omega
    · rcases lastM_in q a k with h | h
      · exact Or.inl h
      · right; omega
def lenLt (g : Nat → Int) (m k : Nat) : Bool := decide (g (m * 2 + 1) - g (m * 2) < g (k * 2 + 1) - g (k * 2))
theorem bst_best (L : List (Int × Int)) : ∀ k (hk : k < L.length) , ∃ hb : bestBy (lenLt (flF L)) (k + 1) < L.length, bst (L.take (k + 1)) = some (L[bestBy (lenLt (flF L)) (k + 1)]'hb)
  | 0, hk => by
    have e : bestBy (lenLt (flF L)) (0 + 1) = 0 := bestBy_one _
    refine ⟨by rw [e]; exact hk, ?_⟩
    rw [List.take_succ_eq_append_getElem hk]
    simp only [e]
    rfl
  | k + 1, hk => by
    obtain ⟨hb, ih⟩ := bst_best L k (by omega)
    have hb2 := bestBy_lt (lenLt (flF L)) (n := L.length) (by omega) (k + 1 + 1) (by omega)
    refine ⟨hb2, ?_⟩
    rw [List.take_succ_eq_append_getElem hk, bst_snoc, ih]
    obtain ⟨e1, e2⟩ := flatP_get L (k + 1) hk
    obtain ⟨e3, e4⟩ := flatP_get L (bestBy (lenLt (flF L)) (k + 1)) hb
    simp only [bstep]
    by_cases hc : L[k + 1].2 - L[k + 1].1 > (L[bestBy (lenLt (flF L)) (k + 1)]'hb).2 - (L[bestBy (lenLt (flF L)) (k + 1)]'hb).1
    · have e : bestBy (lenLt (flF L)) (k + 1 + 1) = k + 1 := bestBy_yes (by simp only [lenLt, e1, e2, e3, e4, decide_eq_true_eq]; omega)
      rw [if_pos hc]
      simp only [e]
    · have e : bestBy (lenLt (flF L)) (k + 1 + 1) = bestBy (lenLt (flF L)) (k + 1) := bestBy_no (by simp only [lenLt, e1, e2, e3, e4, decide_eq_false_iff_not]; omega)
      rw [if_neg hc]
      simp only [e]
/-- What the program's last loop finds, as the reference counts it. -/
theorem lg_best (q : Int → Bool) (a : Int) (N : Nat) (h : sp q a N ≠ []) : 0 < (lastM q a N).2 ∧
    flF (sp q a N) (bestBy (lenLt (flF (sp q a N))) (sp q a N).length * 2) = (lastM q a N).1 - (lastM q a N).2 + 1 ∧ flF (sp q a N) (bestBy (lenLt (flF (sp q a N))) (sp q a N).length * 2 + 1) = (lastM q a N).1 := by
  obtain ⟨h1, h2⟩ := bst_sp q a N
  have hn := lastM_nn q a N
  have hp : 0 < (lastM q a N).2 := by
    rcases Int.lt_or_eq_of_le hn.1 with h0 | h0
    · exact h0
    · exact absurd (h1 h0.symm) h
  have hl : 0 < (sp q a N).length := List.length_pos_iff.2 h
  obtain ⟨m, hm⟩ : ∃ m, (sp q a N).length = m + 1 := ⟨(sp q a N).length - 1, by omega⟩
  obtain ⟨hb, hbst⟩ := bst_best (sp q a N) m (by omega)
  rw [List.take_of_length_le (by omega), h2 hp, Option.some.injEq] at hbst
  rw [hm]
  obtain ⟨e1, e2⟩ := flatP_get _ _ hb
  rw [← hbst] at e1 e2
  exact ⟨hp, e1, e2⟩
theorem sLongestWork_no (A : Option Addr) (n c lo hi : Nat) (f : Nat → Int) (pond a u : Int) (w : World) (hs : Sl w lo hi 7 A n f) (hn : n ≤ 1048576) (hnc : n ≤ c) (h : spanOk f n pond a u = false) :
    Calls Try.prog 15 #[.slice A n c, .int .i64 pond, .int .i64 a, .int .i64 u] w fun e w' => e = .returned (.tuple #[.int .i64 0, .int .i64 0, .bool false]) ∧ Below w.heap.size w w' := by
  have HS := Lib.hid hs
  clear hs
  go_enter Try.func15, Try.ntmps15
  go_wp2_with fail
  refine (l24Span_any A n c lo hi f pond a u w HS.out hn hnc).mono ?_
  rw [h]
  rintro e w1 ⟨rfl, hb1⟩
  go_wp2
  go_ret3
  exact ⟨rfl, hb1⟩
set_option maxHeartbeats 1000000 in
theorem sLongestWork_yes (A : Option Addr) (n c lo hi : Nat) (f : Nat → Int) (pond a u : Int) (w : World) (hs : Sl w lo hi 7 A n f) (hn : n ≤ 1048576) (hnc : n ≤ c) (h : spanOk f n pond a u = true) :
    Calls Try.prog 15 #[.slice A n c, .int .i64 pond, .int .i64 a, .int .i64 u] w fun e w' => e = .returned (.tuple #[.int .i64 (lg1 f n pond a u), .int .i64 (lg2 f n pond a u), .bool (lgB f n pond a u)]) ∧ Below w.heap.size w w' := by
  have HS := Lib.hid hs
  clear hs
  have hu := h
  simp only [spanOk, Bool.and_eq_true, daysB, decide_eq_true_eq] at hu
  obtain ⟨⟨_, _⟩, hu1, hu2, hu3⟩ := hu
  obtain ⟨⟨hg, h1⟩, h2⟩ : (goodNests f n = true ∧ inR pond 1 99 = true) ∧ daysB a u = true := by simpa [spanOk] using h
  have H := Lib.hid h
  clear h
  go_enter Try.func15, Try.ntmps15
  go_wp2_with fail
  refine (l24Span_any A n c lo hi f pond a u w HS.out hn hnc).mono ?_
  rw [H.out]
  rintro e w1 ⟨rfl, hb1⟩
  have HS1 := Lib.hid (HS.out.below hb1)
  go_wp2_with fail
  go_loopw [11, 12, 13, 14] (fun lv mv rv dv wr => ∃ t : Nat, t ≤ (u - a).toNat + 1 ∧ dv = .int .i64 (a + t) ∧ lv = .int .i64 (lastM (quietAt f n pond) a t).1 ∧ mv = .int .i64 (lastM (quietAt f n pond) a t).2 ∧ rv = .int .i64 (runL (quietAt f n pond) a t) ∧ Below w1.heap.size w1 wr) (fun _ _ _ dv _ => (u + 1 - intOf dv).toNat)
  case atStart => exact ⟨0, Nat.zero_le _, by simp, rfl, rfl, rfl, Below.refl _ _⟩
  case round =>
    obtain ⟨t, ht, rfl, rfl, rfl, rfl, hbel⟩ := hrel
    obtain ⟨b1, b2, b3⟩ := lastM_nn (quietAt f n pond) a t
    obtain ⟨b4, b5⟩ := runL_nn (quietAt f n pond) a t
    by_cases hlt : t < (u - a).toNat + 1
    · have hle : a + (t : Int) ≤ u := by omega
      have hw1 : Hid (runL (quietAt f n pond) a (t + 1) = if quietAt f n pond (a + t) then 0 else runL (quietAt f n pond) a t + 1) := rfl
      have hw2 : Hid (lastM (quietAt f n pond) a (t + 1) = if runL (quietAt f n pond) a (t + 1) > (lastM (quietAt f n pond) a t).2 then (a + (t : Int), runL (quietAt f n pond) a (t + 1)) else lastM (quietAt f n pond) a t) := rfl
      generalize runL (quietAt f n pond) a t = r at *
      obtain ⟨la, hla⟩ : ∃ x, x = lastM (quietAt f n pond) a t := ⟨_, rfl⟩
      rw [← hla] at hw2 b1 b2 b3 ⊢
      obtain ⟨la1, la2⟩ := la
      simp only at b1 b2 b3
      have HLA := Lib.hid hla
      clear hla
      cases hq : quietAt f n pond (a + t) with
      | true =>
        go_wp2_with fail
        refine (l24Quiet_any A n c lo hi f pond (a + t) wr (HS1.out.below hbel) hn hnc).mono ?_
        rintro e w2 ⟨rfl, hb2⟩
        rw [hq]
        have hr : ¬ (la2 < 0) := by omega
        go_wp2
        go_roundw
        case rel =>
          have e1 : runL (quietAt f n pond) a (t + 1) = 0 := by rw [hw1.out, hq]; rfl
          have e2 : lastM (quietAt f n pond) a (t + 1) = (la1, la2) := by rw [hw2.out, e1, if_neg (by omega)]
          exact ⟨t + 1, by omega, by go_num, by rw [e2], by rw [e2], by rw [e1], below_of hbel hb2 hbel.size⟩
        case measure => simp [intOf]; omega
      | false =>
        have e1 : runL (quietAt f n pond) a (t + 1) = r + 1 := by rw [hw1.out, hq]; rfl
        rw [e1] at hw2
        have E1 := Lib.hid e1
        clear e1
        by_cases hm : la2 < r + 1
        · go_wp2_with fail
          refine (l24Quiet_any A n c lo hi f pond (a + t) wr (HS1.out.below hbel) hn hnc).mono ?_
          rintro e w2 ⟨rfl, hb2⟩
          rw [hq]
          go_wp2
          go_roundw
          case rel =>
            have e2 : lastM (quietAt f n pond) a (t + 1) = (a + (t : Int), r + 1) := by rw [hw2.out, if_pos (by omega)]
            exact ⟨t + 1, by omega, by go_num, by rw [e2], by rw [e2], by rw [E1.out], below_of hbel hb2 hbel.size⟩
          case measure => simp [intOf]; omega
        · go_wp2_with fail
          refine (l24Quiet_any A n c lo hi f pond (a + t) wr (HS1.out.below hbel) hn hnc).mono ?_
          rintro e w2 ⟨rfl, hb2⟩
          rw [hq]
          go_wp2
          go_roundw
          case rel =>
            have e2 : lastM (quietAt f n pond) a (t + 1) = (la1, la2) := by rw [hw2.out, if_neg (by omega)]
            exact ⟨t + 1, by omega, by go_num, by rw [e2], by rw [e2], by rw [E1.out], below_of hbel hb2 hbel.size⟩
          case measure => simp [intOf]; omega
    · have hle : ¬ (a + (t : Int) ≤ u) := by omega
      have hte : Hid (lastM (quietAt f n pond) a t = lgL f n pond a u) := by
        have e : t = (u - a).toNat + 1 := by omega
        rw [e]; rfl
      have hD : Hid (lgB f n pond a u = decide (0 < (lgL f n pond a u).2)) := by show lgB _ _ _ _ _ = _; rw [lgB, H.out]; rfl
      rw [hte.out] at b1 b2 b3 ⊢
      by_cases hz : (lgL f n pond a u).2 = 0
      · have hzb : ((lgL f n pond a u).2 == 0) = true := by simp [hz]
        have L3 : Hid (lgB f n pond a u = false) := by show _ = _; rw [hD.out, hz]; rfl
        have L1 : Hid (lg1 f n pond a u = 0) := by show _ = _; rw [lg1, L3.out]; rfl
        have L2 : Hid (lg2 f n pond a u = 0) := by show _ = _; rw [lg2, L3.out]; rfl
        generalize lgL f n pond a u = la at *
        go_wp2
        go_ret3
        exact ⟨ret_iib L1.out.symm L2.out.symm L3.out.symm, below_of hb1 hbel hb1.size⟩
      · have hzb : ((lgL f n pond a u).2 == 0) = false := by simp [hz]
        have L3 : Hid (lgB f n pond a u = true) := by show _ = _; rw [hD.out]; simp; omega
        have L1 : Hid (lg1 f n pond a u = (lgL f n pond a u).1 - (lgL f n pond a u).2 + 1) := by show _ = _; rw [lg1, L3.out]; rfl
        have L2 : Hid (lg2 f n pond a u = (lgL f n pond a u).1) := by show _ = _; rw [lg2, L3.out]; rfl
        have hL1 : -1 ≤ (lgL f n pond a u).1 ∧ (lgL f n pond a u).1 ≤ 1000000 := by
          rcases lastM_in (quietAt f n pond) a ((u - a).toNat + 1) with h0 | ⟨h0, h1⟩
          · unfold lgL; rw [h0]; decide
          · unfold lgL; omega
        obtain ⟨hL1, hL2⟩ := hL1
        have hL3 : (lgL f n pond a u).2 ≤ 1000000 := by omega
        generalize lgL f n pond a u = la at *
        go_wp2
        go_ret3
        exact ⟨ret_iib L1.out.symm L2.out.symm L3.out.symm, below_of hb1 hbel hb1.size⟩
set_option maxHeartbeats 800000 in
theorem LongestWork_no (A : Option Addr) (n c lo hi : Nat) (f : Nat → Int) (pond a u : Int) (w : World) (hs : Sl w lo hi 7 A n f) (hn : n ≤ 1048576) (hnc : n ≤ c) (h : spanOk f n pond a u = false) :
    Calls Try.prog 14 #[.slice A n c, .int .i64 pond, .int .i64 a, .int .i64 u] w fun e w' => e = .returned (.tuple #[.int .i64 0, .int .i64 0, .bool false]) ∧ Below w.heap.size w w' := by
  have HS := Lib.hid hs
  clear hs
  cases hg : goodNests f n <;> cases h1 : inR pond 1 99 <;> cases h2 : daysB a u <;> first | (simp [spanOk, hg, h1, h2] at h; done) | skip
  all_goals
    clear h
    go_enter Try.func14, Try.ntmps14
    go_wp2_with (first | (go_at_call 18; refine (NestAll_any A n c lo hi f w HS.out hn hnc).mono ?_; rintro e w1 ⟨rfl, hb1⟩) | (go_at_call 26; refine (isId_any _ _).mono ?_; rintro e w2 ⟨rfl, rfl⟩) | (go_at_call 27; refine (areDays_any _ _ _).mono ?_; rintro e w2 ⟨rfl, rfl⟩))
    go_ret3
    exact ⟨rfl, hb1⟩
set_option maxRecDepth 100000 in
set_option maxHeartbeats 1000000 in
theorem LongestWork_yes (A : Option Addr) (n c lo hi : Nat) (f : Nat → Int) (pond a u : Int) (w : World) (hs : Sl w lo hi 7 A n f) (hn : n ≤ 1048576) (hnc : n ≤ c) (h : spanOk f n pond a u = true) :
    Calls Try.prog 14 #[.slice A n c, .int .i64 pond, .int .i64 a, .int .i64 u] w fun e w' => e = .returned (.tuple #[.int .i64 (lg1 f n pond a u), .int .i64 (lg2 f n pond a u), .bool (lgB f n pond a u)]) ∧ Below w.heap.size w w' := by
  have HS := Lib.hid hs
  clear hs
  have hu := h
  simp only [spanOk, Bool.and_eq_true, daysB, decide_eq_true_eq] at hu
  obtain ⟨⟨_, _⟩, hu1, hu2, hu3⟩ := hu
  obtain ⟨⟨hg, h1⟩, h2⟩ : (goodNests f n = true ∧ inR pond 1 99 = true) ∧ daysB a u = true := by simpa [spanOk] using h
  have H := Lib.hid h
  clear h
  go_enter Try.func14, Try.ntmps14
  go_wp2_with fail
  refine (NestAll_any A n c lo hi f w HS.out hn hnc).mono ?_
  rintro e w1 ⟨rfl, hb1⟩
  rw [hg]
  go_wp2_with fail
  refine (isId_any _ _).mono ?_
  rintro e w2 ⟨rfl, rfl⟩
  rw [h1]
  go_wp2_with fail
  refine (areDays_any _ _ _).mono ?_
  rintro e w2 ⟨rfl, rfl⟩
  rw [h2]
  go_wp2_with fail
  refine (workSpans_any A n c lo hi f pond a u w1 (HS.out.below hb1) hn hnc hu1 hu2 hu3).mono ?_
  rintro e w2 ⟨A2, c2, rfl, hc2, hc2m, ho2, hb2⟩
  have hB2 := below_of hb1 hb2 hb1.size
  have hlen := sp_len (quietAt f n pond) a ((u - a).toNat + 1)
  generalize hL : sp (quietAt f n pond) a ((u - a).toNat + 1) = L at *
  have HL := Lib.hid hL
  have HLN : Hid (L.length ≤ 4001) := by show _ ≤ _; omega
  clear hL hlen hb1 hb2
  obtain ⟨l, hl⟩ : ∃ l, l = L.length := ⟨_, rfl⟩
  rw [← hl] at hc2 ho2 ⊢
  have hl4 : l ≤ 4001 := by rw [hl]; exact HLN.out
  have HLL := Lib.hid hl
  have HO := Lib.hid ho2.sl
  clear ho2 hl
  have hcd := Lib.hid (fun k hk => sp_cells (quietAt f n pond) a ((u - a).toNat + 1) k hk)
  have hD : Hid (lgB f n pond a u = decide (0 < (lgL f n pond a u).2)) := by show lgB _ _ _ _ _ = _; rw [lgB, H.out]; rfl
  by_cases hl0 : l = 0
  · have L3 : Hid (lgB f n pond a u = false) := by
      show _ = _
      rw [hD.out]
      have h0 := (bst_sp (quietAt f n pond) a ((u - a).toNat + 1))
      have h1 : (lgL f n pond a u).2 = 0 := by
        have hn := lastM_nn (quietAt f n pond) a ((u - a).toNat + 1)
        rcases Int.lt_or_eq_of_le hn.1 with h2 | h2
        · have := h0.2 h2
          rw [HL.out, List.length_eq_zero_iff.1 (HLL.out.symm.trans hl0)] at this
          simp [bst] at this
        · exact h2.symm
      rw [h1]; rfl
    have L1 : Hid (lg1 f n pond a u = 0) := by show _ = _; rw [lg1, L3.out]; rfl
    have L2 : Hid (lg2 f n pond a u = 0) := by show _ = _; rw [lg2, L3.out]; rfl
    have hlb : ((l : Int) == 0) = true := by simp [hl0]
    clear HO
    go_wp2_with fail
    go_ret3
    exact ⟨ret_iib L1.out.symm L2.out.symm L3.out.symm, hB2⟩
  · have hlb : ((l : Int) == 0) = false := by simp; omega
    have hlp : (0 : Int) < (l : Int) := by omega
    have hne : sp (quietAt f n pond) a ((u - a).toNat + 1) ≠ [] := by
      intro e
      rw [HL.out] at e
      exact hl0 (by rw [HLL.out, e]; rfl)
    obtain ⟨p1, p2, p3⟩ := lg_best _ _ _ hne
    have L3 : Hid (lgB f n pond a u = true) := by show _ = _; rw [hD.out]; exact decide_eq_true p1
    have L1 : Hid (lg1 f n pond a u = flF (sp (quietAt f n pond) a ((u - a).toNat + 1)) (bestBy (lenLt (flF (sp (quietAt f n pond) a ((u - a).toNat + 1)))) (sp (quietAt f n pond) a ((u - a).toNat + 1)).length * 2)) := by show _ = _; rw [lg1, L3.out, p2]; rfl
    have L2 : Hid (lg2 f n pond a u = flF (sp (quietAt f n pond) a ((u - a).toNat + 1)) (bestBy (lenLt (flF (sp (quietAt f n pond) a ((u - a).toNat + 1)))) (sp (quietAt f n pond) a ((u - a).toNat + 1)).length * 2 + 1)) := by show _ = _; rw [lg2, L3.out, p3]; rfl
    clear hne p1 p2 p3
    rw [HL.out] at hcd L1 L2
    rw [← HLL.out] at hcd L1 L2
    have hblt := Lib.hid (fun k hk => bestBy_lt (lenLt (flF L)) (n := l) (by omega) k hk)
    generalize flF L = g at *
    obtain ⟨b, off, rfl, hbw, HC⟩ := HO.out.open_ (Below.refl _ _) (by omega)
    have c0 := HC.out 0 (by omega)
    have c1 := HC.out 1 (by omega)
    simp only [Nat.add_zero] at c0
    clear HC
    go_wp2_with fail
    clear c0 c1
    go_loopw [42] (fun kv wr => ∃ k : Nat, k ≤ l ∧ kv = .int .i64 k ∧ Own wr w2.heap.size (w2.heap.size + 1) 48 2 (some ⟨w2.heap.size, 0, none⟩) 1 (fun j => g (bestBy (lenLt g) k * 2 + j)) ∧ Below w2.heap.size w2 wr) (fun kv _ => l - (intOf kv).toNat)
    case atStart => exact ⟨0, Nat.zero_le _, rfl, own_new2 _ _ _ _ _ rfl rfl, (Below.refl _ w2).alloc (Nat.le_refl _) _⟩
    case round =>
      obtain ⟨k, hk, rfl, hO, hbel⟩ := hrel
      obtain ⟨p0, p1, pf, pg⟩ := hO.cells2
      simp only [Nat.add_zero] at p0
      have hm1 := hblt.out k hk
      obtain ⟨m1, m2, m3⟩ := hcd.out _ hm1
      by_cases hlt : k < l
      · obtain ⟨hbr, HC⟩ := HO.out.open_at hbel (by omega)
        have c0 := HC.out (k * 2) (by omega)
        have c1 := HC.out (k * 2 + 1) (by omega)
        rw [← Nat.add_assoc] at c1
        obtain ⟨d1, d2, d3⟩ := hcd.out k hlt
        have HY : Hid (g (bestBy (lenLt g) k * 2 + 1) - g (bestBy (lenLt g) k * 2) < g (k * 2 + 1) - g (k * 2) → bestBy (lenLt g) (k + 1) = k) := fun h => bestBy_yes (by simp [lenLt, h])
        have HN : Hid (¬ g (bestBy (lenLt g) k * 2 + 1) - g (bestBy (lenLt g) k * 2) < g (k * 2 + 1) - g (k * 2) → bestBy (lenLt g) (k + 1) = bestBy (lenLt g) k) := fun h => bestBy_no (by simp [lenLt, h])
        generalize bestBy (lenLt g) k = m at *
        have hO2 := Lib.hid (hO.below ((Below.refl _ wr).alloc (Nat.le_refl _) (.cells #[.int .i64 (g (k * 2)), .int .i64 (g (k * 2 + 1))] 48)))
        have hbel2 := below_of hbel ((Below.refl _ wr).alloc (Nat.le_refl _) (.cells #[.int .i64 (g (k * 2)), .int .i64 (g (k * 2 + 1))] 48)) hbel.size
        have r1 : 0 ≤ g (k * 2) ∧ g (k * 2) ≤ 10000 ∧ 0 ≤ g (k * 2 + 1) ∧ g (k * 2 + 1) ≤ 10000 := by omega
        have r2 : 0 ≤ g (m * 2) ∧ g (m * 2) ≤ 10000 ∧ 0 ≤ g (m * 2 + 1) ∧ g (m * 2 + 1) ≤ 10000 := by omega
        obtain ⟨r11, r12, r13, r14⟩ := r1
        obtain ⟨r21, r22, r23, r24⟩ := r2
        have hO1 := Lib.hid hO
        clear m1 m2 m3 d1 d2 d3 HC HO hO
        by_cases hgt : g (m * 2 + 1) - g (m * 2) < g (k * 2 + 1) - g (k * 2)
        · go_wp2
          go_roundw
          case rel => exact ⟨k + 1, by omega, by go_num, by rw [HY.out hgt]; exact (hO1.out.put2 rfl rfl).below ((Below.refl _ _).alloc (Nat.le_refl _) _), ((hbel.setCell (p := ⟨w2.heap.size, 0, none⟩) (Nat.le_refl _) _).setCell (p := ⟨w2.heap.size, 1, none⟩) (Nat.le_refl _) _).alloc (by simpa [World.setCell] using hbel.size) _⟩
          case measure => simp [intOf]; omega
        · go_wp2
          go_roundw
          case rel => exact ⟨k + 1, by omega, by go_num, by rw [HN.out (by omega)]; exact hO2.out, hbel2⟩
          case measure => simp [intOf]; omega
      · obtain rfl : k = l := by omega
        clear HO m1 m2 m3
        go_wp2
        go_region
        all_goals
          go_wp2
          go_ret3
          exact ⟨ret_iib L1.out.symm L2.out.symm L3.out.symm, (below_of hB2 hbel hB2.size).drew⟩
end Go.Proofs.Ytcecpioiagfoiaa
