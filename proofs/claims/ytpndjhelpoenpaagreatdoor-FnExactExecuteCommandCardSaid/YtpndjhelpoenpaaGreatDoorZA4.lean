/-
  Texts of this claim, merged.
-/
import Derived.Test.YtpndjhelpoenpaaGreatDoorZA3
import Derived.Deep.Cut
import Derived.Lib.AtoiErrMem
import Derived.LaidLaws
import Derived.LaidMore
import Derived.Deep.WholeRow
import Derived.Laws.CopyRow
set_option linter.unusedVariables false
set_option linter.unusedSimpArgs false
set_option maxRecDepth 100000
set_option maxHeartbeats 8000000
namespace Go.Proofs.YtpndjhelpoenpaaGreatDoor
open Go.RowKit
def tailT (s : ByteArray) : ByteArray := if 1 < s.size ∧ byteAt s 0 = 45 then s.extract 1 s.size else s
theorem tailT_size (s : ByteArray) : (tailT s).size ≤ s.size := by
 unfold tailT
 split
 ·rw [ByteArray.size_extract]; omega
 ·exact Nat.le_refl _
theorem byte_zero {s : ByteArray} {b : UInt8} {r : List UInt8} (h : s.data.toList = b :: r) : byteAt s 0 = b := by unfold byteAt; rw [h]; rfl
theorem tail_num {s : ByteArray} {v : Int} (h0 : -999999 ≤ v) (h1 : v ≤ 999999) (h : numB v = s) :
  ∃ u : Nat, u ≤ 999999 ∧ (tailT s).data.toList = Lib.decDigits u ∧ ((v = (u : Int) ∧ ¬ (tailT s).size < s.size) ∨ (v = -(u : Int) ∧ 1 ≤ u ∧ (tailT s).size < s.size)) := by
 have hd : s.data.toList = Lib.itoa v := by rw [← h]; rfl
 by_cases hv : 0 ≤ v
 ·obtain ⟨u, rfl⟩ := Int.eq_ofNat_of_zero_le hv
  rw [Lib.itoa_nonneg] at hd
  obtain ⟨b, r, e, b0, b1⟩ := digits_cons u
  have hb : byteAt s 0 = b := byte_zero (hd.trans e)
  have ht : tailT s = s := by
   unfold tailT
   rw [if_neg]
   rintro ⟨_, e2⟩
   rw [hb] at e2
   subst e2
   simp at b0
  refine ⟨u, by omega, by rw [ht, hd], Or.inl ⟨rfl, by rw [ht]; omega⟩⟩
 ·obtain ⟨u, hu, rfl⟩ : ∃ u : Nat, 1 ≤ u ∧ v = -(u : Int) := ⟨v.natAbs, by omega, by omega⟩
  rw [Lib.itoa_neg u hu] at hd
  have hl := size_list s
  rw [hd, List.length_cons, Lib.decDigits_length] at hl
  have hp := Lib.nDigits_pos u
  have ht : tailT s = s.extract 1 s.size := by
   unfold tailT
   rw [if_pos ⟨by omega, byte_zero hd⟩]
  refine ⟨u, by omega, ?_, Or.inr ⟨rfl, hu, by rw [ht, ByteArray.size_extract]; omega⟩⟩
  rw [ht, Lib.extract_data, hd, List.drop_succ_cons, List.drop_zero, List.take_of_length_le (by rw [Lib.decDigits_length]; omega)]
theorem no_num_size {s : ByteArray} (h : ¬ (1 ≤ (tailT s).size ∧ (tailT s).size ≤ 6)) : parseV s = none := by
 refine parseV_no fun v h0 h1 e => h ?_
 obtain ⟨u, hu, ht, _⟩ := tail_num h0 h1 e
 have hl := size_list (tailT s)
 rw [ht, Lib.decDigits_length] at hl
 have := Lib.nDigits_pos u
 have := nDigits_le6 hu
 omega
theorem no_num_byte {s : ByteArray} {k : Nat} (hk : k < (tailT s).size) (h : (byteAt (tailT s) k).toNat < 48 ∨ 57 < (byteAt (tailT s) k).toNat) : parseV s = none := by
 refine parseV_no fun v h0 h1 e => ?_
 obtain ⟨u, hu, ht, _⟩ := tail_num h0 h1 e
 have hl := size_list (tailT s)
 have hb : (tailT s).data.toList[k]? = some (byteAt (tailT s) k) := by
  rw [List.getElem?_eq_getElem (by omega)]
  unfold byteAt
  rw [getD_lt (by omega)]
 obtain ⟨d, hd⟩ := Lib.digit_of_decFrom _ _ _ (by rw [ht]; exact decFrom_digits u u (Nat.le_refl _)) k _ hb
 have := Lib.digitVal_eq hd
 omega
theorem num_loop {s : ByteArray} {m : Nat} {n : Int} (hm : Lib.decFrom 0 (tailT s).data.toList = some m) (hn : n = if (tailT s).size < s.size then -(m : Int) else (m : Int)) (h6 : m ≤ 999999) :
  parseV s = if numB n = s then some n else none := by
 by_cases e : numB n = s
 ·rw [if_pos e, parseV_yes (by split at hn <;> omega) (by split at hn <;> omega) e]
 ·rw [if_neg e]
  refine parseV_no fun v h0 h1 e2 => e ?_
  obtain ⟨u, hu, ht, hc⟩ := tail_num h0 h1 e2
  rw [ht, decFrom_digits u u (Nat.le_refl _)] at hm
  obtain rfl := Option.some.inj hm
  rcases hc with ⟨rfl, hs⟩ | ⟨rfl, _, hs⟩
  ·rw [hn, if_neg hs]; exact e2
  ·rw [hn, if_pos hs]; exact e2
theorem dec_le6 {l : List UInt8} {k m : Nat} (h : Lib.decFrom 0 (l.take k) = some m) (hk : k ≤ 6) : m ≤ 999999 := by
 have h1 := Lib.decFrom_lt _ _ _ h
 have h2 : (l.take k).length ≤ 6 := by rw [List.length_take]; omega
 have h3 : 10 ^ (l.take k).length ≤ 10 ^ 6 := Nat.pow_le_pow_right (by omega) h2
 omega
theorem dec_next {s : ByteArray} {k m : Nat} (h : Lib.decFrom 0 (s.data.toList.take k) = some m) (hk : k < s.size) (h0 : 48 ≤ (byteAt s k).toNat) (h1 : (byteAt s k).toNat ≤ 57) :
  Lib.decFrom 0 (s.data.toList.take (k + 1)) = some (m * 10 + ((byteAt s k).toNat - 48)) := by
 refine Lib.decFrom_take _ k 0 m (byteAt s k) _ h ?_ (by unfold Lib.digitVal; rw [if_pos ⟨h0, h1⟩])
 have hl := size_list s
 rw [List.getElem?_eq_getElem (by omega)]
 unfold byteAt
 rw [getD_lt (by omega)]
theorem numB_neg {m : Nat} (h : 1 ≤ m) : numB (-(m : Int)) = ⟨#[45]⟩ ++ numB (m : Int) := by
 apply ByteArray.ext
 apply Array.toList_inj.1
 rw [numB_data, Lib.itoa_neg m h, Joins.data_append, numB_data, Lib.itoa_nonneg]
 rfl
end Go.Proofs.YtpndjhelpoenpaaGreatDoor
namespace Go.Proofs.YtpndjhelpoenpaaGreatDoor
def skipL : List (Nat × Nat) → Array Bool → Array Bool
 | [], l => l
 | (i, _) :: L, l => skipL L (l.setIfInBounds i true)
def skipA : List (Nat × Nat) → Act → Act
 | [], a => a
 | (_, d) :: L, a => skipA L (a.put (some d) undef)
def skipsOk (md : Region.Mode) (ops : Array Oper) : List (Nat × Nat) → Array Bool → Act → Bool
 | [], _, _ => true
 | (i, d) :: L, l, a => (match ops[i]? with
   | some o => (o.dst == some d) && !(Region.wanted o (yielded ops a.tmps))
   | none => false) && Region.free md ops l i && (Region.ready md ops l).contains i && skipsOk md ops L (l.setIfInBounds i true) (a.put (some d) undef)
theorem wpAnyH_skips {P : Program} {md : Region.Mode} {ops : Array Oper} {Q : Exit → Act → World → Prop} {S : World → Prop} {w : World} (hs : Region.noSelect ops = true)
  (hQ : ∀ c a (d : Nat) v w, Q (.panic c) (Act.put a (some d) v) w → Q (.panic c) a w) (hS : S w) (L : List (Nat × Nat)) : ∀ (fuel n : Nat) (l : Array Bool) (a : Act), L.length = n →
  skipsOk md ops L l a = true → wpAnyH P md ops Q S fuel (skipL L l) (skipA L a) w → wpAnyH P md ops Q S (fuel + n) l a w := by
 induction L with
 | nil =>
  intro fuel n l a hn _ h
  subst hn
  exact h
 | cons x L ih =>
  intro fuel n l a hn hok h
  obtain ⟨i, d⟩ := x
  subst hn
  simp only [skipsOk, Bool.and_eq_true] at hok
  obtain ⟨⟨⟨h1, h2⟩, h3⟩, h4⟩ := hok
  cases ho : ops[i]? with
  | none => rw [ho] at h1; simp at h1
  | some o =>
   rw [ho] at h1
   simp only [Bool.and_eq_true, beq_iff_eq, Bool.not_eq_true'] at h1
   obtain ⟨hd, hw⟩ := h1
   have := ih fuel L.length (l.setIfInBounds i true) (a.put (some d) undef) rfl h4 h
   rw [← hd] at this
   exact wpAnyH_take (fuel := fuel + L.length) ho hs h2 h3 (fun c a w hh => by rw [hd] at hh; exact hQ c a _ _ w hh) (Or.inr ⟨hw, rfl⟩) hS this
theorem wpAnyH_takeD {P : Program} {md : Region.Mode} {ops : Array Oper} {Q : Exit → Act → World → Prop} {S : World → Prop} {i d : Nat} {op : Op} {ty : TypeId} {pos : String} {af : Array Edge} {gd : Option (Nat × Bool)} {v : Value} {fuel : Nat} {listed : Array Bool} {a : Act} {w : World}
  (hi : ops[i]? = some ⟨some d, op, ty, pos, af, gd⟩) (hs : Region.noSelect ops = true) (hf : Region.free md ops listed i = true) (hr : (Region.ready md ops listed).contains i = true)
  (hQ : ∀ c a w, Q (.panic c) (a.put (some d) v) w → Q (.panic c) a w) (hwant : Region.wanted ⟨some d, op, ty, pos, af, gd⟩ (yielded ops a.tmps) = true)
  (hy : ∀ w, S w → (execOp a.eval ⟨some d, op, ty, pos, af, gd⟩).run P w = .ok (.value v) w) (hS : S w)
  (h : wpAnyH P md ops Q S fuel (listed.setIfInBounds i true) (a.put (some d) v) w) : wpAnyH P md ops Q S (fuel + 1) listed a w :=
 wpAnyH_take hi hs hf hr hQ (Or.inl ⟨hwant, hy⟩) hS h
end Go.Proofs.YtpndjhelpoenpaaGreatDoor
namespace Go.Proofs.YtpndjhelpoenpaaGreatDoor
open Go.RowKit
attribute [local go_sem ↓] Go.wp_at_zero Go.wp_at_succ
theorem quiet_below {P : Program} {g : FuncId} {args : Array Value} {w : World} {v : Value} (h : Calls P g args w fun e w' => e = .returned v ∧ w = w') :
  Calls P g args w fun e w' => e = .returned v ∧ Below w.heap.size w w' := h.mono fun e w' ⟨he, hw⟩ => ⟨he, hw ▸ Below.refl _ _⟩
theorem Hid.and_ {α : Type} {Q R S : α → Prop} (h : Hid (∀ x, Q x → R x)) (h2 : ∀ x, Q x → S x) : Hid (∀ x, Q x → S x ∧ R x) := fun x hx => ⟨h2 x hx, h.out x hx⟩
def massV (wt s : Int) : Int := wrap64 (wt + s)
def okBrine (wt s : Int) : Bool := inR wt 0 1000000 && inR s 0 1000000
def okPan (i h wt s : Int) : Bool := inR i 1 99 && inR h 1 100000 && okBrine wt s && decide (massV wt s ≤ h)
def okPanAt (f : Nat → Int) (k : Nat) : Bool := okPan (f (k * 4)) (f (k * 4 + 1)) (f (k * 4 + 2)) (f (k * 4 + 3))
def panStep (f : Nat → Int) (k : Nat) : Bool := okPanAt f k && (decide (k = 0) || decide (f ((k - 1) * 4) < f (k * 4)))
def pansOk (f : Nat → Int) (n : Nat) : Bool := allTo (panStep f) n && decide (n ≤ 6)
theorem pansOk_no {f : Nat → Int} {n k : Nat} (hk : k < n) (h : panStep f k = false) : pansOk f n = false := by simp [pansOk, allTo_false hk h]
def sumW (g : Nat → Int) : Nat → Int
 | 0 => 0
 | k + 1 => wrap64 (sumW g k + g k)
def saltAt (f : Nat → Int) (k : Nat) : Int := f (k * 4 + 3)
def totalV (f : Nat → Int) (n : Nat) (H S P : Int) : Int := wrap64 (wrap64 (wrap64 (sumW (saltAt f) n + H) + S) + P)
def kilosOk (I H S P : Int) : Bool := inR I 0 1000000 && inR H 0 1000000 && inR S 0 1000000 && inR P 0 1000000
def goodWorks (f : Nat → Int) (n : Nat) (I H S P : Int) : Bool := pansOk f n && kilosOk I H S P && decide (I = totalV f n H S P)
theorem IsBrine_any (wt s : Int) (w : World) :
  Calls Tryz.prog 120 #[.agg #[.int .i64 wt, .int .i64 s]] w fun e w' => e = .returned (.bool (okBrine wt s)) ∧ Below w.heap.size w w' := by
 cases h1 : inR wt 0 1000000 <;> cases h2 : inR s 0 1000000
 all_goals
  go_enter Tryz.func120, Tryz.ntmps120
  go_wp2_with (go_at_call 70; refine (within_any _ _ _ _).mono ?_; rintro e w2 ⟨rfl, rfl⟩)
  go_ret
  exact ⟨ret_bool (by simp [okBrine, h1, h2]), by go_grown⟩
theorem l2Brine_any (wt s : Int) (w : World) :
  Calls Tryz.prog 158 #[.agg #[.int .i64 wt, .int .i64 s]] w fun e w' => e = .returned (.bool (okBrine wt s)) ∧ Below w.heap.size w w' := by
 cases h1 : inR wt 0 1000000 <;> cases h2 : inR s 0 1000000
 all_goals
  go_enter Tryz.func158, Tryz.ntmps158
  go_wp2_with (go_at_call 126; refine (l1In_any _ _ _ _).mono ?_; rintro e w2 ⟨rfl, rfl⟩)
  go_ret
  exact ⟨ret_bool (by simp [okBrine, h1, h2]), by go_grown⟩
theorem mass_any (wt s : Int) (w : World) :
  Calls Tryz.prog 121 #[.agg #[.int .i64 wt, .int .i64 s]] w fun e w' => e = .returned (.int .i64 (massV wt s)) ∧ Below w.heap.size w w' := by
 go_enter Tryz.func121, Tryz.ntmps121
 go_wp2
 go_ret
 exact ⟨rfl, by go_grown⟩
theorem l2Mass_any (wt s : Int) (w : World) :
  Calls Tryz.prog 150 #[.agg #[.int .i64 wt, .int .i64 s]] w fun e w' => e = .returned (.int .i64 (massV wt s)) ∧ Below w.heap.size w w' := by
 go_enter Tryz.func150, Tryz.ntmps150
 go_wp2
 go_ret
 exact ⟨rfl, by go_grown⟩
theorem saltInPans_any (A : Option Addr) (n c lo hi : Nat) (f : Nat → Int) (I H S P : Int) (w : World) (hs : Sl w lo hi 4 A n f) (hn : n ≤ 1048576) (hnc : n ≤ c) :
  Calls Tryz.prog 122 #[.agg #[.slice A n c, .int .i64 I, .int .i64 H, .int .i64 S, .int .i64 P]] w fun e w' => e = .returned (.int .i64 (sumW (saltAt f) n)) ∧ Below w.heap.size w w' := by
 have HS : Hid (Sl (w.alloc (.cells #[.slice A n c, .int .i64 I, .int .i64 H, .int .i64 S, .int .i64 P] 32)) lo hi 4 A n f) := hs.below ((Below.refl _ w).alloc (Nat.le_refl _) _)
 clear hs
 go_enter Tryz.func122, Tryz.ntmps122
 go_wp2
 go_loopw [3, 9] (fun t i wr => ∃ k : Nat, k ≤ n ∧ i = .int .i64 k ∧ t = .int .i64 (sumW (saltAt f) k) ∧ Below (w.alloc (.cells #[.slice A n c, .int .i64 I, .int .i64 H, .int .i64 S, .int .i64 P] 32)).heap.size (w.alloc (.cells #[.slice A n c, .int .i64 I, .int .i64 H, .int .i64 S, .int .i64 P] 32)) wr) (fun _ i _ => n - (intOf i).toNat)
 case atStart => exact ⟨0, Nat.zero_le _, rfl, rfl, Below.refl _ _⟩
 case round =>
  obtain ⟨k, hk, rfl, rfl, hbel⟩ := hrel
  have hbz : w.heap.size < wr.heap.size := by have := hbel.size; simp at this; omega
  have b0 : wr.cell? ⟨w.heap.size, 0, none⟩ = some (.slice A n c) := (hbel.cell (p := ⟨w.heap.size, 0, none⟩) (by simp)).trans (by simp)
  by_cases hlt : k < n
  ·obtain ⟨b, off, rfl, hbw, HC⟩ := HS.out.open_ hbel (by omega)
   obtain ⟨c0, c1, c2, c3⟩ := cell4 HC hlt
   clear HC HS
   go_wp2
   go_roundw
   case rel => exact ⟨k + 1, by omega, by go_num, rfl, hbel.alloc hbel.size _⟩
   case measure => simp [intOf]; omega
  ·obtain rfl : n = k := by omega
   clear HS
   go_wp2
   go_ret
   exact ⟨rfl, ((Below.refl _ w).alloc (Nat.le_refl _) _).trans (hbel.mono (by simp))⟩
theorem l25Salt_any (A : Option Addr) (n c lo hi : Nat) (f : Nat → Int) (I H S P : Int) (w : World) (hs : Sl w lo hi 4 A n f) (hn : n ≤ 1048576) (hnc : n ≤ c) :
  Calls Tryz.prog 125 #[.agg #[.slice A n c, .int .i64 I, .int .i64 H, .int .i64 S, .int .i64 P]] w fun e w' => e = .returned (.int .i64 (sumW (saltAt f) n)) ∧ Below w.heap.size w w' := by
 have HS : Hid (Sl (w.alloc (.cells #[.slice A n c, .int .i64 I, .int .i64 H, .int .i64 S, .int .i64 P] 32)) lo hi 4 A n f) := hs.below ((Below.refl _ w).alloc (Nat.le_refl _) _)
 clear hs
 go_enter Tryz.func125, Tryz.ntmps125
 go_wp2
 go_loopw [3, 4] (fun t i wr => ∃ k : Nat, k ≤ n ∧ i = .int .i64 k ∧ t = .int .i64 (sumW (saltAt f) k) ∧ Below (w.alloc (.cells #[.slice A n c, .int .i64 I, .int .i64 H, .int .i64 S, .int .i64 P] 32)).heap.size (w.alloc (.cells #[.slice A n c, .int .i64 I, .int .i64 H, .int .i64 S, .int .i64 P] 32)) wr) (fun _ i _ => n - (intOf i).toNat)
 case atStart => exact ⟨0, Nat.zero_le _, rfl, rfl, Below.refl _ _⟩
 case round =>
  obtain ⟨k, hk, rfl, rfl, hbel⟩ := hrel
  have hbz : w.heap.size < wr.heap.size := by have := hbel.size; simp at this; omega
  have b0 : wr.cell? ⟨w.heap.size, 0, none⟩ = some (.slice A n c) := (hbel.cell (p := ⟨w.heap.size, 0, none⟩) (by simp)).trans (by simp)
  by_cases hlt : k < n
  ·obtain ⟨b, off, rfl, hbw, HC⟩ := HS.out.open_ hbel (by omega)
   obtain ⟨c0, c1, c2, c3⟩ := cell4 HC hlt
   clear HC HS
   go_wp2
   go_roundw
   case rel => exact ⟨k + 1, by omega, by go_num, rfl, hbel⟩
   case measure => simp [intOf]; omega
  ·obtain rfl : n = k := by omega
   clear HS
   go_wp2
   go_ret
   exact ⟨rfl, ((Below.refl _ w).alloc (Nat.le_refl _) _).trans (hbel.mono (by simp))⟩
theorem l25Pans_any (A : Option Addr) (n c lo hi : Nat) (f : Nat → Int) (I H S P : Int) (w : World) (hs : Sl w lo hi 4 A n f) (hn : n ≤ 1048576) (hnc : n ≤ c) :
  Calls Tryz.prog 123 #[.agg #[.slice A n c, .int .i64 I, .int .i64 H, .int .i64 S, .int .i64 P]] w fun e w' => e = .returned (.bool (pansOk f n)) ∧ Below w.heap.size w w' := by
 have HS : Hid (Sl (w.alloc (.cells #[.slice A n c, .int .i64 I, .int .i64 H, .int .i64 S, .int .i64 P] 32)) lo hi 4 A n f) := hs.below ((Below.refl _ w).alloc (Nat.le_refl _) _)
 clear hs
 go_enter Tryz.func123, Tryz.ntmps123
 go_wp2
 go_loopw [3] (fun i wr => ∃ k : Nat, k ≤ n ∧ i = .int .i64 k ∧ Hid (allTo (panStep f) k = true) ∧ Below (w.alloc (.cells #[.slice A n c, .int .i64 I, .int .i64 H, .int .i64 S, .int .i64 P] 32)).heap.size (w.alloc (.cells #[.slice A n c, .int .i64 I, .int .i64 H, .int .i64 S, .int .i64 P] 32)) wr) (fun i _ => n - (intOf i).toNat)
 case atStart => exact ⟨0, Nat.zero_le _, rfl, rfl, Below.refl _ _⟩
 case round =>
  obtain ⟨k, hk, rfl, hall, hbel⟩ := hrel
  have hbz : w.heap.size < wr.heap.size := by have := hbel.size; simp at this; omega
  have b0 : wr.cell? ⟨w.heap.size, 0, none⟩ = some (.slice A n c) := (hbel.cell (p := ⟨w.heap.size, 0, none⟩) (by simp)).trans (by simp)
  by_cases hlt : k < n
  ·obtain ⟨b, off, rfl, hbw, HC⟩ := HS.out.open_ hbel (by omega)
   obtain ⟨c0, c1, c2, c3⟩ := cell4 HC hlt
   have hk0i : (0 : Int) ≤ (k : Int) := by omega
   have hkni : (k : Int) < (n : Int) := by omega
   have HF : Hid (∀ w', Below (wr.alloc (.cells #[.int .i64 (f (k * 4)), .int .i64 (f (k * 4 + 1)), .int .i64 (f (k * 4 + 2)), .int .i64 (f (k * 4 + 3))] 97)).heap.size (wr.alloc (.cells #[.int .i64 (f (k * 4)), .int .i64 (f (k * 4 + 1)), .int .i64 (f (k * 4 + 2)), .int .i64 (f (k * 4 + 3))] 97)) w' → w'.cell? ⟨wr.heap.size, 0, none⟩ = some (.int .i64 (f (k * 4))) ∧ w'.cell? ⟨wr.heap.size, 1, none⟩ = some (.int .i64 (f (k * 4 + 1))) ∧ w'.cell? ⟨wr.heap.size, 2, none⟩ = some (.int .i64 (f (k * 4 + 2))) ∧ w'.cell? ⟨wr.heap.size, 3, none⟩ = some (.int .i64 (f (k * 4 + 3))) ∧ w'.cell? ⟨w.heap.size, 0, none⟩ = some (.slice (some ⟨b, off, none⟩) n c)) := fun w' hq => ⟨(hq.cell (p := ⟨wr.heap.size, 0, none⟩) (by simp)).trans (by simp), (hq.cell (p := ⟨wr.heap.size, 1, none⟩) (by simp)).trans (by simp), (hq.cell (p := ⟨wr.heap.size, 2, none⟩) (by simp)).trans (by simp), (hq.cell (p := ⟨wr.heap.size, 3, none⟩) (by simp)).trans (by simp), (hq.cell (p := ⟨w.heap.size, 0, none⟩) (by simp; omega)).trans ((World.cell?_alloc_lt _ _ _ hbz).trans b0)⟩
   have HP : Hid (0 < k → ∀ w', Below (wr.alloc (.cells #[.int .i64 (f (k * 4)), .int .i64 (f (k * 4 + 1)), .int .i64 (f (k * 4 + 2)), .int .i64 (f (k * 4 + 3))] 97)).heap.size (wr.alloc (.cells #[.int .i64 (f (k * 4)), .int .i64 (f (k * 4 + 1)), .int .i64 (f (k * 4 + 2)), .int .i64 (f (k * 4 + 3))] 97)) w' → w'.cell? ⟨b, off + (k - 1) * 4, none⟩ = some (.int .i64 (f ((k - 1) * 4)))) := fun hk0 w' hq => (hq.cell (p := ⟨b, off + (k - 1) * 4, none⟩) (by simp; omega)).trans ((World.cell?_alloc_lt _ _ _ hbw).trans (HC.out _ (by omega)))
   clear HC HS
   go_wp2
   refine wp_region_held_drew (S := fun w' => Below ((wr.alloc (.cells #[.int .i64 (f (k * 4)), .int .i64 (f (k * 4 + 1)), .int .i64 (f (k * 4 + 2)), .int .i64 (f (k * 4 + 3))] 97))).heap.size ((wr.alloc (.cells #[.int .i64 (f (k * 4)), .int .i64 (f (k * 4 + 1)), .int .i64 (f (k * 4 + 2)), .int .i64 (f (k * 4 + 3))] 97))) w') (by kernel_rfl) ((Below.refl _ _).drew) (fun jd => ?_)
   refine tj2 0 17 1 18 HF jd ?_
   refine wpAnyH_ready (rs := [2]) (by kernel_rfl) (by simp) ?_
   refine AllReadyH.cons rfl (fun K hK => ?_) AllReadyH.nil
   go_simp
   (go_at_call 126; refine (quiet_below (l1In_any _ _ _ _)).mono ?_; rintro e w2 ⟨rfl, hb2⟩)
   refine hK.out _ _ (jd.trans (hb2.mono jd.size)) (fun jd => ?_)
   clear hK K hb2
   refine tj2 3 20 4 21 HF jd ?_
   cases h1 : inR (f (k * 4)) 1 99 with
   | false =>
    have h2 : True := trivial
    have h3 : True := trivial
    have hm : True := trivial
    have hno : Hid (pansOk f n = false) := pansOk_no hlt (by simp [panStep, okPanAt, okPan, h1, h2, h3, hm])
    refine wpAnyH_skips (by kernel_rfl) (fun _ _ _ _ _ h => h) jd [(5, 22), (6, 23), (7, 24), (8, 25)] 31 4 _ _ rfl (by kernel_rfl) ?_
    simp only [skipL, skipA, Act.put, p1, p2, p3]
    refine tj2 9 26 10 27 HF jd ?_
    refine wpAnyH_skips (by kernel_rfl) (fun _ _ _ _ _ h => h) jd [(11, 28), (12, 29), (13, 30), (14, 31)] 25 4 _ _ rfl (by kernel_rfl) ?_
    simp only [skipL, skipA, Act.put, p1, p2, p3]
    refine tj2 15 32 16 33 HF jd ?_
    refine wpAnyH_skips (by kernel_rfl) (fun _ _ _ _ _ h => h) jd [(17, 34), (18, 35), (19, 36), (20, 37), (21, 38), (22, 39)] 17 6 _ _ rfl (by kernel_rfl) ?_
    simp only [skipL, skipA, Act.put, p1, p2, p3]
    refine tj2 23 40 24 41 HF jd ?_
    refine wpAnyH_skips (by kernel_rfl) (fun _ _ _ _ _ h => h) jd [(25, 42), (26, 43), (27, 44), (28, 45), (29, 46), (30, 47), (31, 48), (32, 49), (33, 50), (34, 51), (35, 52), (36, 53), (37, 54), (38, 55)] 1 14 _ _ rfl (by kernel_rfl) ?_
    simp only [skipL, skipA, Act.put, p1, p2, p3]
    refine tj 39 56 HF rfl jd ?_
    refine wpAnyH_done (by kernel_rfl) ?_ _
    go_wp2
    go_ret
    exact ⟨ret_bool hno.out.symm, ((Below.refl _ w).alloc (Nat.le_refl _) _).trans ((below_of hbel (((Below.refl _ wr).alloc (Nat.le_refl _) _).trans (jd.mono (by simp))) hbel.size).mono (by simp))⟩
   | true =>
    refine tj2 5 22 6 23 HF jd ?_
    refine wpAnyH_ready (rs := [7]) (by kernel_rfl) (by simp) ?_
    refine AllReadyH.cons rfl (fun K hK => ?_) AllReadyH.nil
    go_simp
    (go_at_call 126; refine (quiet_below (l1In_any _ _ _ _)).mono ?_; rintro e w2 ⟨rfl, hb2⟩)
    refine hK.out _ _ (jd.trans (hb2.mono jd.size)) (fun jd => ?_)
    clear hK K hb2
    refine tj3 8 25 9 26 10 27 HF jd ?_
    cases h2 : inR (f (k * 4 + 1)) 1 100000 with
    | false =>
     have h3 : True := trivial
     have hm : True := trivial
     have hno : Hid (pansOk f n = false) := pansOk_no hlt (by simp [panStep, okPanAt, okPan, h1, h2, h3, hm])
     refine wpAnyH_skips (by kernel_rfl) (fun _ _ _ _ _ h => h) jd [(11, 28), (12, 29), (13, 30), (14, 31)] 25 4 _ _ rfl (by kernel_rfl) ?_
     simp only [skipL, skipA, Act.put, p1, p2, p3]
     refine tj2 15 32 16 33 HF jd ?_
     refine wpAnyH_skips (by kernel_rfl) (fun _ _ _ _ _ h => h) jd [(17, 34), (18, 35), (19, 36), (20, 37), (21, 38), (22, 39)] 17 6 _ _ rfl (by kernel_rfl) ?_
     simp only [skipL, skipA, Act.put, p1, p2, p3]
     refine tj2 23 40 24 41 HF jd ?_
     refine wpAnyH_skips (by kernel_rfl) (fun _ _ _ _ _ h => h) jd [(25, 42), (26, 43), (27, 44), (28, 45), (29, 46), (30, 47), (31, 48), (32, 49), (33, 50), (34, 51), (35, 52), (36, 53), (37, 54), (38, 55)] 1 14 _ _ rfl (by kernel_rfl) ?_
     simp only [skipL, skipA, Act.put, p1, p2, p3]
     refine tj 39 56 HF rfl jd ?_
     refine wpAnyH_done (by kernel_rfl) ?_ _
     go_wp2
     go_ret
     exact ⟨ret_bool hno.out.symm, ((Below.refl _ w).alloc (Nat.le_refl _) _).trans ((below_of hbel (((Below.refl _ wr).alloc (Nat.le_refl _) _).trans (jd.mono (by simp))) hbel.size).mono (by simp))⟩
    | true =>
     refine tj2 11 28 12 29 HF jd ?_
     refine wpAnyH_ready (rs := [13]) (by kernel_rfl) (by simp) ?_
     refine AllReadyH.cons rfl (fun K hK => ?_) AllReadyH.nil
     go_simp
     (go_at_call 158; refine (l2Brine_any _ _ _).mono ?_; rintro e w2 ⟨rfl, hb2⟩)
     refine hK.out _ _ (jd.trans (hb2.mono jd.size)) (fun jd => ?_)
     clear hK K hb2
     refine tj3 14 31 15 32 16 33 HF jd ?_
     cases h3 : okBrine (f (k * 4 + 2)) (f (k * 4 + 3)) with
     | false =>
      have hm : True := trivial
      have hno : Hid (pansOk f n = false) := pansOk_no hlt (by simp [panStep, okPanAt, okPan, h1, h2, h3, hm])
      refine wpAnyH_skips (by kernel_rfl) (fun _ _ _ _ _ h => h) jd [(17, 34), (18, 35), (19, 36), (20, 37), (21, 38), (22, 39)] 17 6 _ _ rfl (by kernel_rfl) ?_
      simp only [skipL, skipA, Act.put, p1, p2, p3]
      refine tj2 23 40 24 41 HF jd ?_
      refine wpAnyH_skips (by kernel_rfl) (fun _ _ _ _ _ h => h) jd [(25, 42), (26, 43), (27, 44), (28, 45), (29, 46), (30, 47), (31, 48), (32, 49), (33, 50), (34, 51), (35, 52), (36, 53), (37, 54), (38, 55)] 1 14 _ _ rfl (by kernel_rfl) ?_
      simp only [skipL, skipA, Act.put, p1, p2, p3]
      refine tj 39 56 HF rfl jd ?_
      refine wpAnyH_done (by kernel_rfl) ?_ _
      go_wp2
      go_ret
      exact ⟨ret_bool hno.out.symm, ((Below.refl _ w).alloc (Nat.le_refl _) _).trans ((below_of hbel (((Below.refl _ wr).alloc (Nat.le_refl _) _).trans (jd.mono (by simp))) hbel.size).mono (by simp))⟩
     | true =>
      by_cases hm : massV (f (k * 4 + 2)) (f (k * 4 + 3)) ≤ f (k * 4 + 1)
      ·have hmd : ¬ (f (k * 4 + 1) < massV (f (k * 4 + 2)) (f (k * 4 + 3))) := by omega
       refine tj4 17 34 18 35 20 37 21 38 HF jd ?_
       refine wpAnyH_ready (rs := [19]) (by kernel_rfl) (by simp) ?_
       refine AllReadyH.cons rfl (fun K hK => ?_) AllReadyH.nil
       go_simp
       (go_at_call 150; refine (l2Mass_any _ _ _).mono ?_; rintro e w2 ⟨rfl, hb2⟩)
       refine hK.out _ _ (jd.trans (hb2.mono jd.size)) (fun jd => ?_)
       clear hK K hb2
       refine tj4 22 39 23 40 24 41 25 42 HF jd ?_
       refine tj2 26 43 27 44 HF jd ?_
       by_cases h0 : k = 0
       ·have hok1 : Hid (panStep f k = true) := by simp only [Hid, panStep, okPanAt, okPan, h1, h2, h3, hm, Bool.true_and, Bool.or_eq_true, decide_eq_true_eq, decide_true]; exact Or.inl h0
        have hk0b : decide ((0 : Int) < (k : Int)) = false := by simp; omega
        have hk0c : decide (0 < k) = false := by simp; omega
        clear h0 HP
        try simp only [hk0b, hk0c]
        refine wpAnyH_skips (by kernel_rfl) (fun _ _ _ _ _ h => h) jd [(28, 45), (29, 46), (30, 47), (31, 48), (32, 49), (33, 50), (34, 51), (35, 52), (36, 53), (37, 54)] 2 10 _ _ rfl (by kernel_rfl) ?_
        simp only [skipL, skipA, Act.put, p1, p2, p3]
        refine tj2 38 55 39 56 HF jd ?_
        refine wpAnyH_done (by kernel_rfl) ?_ _
        go_wp2
        go_roundw
        case rel => exact ⟨k + 1, by omega, by go_num, allTo_succ hall.out hok1.out, below_of hbel (((Below.refl _ wr).alloc (Nat.le_refl _) _).trans (jd.mono (by simp))) hbel.size⟩
        case measure => simp [intOf]; omega
       ·have hk0 : 0 < k := by omega
        have hkk : ((k : Int) - 1).toNat = k - 1 := by omega
        have hb0 : (0 : Int) ≤ (k : Int) - 1 := by omega
        have hb1x : (1 : Int) ≤ (k : Int) := by omega
        have hb3 : (k : Int) - 1 < (n : Int) := by omega
        have hwk : IntKind.i64.wrap ((k : Int) - 1) = (k : Int) - 1 := IntWalk.i64_in _ (by omega)
        have hk0b : decide ((0 : Int) < (k : Int)) = true := by simp; omega
        have hk0c : decide (0 < k) = true := by simp; omega
        replace HF := Hid.and_ HF (HP.out hk0)
        clear HP
        try simp only [hk0b, hk0c]
        by_cases hlt2 : f ((k - 1) * 4) < f (k * 4)
        ·have hok1 : Hid (panStep f k = true) := by simp [Hid, panStep, okPanAt, okPan, h1, h2, h3, hm, hlt2]
         refine tj4 28 45 29 46 30 47 31 48 HF jd ?_
         refine tj4 32 49 33 50 34 51 35 52 HF jd ?_
         refine tj4 36 53 37 54 38 55 39 56 HF jd ?_
         refine wpAnyH_done (by kernel_rfl) ?_ _
         go_wp2
         go_roundw
         case rel => exact ⟨k + 1, by omega, by go_num, allTo_succ hall.out hok1.out, below_of hbel (((Below.refl _ wr).alloc (Nat.le_refl _) _).trans (jd.mono (by simp))) hbel.size⟩
         case measure => simp [intOf]; omega
        ·have hno : Hid (pansOk f n = false) := pansOk_no hlt (by simp [panStep, okPanAt, okPan, h1, h2, h3, hm, hlt2]; omega)
         refine tj4 28 45 29 46 30 47 31 48 HF jd ?_
         refine tj4 32 49 33 50 34 51 35 52 HF jd ?_
         refine tj4 36 53 37 54 38 55 39 56 HF jd ?_
         refine wpAnyH_done (by kernel_rfl) ?_ _
         go_wp2
         go_ret
         exact ⟨ret_bool hno.out.symm, ((Below.refl _ w).alloc (Nat.le_refl _) _).trans ((below_of hbel (((Below.refl _ wr).alloc (Nat.le_refl _) _).trans (jd.mono (by simp))) hbel.size).mono (by simp))⟩
      ·have hmd : f (k * 4 + 1) < massV (f (k * 4 + 2)) (f (k * 4 + 3)) := by omega
       have hno : Hid (pansOk f n = false) := pansOk_no hlt (by simp [panStep, okPanAt, okPan, h1, h2, h3, hm])
       refine tj4 17 34 18 35 20 37 21 38 HF jd ?_
       refine wpAnyH_ready (rs := [19]) (by kernel_rfl) (by simp) ?_
       refine AllReadyH.cons rfl (fun K hK => ?_) AllReadyH.nil
       go_simp
       (go_at_call 150; refine (l2Mass_any _ _ _).mono ?_; rintro e w2 ⟨rfl, hb2⟩)
       refine hK.out _ _ (jd.trans (hb2.mono jd.size)) (fun jd => ?_)
       clear hK K hb2
       refine tj3 22 39 23 40 24 41 HF jd ?_
       refine wpAnyH_skips (by kernel_rfl) (fun _ _ _ _ _ h => h) jd [(25, 42), (26, 43), (27, 44), (28, 45), (29, 46), (30, 47), (31, 48), (32, 49), (33, 50), (34, 51), (35, 52), (36, 53), (37, 54), (38, 55)] 1 14 _ _ rfl (by kernel_rfl) ?_
       simp only [skipL, skipA, Act.put, p1, p2, p3]
       refine tj 39 56 HF rfl jd ?_
       refine wpAnyH_done (by kernel_rfl) ?_ _
       go_wp2
       go_ret
       exact ⟨ret_bool hno.out.symm, ((Below.refl _ w).alloc (Nat.le_refl _) _).trans ((below_of hbel (((Below.refl _ wr).alloc (Nat.le_refl _) _).trans (jd.mono (by simp))) hbel.size).mono (by simp))⟩
  ·obtain rfl : n = k := by omega
   clear HS
   go_wp2
   go_ret
   exact ⟨ret_bool (by rw [Bool.eq_iff_iff]; simp [pansOk, hall.out]; omega), ((Below.refl _ w).alloc (Nat.le_refl _) _).trans ((hbel).mono (by simp))⟩
end Go.Proofs.YtpndjhelpoenpaaGreatDoor
namespace Go.Proofs.YtpndjhelpoenpaaGreatDoor
open Go.RowKit
attribute [local go_sem ↓] Go.wp_at_zero Go.wp_at_succ
def Er (w : World) : Prop := (∃ ev, w.cell? ⟨1, 0, none⟩ = some ev ∧ (ev = .nilIface ∨ ∃ te pe, ev = .iface te pe)) ∧ ∃ ev, w.cell? ⟨2, 0, none⟩ = some ev ∧ (ev = .nilIface ∨ ∃ te pe, ev = .iface te pe)
theorem Er.below {w w' : World} (h : Er w) (hb : Below w.heap.size w w') : Er w' := by
 obtain ⟨⟨a, h1, h2⟩, b, h3, h4⟩ := h
 exact ⟨⟨a, kp hb h1, h2⟩, b, kp hb h3, h4⟩
theorem ParseInt_any (s : ByteArray) (hs : s.size ≤ 4000000) (w : World) (ht : Tab w) (he : Er w) :
  Calls Tryz.prog 93 #[.string s] w fun e w' => e = .returned (.tuple #[.int .i64 ((parseV s).getD 0), .bool (parseV s).isSome]) ∧ Below w.heap.size w w' := by
 rcases hA : Lib.atoiAll s.data.toList with v | _ | _
 rotate_left
 ·have hp : parseV s = none := parseV_no fun v h0 h1 h => by
   rw [← h, atoiAll_num h0 h1] at hA
   cases hA
  rw [hp]
  obtain ⟨ev, hv, hev⟩ := he.1
  go_enter Tryz.func93, Tryz.ntmps93
  go_wp2_with fail
  refine (Tryz.strconv_Atoi_syntax s (by omega) hA ev w hv hev).mono ?_
  rintro e w1 ⟨N, rfl, _, _, hb⟩
  go_wp2_with fail
  go_ret2
  exact ⟨rfl, hb⟩
 ·have hsat := Lib.atoiSat_bounds s.data.toList
  have hp : parseV s = none := parseV_no fun v h0 h1 h => by
   rw [← h, atoiAll_num h0 h1] at hA
   cases hA
  rw [hp]
  obtain ⟨ev, hv, hev⟩ := he.2
  go_enter Tryz.func93, Tryz.ntmps93
  go_wp2_with fail
  refine (Tryz.strconv_Atoi_range s (by omega) hA ev w hv hev).mono ?_
  rintro e w1 ⟨N, rfl, _, _, hb⟩
  go_wp2_with fail
  go_ret2
  exact ⟨rfl, hb⟩
 ·obtain ⟨v0, v1⟩ := Lib.atoiAll_bounds hA
  have hun : ∀ u : Int, -999999 ≤ u → u ≤ 999999 → numB u = s → u = v := fun u h0 h1 h => by
   rw [← h, atoiAll_num h0 h1] at hA
   exact Lib.NumEnd.ok.inj hA
  cases hin : inR v (-999999) 999999 with
  | false =>
   have hp : parseV s = none := parseV_no fun u h0 h1 h => by
    obtain rfl := hun u h0 h1 h
    simp [inR, h0, h1] at hin
   rw [hp]
   go_enter Tryz.func93, Tryz.ntmps93
   go_wp2_with fail
   refine (Tryz.strconv_Atoi_ok s (by omega) v hA w).mono ?_
   rintro e w1 ⟨rfl, hW⟩
   have hb1 : Below w.heap.size w w1 := by
    rcases hW with rfl | ⟨t, rfl⟩
    ·exact Below.refl _ _
    ·exact Lib.bytesWorld_below _ _ _
   clear hW
   go_wp2_with fail
   refine (within_any v (-999999) 999999 w1).mono ?_
   rw [hin]
   rintro e w2 ⟨rfl, rfl⟩
   go_wp2_with fail
   go_ret2
   exact ⟨rfl, hb1⟩
  | true =>
   have hv : -999999 ≤ v ∧ v ≤ 999999 := by simpa [inR] using hin
   by_cases hE : numB v = s
   ·rw [parseV_yes hv.1 hv.2 hE]
    have hTB : ((numB v).toList == s.toList) = true := by rw [toList_beq, hE]; simp
    clear hE
    go_enter Tryz.func93, Tryz.ntmps93
    go_wp2_with fail
    refine (Tryz.strconv_Atoi_ok s (by omega) v hA w).mono ?_
    rintro e w1 ⟨rfl, hW⟩
    have hb1 : Below w.heap.size w w1 := by
     rcases hW with rfl | ⟨t, rfl⟩
     ·exact Below.refl _ _
     ·exact Lib.bytesWorld_below _ _ _
    clear hW
    go_wp2_with fail
    refine (within_any v (-999999) 999999 w1).mono ?_
    rw [hin]
    rintro e w2 ⟨rfl, rfl⟩
    go_wp2_with fail
    refine (decimal_any v (by omega) (by omega) w1 (ht.below hb1)).mono ?_
    rintro e w2 ⟨rfl, hb2⟩
    go_wp2_with fail
    go_ret2
    exact ⟨rfl, below_of hb1 hb2 hb1.size⟩
   ·have hp : parseV s = none := parseV_no fun u h0 h1 h => by
     obtain rfl := hun u h0 h1 h
     exact hE h
    rw [hp]
    have hTB : ((numB v).toList == s.toList) = false := by rw [toList_beq]; simp [hE]
    clear hE
    go_enter Tryz.func93, Tryz.ntmps93
    go_wp2_with fail
    refine (Tryz.strconv_Atoi_ok s (by omega) v hA w).mono ?_
    rintro e w1 ⟨rfl, hW⟩
    have hb1 : Below w.heap.size w w1 := by
     rcases hW with rfl | ⟨t, rfl⟩
     ·exact Below.refl _ _
     ·exact Lib.bytesWorld_below _ _ _
    clear hW
    go_wp2_with fail
    refine (within_any v (-999999) 999999 w1).mono ?_
    rw [hin]
    rintro e w2 ⟨rfl, rfl⟩
    go_wp2_with fail
    refine (decimal_any v (by omega) (by omega) w1 (ht.below hb1)).mono ?_
    rintro e w2 ⟨rfl, hb2⟩
    go_wp2_with fail
    go_ret2
    exact ⟨rfl, below_of hb1 hb2 hb1.size⟩
end Go.Proofs.YtpndjhelpoenpaaGreatDoor
namespace Go.Proofs.YtpndjhelpoenpaaGreatDoor
open Go
theorem iface_of_trod {H : Type} {enc : TypeId × Value → H} {P : Program} {w : World} {base : Nat} {sp : Nat → Bool} {held : Bool} {fuel : Nat} {t : TypeId} {ms : Array (String × TypeId)} {cs : List Value} {d : DataW H} {p : List MemPlace}
  (hu : P.underlying t = some (.interface ms)) (h : DataW.trod enc P w base sp held fuel t cs = some (d, p)) : ∃ ev, cs = [ev] ∧ (ev = .nilIface ∨ ∃ te pe, ev = .iface te pe) := by
 cases fuel with
 | zero => simp [DataW.trod] at h
 | succ fuel =>
  unfold DataW.trod at h
  rw [hu] at h
  split at h <;> first
   | exact ⟨_, rfl, Or.inl rfl⟩
   | exact ⟨_, rfl, Or.inr ⟨_, _, rfl⟩⟩
   | (cases h; done)
   | (rename_i heq; exact absurd heq (by simp))
   | (rename_i heq _; exact absurd heq (by simp))
   | (exfalso; simp_all; done)
theorem err_of_laid {P : Program} {w : World} {nm : String} {d : DataW Unit} {g : Nat} {t : TypeId} {ms : Array (String × TypeId)} (h : laidMet P [(nm, d)] w)
  (hg : P.globalNamed nm = some g) (ht : (P.globals[g]?).map (·.type) = some t) (hu : P.underlying t = some (.interface ms)) : ∃ ev, w.cell? ⟨g, 0, none⟩ = some ev ∧ (ev = .nilIface ∨ ∃ te pe, ev = .iface te pe) := by
 obtain ⟨ps, ⟨g', t', cs, fuel, p, q, hg', ht', hv, hd, _, _⟩, _, _⟩ := h
 obtain rfl := Option.some.inj (hg.symm.trans hg')
 obtain rfl := Option.some.inj (ht.symm.trans ht')
 obtain ⟨ev, e, hev⟩ := iface_of_trod hu hd
 refine ⟨ev, ?_, hev⟩
 rw [World.var?_cell hg hv 0]
 have h0 : cs.toList[0]? = some ev := by rw [e]; rfl
 simpa using h0
theorem Er.of_laid {w : World} {d e : DataW Unit} (h1 : laidMet Tryz.prog [("strconv.ErrSyntax", d)] w) (h2 : laidMet Tryz.prog [("strconv.ErrRange", e)] w) : Er w :=
 ⟨err_of_laid (g := 1) (t := 161) h1 (by kernel_rfl) (by kernel_rfl) Tryz.underlying161,
  err_of_laid (g := 2) (t := 161) h2 (by kernel_rfl) (by kernel_rfl) Tryz.underlying161⟩
end Go.Proofs.YtpndjhelpoenpaaGreatDoor
namespace Go.Proofs.YtpndjhelpoenpaaGreatDoor
open Go.RowKit Go.ChangeShapes Go.WideShapes Go.Deep
section
variable {H : Type} {enc : TypeId × Value → H} {P : Program} {w : World} {base : Nat} {spare : Nat → Bool} {held : Bool}
theorem flat_slice_cell {t e : TypeId} {c0 : Value} {fuel : Nat} {x : DataW H × List MemPlace} (m size : Nat) (ht : P.underlying t = some (.slice e)) (hfl : flatTy P m e = true) (hC : P.cellsOf e = size)
  (hf : DataW.trod enc P w base spare held fuel t [c0] = some x) (hsz : 0 < size) :
  ∃ A len cap f, c0 = .slice A len cap ∧ len ≤ cap ∧ cap ≤ maxLen ∧ Sl w base w.heap.size size A len f ∧ (∀ j, j < len * size → I64 (f j)) := by
 rcases open_slice ht hf with ⟨hcs, _⟩ | ⟨a, len, cap, m', n, D, Pl, hcs, hbase, hl, hm, hmm, hx, hi⟩
 ·simp at hcs
  subst hcs
  exact ⟨none, 0, 0, fun _ => 0, rfl, Nat.le_refl _, Nat.zero_le _, ⟨Nat.le_refl _, fun h => absurd h (by omega)⟩, fun j hj => absurd hj (by omega)⟩
 ·simp at hcs
  subst hcs
  have hlm : len ≤ m' := by rw [hmm]; split <;> omega
  have key : ∀ j, j < len * size → ∃ z, w.cell? (a.add j) = some (.int .i64 z) ∧ I64 z := by
   intro j hj
   have hq : j / size < len := by rw [Nat.div_lt_iff_lt_mul hsz]; exact hj
   obtain ⟨cs', hc, ht'⟩ := hi (j / size) (by omega)
   obtain ⟨_, hcl, hat⟩ := World.cells?_some hc
   have hr : j % size < P.cellsOf e := by rw [hC]; exact Nat.mod_lt _ hsz
   have hcell := hat (j % size) hr
   rw [Go.Deep.add_add, hC, Nat.div_add_mod' j size] at hcell
   have hv : cs'[j % size]? = some (cs'[j % size]'(by omega)) := List.getElem?_eq_getElem (by omega)
   obtain ⟨z, hz, hw⟩ := flat_cells m e n cs' _ hfl ht' (j % size) _ hv
   exact ⟨z, by rw [hcell, hv, hz], hw⟩
  refine ⟨some a, len, cap, fun j => match w.cell? (a.add j) with | some (.int _ z) => z | _ => 0, rfl, hl, hm, ⟨Nat.le_refl _, ?_⟩, ?_⟩
  ·intro hn
   obtain ⟨z0, h0, _⟩ := key 0 (Nat.mul_pos hn hsz)
   have hspot : a.spot = none := by
    have := World.cell?_spot h0
    simpa [Addr.add] using this
   obtain ⟨b, off, spot⟩ := a
   simp only at hspot
   subst hspot
   refine ⟨b, off, rfl, hbase, ?_, ?_⟩
   ·have := World.block_lt_of_cell? w _ h0
    simpa [Addr.add] using this
   ·intro j hj
    obtain ⟨z, hz, _⟩ := key j hj
    show _ = some (Value.int .i64 (match w.cell? (Addr.add ⟨b, off, none⟩ j) with | some (.int _ z) => z | _ => 0))
    rw [hz, ← hz, Addr.add_lit]
  ·intro j hj
   obtain ⟨z, hz, hw⟩ := key j hj
   simp only [hz]
   exact hw
end
end Go.Proofs.YtpndjhelpoenpaaGreatDoor
namespace Go.Proofs.YtpndjhelpoenpaaGreatDoor
open Go.RowKit Go.ChangeShapes Go.WideShapes Go.Deep
section
variable {H : Type} {enc : TypeId × Value → H} {P : Program} {w : World} {base : Nat} {spare : Nat → Bool} {held : Bool}
end
end Go.Proofs.YtpndjhelpoenpaaGreatDoor
namespace Go.Proofs.YtpndjhelpoenpaaGreatDoor
open Go.RowKit Go.ChangeShapes Go.WideShapes Go.Deep
section
variable {H : Type} {enc : TypeId × Value → H} {P : Program} {w : World} {base : Nat} {spare : Nat → Bool} {held : Bool}
theorem open_console {r : Reach} {b0 : Nat} {t e : TypeId} {gw gl g0 g1 g2 g3 g4 l0 l1 l2 : Field} {v : Value} {d : DataW H} {ps : List MemPlace} (m size : Nat)
  (ht : P.underlying t = some (.struct #[gw, gl])) (hCt : P.cellsOf t = 8) (ow : gw.offset = 0) (ol : gl.offset = 5) (kw : P.cellsOf gw.type = 5) (kl : P.cellsOf gl.type = 3)
  (hw : P.underlying gw.type = some (.struct #[g0, g1, g2, g3, g4]))
  (o0 : g0.offset = 0) (o1 : g1.offset = 1) (o2 : g2.offset = 2) (o3 : g3.offset = 3) (o4 : g4.offset = 4) (k0 : P.cellsOf g0.type = 1) (k1 : P.cellsOf g1.type = 1) (k2 : P.cellsOf g2.type = 1) (k3 : P.cellsOf g3.type = 1) (k4 : P.cellsOf g4.type = 1)
  (t0 : P.underlying g0.type = some (.slice e)) (t1 : P.underlying g1.type = some (.int .i64)) (t2 : P.underlying g2.type = some (.int .i64)) (t3 : P.underlying g3.type = some (.int .i64)) (t4 : P.underlying g4.type = some (.int .i64))
  (hl : P.underlying gl.type = some (.struct #[l0, l1, l2])) (p0 : l0.offset = 0) (p1 : l1.offset = 1) (p2 : l2.offset = 2) (m0 : P.cellsOf l0.type = 1) (m1 : P.cellsOf l1.type = 1) (m2 : P.cellsOf l2.type = 1)
  (u0 : P.underlying l0.type = some .string) (u1 : P.underlying l1.type = some .string) (u2 : P.underlying l2.type = some (.int .i64))
  (hfl : flatTy P m e = true) (hC : P.cellsOf e = size) (hval : Value.okWide P w r b0 t v) (hd : DataW.Trod enc P w base spare held t v d ps) (hsz : 0 < size) :
  ∃ A len cap f z1 z2 z3 z4, ∃ (s0 s1 : ByteArray) (z : Int), v = .agg #[.slice A len cap, .int .i64 z1, .int .i64 z2, .int .i64 z3, .int .i64 z4, .string s0, .string s1, .int .i64 z] ∧ len ≤ cap ∧ cap ≤ maxLen ∧ Sl w base w.heap.size size A len f ∧ s0.size ≤ maxLen ∧ s1.size ≤ maxLen := by
 obtain ⟨cs, rfl, hs8⟩ := okWide_struct ht hval
 obtain ⟨fuel, hf⟩ := hd
 obtain ⟨xs, n, _, _, hlen, hxl, hg⟩ := DataW.trod_struct ht hf
 rw [hCt] at hs8
 obtain ⟨l⟩ := cs
 obtain ⟨c0, c1, c2, c3, c4, c5, c6, c7, rfl⟩ : ∃ c0 c1 c2 c3 c4 c5 c6 c7, l = [c0, c1, c2, c3, c4, c5, c6, c7] := by
  match l, hs8 with
  | [c0, c1, c2, c3, c4, c5, c6, c7], _ => exact ⟨c0, c1, c2, c3, c4, c5, c6, c7, rfl⟩
 have hxl2 : xs.length = 2 := by simpa using hxl
 have qw := hg 0 gw rfl
 have ql := hg 1 gl rfl
 rw [ow, kw, List.getElem?_eq_getElem (by omega)] at qw
 rw [ol, kl, List.getElem?_eq_getElem (by omega)] at ql
 have qw' : DataW.trod enc P w base spare held n gw.type [c0, c1, c2, c3, c4] = some (xs[0]'(by omega)) := by simpa [Value.cells] using qw
 have ql' : DataW.trod enc P w base spare held n gl.type [c5, c6, c7] = some (xs[1]'(by omega)) := by simpa [Value.cells] using ql
 obtain ⟨ys, n1, _, _, _, hyl, hgw⟩ := DataW.trod_struct hw qw'
 obtain ⟨zs, n2, _, _, _, hzl, hgl⟩ := DataW.trod_struct hl ql'
 have hyl5 : ys.length = 5 := by simpa using hyl
 have hzl3 : zs.length = 3 := by simpa using hzl
 have q0 := hgw 0 g0 rfl
 have q1 := hgw 1 g1 rfl
 have q2 := hgw 2 g2 rfl
 have q3 := hgw 3 g3 rfl
 have q4 := hgw 4 g4 rfl
 have r0 := hgl 0 l0 rfl
 have r1 := hgl 1 l1 rfl
 have r2 := hgl 2 l2 rfl
 rw [o0, k0, List.getElem?_eq_getElem (by omega)] at q0
 rw [o1, k1, List.getElem?_eq_getElem (by omega)] at q1
 rw [o2, k2, List.getElem?_eq_getElem (by omega)] at q2
 rw [o3, k3, List.getElem?_eq_getElem (by omega)] at q3
 rw [o4, k4, List.getElem?_eq_getElem (by omega)] at q4
 rw [p0, m0, List.getElem?_eq_getElem (by omega)] at r0
 rw [p1, m1, List.getElem?_eq_getElem (by omega)] at r1
 rw [p2, m2, List.getElem?_eq_getElem (by omega)] at r2
 obtain ⟨A, len, cap, f, rfl, h1, h2, h3, h4⟩ := flat_slice_cell (c0 := c0) m size t0 hfl hC (by simpa using q0) hsz
 obtain ⟨z1, e1, _, w1⟩ := DataW.trod_int t1 (by simpa using q1)
 obtain ⟨z2, e2, _, w2⟩ := DataW.trod_int t2 (by simpa using q2)
 obtain ⟨z3, e3, _, w3⟩ := DataW.trod_int t3 (by simpa using q3)
 obtain ⟨z4, e4, _, w4⟩ := DataW.trod_int t4 (by simpa using q4)
 obtain ⟨s0, e5, _, w5⟩ := DataW.trod_string u0 (by simpa using r0)
 obtain ⟨s1, e6, _, w6⟩ := DataW.trod_string u1 (by simpa using r1)
 obtain ⟨z, e7, _, w7⟩ := DataW.trod_int u2 (by simpa using r2)
 simp only [List.cons.injEq, and_true] at e1 e2 e3 e4 e5 e6 e7
 subst e1 e2 e3 e4 e5 e6 e7
 exact ⟨A, len, cap, f, z1, z2, z3, z4, s0, s1, z, rfl, h1, h2, h3, w5, w6⟩
end
end Go.Proofs.YtpndjhelpoenpaaGreatDoor
namespace Go.Proofs.YtpndjhelpoenpaaGreatDoor
open Go.RowKit
theorem run_append_flat {P : Program} (w : World) (t ty : TypeId) (base : Nat) (e : TypeId) (k bytes : Nat) (z : Value) (ht : P.underlying t = some (.slice e))
  (hinfo : (P.info? e).map (fun i => (i.zero, i.size, i.bytes)) = some (some z, k, bytes)) (hzk : z.cells.size = k) (hk : 0 < k) (hkb : bytes ≤ 1000)
  (zs news : List Int) (n m c : Nat) (v : Value) (hown : w.ownsRow base e k v n (zs.map (Value.int .i64))) (ad : Addr) (hl : news.length = m * k)
  (hc : ∀ j u, news[j]? = some u → w.cell? (ad.add j) = some (.int .i64 u)) (hlen : n + m ≤ 100000000) (hbase : base ≤ w.heap.size) :
  ∃ v' w', (Builtin.append_ #[t, t] ty #[v, .slice (some ad) m c]).run P w = .ok v' w' ∧ w'.ownsRow base e k v' (n + m) ((zs ++ news).map (Value.int .i64)) ∧ w.grownBy w' v.ownBlock := by
 obtain ⟨i, hi, hz0, hz1, hz2⟩ := info_parts hinfo
 have hb : (n + m) * bytes ≤ 100000000 * 1000 := Nat.mul_le_mul hlen hkb
 obtain ⟨v', w', hr, hown', hgrow, _⟩ := run_append_own (P := P) w base t ty e i z k bytes ht hi hz0 hz1 hz2 hzk hk v n (zs.map (Value.int .i64)) hown ad m c (news.map (Value.int .i64)) (by simpa using hl)
  (fun j u hu => by
   rw [List.getElem?_map] at hu
   cases hq : news[j]? with
   | none => rw [hq] at hu; simp at hu
   | some q => rw [hq] at hu; simp at hu; subst hu; exact hc j q hq)
  (fun u hu => by obtain ⟨q, _, rfl⟩ := List.mem_map.1 hu; rfl) (by unfold maxLen; omega) (by omega) hbase
 exact ⟨v', w', hr, by simpa using hown', hgrow⟩
theorem wpList_append_flat {P : Program} {ops : Array Oper} {rest : List Oper} {o : Oper} {a : Act} {Q : Exit → Act → World → Prop} (w : World) (hg : o.guard = none) (s x : Operand) (t : TypeId)
  (hop : o.op = Op.call { callee := Callee.builtin Builtin.append, args := #[s, x], argTypes := #[t, t] }) (base : Nat) (e : TypeId) (k bytes : Nat) (z : Value) (ht : P.underlying t = some (.slice e))
  (hinfo : (P.info? e).map (fun i => (i.zero, i.size, i.bytes)) = some (some z, k, bytes)) (hzk : z.cells.size = k) (hk : 0 < k) (hkb : bytes ≤ 1000)
  (zs news : List Int) (n m c : Nat) (v : Value) (hs : a.eval s = v) (hown : w.ownsRow base e k v n (zs.map (Value.int .i64))) (ad : Addr) (hx : a.eval x = .slice (some ad) m c) (hl : news.length = m * k)
  (hc : ∀ j u, news[j]? = some u → w.cell? (ad.add j) = some (.int .i64 u)) (hlen : n + m ≤ 100000000) (hbase : base ≤ w.heap.size)
  (h : ∀ v' w', w'.ownsRow base e k v' (n + m) ((zs ++ news).map (Value.int .i64)) → w.grownBy w' v.ownBlock → wpList P ops Q rest (a.put o.dst v') w') :
  wpList P ops Q (o :: rest) a w := by
 obtain ⟨i, hi, hz0, hz1, hz2⟩ := info_parts hinfo
 have hb : (n + m) * bytes ≤ 100000000 * 1000 := Nat.mul_le_mul hlen hkb
 refine wpList_append_own w hg s x t hop base e i z k bytes ht hi hz0 hz1 hz2 hzk hk v n (zs.map (Value.int .i64)) hs hown ad m c (news.map (Value.int .i64)) hx (by simpa using hl) ?_ ?_ (by unfold maxLen; omega) (by omega) hbase ?_
 ·intro j u hu
  rw [List.getElem?_map] at hu
  cases hq : news[j]? with
  | none => rw [hq] at hu; simp at hu
  | some q => rw [hq] at hu; simp at hu; subst hu; exact hc j q hq
 ·intro u hu; obtain ⟨q, _, rfl⟩ := List.mem_map.1 hu; rfl
 ·intro v' w' hown' hgrow _
  exact h v' w' (by simpa using hown') hgrow
def rowsOf (f : Nat → Int) (k : Nat) (L : List Nat) : List Int := L.flatMap fun i => (List.range k).map fun j => f (i * k + j)
theorem rowsOf_length (f : Nat → Int) (k : Nat) (L : List Nat) : (rowsOf f k L).length = L.length * k := by
 induction L with
 | nil => simp [rowsOf]
 | cons i L ih =>
  have : rowsOf f k (i :: L) = ((List.range k).map fun j => f (i * k + j)) ++ rowsOf f k L := rfl
  rw [this, List.length_append, ih, List.length_map, List.length_range, List.length_cons, Nat.succ_mul]
  omega
theorem rowsOf_append (f : Nat → Int) (k : Nat) (L M : List Nat) : rowsOf f k (L ++ M) = rowsOf f k L ++ rowsOf f k M := by simp [rowsOf]
theorem rowsOf_get (f : Nat → Int) (k : Nat) (L : List Nat) (i j : Nat) (hi : i < L.length) (hj : j < k) : (rowsOf f k L).getD (i * k + j) 0 = f (L.getD i 0 * k + j) := by
 induction L generalizing i with
 | nil => simp at hi
 | cons a L ih =>
  have e : rowsOf f k (a :: L) = ((List.range k).map fun j => f (a * k + j)) ++ rowsOf f k L := rfl
  have hl : ((List.range k).map fun j => f (a * k + j)).length = k := by simp
  rw [e]
  cases i with
  | zero =>
   simp [List.getD, List.getElem?_append, hj]
  | succ i =>
   have h1 := ih i (by simpa using hi)
   simp only [List.getD] at h1 ⊢
   rw [List.getElem?_append_right (by rw [hl, Nat.succ_mul]; omega), hl, show (i + 1) * k + j - k = i * k + j by rw [Nat.succ_mul]; omega, h1]
   rfl
structure Src (w : World) (k : Nat) (A : Option Addr) (m c : Nat) (zs : List Int) : Prop where
 len : zs.length = m * k
 nil : A = none → m = 0 ∧ c = 0
 cell : ∀ ad, A = some ad → ∀ j u, zs[j]? = some u → w.cell? (ad.add j) = some (.int .i64 u)
theorem run_append_src {P : Program} (w : World) (t ty : TypeId) (base : Nat) (e : TypeId) (k bytes : Nat) (z : Value) (ht : P.underlying t = some (.slice e))
  (hinfo : (P.info? e).map (fun i => (i.zero, i.size, i.bytes)) = some (some z, k, bytes)) (hzk : z.cells.size = k) (hk : 0 < k) (hkb : bytes ≤ 1000)
  (zs news : List Int) (n m c : Nat) (v : Value) (hown : w.ownsRow base e k v n (zs.map (Value.int .i64))) (A : Option Addr) (hs : Src w k A m c news) (hlen : n + m ≤ 100000000) (hbase : base ≤ w.heap.size) :
  ∃ v' w', (Builtin.append_ #[t, t] ty #[v, .slice A m c]).run P w = .ok v' w' ∧ w'.ownsRow base e k v' (n + m) ((zs ++ news).map (Value.int .i64)) ∧ w.grownBy w' v.ownBlock := by
 cases A with
 | none =>
  obtain ⟨rfl, rfl⟩ := hs.nil rfl
  have hn : news = [] := by have := hs.len; exact List.length_eq_zero_iff.1 (by simpa using this)
  subst hn
  obtain ⟨i, hi, _⟩ := info_parts hinfo
  refine ⟨v, w, run_append_owned_none w base t ty e i k ht hi v n (zs.map (Value.int .i64)) hown, by simpa using hown, ⟨rfl, rfl, rfl, Nat.le_refl _, fun _ _ _ => rfl⟩⟩
 | some ad => exact run_append_flat w t ty base e k bytes z ht hinfo hzk hk hkb zs news n m c v hown ad hs.len (hs.cell ad rfl) hlen hbase
theorem oper_wp_value {P : Program} {o : Oper} {a : Act} {w w' : World} {v : Value} {K : Act → World → Prop} {Q : Exit → Act → World → Prop}
  (hr : (execOp a.eval o).run P w = .ok (.value v) w') (h : K (a.put o.dst v) w') : o.wp P a w K Q := by
 unfold Oper.wp
 rw [hr]
 exact h
theorem oper_wp_append {P : Program} {o : Oper} {a : Act} {w w' : World} {v' vs vx : Value} {K : Act → World → Prop} {Q : Exit → Act → World → Prop} (s x : Operand) (t : TypeId)
  (ho : o.op = .call { callee := .builtin .append, args := #[s, x], argTypes := #[t, t] }) (hs : a.eval s = vs) (hx : a.eval x = vx)
  (hr : (Builtin.append_ #[t, t] o.type #[vs, vx]).run P w = .ok v' w') (h : K (a.put o.dst v') w') : o.wp P a w K Q := by
 unfold Oper.wp execOp
 simp only [ho, resolve, invoke, builtin, Sem.run_bind, Sem.run_pure, Result.andThen_ok, List.map_toArray, List.map_cons, List.map_nil, hs, hx, hr]
 exact h
theorem eval_put_ne (a : Act) (d j : Nat) (u : Value) (h : d ≠ j) : (a.put (some d) u).eval (.tmp j) = a.eval (.tmp j) := by
 simp [Act.put, Act.eval, Array.getElem?_setIfInBounds, h]
theorem eval_put_eq (a : Act) (d : Nat) (u : Value) (h : d < a.tmps.size) : (a.put (some d) u).eval (.tmp d) = u := by
 simp [Act.put, Act.eval, Array.getElem?_setIfInBounds, h]
theorem size_put (a : Act) (d : Nat) (u : Value) : (a.put (some d) u).tmps.size = a.tmps.size := by simp [Act.put]
theorem put_comm (a : Act) {d d' : Nat} (u u' : Value) (h : d ≠ d') : (a.put (some d) u).put (some d') u' = (a.put (some d') u').put (some d) u := by
 simp only [Act.put, Act.mk.injEq, and_true]
 exact Array.setIfInBounds_comm _ _ h
theorem listed_comm (l : Array Bool) {i i' : Nat} (h : i ≠ i') : (l.setIfInBounds i true).setIfInBounds i' true = (l.setIfInBounds i' true).setIfInBounds i true :=
 Array.setIfInBounds_comm _ _ h
theorem wanted_plain {o : Oper} {y : Nat → Option Bool} (h : o.guard = none) : Region.wanted o y = true := by simp [Region.wanted, h]
section
variable {P : Program} {md : Region.Mode} {ops : Array Oper} {Q : Exit → Act → World → Prop} {X : World}
theorem wpAnyH_app {i ds d j : Nat} {fuel : Nat} {listed : Array Bool} {a : Act} {w : World} {t ty : TypeId} {pos : String} {af : Array Edge}
  (ho : ops[i]? = some ⟨some d, .call { callee := .builtin .append, args := #[.tmp ds, .tmp j], argTypes := #[t, t] }, ty, pos, af, none⟩) (hr : Region.ready md ops listed = [i])
  (e : TypeId) (k bytes : Nat) (z : Value) (ht : P.underlying t = some (.slice e))
  (hinfo : (P.info? e).map (fun i => (i.zero, i.size, i.bytes)) = some (some z, k, bytes)) (hzk : z.cells.size = k) (hk : 0 < k) (hkb : bytes ≤ 1000)
  (zs news : List Int) (n m c : Nat) (v : Value) (A : Option Addr) (hev : a.eval (.tmp ds) = v) (hex : a.eval (.tmp j) = .slice A m c)
  (hS : Below X.heap.size X w) (hown : w.ownsRow X.heap.size e k v n (zs.map (Value.int .i64))) (hs : Src w k A m c news) (hlen : n + m ≤ 100000000)
  (h : ∀ v' w', w'.ownsRow X.heap.size e k v' (n + m) ((zs ++ news).map (Value.int .i64)) → Below X.heap.size X w' → w.grownBy w' v.ownBlock →
   wpAnyH P md ops Q (fun w' => Below X.heap.size X w') fuel (listed.setIfInBounds i true) (a.put (some d) v') w') :
  wpAnyH P md ops Q (fun w' => Below X.heap.size X w') (fuel + 1) listed a w := by
 obtain ⟨v', w', hrun, hown', hgrow⟩ := run_append_src w t ty X.heap.size e k bytes z ht hinfo hzk hk hkb zs news n m c v hown A hs hlen hS.size
 refine wpAnyH_ready hr (by simp) (AllReadyH.cons ho (fun K hK => ?_) AllReadyH.nil)
 rw [if_pos (wanted_plain rfl)]
 refine oper_wp_append _ _ _ rfl hev hex hrun ?_
 have hB := below_app hS hown hgrow
 exact hK.out _ _ hB (fun _ => h v' w' hown' hB hgrow)
end
def putRow (cur : Array Value) (o : Nat) (cs : Array Value) : Array Value := (cur.toList.take o ++ cs.toList ++ cur.toList.drop (o + cs.size)).toArray
theorem run_storeAt_at {P : Program} (w : World) (t : TypeId) (g o : Nat) (v : Value) (T : TypeId) (cur : Array Value) (hi : (P.info? t).map (·.size) = some v.cells.size)
  (hg : w.heap[g]? = some (.cells cur T (0, 0))) (hfit : o + v.cells.size ≤ cur.size) (h1 : v.cells.all (·.oneCell') = true) :
  (Instr.storeAt t (.pointer (some ⟨g, o, none⟩)) v).run P w = .ok () (w.setRow g (putRow cur o v.cells)) := by
 have h1' : ∀ u ∈ v.cells.toList, u.oneCell' = true := by
  intro u hu
  rw [Array.all_eq_true] at h1
  obtain ⟨j, hj, rfl⟩ := List.getElem_of_mem hu
  have := h1 j (by simpa using hj)
  simpa using this
 have h := run_storeCells_at (P := P) g o T v.cells.toList 0 cur w hg (by simpa using hfit) h1'
 cases hq : P.info? t with
 | none => simp [hq] at hi
 | some i =>
  have hs : v.cells.size = i.size := by simp [hq] at hi; omega
  simp only [Instr.storeAt, Instr.sureAddr, Sem.run_bind, Sem.run_pure, Result.andThen]
  simp only [Nat.add_zero, Array.length_toList] at h
  simpa [storeVar, sizeOf, typeInfo, hq, hs, putRow] using (by simpa [hs] using h)
theorem grown_setRow (w : World) (g : Nat) (cs : Array Value) : w.grownBy (w.setRow g cs) (some g) :=
 ⟨rfl, rfl, rfl, by simp [World.setRow], fun k _ hk => by
  unfold World.setRow
  simp only [Array.getElem?_modify]
  rw [if_neg (fun e => hk (by rw [e]))]⟩
section
variable {P : Program} {md : Region.Mode} {ops : Array Oper} {Q : Exit → Act → World → Prop} {S : World → Prop}
theorem wpAnyH_store {i : Nat} {fuel : Nat} {listed : Array Bool} {a : Act} {w : World} {t ty : TypeId} {pos : String} {af : Array Edge} {p x : Operand}
  (ho : ops[i]? = some ⟨none, .store t p x, ty, pos, af, none⟩) (hr : Region.ready md ops listed = [i])
  (g o : Nat) (v : Value) (T : TypeId) (cur : Array Value) (hp : a.eval p = .pointer (some ⟨g, o, none⟩)) (hx : a.eval x = v) (hi : (P.info? t).map (·.size) = some v.cells.size)
  (hg : w.heap[g]? = some (.cells cur T (0, 0))) (hfit : o + v.cells.size ≤ cur.size) (h1 : v.cells.all (·.oneCell') = true)
  (hS : ∀ w', w.grownBy w' (some g) → S w')
  (h : ∀ w', w'.heap[g]? = some (.cells (putRow cur o v.cells) T (0, 0)) → w.grownBy w' (some g) → S w' →
   wpAnyH P md ops Q S fuel (listed.setIfInBounds i true) a w') :
  wpAnyH P md ops Q S (fuel + 1) listed a w := by
 have hrun := run_storeAt_at (P := P) w t g o v T cur hi hg hfit h1
 have hgr := grown_setRow w g (putRow cur o v.cells)
 have hB := hS _ hgr
 refine wpAnyH_ready hr (by simp) (AllReadyH.cons ho (fun K hK => ?_) AllReadyH.nil)
 rw [if_pos (wanted_plain rfl)]
 unfold Oper.wp execOp
 simp only [hp, hx, Sem.run_bind, hrun, Result.andThen_ok, Sem.run_pure]
 exact hK.out _ _ hB (fun _ => h _ (setRow_heap w g cur _ T _ hg) hgr hB)
end
theorem putRow_all {cur cs : Array Value} (h : cs.size = cur.size) : putRow cur 0 cs = cs := by
 unfold putRow
 have e : cur.toList.drop cur.size = [] := List.drop_eq_nil_of_le (by simp)
 rw [Nat.zero_add, h, e]
 simp
theorem wS0 {P : Program} {md : Region.Mode} {ops : Array Oper} {Q : Exit → Act → World → Prop} {S : World → Prop} {fuel : Nat} {listed : Array Bool} {a : Act} {w : World} {t ty : TypeId} {pos : String} {af : Array Edge} {p x : Operand} (i g : Nat) (cs : Array Value) (T : TypeId) {cur : Array Value}
  (hi : (P.info? t).map (·.size) = some cs.size) (hg : w.heap[g]? = some (.cells cur T (0, 0))) (hS : ∀ w', w.grownBy w' (some g) → S w')
  (h : ∀ w', w'.heap[g]? = some (.cells cs T (0, 0)) → w.grownBy w' (some g) → S w' → wpAnyH P md ops Q S fuel (listed.setIfInBounds i true) a w')
  (ho : ops[i]? = some ⟨none, .store t p x, ty, pos, af, none⟩ := by rfl) (hr : Region.ready md ops listed = [i] := by kernel_rfl) (hp : a.eval p = .pointer (some ⟨g, 0, none⟩) := by rfl) (hx : a.eval x = .agg cs := by rfl) (hsz : cs.size = cur.size := by rfl) (h1 : cs.all (·.oneCell') = true := by simp [Value.oneCell']) : wpAnyH P md ops Q S (fuel + 1) listed a w :=
 wpAnyH_store ho hr g 0 (.agg cs) T cur hp hx hi hg (by rw [Nat.zero_add]; exact Nat.le_of_eq hsz) h1 hS (fun w' h2 h3 h4 => h w' (by rw [h2]; exact congrArg (fun c => some (Obj.cells c T (0, 0))) (putRow_all hsz)) h3 h4)
end Go.Proofs.YtpndjhelpoenpaaGreatDoor
