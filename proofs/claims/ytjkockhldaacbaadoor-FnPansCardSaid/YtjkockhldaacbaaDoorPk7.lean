/-
  Several short texts in one: Rels, PansB.
-/
import Derived.Test.YtjkockhldaacbaaDoorProg
import Derived.Test.YtjkockhldaacbaaDoorMem
import Derived.Deep.QuietTactic
import Derived.BigQuiet
import Derived.Handy
import Derived.Lib.Hide
import Derived.Test.YtjkockhldaacbaaDoorPansP
import Derived.Test.YtjkockhldaacbaaDoorWorksE
import Derived.Test.YtjkockhldaacbaaDoorWorksT
import Derived.Test.YtjkockhldaacbaaDoorStepF
/-
  The small relations of the laws: too long; the same ints; has.
-/

namespace Go.Proofs.YtjkockhldaacbaaDoor
open Go.RowKit
set_option linter.unusedVariables false
set_option linter.unusedSimpArgs false
def hasB (f : Nat → Int) (n : Nat) (x : Int) : Bool := (List.range n).any fun j => f j == x
theorem hasB_iff (f : Nat → Int) (n : Nat) (x : Int) : hasB f n x = true ↔ ∃ j, j < n ∧ f j = x := by simp [hasB]
theorem hasB_yes {f : Nat → Int} {n k : Nat} {x : Int} (hk : k < n) (h : f k = x) : hasB f n x = true := (hasB_iff f n x).2 ⟨k, hk, h⟩
theorem hasB_no {f : Nat → Int} {n : Nat} {x : Int} (h : ∀ j, j < n → f j ≠ x) : hasB f n x = false := by
  cases hb : hasB f n x with
  | false => rfl
  | true => obtain ⟨j, h1, h2⟩ := (hasB_iff f n x).1 hb; exact absurd h2 (h j h1)
theorem hasB_list (L : List Int) (x : Int) : hasB (fun j => L.getD j 0) L.length x = true ↔ x ∈ L := by
  rw [hasB_iff]
  constructor
  · rintro ⟨j, hj, rfl⟩
    simp only [List.getD, List.getElem?_eq_getElem hj, Option.getD_some]
    exact List.getElem_mem hj
  · intro h
    obtain ⟨j, hj, he⟩ := List.getElem_of_mem h
    exact ⟨j, hj, by simp [List.getD, hj, he]⟩
theorem vBig_any (A : Option Addr) (n c : Nat) (w : World) :
    Calls Tryd.prog 4 #[.slice A n c] w fun e w' => e = .returned (.bool (decide (65536 < n))) ∧ w' = w := by
  by_cases h : 65536 < n
  · have hi : (65536 : Int) < (n : Int) := by omega
    go_enter Tryd.func4, Tryd.ntmps4
    go_wp2
    go_ret
    exact ⟨by simp [h], rfl⟩
  · have hi : ¬ ((65536 : Int) < (n : Int)) := by omega
    go_enter Tryd.func4, Tryd.ntmps4
    go_wp2
    go_ret
    exact ⟨by simp [h], rfl⟩
theorem vInts_same (A B : Option Addr) (n c d lo hi lo' hi' : Nat) (f : Nat → Int) (w : World) (hs : Sl w lo hi 1 A n f) (ht : Sl w lo' hi' 1 B n f) (hn : n ≤ 1048576) :
    Calls Tryd.prog 12 #[.slice A n c, .slice B n d] w fun e w' => e = .returned (.bool true) ∧ Below w.heap.size w w' := by
  have HS : Hid (Sl w lo hi 1 A n f) := hs
  have HT : Hid (Sl w lo' hi' 1 B n f) := ht
  clear hs ht
  go_enter Tryd.func12, Tryd.ntmps12
  go_wp2
  go_loopw [5] (fun i wr => ∃ k : Nat, k ≤ n ∧ i = .int .i64 k ∧ Below w.heap.size w wr) (fun i _ => n - (intOf i).toNat)
  case atStart => exact ⟨0, Nat.zero_le _, rfl, Below.refl _ _⟩
  case round =>
    obtain ⟨k, hk, rfl, hbel⟩ := hrel
    by_cases hlt : k < n
    · obtain ⟨b, off, rfl, hb, HC⟩ := HS.out.open_ hbel (by omega)
      obtain ⟨b', off', rfl, hb', HD⟩ := HT.out.open_ hbel (by omega)
      have c0 : wr.cell? ⟨b, off + k, none⟩ = some (.int .i64 (f k)) := HC.out k (by omega)
      have d0 : wr.cell? ⟨b', off' + k, none⟩ = some (.int .i64 (f k)) := HD.out k (by omega)
      clear HC HD HS HT
      have hk0 : (0 : Int) ≤ (k : Int) := by omega
      have hk1 : (k : Int) < (n : Int) := by omega
      go_wp2
      go_quiet (fail)
      go_wp2
      go_roundw
      case rel => exact ⟨k + 1, by omega, by go_num, below_drewN hbel _⟩
      case measure => simp [intOf]; omega
    · clear HS HT
      go_wp2
      go_ret
      exact ⟨rfl, hbel⟩
theorem vHas_any (A : Option Addr) (n c lo hi : Nat) (f : Nat → Int) (x : Int) (w : World) (hs : Sl w lo hi 1 A n f) (hn : n ≤ 1048576) :
    Calls Tryd.prog 15 #[.slice A n c, .int .i64 x] w fun e w' => e = .returned (.bool (hasB f n x)) ∧ w' = w := by
  have HS : Hid (Sl w lo hi 1 A n f) := hs
  clear hs
  go_enter Tryd.func15, Tryd.ntmps15
  go_wp2
  go_loop [5] (fun i => ∃ k : Nat, k ≤ n ∧ i = .int .i64 k ∧ Hid (∀ j, j < k → f j ≠ x)) (fun i => n - (intOf i).toNat)
  case atStart => exact ⟨0, Nat.zero_le _, rfl, fun j hj => absurd hj (by omega)⟩
  case round =>
    obtain ⟨k, hk, rfl, hall⟩ := hrel
    by_cases hlt : k < n
    · obtain ⟨b, off, rfl, hb, HC⟩ := HS.out.open_ (Below.refl _ _) (by omega)
      have c0 : w.cell? ⟨b, off + k, none⟩ = some (.int .i64 (f k)) := HC.out k (by omega)
      clear HC HS
      have hk0 : (0 : Int) ≤ (k : Int) := by omega
      have hk1 : (k : Int) < (n : Int) := by omega
      by_cases he : f k = x
      · have heb : (f k == x) = true := by simp [he]
        have HY := Lib.hid (hasB_yes hlt he)
        clear he
        go_wp2
        go_ret
        exact ⟨by rw [HY.out]; rfl, rfl⟩
      · have heb : (f k == x) = false := by simp [he]
        have HN := Lib.hid he
        clear he
        go_wp2
        go_round
        case rel => exact ⟨k + 1, by omega, by go_num, fun j hj => by
          rcases Nat.lt_or_eq_of_le (Nat.le_of_lt_succ hj) with h | h
          · exact hall.out j h
          · subst h; exact HN.out⟩
        case measure => simp [intOf]; omega
    · obtain rfl : k = n := by omega
      have HY := Lib.hid (hasB_no hall.out)
      clear HS hall
      go_wp2
      go_ret
      exact ⟨by rw [HY.out]; rfl, rfl⟩
end Go.Proofs.YtjkockhldaacbaaDoor
/-
  Both sides of DryToRake, RoomInPan and PanText as one fact each, with what the law FnPans needs of the result.
-/

namespace Go.Proofs.YtjkockhldaacbaaDoor
open Go.RowKit
set_option linter.unusedVariables false
set_option linter.unusedSimpArgs false
theorem pan_ways (f : Nat → Int) (n : Nat) (I H S P z : Int) : (goodWorks f n I H S P = false ∨ findV (pid f) z n 0 = -1) ∨ (goodWorks f n I H S P = true ∧ ∃ j, j < n ∧ findV (pid f) z n 0 = (j : Int)) := by
  cases hg : goodWorks f n I H S P with
  | false => exact Or.inl (Or.inl rfl)
  | true =>
    rcases findV_cases (pid f) z n 0 with ⟨e, _⟩ | ⟨j, _, hj, e, _⟩
    · exact Or.inl (Or.inr e)
    · exact Or.inr ⟨rfl, j, by omega, e⟩
theorem dry_both (f : Nat → Int) (n : Nat) (I H S P z : Int) (hn : n ≤ 1048576) :
    ∃ (r : Nat) (ok : Bool), Hid (∀ (A : Option Addr) (c lo hi : Nat) (W : World), Sl W lo hi 4 A n f → n ≤ c → Calls Tryd.prog 6 #[.agg #[.slice A n c, .int .i64 I, .int .i64 H, .int .i64 S, .int .i64 P], .int .i64 z] W fun e w' => e = .returned (.tuple #[.int .i64 (r : Int), .bool ok]) ∧ Below W.heap.size W w') ∧ Hid (∀ (A : Option Addr) (c lo hi : Nat) (W : World), Sl W lo hi 4 A n f → n ≤ c → Calls Tryd.prog 7 #[.agg #[.slice A n c, .int .i64 I, .int .i64 H, .int .i64 S, .int .i64 P], .int .i64 z] W fun e w' => e = .returned (.tuple #[.int .i64 (r : Int), .bool ok]) ∧ Below W.heap.size W w') ∧
      Hid (ok = true → 0 < r → ∃ (L1 : List Int) (m1 : Nat) (I1 H1 S1 P1 : Int), m1 ≤ 1048576 ∧ Hid (∀ (Aq : Option Addr) (cq lo hi : Nat) (W : World), Sl W lo hi 4 Aq n f → n ≤ cq → (Aq = none → n = 0 ∧ cq = 0) → (∀ ad, Aq = some ad → ∃ b off, ad = ⟨b, off, none⟩) → Calls Tryd.prog 8 #[.agg #[.slice Aq n cq, .int .i64 I, .int .i64 H, .int .i64 S, .int .i64 P], .agg #[.int .i64 4, .int .i64 z, .int .i64 0, .int .i64 (r : Int)]] W fun e w' => ∃ A' c', e = .returned (.tuple #[.agg #[.slice A' m1 c', .int .i64 I1, .int .i64 H1, .int .i64 S1, .int .i64 P1], .bool true]) ∧ m1 ≤ c' ∧ c' ≤ maxLen ∧ w'.ownsRow W.heap.size 48 4 (.slice A' m1 c') m1 (L1.map (Value.int .i64)) ∧ Below W.heap.size W w') ∧
        Hid (∀ (A : Option Addr) (c lo hi : Nat) (W : World), Sl W lo hi 4 A m1 (lf L1) → m1 ≤ c → Calls Tryd.prog 6 #[.agg #[.slice A m1 c, .int .i64 I1, .int .i64 H1, .int .i64 S1, .int .i64 P1], .int .i64 z] W fun e w' => e = .returned (.tuple #[.int .i64 0, .bool true]) ∧ Below W.heap.size W w')) := by
  rcases pan_ways f n I H S P z with h | ⟨hg, j, hj, hfd⟩
  · exact ⟨0, false, fun A c lo hi W hs hc => DryToRake_no A n c lo hi f I H S P z W hs hn hc h, fun A c lo hi W hs hc => specDryToRake_no A n c lo hi f I H S P z W hs hn hc h, fun h => by cases h⟩
  · by_cases hz : f (j * 4 + 3) = 0
    · exact ⟨0, false, fun A c lo hi W hs hc => DryToRake_zero A n c lo hi f I H S P z W hs hn hc hg j hj hfd hz, fun A c lo hi W hs hc => specDryToRake_zero A n c lo hi f I H S P z W hs hn hc hg j hj hfd hz, fun h => by cases h⟩
    · refine ⟨dryN (f (j * 4 + 2)) (f (j * 4 + 3)), true, fun A c lo hi W hs hc => DryToRake_yes A n c lo hi f I H S P z W hs hn hc hg j hj hfd hz, fun A c lo hi W hs hc => specDryToRake_yes A n c lo hi f I H S P z W hs hn hc hg j hj hfd hz, fun _ h0 => ?_⟩
      generalize hd : dryN (f (j * 4 + 2)) (f (j * 4 + 3)) = d at h0 ⊢
      obtain ⟨hok, hg1, hfd1, hz1, hd1⟩ := pans_dry (d := d) hg hj hfd hz hd h0
      refine ⟨stL f n 4 z 0 d, n, I, H, S, P, hn, fun Aq cq lo hi W hs h1 h2 h3 => ?_, fun A c lo hi W hs hc => ?_⟩
      · have h := StepWorks_any Aq n cq lo hi f I H S P 4 z 0 d W hs hn h1 h2
        rw [hok] at h
        refine h.mono ?_
        rintro e w' hp
        simpa [stepPost, panPostL, stN, stI, stH, stS, stP] using hp
      · have h := DryToRake_yes A n c lo hi (lf (stL f n 4 z 0 d)) I H S P z W hs hn hc hg1 j hj hfd1 hz1
        rw [hd1] at h
        exact h
theorem room_both (f : Nat → Int) (n : Nat) (I H S P z : Int) (hn : n ≤ 1048576) :
    ∃ (r : Int) (ok : Bool), 0 ≤ r ∧ Hid (∀ (A : Option Addr) (c lo hi : Nat) (W : World), Sl W lo hi 4 A n f → n ≤ c → Calls Tryd.prog 17 #[.agg #[.slice A n c, .int .i64 I, .int .i64 H, .int .i64 S, .int .i64 P], .int .i64 z] W fun e w' => e = .returned (.tuple #[.int .i64 r, .bool ok]) ∧ Below W.heap.size W w') ∧ Hid (∀ (A : Option Addr) (c lo hi : Nat) (W : World), Sl W lo hi 4 A n f → n ≤ c → Calls Tryd.prog 18 #[.agg #[.slice A n c, .int .i64 I, .int .i64 H, .int .i64 S, .int .i64 P], .int .i64 z] W fun e w' => e = .returned (.tuple #[.int .i64 r, .bool ok]) ∧ Below W.heap.size W w') := by
  rcases pan_ways f n I H S P z with h | ⟨hg, j, hj, hfd⟩
  · exact ⟨0, false, by omega, fun A c lo hi W hs hc => RoomInPan_no A n c lo hi f I H S P z W hs hn hc h, fun A c lo hi W hs hc => specRoomInPan_no A n c lo hi f I H S P z W hs hn hc h⟩
  · exact ⟨roomAt f j, true, pans_room hg hj, fun A c lo hi W hs hc => RoomInPan_yes A n c lo hi f I H S P z W hs hn hc hg j hj hfd, fun A c lo hi W hs hc => specRoomInPan_yes A n c lo hi f I H S P z W hs hn hc hg j hj hfd⟩
theorem text_both (f : Nat → Int) (n : Nat) (I H S P z : Int) (hn : n ≤ 1048576) :
    ∃ (t : ByteArray) (ok : Bool), Hid (∀ (A : Option Addr) (c lo hi : Nat) (W : World), Sl W lo hi 4 A n f → n ≤ c → Tab W → Calls Tryd.prog 20 #[.agg #[.slice A n c, .int .i64 I, .int .i64 H, .int .i64 S, .int .i64 P], .int .i64 z] W fun e w' => e = .returned (.tuple #[.string t, .bool ok]) ∧ Below W.heap.size W w') ∧ Hid (∀ (A : Option Addr) (c lo hi : Nat) (W : World), Sl W lo hi 4 A n f → n ≤ c → Calls Tryd.prog 21 #[.agg #[.slice A n c, .int .i64 I, .int .i64 H, .int .i64 S, .int .i64 P], .int .i64 z] W fun e w' => e = .returned (.tuple #[.string t, .bool ok]) ∧ Below W.heap.size W w') := by
  rcases pan_ways f n I H S P z with h | ⟨hg, j, hj, hfd⟩
  · exact ⟨_, false, fun A c lo hi W hs hc ht => PanText_no A n c lo hi f I H S P z W hs hn hc ht h, fun A c lo hi W hs hc => sPanText_no A n c lo hi f I H S P z W hs hn hc h⟩
  · exact ⟨_, true, fun A c lo hi W hs hc ht => PanText_yes A n c lo hi f I H S P z W hs hn hc ht hg j hj hfd, fun A c lo hi W hs hc => sPanText_yes A n c lo hi f I H S P z W hs hn hc hg j hj hfd⟩
theorem may_len (f : Nat → Int) (n : Nat) (b : Bool) (hn : n ≤ 1048576) : (rakeRes f n b).length ≤ 1048576 := by
  unfold rakeRes
  split
  · have := pickN_len (rakeB f) n; simp [idsP]; omega
  · simp
theorem ord_len (f : Nat → Int) (n : Nat) (b : Bool) (hn : n ≤ 1048576) : (ordRes f n b).length ≤ 1048576 := by
  unfold ordRes
  split
  · have := pickN_len (ordB f) n; simp [idsP, ordL, isortL_length]; omega
  · simp
theorem may_step (f : Nat → Int) (n : Nat) (I H S P : Int) (hn : n ≤ 1048576) (k : Nat) (hk : k < (rakeRes f n (goodWorks f n I H S P)).length) :
    hasB (fun i => (ordRes f n (goodWorks f n I H S P)).getD i 0) (ordRes f n (goodWorks f n I H S P)).length ((rakeRes f n (goodWorks f n I H S P)).getD k 0) = true ∧ Hid (∀ (Aq : Option Addr) (cq lo hi : Nat) (W : World), Sl W lo hi 4 Aq n f → n ≤ cq → (Aq = none → n = 0 ∧ cq = 0) → (∀ ad, Aq = some ad → ∃ b off, ad = ⟨b, off, none⟩) → Calls Tryd.prog 8 #[.agg #[.slice Aq n cq, .int .i64 I, .int .i64 H, .int .i64 S, .int .i64 P], .agg #[.int .i64 5, .int .i64 ((rakeRes f n (goodWorks f n I H S P)).getD k 0), .int .i64 0, .int .i64 1]] W fun e w' => (∃ A1 c1 I1 H1 S1 P1, e = .returned (.tuple #[.agg #[.slice A1 n c1, .int .i64 I1, .int .i64 H1, .int .i64 S1, .int .i64 P1], .bool true])) ∧ Below W.heap.size W w') := by
  cases hg : goodWorks f n I H S P with
  | false => rw [hg] at hk; simp [rakeRes] at hk
  | true =>
    rw [hg] at hk
    have hz : (rakeRes f n true).getD k 0 ∈ rakeRes f n true := by
      simp only [List.getD, List.getElem?_eq_getElem hk, Option.getD_some]
      exact List.getElem_mem hk
    obtain ⟨h1, h2⟩ := pans_may hg hz
    refine ⟨(hasB_list _ _).2 h2, fun Aq cq lo hi W hs h3 h4 h5 => ?_⟩
    have h := StepWorks_any Aq n cq lo hi f I H S P 5 ((rakeRes f n true).getD k 0) 0 1 W hs hn h3 h4
    rw [h1] at h
    refine h.mono ?_
    rintro e w' ⟨A', c', he, hc, hm, hown, hb⟩
    refine ⟨⟨A', c', stI I 5 1, stH H 5 1, stS S 5 1, stP f n P 5 ((rakeRes f n true).getD k 0), ?_⟩, hb⟩
    simpa [stN] using he
end Go.Proofs.YtjkockhldaacbaaDoor
