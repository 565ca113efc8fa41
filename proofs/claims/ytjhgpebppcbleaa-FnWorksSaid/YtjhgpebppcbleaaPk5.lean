/-
  Several short texts in one: Rels, WkP.
-/
import Derived.Test.YtjhgpebppcbleaaProg
import Derived.Test.YtjhgpebppcbleaaMem
import Derived.Deep.QuietTactic
import Derived.BigQuiet
import Derived.Handy
import Derived.Lib.Hide
import Derived.Test.YtjhgpebppcbleaaRunW
import Derived.Test.YtjhgpebppcbleaaWorksQ
/-
  The small relations of the laws: too long; the same ints; has.
-/

namespace Go.Proofs.Ytjhgpebppcbleaa
open Go.RowKit
set_option linter.unusedVariables false
set_option linter.unusedSimpArgs false
def hasB (f : Nat → Int) (n : Nat) (x : Int) : Bool := (List.range n).any fun j => f j == x
theorem hasB_iff (f : Nat → Int) (n : Nat) (x : Int) : hasB f n x = true ↔ ∃ j, j < n ∧ f j = x := by simp [hasB]
theorem hasB_yes {f : Nat → Int} {n k : Nat} {x : Int} (hk : k < n) (h : f k = x) : hasB f n x = true := (hasB_iff f n x).2 ⟨k, hk, h⟩
theorem hasB_no {f : Nat → Int} {n : Nat} {x : Int} (h : ∀ j, j < n → f j ≠ x) : hasB f n x = false := by
  cases hb : hasB f n x with
  | false => rfl
  | true => obtain ⟨j, h1, h2⟩ := (hasB_iff f n x).1 hb; exact absurd h2 (h j h1)
theorem hasB_list (L : List Int) (x : Int) : hasB (fun j => L.getD j 0) L.length x = true ↔ x ∈ L := by
  rw [hasB_iff]
  constructor
  · rintro ⟨j, hj, rfl⟩
    simp only [List.getD, List.getElem?_eq_getElem hj, Option.getD_some]
    exact List.getElem_mem hj
  · intro h
    obtain ⟨j, hj, he⟩ := List.getElem_of_mem h
    exact ⟨j, hj, by simp [List.getD, hj, he]⟩
theorem vBig_any (A : Option Addr) (n c : Nat) (w : World) :
    Calls Try.prog 7 #[.slice A n c] w fun e w' => e = .returned (.bool (decide (65536 < n))) ∧ w' = w := by
  by_cases h : 65536 < n
  · have hi : (65536 : Int) < (n : Int) := by omega
    go_enter Try.func7, Try.ntmps7
    go_wp2
    go_ret
    exact ⟨by simp [h], rfl⟩
  · have hi : ¬ ((65536 : Int) < (n : Int)) := by omega
    go_enter Try.func7, Try.ntmps7
    go_wp2
    go_ret
    exact ⟨by simp [h], rfl⟩
theorem vHas_any (A : Option Addr) (n c lo hi : Nat) (f : Nat → Int) (x : Int) (w : World) (hs : Sl w lo hi 1 A n f) (hn : n ≤ 1048576) :
    Calls Try.prog 17 #[.slice A n c, .int .i64 x] w fun e w' => e = .returned (.bool (hasB f n x)) ∧ w' = w := by
  have HS : Hid (Sl w lo hi 1 A n f) := hs
  clear hs
  go_enter Try.func17, Try.ntmps17
  go_wp2
  go_loop [5] (fun i => ∃ k : Nat, k ≤ n ∧ i = .int .i64 k ∧ Hid (∀ j, j < k → f j ≠ x)) (fun i => n - (intOf i).toNat)
  case atStart => exact ⟨0, Nat.zero_le _, rfl, fun j hj => absurd hj (by omega)⟩
  case round =>
    obtain ⟨k, hk, rfl, hall⟩ := hrel
    by_cases hlt : k < n
    · obtain ⟨b, off, rfl, hb, HC⟩ := HS.out.open_ (Below.refl _ _) (by omega)
      have c0 : w.cell? ⟨b, off + k, none⟩ = some (.int .i64 (f k)) := HC.out k (by omega)
      clear HC HS
      have hk0 : (0 : Int) ≤ (k : Int) := by omega
      have hk1 : (k : Int) < (n : Int) := by omega
      by_cases he : f k = x
      · have heb : (f k == x) = true := by simp [he]
        have HY := Lib.hid (hasB_yes hlt he)
        clear he
        go_wp2
        go_ret
        exact ⟨by rw [HY.out]; rfl, rfl⟩
      · have heb : (f k == x) = false := by simp [he]
        have HN := Lib.hid he
        clear he
        go_wp2
        go_round
        case rel => exact ⟨k + 1, by omega, by go_num, fun j hj => by
          rcases Nat.lt_or_eq_of_le (Nat.le_of_lt_succ hj) with h | h
          · exact hall.out j h
          · subst h; exact HN.out⟩
        case measure => simp [intOf]; omega
    · obtain rfl : k = n := by omega
      have HY := Lib.hid (hasB_no hall.out)
      clear HS hall
      go_wp2
      go_ret
      exact ⟨by rw [HY.out]; rfl, rfl⟩
set_option maxHeartbeats 1000000 in
theorem vPans_same (A B : Option Addr) (n c d lo hi lo' hi' : Nat) (f : Nat → Int) (w : World) (hs : Sl w lo hi 4 A n f) (ht : Sl w lo' hi' 4 B n f) (hn : n ≤ 1048576) :
    Calls Try.prog 46 #[.slice A n c, .slice B n d] w fun e w' => e = .returned (.bool true) ∧ Below w.heap.size w w' := by
  have HS : Hid (Sl w lo hi 4 A n f) := hs
  have HT : Hid (Sl w lo' hi' 4 B n f) := ht
  clear hs ht
  go_enter Try.func46, Try.ntmps46
  go_wp2
  go_loopw [5] (fun i wr => ∃ k : Nat, k ≤ n ∧ i = .int .i64 k ∧ Below w.heap.size w wr) (fun i _ => n - (intOf i).toNat)
  case atStart => exact ⟨0, Nat.zero_le _, rfl, Below.refl _ _⟩
  case round =>
    obtain ⟨k, hk, rfl, hbel⟩ := hrel
    by_cases hlt : k < n
    · obtain ⟨b, off, rfl, hb, HC⟩ := HS.out.open_ hbel (by omega)
      obtain ⟨b', off', rfl, hb', HD⟩ := HT.out.open_ hbel (by omega)
      obtain ⟨c0, c1, c2, c3⟩ := cell4 HC hlt
      obtain ⟨d0, d1, d2, d3⟩ := cell4 HD hlt
      clear HC HD HS HT
      have hk0 : (0 : Int) ≤ (k : Int) := by omega
      have hk1 : (k : Int) < (n : Int) := by omega
      go_wp2
      go_quiet (fail)
      go_wp2
      go_roundw
      case rel => exact ⟨k + 1, by omega, by go_num, below_drewN hbel _⟩
      case measure => simp [intOf]; omega
    · clear HS HT
      go_wp2
      go_ret
      exact ⟨rfl, hbel⟩
end Go.Proofs.Ytjhgpebppcbleaa
/-
  Plain facts about works that are stepped, as the law FnWorks wants them. No program in sight.
-/

namespace Go.Proofs.Ytjhgpebppcbleaa
open Go.RowKit
set_option linter.unusedVariables false
set_option linter.unusedSimpArgs false
theorem wk_in {f : Nat → Int} {n : Nat} {I H S P : Int} (hg : goodWorks f n I H S P = true) : I = wrap64 (wrap64 (wrap64 (sumW (saltAt f) n + H) + S) + P) := by
  simp only [goodWorks, Bool.and_eq_true, decide_eq_true_eq] at hg
  exact hg.2
theorem wk_parts {f : Nat → Int} {n : Nat} {I H S P kd id to z : Int} (h : stOk f n I H S P kd id to z = true) : goodWorks f n I H S P = true ∧ stV f n kd id to z = true ∧ z ≤ 1000000 ∧ stM f n kd id z = true ∧ stG f n I H S P kd id to z = true := by
  simp only [stOk, mkOk, Bool.and_eq_true, decide_eq_true_eq] at h
  exact ⟨h.1, h.2.1, h.2.2.1, h.2.2.2.1, h.2.2.2.2⟩
theorem pickN_mem {t : Nat → Bool} {j : Nat} (ht : t j = true) : ∀ k, j < k → j ∈ pickN t k
  | 0, h => absurd h (by omega)
  | k + 1, h => by
    by_cases e : j = k
    · subst e; rw [pickN_yes ht]; simp
    · have := pickN_mem ht k (by omega)
      unfold pickN
      split
      · simp [this]
      · exact this
theorem wk_rake {f : Nat → Int} {n : Nat} {I H S P id to z : Int} (h : stOk f n I H S P 5 id to z = true) :
    ∃ j, j < n ∧ findV (pid f) id n 0 = (j : Int) ∧ f (j * 4 + 3) ≠ 0 ∧ dryN (f (j * 4 + 2)) (f (j * 4 + 3)) = 0 ∧ hasB (fun i => (rakeRes f n true).getD i 0) (rakeRes f n true).length id = true := by
  obtain ⟨hg, hv, _, hm, _⟩ := wk_parts h
  have hf : 0 ≤ findV (pid f) id n 0 := by
    simp [stV] at hv
    exact hv.1
  rcases findV_cases (pid f) id n 0 with ⟨e, _⟩ | ⟨j, _, hj, e, hp⟩
  · omega
  have hj : j < n := by omega
  have hat : atN f n id = j := by simp [atN, e]
  have hmay : mayV (f (j * 4 + 2)) (f (j * 4 + 3)) = true := by simpa [stM, hat] using hm
  obtain ⟨b1, b2, b3, b4, _⟩ := good_brine hg hj
  have hi := (mayV_iff (by omega) b2 b3 b4).1 hmay
  refine ⟨j, hj, e, by omega, by unfold dryN; omega, ?_⟩
  rw [hasB_list]
  simp only [rakeRes, if_true, idsP]
  refine List.mem_map.2 ⟨j, pickN_mem (t := rakeB f) hmay n hj, hp⟩
theorem wk_len {f : Nat → Int} {n : Nat} {b : Bool} (hn : n ≤ 1048576) : (rakeRes f n b).length ≤ 1048576 := by
  unfold rakeRes
  split
  · have := pickN_len (rakeB f) n; simp [idsP]; omega
  · simp
end Go.Proofs.Ytjhgpebppcbleaa
