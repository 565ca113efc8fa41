/-
  NearPairs: the program's and the reference's return the same pairs.
-/
import Derived.Test.YtcecpioiagfoiaaDoorNestA
import Derived.Test.YtcecpioiagfoiaaDoorPairs
import Derived.Test.YtcecpioiagfoiaaDoorRegionQ
import Derived.Handy
import Derived.Deep.Cut
import Derived.Lib.Hide
namespace Go.Proofs.YtcecpioiagfoiaaDoor
open Go.RowKit
set_option linter.unusedVariables false
set_option linter.unusedSimpArgs false
attribute [local go_sem ↓] Go.wp_at_zero Go.wp_at_succ
def sq2V (X Y x y : Int) : Int := wrap64 (wrap64 (wrap64 (X - x) * wrap64 (X - x)) + wrap64 (wrap64 (Y - y) * wrap64 (Y - y)))
def leastV (a b : Int) : Int := if a = b then 900 else 100
def nearB (f : Nat → Int) (i k : Nat) : Bool := decide (sq2V (f (i * 7 + 5)) (f (i * 7 + 6)) (f (k * 7 + 5)) (f (k * 7 + 6)) < leastV (f (i * 7 + 1)) (f (k * 7 + 1)))
def rowP (f : Nat → Int) (i : Nat) : Nat → List (Int × Int)
  | 0 => []
  | k + 1 => if i < k ∧ nearB f i k = true then rowP f i k ++ [(f (i * 7), f (k * 7))] else rowP f i k
def npTo (f : Nat → Int) (n : Nat) : Nat → List (Int × Int)
  | 0 => []
  | i + 1 => npTo f n i ++ rowP f i n
def npRes (f : Nat → Int) (n : Nat) : List (Int × Int) := if goodNests f n then npTo f n n else []
theorem rowP_low (f : Nat → Int) (i : Nat) : ∀ k, k ≤ i + 1 → rowP f i k = []
  | 0, _ => rfl
  | k + 1, h => by unfold rowP; rw [if_neg (by omega)]; exact rowP_low f i k (by omega)
theorem rowP_yes {f : Nat → Int} {i k : Nat} (h : i < k) (hn : nearB f i k = true) : rowP f i (k + 1) = rowP f i k ++ [(f (i * 7), f (k * 7))] := by
  show (if i < k ∧ nearB f i k = true then _ else _) = _
  rw [if_pos ⟨h, hn⟩]
theorem rowP_no {f : Nat → Int} {i k : Nat} (hn : nearB f i k = false) : rowP f i (k + 1) = rowP f i k := by
  show (if i < k ∧ nearB f i k = true then _ else _) = _
  rw [if_neg (by simp [hn])]
theorem rowP_len (f : Nat → Int) (i : Nat) : ∀ k, (rowP f i k).length ≤ k
  | 0 => Nat.le_refl _
  | k + 1 => by
    have := rowP_len f i k
    unfold rowP
    split
    · simp; omega
    · omega
theorem npTo_len (f : Nat → Int) (n : Nat) : ∀ i, (npTo f n i).length ≤ i * n
  | 0 => Nat.le_of_eq (by simp [npTo])
  | i + 1 => by
    have h1 := npTo_len f n i
    have h2 := rowP_len f i n
    simp only [npTo, List.length_append, Nat.succ_mul]
    omega
theorem goodNests_12 {f : Nat → Int} {n : Nat} (h : goodNests f n = true) : n ≤ 12 := by
  simp only [goodNests, Bool.and_eq_true, decide_eq_true_eq] at h
  exact h.2
theorem part_len (f : Nat → Int) {n i k : Nat} (hn : n ≤ 12) (hi : i ≤ n) (hk : k ≤ n) : (npTo f n i ++ rowP f i k).length ≤ 100000000 := by
  have h1 := npTo_len f n i
  have h2 := rowP_len f i k
  have h3 : i * n ≤ 12 * 12 := Nat.mul_le_mul (by omega) hn
  rw [List.length_append]
  omega
theorem npRes_len (f : Nat → Int) (n : Nat) : (npRes f n).length ≤ 1048576 := by
  unfold npRes
  split
  · rename_i h
    have hn := goodNests_12 h
    have h1 := npTo_len f n n
    have h3 : n * n ≤ 12 * 12 := Nat.mul_le_mul hn hn
    omega
  · simp
theorem Sl.from_ {w : World} {lo hi n c b off i : Nat} {f : Nat → Int} (h : Sl w lo hi 7 (some ⟨b, off, none⟩) n f) (hi' : i < n) : Sl w lo hi 7 (some ⟨b, off + (i + 1) * 7, none⟩) (n - (i + 1)) (fun j => f ((i + 1) * 7 + j)) :=
  ⟨h.hi_le, fun hn => by
    obtain ⟨b', off', e, h1, h2, h3⟩ := h.here (by omega)
    simp only [Option.some.injEq, Addr.mk.injEq, and_true] at e
    obtain ⟨rfl, rfl⟩ := e
    exact ⟨b, _, rfl, h1, h2, fun j hj => by rw [Nat.add_assoc]; exact h3 _ (by omega)⟩⟩
theorem nest_ne {w : World} {lo hi k : Nat} {v : Value} {L : List (Int × Int)} {cur : Array Value} (H : PRs w lo hi v L) (h : w.heap[k]? = some (.cells cur 36 (0, 0))) : some k ≠ v.ownBlock := by
  obtain ⟨l, _, hown, _⟩ := H
  intro he
  rcases hown.2 with ⟨rfl, _⟩ | ⟨G, cap, cur', rfl, _, hG, _⟩
  · simp [Value.ownBlock] at he
  · simp [Value.ownBlock] at he
    subst he
    rw [h] at hG
    simp at hG
theorem square2_any (i k p d b x y u v : Int) (w : World) :
    Calls Tryd.prog 27 #[.agg #[.int .i64 i, .int .i64 k, .int .i64 p, .int .i64 d, .int .i64 b, .int .i64 x, .int .i64 y], .int .i64 u, .int .i64 v] w fun e w' => e = .returned (.int .i64 (sq2V x y u v)) ∧ Below w.heap.size w w' := by
  go_enter Tryd.func27, Tryd.ntmps27
  go_wp2
  go_ret
  exact ⟨rfl, by go_grown⟩
theorem l24Square2_any (i k p d b x y u v : Int) (w : World) :
    Calls Tryd.prog 29 #[.agg #[.int .i64 i, .int .i64 k, .int .i64 p, .int .i64 d, .int .i64 b, .int .i64 x, .int .i64 y], .int .i64 u, .int .i64 v] w fun e w' => e = .returned (.int .i64 (sq2V x y u v)) ∧ Below w.heap.size w w' := by
  go_enter Tryd.func29, Tryd.ntmps29
  go_wp2
  go_ret
  exact ⟨rfl, by go_grown⟩
theorem sub_cells {wr : World} {b2 off2 n i t : Nat} {f : Nat → Int} (H : Hid (∀ j, j < (n - (i + 1)) * 7 → wr.cell? ⟨b2, off2 + j, none⟩ = some (.int .i64 (f ((i + 1) * 7 + j))))) (ht : t < n - (i + 1)) :
    wr.cell? ⟨b2, off2 + t * 7, none⟩ = some (.int .i64 (f ((i + 1 + t) * 7))) ∧ wr.cell? ⟨b2, off2 + t * 7 + 1, none⟩ = some (.int .i64 (f ((i + 1 + t) * 7 + 1))) ∧ wr.cell? ⟨b2, off2 + t * 7 + 2, none⟩ = some (.int .i64 (f ((i + 1 + t) * 7 + 2))) ∧ wr.cell? ⟨b2, off2 + t * 7 + 3, none⟩ = some (.int .i64 (f ((i + 1 + t) * 7 + 3))) ∧ wr.cell? ⟨b2, off2 + t * 7 + 4, none⟩ = some (.int .i64 (f ((i + 1 + t) * 7 + 4))) ∧ wr.cell? ⟨b2, off2 + t * 7 + 5, none⟩ = some (.int .i64 (f ((i + 1 + t) * 7 + 5))) ∧ wr.cell? ⟨b2, off2 + t * 7 + 6, none⟩ = some (.int .i64 (f ((i + 1 + t) * 7 + 6))) := by
  have h := cell7 (f := fun j => f ((i + 1) * 7 + j)) H ht
  have e : (i + 1) * 7 + t * 7 = (i + 1 + t) * 7 := by omega
  simp only [← Nat.add_assoc, e] at h
  exact h
theorem row7 {w : World} {g : Nat} {z0 z1 z2 z3 z4 z5 z6 : Int} (h : w.heap[g]? = some (.cells #[.int .i64 z0, .int .i64 z1, .int .i64 z2, .int .i64 z3, .int .i64 z4, .int .i64 z5, .int .i64 z6] 36 (0, 0))) :
    w.cell? ⟨g, 0, none⟩ = some (.int .i64 z0) ∧ w.cell? ⟨g, 1, none⟩ = some (.int .i64 z1) ∧ w.cell? ⟨g, 2, none⟩ = some (.int .i64 z2) ∧ w.cell? ⟨g, 3, none⟩ = some (.int .i64 z3) ∧ w.cell? ⟨g, 4, none⟩ = some (.int .i64 z4) ∧ w.cell? ⟨g, 5, none⟩ = some (.int .i64 z5) ∧ w.cell? ⟨g, 6, none⟩ = some (.int .i64 z6) :=
  ⟨by rw [cell_of_row w g 0 _ _ (0, 0) h]; rfl, by rw [cell_of_row w g 1 _ _ (0, 0) h]; rfl, by rw [cell_of_row w g 2 _ _ (0, 0) h]; rfl, by rw [cell_of_row w g 3 _ _ (0, 0) h]; rfl, by rw [cell_of_row w g 4 _ _ (0, 0) h]; rfl, by rw [cell_of_row w g 5 _ _ (0, 0) h]; rfl, by rw [cell_of_row w g 6 _ _ (0, 0) h]; rfl⟩
set_option maxRecDepth 100000 in
set_option maxHeartbeats 2000000 in
theorem NearPairs_any (A : Option Addr) (n c lo hi : Nat) (f : Nat → Int) (w : World) (hs : Sl w lo hi 7 A n f) (hn : n ≤ 1048576) (hnc : n ≤ c) (hcm : c ≤ maxLen) :
    Calls Tryd.prog 6 #[.slice A n c] w (PairsPost w (npRes f n) (goodNests f n)) := by
  have HS : Hid (Sl w lo hi 7 A n f) := hs
  clear hs
  cases hg : goodNests f n with
  | false =>
    have hr : npRes f n = [] := by simp [npRes, hg]
    rw [hr]
    clear hr
    go_enter Tryd.func6, Tryd.ntmps6
    go_wp2_with fail
    refine (NestAll_any A n c lo hi f w HS.out hn hnc).mono ?_
    rw [hg]
    rintro e w1 ⟨rfl, hb1⟩
    go_wp2
    go_ret2
    exact PairsPost.mk_ (PRs.nil _ _ 0) hb1
  | true =>
    have hr : npRes f n = npTo f n n := by simp [npRes, hg]
    have h12 := goodNests_12 hg
    have hc8 : c ≤ 9223372036854775807 := by unfold maxLen at hcm; omega
    rw [hr]
    clear hr hcm
    go_enter Tryd.func6, Tryd.ntmps6
    go_wp2_with fail
    refine (NestAll_any A n c lo hi f w HS.out hn hnc).mono ?_
    rw [hg]
    rintro e w1 ⟨rfl, hb1⟩
    go_wp2
    go_loopw [4, 15] (fun v iv wr => ∃ i : Nat, i ≤ n ∧ iv = .int .i64 i ∧ PRs wr w.heap.size wr.heap.size v (npTo f n i) ∧ Below w.heap.size w wr) (fun _ iv _ => n - (intOf iv).toNat)
    case atStart => exact ⟨0, Nat.zero_le _, rfl, PRs.nil _ _ _, hb1⟩
    case round =>
      obtain ⟨i, hi', rfl, hown, hB⟩ := hrel
      clear hb1
      have HO : Hid (PRs wr w.heap.size wr.heap.size u4 (npTo f n i)) := hown
      clear hown
      by_cases hlt : i < n
      · obtain ⟨b, off, rfl, hbw, HC⟩ := HS.out.open_ hB (by omega)
        obtain ⟨a0, a1, a2, a3, a4, a5, a6⟩ := cell7 HC hlt
        clear HC
        have i0 : (0 : Int) ≤ (i : Int) := by omega
        have i1 : (i : Int) < (n : Int) := by omega
        have i2 : IntKind.i64.wrap ((i : Int) + 1) = (i : Int) + 1 := IntWalk.i64_in _ (by omega)
        have i3 : (i : Int) + 1 ≤ (n : Int) := by omega
        have i4 : (n : Int) ≤ (c : Int) := by omega
        by_cases hci : c = i + 1
        · have hn1 : n - (i + 1) = 0 := by omega
          have HS2 : Hid (Sl w lo hi 7 (some ⟨b, off, none⟩) (n - (i + 1)) (fun j => f ((i + 1) * 7 + j))) := ⟨HS.out.hi_le, fun h => absurd h (by omega)⟩
          clear HS hn1
          subst hci
          go_wp2_with fail
          obtain ⟨wo, hwo⟩ : ∃ x, x = wr := ⟨_, rfl⟩
          subst hwo
          have hAL := (Below.refl _ wo).alloc (Nat.le_refl _) (.cells #[.int .i64 (f (i * 7)), .int .i64 (f (i * 7 + 1)), .int .i64 (f (i * 7 + 2)), .int .i64 (f (i * 7 + 3)), .int .i64 (f (i * 7 + 4)), .int .i64 (f (i * 7 + 5)), .int .i64 (f (i * 7 + 6))] 36)
          have hBX := hB.alloc hB.size (.cells #[.int .i64 (f (i * 7)), .int .i64 (f (i * 7 + 1)), .int .i64 (f (i * 7 + 2)), .int .i64 (f (i * 7 + 3)), .int .i64 (f (i * 7 + 4)), .int .i64 (f (i * 7 + 5)), .int .i64 (f (i * 7 + 6))] 36)
          have hOX := (HO.out.below hAL).hi hAL.size
          have hgX := heap_alloc_new wo (.cells #[.int .i64 (f (i * 7)), .int .i64 (f (i * 7 + 1)), .int .i64 (f (i * 7 + 2)), .int .i64 (f (i * 7 + 3)), .int .i64 (f (i * 7 + 4)), .int .i64 (f (i * 7 + 5)), .int .i64 (f (i * 7 + 6))] 36)
          have HOX := Lib.hid hOX
          have HGX := Lib.hid hgX
          have HBX := Lib.hid hBX
          clear HO hAL hOX hgX hBX hB a0 a1 a2 a3 a4 a5 a6 hbw
          generalize wo.alloc (.cells #[.int .i64 (f (i * 7)), .int .i64 (f (i * 7 + 1)), .int .i64 (f (i * 7 + 2)), .int .i64 (f (i * 7 + 3)), .int .i64 (f (i * 7 + 4)), .int .i64 (f (i * 7 + 5)), .int .i64 (f (i * 7 + 6))] 36) = X at *
          generalize wo.heap.size = ga at *
          go_loopw [4, 25] (fun v tv wr => ∃ t : Nat, t ≤ n - (i + 1) ∧ tv = .int .i64 t ∧ PRs wr w.heap.size wr.heap.size v (npTo f n i ++ rowP f i (i + 1 + t)) ∧ Below w.heap.size w wr ∧ wr.heap[ga]? = some (.cells #[.int .i64 (f (i * 7)), .int .i64 (f (i * 7 + 1)), .int .i64 (f (i * 7 + 2)), .int .i64 (f (i * 7 + 3)), .int .i64 (f (i * 7 + 4)), .int .i64 (f (i * 7 + 5)), .int .i64 (f (i * 7 + 6))] 36 (0, 0))) (fun _ tv _ => (n - (i + 1)) - (intOf tv).toNat)
          case atStart => exact ⟨0, Nat.zero_le _, rfl, by rw [rowP_low f i _ (Nat.le_refl _), List.append_nil]; exact HOX.out, HBX.out, HGX.out⟩
          case round =>
            obtain ⟨t, ht, rfl, hown, hB2, hga⟩ := hrel
            clear HOX HGX HBX
            have hl : (npTo f n i ++ rowP f i (i + 1 + t)).length ≤ 100000000 := part_len f h12 hi' (by omega)
            have HO2 := Lib.hid hown
            clear hown
            by_cases hlt2 : t < n - (i + 1)
            · exact absurd hlt2 (by omega)
            · have htm : i + 1 + t = n := by omega
              have HPE : Hid (npTo f n (i + 1) = npTo f n i ++ rowP f i (i + 1 + t)) := by show _ = _; rw [htm]; rfl
              have ht2 : ¬ ((t : Int) < ((n - (i + 1) : Nat) : Int)) := by omega
              clear HS2
              go_wp2_with fail
              go_roundw
              case rel => exact ⟨i + 1, by omega, by go_num, by rw [HPE.out]; exact HO2.out, hB2⟩
              case measure => simp [intOf]; omega
        · have HS2 := Lib.hid (HS.out.from_ (c := c) hlt)
          clear HS
          have hci2 : ¬ ((c : Int) = (i : Int) + 1) := by omega
          go_wp2_with fail
          generalize off + (i + 1) * 7 = off2 at HS2 ⊢
          obtain ⟨wo, hwo⟩ : ∃ x, x = wr := ⟨_, rfl⟩
          subst hwo
          have hAL := (Below.refl _ wo).alloc (Nat.le_refl _) (.cells #[.int .i64 (f (i * 7)), .int .i64 (f (i * 7 + 1)), .int .i64 (f (i * 7 + 2)), .int .i64 (f (i * 7 + 3)), .int .i64 (f (i * 7 + 4)), .int .i64 (f (i * 7 + 5)), .int .i64 (f (i * 7 + 6))] 36)
          have hBX := hB.alloc hB.size (.cells #[.int .i64 (f (i * 7)), .int .i64 (f (i * 7 + 1)), .int .i64 (f (i * 7 + 2)), .int .i64 (f (i * 7 + 3)), .int .i64 (f (i * 7 + 4)), .int .i64 (f (i * 7 + 5)), .int .i64 (f (i * 7 + 6))] 36)
          have hOX := (HO.out.below hAL).hi hAL.size
          have hgX := heap_alloc_new wo (.cells #[.int .i64 (f (i * 7)), .int .i64 (f (i * 7 + 1)), .int .i64 (f (i * 7 + 2)), .int .i64 (f (i * 7 + 3)), .int .i64 (f (i * 7 + 4)), .int .i64 (f (i * 7 + 5)), .int .i64 (f (i * 7 + 6))] 36)
          have HOX := Lib.hid hOX
          have HGX := Lib.hid hgX
          have HBX := Lib.hid hBX
          clear HO hAL hOX hgX hBX hB a0 a1 a2 a3 a4 a5 a6 hbw
          generalize wo.alloc (.cells #[.int .i64 (f (i * 7)), .int .i64 (f (i * 7 + 1)), .int .i64 (f (i * 7 + 2)), .int .i64 (f (i * 7 + 3)), .int .i64 (f (i * 7 + 4)), .int .i64 (f (i * 7 + 5)), .int .i64 (f (i * 7 + 6))] 36) = X at *
          generalize wo.heap.size = ga at *
          go_loopw [4, 25] (fun v tv wr => ∃ t : Nat, t ≤ n - (i + 1) ∧ tv = .int .i64 t ∧ PRs wr w.heap.size wr.heap.size v (npTo f n i ++ rowP f i (i + 1 + t)) ∧ Below w.heap.size w wr ∧ wr.heap[ga]? = some (.cells #[.int .i64 (f (i * 7)), .int .i64 (f (i * 7 + 1)), .int .i64 (f (i * 7 + 2)), .int .i64 (f (i * 7 + 3)), .int .i64 (f (i * 7 + 4)), .int .i64 (f (i * 7 + 5)), .int .i64 (f (i * 7 + 6))] 36 (0, 0))) (fun _ tv _ => (n - (i + 1)) - (intOf tv).toNat)
          case atStart => exact ⟨0, Nat.zero_le _, rfl, by rw [rowP_low f i _ (Nat.le_refl _), List.append_nil]; exact HOX.out, HBX.out, HGX.out⟩
          case round =>
            obtain ⟨t, ht, rfl, hown, hB2, hga⟩ := hrel
            clear HOX HGX HBX
            have hl : (npTo f n i ++ rowP f i (i + 1 + t)).length ≤ 100000000 := part_len f h12 hi' (by omega)
            have HO2 := Lib.hid hown
            clear hown
            by_cases hlt2 : t < n - (i + 1)
            · obtain ⟨hbw2, HC2⟩ := HS2.out.open_at hB2 (by omega)
              obtain ⟨c0, c1, c2, c3, c4, c5, c6⟩ := sub_cells HC2 hlt2
              clear HC2 HS2
              generalize hk : i + 1 + t = k at *
              have hik : i < k := by omega
              have hkn : k < n := by omega
              generalize hP : npTo f n i ++ rowP f i k = P at HO2 hl
              have HP := Lib.hid hP
              have HK := Lib.hid hk
              have t0 : (0 : Int) ≤ (t : Int) := by omega
              have t1 : (t : Int) < ((n - (i + 1) : Nat) : Int) := by omega
              have hga2 := Lib.hid hga
              clear hP hga
              go_upto_region 10 with fail
              have hAL := (Below.refl _ wr).alloc (Nat.le_refl _) (.cells #[.int .i64 (f (k * 7)), .int .i64 (f (k * 7 + 1)), .int .i64 (f (k * 7 + 2)), .int .i64 (f (k * 7 + 3)), .int .i64 (f (k * 7 + 4)), .int .i64 (f (k * 7 + 5)), .int .i64 (f (k * 7 + 6))] 36)
              have hgaW := (Array.getElem?_eq_some_iff.1 hga2.out).1
              have hgaR := (hAL.block ga hgaW).trans hga2.out
              have hgbR := heap_alloc_new wr (.cells #[.int .i64 (f (k * 7)), .int .i64 (f (k * 7 + 1)), .int .i64 (f (k * 7 + 2)), .int .i64 (f (k * 7 + 3)), .int .i64 (f (k * 7 + 4)), .int .i64 (f (k * 7 + 5)), .int .i64 (f (k * 7 + 6))] 36)
              have hO2x := (HO2.out.below hAL).hi hAL.size
              have hBX2 := below_of hB2 hAL hB2.size
              have hgaX := Nat.lt_of_lt_of_le hgaW hAL.size
              have hgbX : wr.heap.size < (wr.alloc (.cells #[.int .i64 (f (k * 7)), .int .i64 (f (k * 7 + 1)), .int .i64 (f (k * 7 + 2)), .int .i64 (f (k * 7 + 3)), .int .i64 (f (k * 7 + 4)), .int .i64 (f (k * 7 + 5)), .int .i64 (f (k * 7 + 6))] 36)).heap.size := by simp
              obtain ⟨q0, q1, q2, q3, q4, q5, q6⟩ := row7 hgaR
              obtain ⟨p0, p1, p2, p3, p4, p5, p6⟩ := row7 hgbR
              clear HO2 hAL hga2 hgbR hgaW hB2 c0 c1 c2 c3 c4 c5 c6 hbw2
              have HO2 := Lib.hid hO2x
              clear hO2x
              generalize wr.alloc (.cells #[.int .i64 (f (k * 7)), .int .i64 (f (k * 7 + 1)), .int .i64 (f (k * 7 + 2)), .int .i64 (f (k * 7 + 3)), .int .i64 (f (k * 7 + 4)), .int .i64 (f (k * 7 + 5)), .int .i64 (f (k * 7 + 6))] 36) = X2 at *
              generalize wr.heap.size = gb at *
              by_cases hkd : f (i * 7 + 1) = f (k * 7 + 1)
              · have hkb : (f (i * 7 + 1) == f (k * 7 + 1)) = true := by simp [hkd]
                cases hnb0 : nearB f i k with
                | true =>
                  have hnb : Hid (nearB f i k = true) := hnb0
                  have hsq : (sq2V (f (i * 7 + 5)) (f (i * 7 + 6)) (f (k * 7 + 5)) (f (k * 7 + 6)) < 900) := by
                    have h := hnb0
                    simp only [nearB, leastV, if_pos hkd, decide_eq_true_eq] at h
                    exact h
                  clear hnb0 hkd
                  go_wp2_with fail
                  refine (square2_any _ _ _ _ _ _ _ _ _ _).mono ?_
                  rintro e w4 ⟨rfl, hb4⟩
                  have hO4 := (HO2.out.below hb4).hi hb4.size
                  have hB4 := below_of hBX2 hb4 hBX2.size
                  have hga4 := (hb4.block ga hgaX).trans hgaR
                  have hq0 := (row7 hga4).1
                  have hp0 := (hb4.cell (p := ⟨gb, 0, none⟩) hgbX).trans p0
                  have HO4 := Lib.hid hO4
                  have hs4 := hB4.size
                  clear q0 q1 q2 q3 q4 q5 q6 p0 p1 p2 p3 p4 p5 p6 HO2 hO4 hb4 hBX2
                  go_wp2_with (at_builtin; refine wpList_append_pair _ rfl _ _ 26 rfl w.heap.size w4.heap.size Tryd.underlying26 _ P rfl (HO4.out.below (by go_grown)) w4.heap.size (f (i * 7)) (f (k * 7)) (Nat.le_refl _) hs4 (heap_alloc2 w4 _ _) (w4.heap.size + 1) rfl (by simp) hl (by simp; omega) ?_; intro v' w5 hown5 hgrow5)
                  have hgr : w5.heap[ga]? = some (.cells #[.int .i64 (f (i * 7)), .int .i64 (f (i * 7 + 1)), .int .i64 (f (i * 7 + 2)), .int .i64 (f (i * 7 + 3)), .int .i64 (f (i * 7 + 4)), .int .i64 (f (i * 7 + 5)), .int .i64 (f (i * 7 + 6))] 36 (0, 0)) := by
                    have hx := ((Below.refl _ w4).alloc (Nat.le_refl _) (.cells #[.int .i64 (f (i * 7)), .int .i64 (f (k * 7))] 3)).alloc (by simp) (.cells #[.slice (some ⟨w4.heap.size, 0, none⟩) 2 2] 37)
                    have hlt4 := (Array.getElem?_eq_some_iff.1 hga4).1
                    have h1 := (hx.block ga hlt4).trans hga4
                    exact (hgrow5.block ga (Array.getElem?_eq_some_iff.1 h1).1 (nest_ne (HO4.out.below hx) h1)).trans h1
                  go_roundw
                  case rel => exact ⟨t + 1, by omega, by go_num, by rw [show i + 1 + (t + 1) = k + 1 by omega, rowP_yes (by omega) hnb.out, ← List.append_assoc, HP.out]; exact hown5, PRs.app ((hB4.alloc hB4.size _).alloc (by simp; omega) _) (HO4.out.below (by go_grown)) hgrow5, hgr⟩
                  case measure => simp [intOf]; omega
                | false =>
                  have hnb : Hid (nearB f i k = false) := hnb0
                  have hsq : ¬ (sq2V (f (i * 7 + 5)) (f (i * 7 + 6)) (f (k * 7 + 5)) (f (k * 7 + 6)) < 900) := by
                    have h := hnb0
                    simp only [nearB, leastV, if_pos hkd, decide_eq_false_iff_not] at h
                    exact h
                  clear hnb0 hkd
                  go_wp2_with fail
                  refine (square2_any _ _ _ _ _ _ _ _ _ _).mono ?_
                  rintro e w4 ⟨rfl, hb4⟩
                  have hO4 := (HO2.out.below hb4).hi hb4.size
                  have hB4 := below_of hBX2 hb4 hBX2.size
                  have hga4 := (hb4.block ga hgaX).trans hgaR
                  have hq0 := (row7 hga4).1
                  have hp0 := (hb4.cell (p := ⟨gb, 0, none⟩) hgbX).trans p0
                  have HO4 := Lib.hid hO4
                  have hs4 := hB4.size
                  clear q0 q1 q2 q3 q4 q5 q6 p0 p1 p2 p3 p4 p5 p6 HO2 hO4 hb4 hBX2
                  go_wp2_with fail
                  go_roundw
                  case rel => exact ⟨t + 1, by omega, by go_num, by rw [show i + 1 + (t + 1) = k + 1 by omega, rowP_no hnb.out, HP.out]; exact HO4.out, hB4, hga4⟩
                  case measure => simp [intOf]; omega
              · have hkb : (f (i * 7 + 1) == f (k * 7 + 1)) = false := by simp [hkd]
                cases hnb0 : nearB f i k with
                | true =>
                  have hnb : Hid (nearB f i k = true) := hnb0
                  have hsq : (sq2V (f (i * 7 + 5)) (f (i * 7 + 6)) (f (k * 7 + 5)) (f (k * 7 + 6)) < 100) := by
                    have h := hnb0
                    simp only [nearB, leastV, if_neg hkd, decide_eq_true_eq] at h
                    exact h
                  clear hnb0 hkd
                  go_wp2_with fail
                  refine (square2_any _ _ _ _ _ _ _ _ _ _).mono ?_
                  rintro e w4 ⟨rfl, hb4⟩
                  have hO4 := (HO2.out.below hb4).hi hb4.size
                  have hB4 := below_of hBX2 hb4 hBX2.size
                  have hga4 := (hb4.block ga hgaX).trans hgaR
                  have hq0 := (row7 hga4).1
                  have hp0 := (hb4.cell (p := ⟨gb, 0, none⟩) hgbX).trans p0
                  have HO4 := Lib.hid hO4
                  have hs4 := hB4.size
                  clear q0 q1 q2 q3 q4 q5 q6 p0 p1 p2 p3 p4 p5 p6 HO2 hO4 hb4 hBX2
                  go_wp2_with (at_builtin; refine wpList_append_pair _ rfl _ _ 26 rfl w.heap.size w4.heap.size Tryd.underlying26 _ P rfl (HO4.out.below (by go_grown)) w4.heap.size (f (i * 7)) (f (k * 7)) (Nat.le_refl _) hs4 (heap_alloc2 w4 _ _) (w4.heap.size + 1) rfl (by simp) hl (by simp; omega) ?_; intro v' w5 hown5 hgrow5)
                  have hgr : w5.heap[ga]? = some (.cells #[.int .i64 (f (i * 7)), .int .i64 (f (i * 7 + 1)), .int .i64 (f (i * 7 + 2)), .int .i64 (f (i * 7 + 3)), .int .i64 (f (i * 7 + 4)), .int .i64 (f (i * 7 + 5)), .int .i64 (f (i * 7 + 6))] 36 (0, 0)) := by
                    have hx := ((Below.refl _ w4).alloc (Nat.le_refl _) (.cells #[.int .i64 (f (i * 7)), .int .i64 (f (k * 7))] 3)).alloc (by simp) (.cells #[.slice (some ⟨w4.heap.size, 0, none⟩) 2 2] 37)
                    have hlt4 := (Array.getElem?_eq_some_iff.1 hga4).1
                    have h1 := (hx.block ga hlt4).trans hga4
                    exact (hgrow5.block ga (Array.getElem?_eq_some_iff.1 h1).1 (nest_ne (HO4.out.below hx) h1)).trans h1
                  go_roundw
                  case rel => exact ⟨t + 1, by omega, by go_num, by rw [show i + 1 + (t + 1) = k + 1 by omega, rowP_yes (by omega) hnb.out, ← List.append_assoc, HP.out]; exact hown5, PRs.app ((hB4.alloc hB4.size _).alloc (by simp; omega) _) (HO4.out.below (by go_grown)) hgrow5, hgr⟩
                  case measure => simp [intOf]; omega
                | false =>
                  have hnb : Hid (nearB f i k = false) := hnb0
                  have hsq : ¬ (sq2V (f (i * 7 + 5)) (f (i * 7 + 6)) (f (k * 7 + 5)) (f (k * 7 + 6)) < 100) := by
                    have h := hnb0
                    simp only [nearB, leastV, if_neg hkd, decide_eq_false_iff_not] at h
                    exact h
                  clear hnb0 hkd
                  go_wp2_with fail
                  refine (square2_any _ _ _ _ _ _ _ _ _ _).mono ?_
                  rintro e w4 ⟨rfl, hb4⟩
                  have hO4 := (HO2.out.below hb4).hi hb4.size
                  have hB4 := below_of hBX2 hb4 hBX2.size
                  have hga4 := (hb4.block ga hgaX).trans hgaR
                  have hq0 := (row7 hga4).1
                  have hp0 := (hb4.cell (p := ⟨gb, 0, none⟩) hgbX).trans p0
                  have HO4 := Lib.hid hO4
                  have hs4 := hB4.size
                  clear q0 q1 q2 q3 q4 q5 q6 p0 p1 p2 p3 p4 p5 p6 HO2 hO4 hb4 hBX2
                  go_wp2_with fail
                  go_roundw
                  case rel => exact ⟨t + 1, by omega, by go_num, by rw [show i + 1 + (t + 1) = k + 1 by omega, rowP_no hnb.out, HP.out]; exact HO4.out, hB4, hga4⟩
                  case measure => simp [intOf]; omega
            · have htm : i + 1 + t = n := by omega
              have HPE : Hid (npTo f n (i + 1) = npTo f n i ++ rowP f i (i + 1 + t)) := by show _ = _; rw [htm]; rfl
              have ht2 : ¬ ((t : Int) < ((n - (i + 1) : Nat) : Int)) := by omega
              clear HS2
              go_wp2_with fail
              go_roundw
              case rel => exact ⟨i + 1, by omega, by go_num, by rw [HPE.out]; exact HO2.out, hB2⟩
              case measure => simp [intOf]; omega
      · obtain rfl : i = n := by omega
        clear HS
        go_wp2_with fail
        go_ret2
        exact PairsPost.mk_ HO.out hB
end Go.Proofs.YtcecpioiagfoiaaDoor
