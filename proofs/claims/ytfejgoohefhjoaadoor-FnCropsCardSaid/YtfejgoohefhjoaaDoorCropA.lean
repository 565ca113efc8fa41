/-
  IsCropRow and AreCropRows: the program's and the reference's return the same test of a row and of a list of rows.
-/
import Derived.Test.YtfejgoohefhjoaaDoorProg
import Derived.Test.YtfejgoohefhjoaaDoorMem
import Derived.Test.YtfejgoohefhjoaaDoorRegion
import Derived.Test.YtfejgoohefhjoaaDoorBase
import Derived.BigGuardPart
import Derived.Handy
import Derived.Deep.RegionWith
import Derived.Deep.RegionHeld3
import Derived.Deep.DrawnRows
namespace Go.Proofs.YtfejgoohefhjoaaDoor
open Go.RowKit
set_option linter.unusedVariables false
set_option linter.unusedSimpArgs false
attribute [local go_sem ↓] Go.wp_at_zero Go.wp_at_succ

def okRow (y d t l p : Int) : Bool := decide (1800 ≤ y ∧ y ≤ 2100 ∧ 0 ≤ d ∧ d ≤ 366 ∧ 0 ≤ t ∧ t ≤ 1000000 ∧ (0 < d ∨ t = 0) ∧ 0 ≤ l ∧ l ≤ t ∧ 0 ≤ p ∧ p ≤ 9999)
def okAt (f : Nat → Int) (k : Nat) : Bool := okRow (f (k * 5)) (f (k * 5 + 1)) (f (k * 5 + 2)) (f (k * 5 + 3)) (f (k * 5 + 4))
def stepOk (f : Nat → Int) (k : Nat) : Bool := okAt f k && (decide (k = 0) || decide (f ((k - 1) * 5) < f (k * 5)))
def goodRows (f : Nat → Int) (n : Nat) : Bool := allTo (stepOk f) n && decide (n ≤ 12)
theorem goodRows_no {f : Nat → Int} {n k : Nat} (hk : k < n) (h : stepOk f k = false) : goodRows f n = false := by simp [goodRows, allTo_false hk h]

theorem IsCropRow_any (y d t l p : Int) (w : World) :
    Calls Tryd.prog 19 #[.agg #[.int .i64 y, .int .i64 d, .int .i64 t, .int .i64 l, .int .i64 p]] w fun e w' => e = .returned (.bool (okRow y d t l p)) ∧ Below w.heap.size w w' := by
  go_enter Tryd.func19, Tryd.ntmps19
  go_wp2
  all_goals
    go_ret
    refine ⟨ret_bool ?_, by go_grown⟩
    rw [Bool.eq_iff_iff]
    simp only [okRow, decide_eq_true_eq, Bool.false_eq_true, true_iff, false_iff, eq_self, or_true, true_and]
    omega

theorem l26One_any (y d t l p : Int) (w : World) :
    Calls Tryd.prog 29 #[.agg #[.int .i64 y, .int .i64 d, .int .i64 t, .int .i64 l, .int .i64 p]] w fun e w' => e = .returned (.bool (okRow y d t l p)) ∧ Below w.heap.size w w' := by
  go_enter Tryd.func29, Tryd.ntmps29
  go_wp2
  all_goals
    go_ret
    refine ⟨ret_bool ?_, by go_grown⟩
    rw [Bool.eq_iff_iff]
    simp only [okRow, decide_eq_true_eq, Bool.false_eq_true, true_iff, false_iff, eq_self, or_true, true_and]
    omega

set_option maxHeartbeats 1000000 in
theorem AreCropRows_any (A : Option Addr) (n c lo hi : Nat) (f : Nat → Int) (w : World) (hs : Sl w lo hi 5 A n f) (hn : n ≤ 1048576) (hnc : n ≤ c) :
    Calls Tryd.prog 9 #[.slice A n c] w fun e w' => e = .returned (.bool (goodRows f n)) ∧ Below w.heap.size w w' := by
  have HS : Hid (Sl w lo hi 5 A n f) := hs
  clear hs
  go_enter Tryd.func9, Tryd.ntmps9
  go_wp2
  go_loopw [7] (fun i wr => ∃ k : Nat, k ≤ n ∧ i = .int .i64 k ∧ Hid (allTo (stepOk f) k = true) ∧ Below w.heap.size w wr) (fun i _ => n - (intOf i).toNat)
  case atStart => exact ⟨0, Nat.zero_le _, rfl, rfl, Below.refl _ _⟩
  case round =>
    obtain ⟨k, hk, rfl, hall, hbel⟩ := hrel
    by_cases hlt : k < n
    · obtain ⟨b, off, rfl, hbw, HC⟩ := HS.out.open_ hbel (by omega)
      obtain ⟨c0, c1, c2, c3, c4⟩ := cell5 HC hlt
      cases hok : okRow (f (k * 5)) (f (k * 5 + 1)) (f (k * 5 + 2)) (f (k * 5 + 3)) (f (k * 5 + 4)) with
      | false =>
        have hno : Hid (goodRows f n = false) := goodRows_no hlt (by simp [stepOk, okAt, hok])
        clear HC HS
        go_wp2
        refine wp_region_any (by kernel_rfl) ?_
        change wpAny _ _ _ _ _ _ _ (World.drew _)
        refine wpAny_ready (rs := [0]) (by kernel_rfl) (by simp) ?_
        refine AllReady.cons rfl (fun K hK => ?_) AllReady.nil
        go_simp
        refine hK _ _ ?_
        clear hK K
        refine wpAny_ready (rs := [1]) (by kernel_rfl) (by simp) ?_
        refine AllReady.cons rfl (fun K hK => ?_) AllReady.nil
        go_wp2_with (go_at_call 19; refine (IsCropRow_any _ _ _ _ _ _).mono ?_; rintro e w1 ⟨rfl, hb1⟩)
        refine wpAny_ready (rs := [2]) (by kernel_rfl) (by simp) ?_
        refine AllReady.cons rfl (fun K hK => ?_) AllReady.nil
        go_simp
        refine hK _ _ ?_
        clear hK K
        refine wpAny_ready (rs := [3]) (by kernel_rfl) (by simp) ?_
        refine AllReady.cons rfl (fun K hK => ?_) AllReady.nil
        go_simp
        refine hK _ _ ?_
        clear hK K
        refine wpAny_skips (by kernel_rfl) (fun _ _ _ _ _ h => h) [(4, 16), (5, 17), (6, 18), (7, 19), (8, 20), (9, 21), (10, 22), (11, 23), (12, 24), (13, 25), (14, 26), (15, 27), (16, 28)] 1 13 _ _ rfl (by kernel_rfl) ?_
        simp only [skipL, skipA, Act.put, List.setIfInBounds_toArray, List.set_cons_zero, List.set_cons_succ]
        refine wpAny_ready (rs := [17]) (by kernel_rfl) (by simp) ?_
        refine AllReady.cons rfl (fun K hK => ?_) AllReady.nil
        go_simp
        refine hK _ _ ?_
        clear hK K
        refine wpAny_done (by kernel_rfl) ?_ _
        go_wp2
        go_ret
        exact ⟨ret_bool hno.out.symm, below_of hbel ((((Below.refl _ wr).alloc (Nat.le_refl _) _).drew).trans (hb1.mono (by simp))) hbel.size⟩
      | true =>
        by_cases h0 : k = 0
        · have hok1 : Hid (stepOk f k = true) := by simp only [Hid, stepOk, okAt, hok, Bool.true_and, Bool.or_eq_true, decide_eq_true_eq]; exact Or.inl h0
          have hz : ((k : Int) == 0) = true := by simp; omega
          have hk0 : ¬ 0 < k := by omega
          have hk0' : ¬ (0 : Int) < (k : Int) := by omega
          have hk0b : decide ((0 : Int) < (k : Int)) = false := by simp; omega
          have hk0c : decide (0 < k) = false := by simp; omega
          clear HC HS h0
          go_wp2
          refine wp_region_any (by kernel_rfl) ?_
          change wpAny _ _ _ _ _ _ _ (World.drew _)
          refine wpAny_ready (rs := [0]) (by kernel_rfl) (by simp) ?_
          refine AllReady.cons rfl (fun K hK => ?_) AllReady.nil
          go_simp
          refine hK _ _ ?_
          clear hK K
          refine wpAny_ready (rs := [1]) (by kernel_rfl) (by simp) ?_
          refine AllReady.cons rfl (fun K hK => ?_) AllReady.nil
          go_wp2_with (go_at_call 19; refine (IsCropRow_any _ _ _ _ _ _).mono ?_; rintro e w1 ⟨rfl, hb1⟩)
          refine wpAny_ready (rs := [2]) (by kernel_rfl) (by simp) ?_
          refine AllReady.cons rfl (fun K hK => ?_) AllReady.nil
          go_simp
          refine hK _ _ ?_
          clear hK K
          refine wpAny_ready (rs := [3]) (by kernel_rfl) (by simp) ?_
          refine AllReady.cons rfl (fun K hK => ?_) AllReady.nil
          go_simp
          refine hK _ _ ?_
          clear hK K
          refine wpAny_ready (rs := [4]) (by kernel_rfl) (by simp) ?_
          refine AllReady.cons rfl (fun K hK => ?_) AllReady.nil
          go_simp
          refine hK _ _ ?_
          clear hK K
          refine wpAny_ready (rs := [5]) (by kernel_rfl) (by simp) ?_
          refine AllReady.cons rfl (fun K hK => ?_) AllReady.nil
          go_simp
          refine hK _ _ ?_
          clear hK K
          refine wpAny_ready (rs := [6]) (by kernel_rfl) (by simp) ?_
          refine AllReady.cons rfl (fun K hK => ?_) AllReady.nil
          go_simp
          refine hK _ _ ?_
          clear hK K
          refine wpAny_skips (by kernel_rfl) (fun _ _ _ _ _ h => h) [(7, 19), (8, 20), (9, 21), (10, 22), (11, 23), (12, 24), (13, 25), (14, 26), (15, 27)] 2 9 _ _ rfl (by kernel_rfl) ?_
          simp only [skipL, skipA, Act.put, List.setIfInBounds_toArray, List.set_cons_zero, List.set_cons_succ]
          refine wpAny_ready (rs := [16]) (by kernel_rfl) (by simp) ?_
          refine AllReady.cons rfl (fun K hK => ?_) AllReady.nil
          go_simp
          refine hK _ _ ?_
          clear hK K
          refine wpAny_ready (rs := [17]) (by kernel_rfl) (by simp) ?_
          refine AllReady.cons rfl (fun K hK => ?_) AllReady.nil
          go_simp
          refine hK _ _ ?_
          clear hK K
          refine wpAny_done (by kernel_rfl) ?_ _
          go_wp2
          go_roundw
          case rel => exact ⟨k + 1, by omega, by go_num, allTo_succ hall.out hok1.out, below_of hbel ((((Below.refl _ wr).alloc (Nat.le_refl _) _).drew).trans (hb1.mono (by simp))) hbel.size⟩
          case measure => simp [intOf]; omega
        · have cp : wr.cell? ⟨b, off + (k - 1) * 5, none⟩ = some (.int .i64 (f ((k - 1) * 5))) := HC.out _ (by omega)
          have hk0 : 0 < k := by omega
          have hkk : ((k : Int) - 1).toNat = k - 1 := by omega
          have hb0 : (0 : Int) ≤ (k : Int) - 1 := by omega
          have hb1x : (1 : Int) ≤ (k : Int) := by omega
          have hb3 : (k : Int) - 1 < (n : Int) := by omega
          have hwk : IntKind.i64.wrap ((k : Int) - 1) = (k : Int) - 1 := IntWalk.i64_in _ (by omega)
          clear HC HS
          by_cases hlt2 : f ((k - 1) * 5) < f (k * 5)
          · have hok1 : Hid (stepOk f k = true) := by simp [Hid, stepOk, okAt, hok, hlt2]
            go_wp2
            go_region_held3 (fun w' => w'.cell? ⟨b, off + (k - 1) * 5, none⟩ = some (.int .i64 (f ((k - 1) * 5))) ∧ w'.cell? ⟨wr.heap.size, 0, none⟩ = some (.int .i64 (f (k * 5))) ∧ w'.cell? ⟨wr.heap.size, 1, none⟩ = some (.int .i64 (f (k * 5 + 1))) ∧ w'.cell? ⟨wr.heap.size, 2, none⟩ = some (.int .i64 (f (k * 5 + 2))) ∧ w'.cell? ⟨wr.heap.size, 3, none⟩ = some (.int .i64 (f (k * 5 + 3))) ∧ w'.cell? ⟨wr.heap.size, 4, none⟩ = some (.int .i64 (f (k * 5 + 4))))
              (first | go_keep | (go_split_ands; refine ⟨?_, ?_, ?_, ?_, ?_, ?_⟩ <;> (refine (hb1.cell (by first | (simp; done) | (simp; omega))).trans ?_; simp [*])))
              (first | (go_at_call 19; refine (IsCropRow_any _ _ _ _ _ _).mono ?_; rintro e w1 ⟨rfl, hb1⟩))
            go_wp2
            go_roundw
            case rel => exact ⟨k + 1, by omega, by go_num, allTo_succ hall.out hok1.out, below_of hbel ((((Below.refl _ wr).alloc (Nat.le_refl _) _).drew).trans (hb1.mono (by simp))) hbel.size⟩
            case measure => simp [intOf]; omega
          · have hno : Hid (goodRows f n = false) := goodRows_no hlt (by simp [stepOk, okAt, hok, hlt2]; omega)
            go_wp2
            go_region_held3 (fun w' => w'.cell? ⟨b, off + (k - 1) * 5, none⟩ = some (.int .i64 (f ((k - 1) * 5))) ∧ w'.cell? ⟨wr.heap.size, 0, none⟩ = some (.int .i64 (f (k * 5))) ∧ w'.cell? ⟨wr.heap.size, 1, none⟩ = some (.int .i64 (f (k * 5 + 1))) ∧ w'.cell? ⟨wr.heap.size, 2, none⟩ = some (.int .i64 (f (k * 5 + 2))) ∧ w'.cell? ⟨wr.heap.size, 3, none⟩ = some (.int .i64 (f (k * 5 + 3))) ∧ w'.cell? ⟨wr.heap.size, 4, none⟩ = some (.int .i64 (f (k * 5 + 4))))
              (first | go_keep | (go_split_ands; refine ⟨?_, ?_, ?_, ?_, ?_, ?_⟩ <;> (refine (hb1.cell (by first | (simp; done) | (simp; omega))).trans ?_; simp [*])))
              (first | (go_at_call 19; refine (IsCropRow_any _ _ _ _ _ _).mono ?_; rintro e w1 ⟨rfl, hb1⟩))
            go_wp2
            go_ret
            exact ⟨ret_bool hno.out.symm, below_of hbel ((((Below.refl _ wr).alloc (Nat.le_refl _) _).drew).trans (hb1.mono (by simp))) hbel.size⟩
    · have hkn : k = n := by omega
      subst hkn
      clear HS
      go_wp2
      go_ret
      exact ⟨ret_bool (by rw [Bool.eq_iff_iff]; simp [goodRows, hall.out]; omega), hbel⟩
set_option maxHeartbeats 1000000 in
theorem l26Good_any (A : Option Addr) (n c lo hi : Nat) (f : Nat → Int) (w : World) (hs : Sl w lo hi 5 A n f) (hn : n ≤ 1048576) (hnc : n ≤ c) :
    Calls Tryd.prog 22 #[.slice A n c] w fun e w' => e = .returned (.bool (goodRows f n)) ∧ Below w.heap.size w w' := by
  have HS : Hid (Sl w lo hi 5 A n f) := hs
  clear hs
  go_enter Tryd.func22, Tryd.ntmps22
  go_wp2
  go_loopw [3] (fun i wr => ∃ k : Nat, k ≤ n ∧ i = .int .i64 k ∧ Hid (allTo (stepOk f) k = true) ∧ Below w.heap.size w wr) (fun i _ => n - (intOf i).toNat)
  case atStart => exact ⟨0, Nat.zero_le _, rfl, rfl, Below.refl _ _⟩
  case round =>
    obtain ⟨k, hk, rfl, hall, hbel⟩ := hrel
    by_cases hlt : k < n
    · obtain ⟨b, off, rfl, hbw, HC⟩ := HS.out.open_ hbel (by omega)
      obtain ⟨c0, c1, c2, c3, c4⟩ := cell5 HC hlt
      cases hok : okRow (f (k * 5)) (f (k * 5 + 1)) (f (k * 5 + 2)) (f (k * 5 + 3)) (f (k * 5 + 4)) with
      | false =>
        have hno : Hid (goodRows f n = false) := goodRows_no hlt (by simp [stepOk, okAt, hok])
        clear HC HS
        go_wp2
        refine wp_region_any (by kernel_rfl) ?_
        change wpAny _ _ _ _ _ _ _ (World.drew _)
        refine wpAny_take (i := 0) (v := ?_) rfl (by kernel_rfl) (by kernel_rfl) (by kernel_rfl) (fun _ _ _ h => h) (Or.inl ⟨by rfl, ?_⟩) ?_
        rotate_left
        · intro w
          go_simp
          try with_reducible rfl
        simp only [Act.put, List.setIfInBounds_toArray, List.set_cons_zero, List.set_cons_succ]
        refine wpAny_ready (rs := [1]) (by kernel_rfl) (by simp) ?_
        refine AllReady.cons rfl (fun K hK => ?_) AllReady.nil
        go_simp
        refine hK _ _ ?_
        clear hK K
        refine wpAny_ready (rs := [2]) (by kernel_rfl) (by simp) ?_
        refine AllReady.cons rfl (fun K hK => ?_) AllReady.nil
        go_simp
        refine hK _ _ ?_
        clear hK K
        refine wpAny_ready (rs := [3]) (by kernel_rfl) (by simp) ?_
        refine AllReady.cons rfl (fun K hK => ?_) AllReady.nil
        go_simp
        refine hK _ _ ?_
        clear hK K
        refine wpAny_ready (rs := [4]) (by kernel_rfl) (by simp) ?_
        refine AllReady.cons rfl (fun K hK => ?_) AllReady.nil
        go_wp2_with (go_at_call 29; refine (l26One_any _ _ _ _ _ _).mono ?_; rintro e w1 ⟨rfl, hb1⟩)
        refine wpAny_ready (rs := [5]) (by kernel_rfl) (by simp) ?_
        refine AllReady.cons rfl (fun K hK => ?_) AllReady.nil
        go_simp
        refine hK _ _ ?_
        clear hK K
        refine wpAny_ready (rs := [6]) (by kernel_rfl) (by simp) ?_
        refine AllReady.cons rfl (fun K hK => ?_) AllReady.nil
        go_simp
        refine hK _ _ ?_
        clear hK K
        refine wpAny_skips (by kernel_rfl) (fun _ _ _ _ _ h => h) [(7, 17), (8, 18), (9, 19), (10, 20), (11, 21), (12, 22), (13, 23), (14, 24), (15, 25), (16, 26), (17, 27), (18, 28), (19, 29), (20, 30), (21, 31), (22, 32)] 1 16 _ _ rfl (by kernel_rfl) ?_
        simp only [skipL, skipA, Act.put, List.setIfInBounds_toArray, List.set_cons_zero, List.set_cons_succ]
        refine wpAny_ready (rs := [23]) (by kernel_rfl) (by simp) ?_
        refine AllReady.cons rfl (fun K hK => ?_) AllReady.nil
        go_simp
        refine hK _ _ ?_
        clear hK K
        refine wpAny_done (by kernel_rfl) ?_ _
        go_wp2
        go_ret
        exact ⟨ret_bool hno.out.symm, below_of hbel (((Below.refl _ wr).drew).trans (hb1.mono (by simp))) hbel.size⟩
      | true =>
        by_cases h0 : k = 0
        · have hok1 : Hid (stepOk f k = true) := by simp only [Hid, stepOk, okAt, hok, Bool.true_and, Bool.or_eq_true, decide_eq_true_eq]; exact Or.inl h0
          have hz : ((k : Int) == 0) = true := by simp; omega
          have hk0 : ¬ 0 < k := by omega
          have hk0' : ¬ (0 : Int) < (k : Int) := by omega
          have hk0b : decide ((0 : Int) < (k : Int)) = false := by simp; omega
          have hk0c : decide (0 < k) = false := by simp; omega
          clear HC HS h0
          go_wp2
          refine wp_region_any (by kernel_rfl) ?_
          change wpAny _ _ _ _ _ _ _ (World.drew _)
          refine wpAny_take (i := 0) (v := ?_) rfl (by kernel_rfl) (by kernel_rfl) (by kernel_rfl) (fun _ _ _ h => h) (Or.inl ⟨by rfl, ?_⟩) ?_
          rotate_left
          · intro w
            go_simp
            try with_reducible rfl
          simp only [Act.put, List.setIfInBounds_toArray, List.set_cons_zero, List.set_cons_succ]
          refine wpAny_ready (rs := [1]) (by kernel_rfl) (by simp) ?_
          refine AllReady.cons rfl (fun K hK => ?_) AllReady.nil
          go_simp
          refine hK _ _ ?_
          clear hK K
          refine wpAny_ready (rs := [2]) (by kernel_rfl) (by simp) ?_
          refine AllReady.cons rfl (fun K hK => ?_) AllReady.nil
          go_simp
          refine hK _ _ ?_
          clear hK K
          refine wpAny_ready (rs := [3]) (by kernel_rfl) (by simp) ?_
          refine AllReady.cons rfl (fun K hK => ?_) AllReady.nil
          go_simp
          refine hK _ _ ?_
          clear hK K
          refine wpAny_ready (rs := [4]) (by kernel_rfl) (by simp) ?_
          refine AllReady.cons rfl (fun K hK => ?_) AllReady.nil
          go_wp2_with (go_at_call 29; refine (l26One_any _ _ _ _ _ _).mono ?_; rintro e w1 ⟨rfl, hb1⟩)
          refine wpAny_ready (rs := [5]) (by kernel_rfl) (by simp) ?_
          refine AllReady.cons rfl (fun K hK => ?_) AllReady.nil
          go_simp
          refine hK _ _ ?_
          clear hK K
          refine wpAny_ready (rs := [6]) (by kernel_rfl) (by simp) ?_
          refine AllReady.cons rfl (fun K hK => ?_) AllReady.nil
          go_simp
          refine hK _ _ ?_
          clear hK K
          refine wpAny_ready (rs := [7]) (by kernel_rfl) (by simp) ?_
          refine AllReady.cons rfl (fun K hK => ?_) AllReady.nil
          go_simp
          refine hK _ _ ?_
          clear hK K
          refine wpAny_ready (rs := [8]) (by kernel_rfl) (by simp) ?_
          refine AllReady.cons rfl (fun K hK => ?_) AllReady.nil
          go_simp
          refine hK _ _ ?_
          clear hK K
          refine wpAny_ready (rs := [9]) (by kernel_rfl) (by simp) ?_
          refine AllReady.cons rfl (fun K hK => ?_) AllReady.nil
          go_simp
          refine hK _ _ ?_
          clear hK K
          refine wpAny_skips (by kernel_rfl) (fun _ _ _ _ _ h => h) [(10, 20), (11, 21), (12, 22), (13, 23), (14, 24), (15, 25), (16, 26), (17, 27), (18, 28), (19, 29), (20, 30), (21, 31)] 2 12 _ _ rfl (by kernel_rfl) ?_
          simp only [skipL, skipA, Act.put, List.setIfInBounds_toArray, List.set_cons_zero, List.set_cons_succ]
          refine wpAny_ready (rs := [22]) (by kernel_rfl) (by simp) ?_
          refine AllReady.cons rfl (fun K hK => ?_) AllReady.nil
          go_simp
          refine hK _ _ ?_
          clear hK K
          refine wpAny_ready (rs := [23]) (by kernel_rfl) (by simp) ?_
          refine AllReady.cons rfl (fun K hK => ?_) AllReady.nil
          go_simp
          refine hK _ _ ?_
          clear hK K
          refine wpAny_done (by kernel_rfl) ?_ _
          go_wp2
          go_roundw
          case rel => exact ⟨k + 1, by omega, by go_num, allTo_succ hall.out hok1.out, below_of hbel (((Below.refl _ wr).drew).trans (hb1.mono (by simp))) hbel.size⟩
          case measure => simp [intOf]; omega
        · have cp : wr.cell? ⟨b, off + (k - 1) * 5, none⟩ = some (.int .i64 (f ((k - 1) * 5))) := HC.out _ (by omega)
          have hk0 : 0 < k := by omega
          have hkk : ((k : Int) - 1).toNat = k - 1 := by omega
          have hb0 : (0 : Int) ≤ (k : Int) - 1 := by omega
          have hb1x : (1 : Int) ≤ (k : Int) := by omega
          have hb3 : (k : Int) - 1 < (n : Int) := by omega
          have hwk : IntKind.i64.wrap ((k : Int) - 1) = (k : Int) - 1 := IntWalk.i64_in _ (by omega)
          clear HC HS
          by_cases hlt2 : f ((k - 1) * 5) < f (k * 5)
          · have hok1 : Hid (stepOk f k = true) := by simp [Hid, stepOk, okAt, hok, hlt2]
            go_wp2
            go_region_held3 (fun w' => w'.cell? ⟨b, off + (k - 1) * 5, none⟩ = some (.int .i64 (f ((k - 1) * 5))) ∧ w'.cell? ⟨b, off + k * 5, none⟩ = some (.int .i64 (f (k * 5))) ∧ w'.cell? ⟨b, off + k * 5 + 1, none⟩ = some (.int .i64 (f (k * 5 + 1))) ∧ w'.cell? ⟨b, off + k * 5 + 2, none⟩ = some (.int .i64 (f (k * 5 + 2))) ∧ w'.cell? ⟨b, off + k * 5 + 3, none⟩ = some (.int .i64 (f (k * 5 + 3))) ∧ w'.cell? ⟨b, off + k * 5 + 4, none⟩ = some (.int .i64 (f (k * 5 + 4))))
              (first | go_keep | (go_split_ands; refine ⟨?_, ?_, ?_, ?_, ?_, ?_⟩ <;> (refine (hb1.cell (by exact hbw)).trans ?_; first | assumption | (simp [*]; done))))
              (first | (go_at_call 29; refine (l26One_any _ _ _ _ _ _).mono ?_; rintro e w1 ⟨rfl, hb1⟩))
            go_wp2
            go_roundw
            case rel => exact ⟨k + 1, by omega, by go_num, allTo_succ hall.out hok1.out, below_of hbel (((Below.refl _ wr).drew).trans (hb1.mono (by simp))) hbel.size⟩
            case measure => simp [intOf]; omega
          · have hno : Hid (goodRows f n = false) := goodRows_no hlt (by simp [stepOk, okAt, hok, hlt2]; omega)
            go_wp2
            go_region_held3 (fun w' => w'.cell? ⟨b, off + (k - 1) * 5, none⟩ = some (.int .i64 (f ((k - 1) * 5))) ∧ w'.cell? ⟨b, off + k * 5, none⟩ = some (.int .i64 (f (k * 5))) ∧ w'.cell? ⟨b, off + k * 5 + 1, none⟩ = some (.int .i64 (f (k * 5 + 1))) ∧ w'.cell? ⟨b, off + k * 5 + 2, none⟩ = some (.int .i64 (f (k * 5 + 2))) ∧ w'.cell? ⟨b, off + k * 5 + 3, none⟩ = some (.int .i64 (f (k * 5 + 3))) ∧ w'.cell? ⟨b, off + k * 5 + 4, none⟩ = some (.int .i64 (f (k * 5 + 4))))
              (first | go_keep | (go_split_ands; refine ⟨?_, ?_, ?_, ?_, ?_, ?_⟩ <;> (refine (hb1.cell (by exact hbw)).trans ?_; first | assumption | (simp [*]; done))))
              (first | (go_at_call 29; refine (l26One_any _ _ _ _ _ _).mono ?_; rintro e w1 ⟨rfl, hb1⟩))
            go_wp2
            go_ret
            exact ⟨ret_bool hno.out.symm, below_of hbel (((Below.refl _ wr).drew).trans (hb1.mono (by simp))) hbel.size⟩
    · have hkn : k = n := by omega
      subst hkn
      clear HS
      go_wp2
      go_ret
      exact ⟨ret_bool (by rw [Bool.eq_iff_iff]; simp [goodRows, hall.out]; omega), hbel⟩
end Go.Proofs.YtfejgoohefhjoaaDoor
