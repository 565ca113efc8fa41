/-
  impl.IsNest and impl.AreNests: the program's and the reference's return the same test.
-/
import Derived.Test.YtcecpioiagfoiaaDoorProg
import Derived.Test.YtcecpioiagfoiaaDoorMem
import Derived.Test.YtcecpioiagfoiaaDoorRegion
import Derived.Test.YtcecpioiagfoiaaDoorBase
import Derived.BigGuardPart
import Derived.Handy
import Derived.Deep.RegionWith
import Derived.Deep.RegionHeld3
import Derived.Deep.DrawnRows
namespace Go.Proofs.YtcecpioiagfoiaaDoor
open Go.RowKit
set_option linter.unusedVariables false
set_option linter.unusedSimpArgs false
attribute [local go_sem ↓] Go.wp_at_zero Go.wp_at_succ

def okNest (i k p d b x y : Int) : Bool := decide (1 ≤ i ∧ i ≤ 999 ∧ 1 ≤ k ∧ k ≤ 6 ∧ 1 ≤ p ∧ p ≤ 99 ∧ 0 ≤ d ∧ d ≤ 4000 ∧ 10 ≤ b ∧ b ≤ 60 ∧ 0 ≤ x ∧ x ≤ 999 ∧ 0 ≤ y ∧ y ≤ 999)
def okNestAt (f : Nat → Int) (k : Nat) : Bool := okNest (f (k * 7)) (f (k * 7 + 1)) (f (k * 7 + 2)) (f (k * 7 + 3)) (f (k * 7 + 4)) (f (k * 7 + 5)) (f (k * 7 + 6))
def okNestStep (f : Nat → Int) (k : Nat) : Bool := okNestAt f k && (decide (k = 0) || decide (f ((k - 1) * 7) < f (k * 7)))
def goodNests (f : Nat → Int) (n : Nat) : Bool := allTo (okNestStep f) n && decide (n ≤ 12)
theorem goodNests_no {f : Nat → Int} {n k : Nat} (hk : k < n) (h : okNestStep f k = false) : goodNests f n = false := by simp [goodNests, allTo_false hk h]
theorem goodNests_row {f : Nat → Int} {n k : Nat} (h : goodNests f n = true) (hk : k < n) : okNestAt f k = true := by
  simp only [goodNests, Bool.and_eq_true] at h
  have := allTo_at hk h.1
  simp only [okNestStep, Bool.and_eq_true] at this
  exact this.1
theorem goodNests_len {f : Nat → Int} {n : Nat} (h : goodNests f n = true) : n ≤ 12 := by
  simp only [goodNests, Bool.and_eq_true, decide_eq_true_eq] at h
  exact h.2

theorem NestOne_any (i k p d b x y : Int) (w : World) :
    Calls Tryd.prog 25 #[.agg #[.int .i64 i, .int .i64 k, .int .i64 p, .int .i64 d, .int .i64 b, .int .i64 x, .int .i64 y]] w fun e w' => e = .returned (.bool (okNest i k p d b x y)) ∧ Below w.heap.size w w' := by
  go_enter Tryd.func25, Tryd.ntmps25
  go_wp2
  all_goals
    go_ret
    refine ⟨ret_bool ?_, by go_grown⟩
    rw [Bool.eq_iff_iff]
    simp only [okNest, decide_eq_true_eq, Bool.false_eq_true, true_iff, false_iff, eq_self, or_true, true_and]
    omega
theorem sNestOne_any (i k p d b x y : Int) (w : World) :
    Calls Tryd.prog 53 #[.agg #[.int .i64 i, .int .i64 k, .int .i64 p, .int .i64 d, .int .i64 b, .int .i64 x, .int .i64 y]] w fun e w' => e = .returned (.bool (okNest i k p d b x y)) ∧ Below w.heap.size w w' := by
  go_enter Tryd.func53, Tryd.ntmps53
  go_wp2
  all_goals
    go_ret
    refine ⟨ret_bool ?_, by go_grown⟩
    rw [Bool.eq_iff_iff]
    simp only [okNest, decide_eq_true_eq, Bool.false_eq_true, true_iff, false_iff, eq_self, or_true, true_and]
    omega
set_option maxRecDepth 100000 in
set_option maxHeartbeats 1000000 in
theorem NestAll_any (A : Option Addr) (n c lo hi : Nat) (f : Nat → Int) (w : World) (hs : Sl w lo hi 7 A n f) (hn : n ≤ 1048576) (hnc : n ≤ c) :
    Calls Tryd.prog 9 #[.slice A n c] w fun e w' => e = .returned (.bool (goodNests f n)) ∧ Below w.heap.size w w' := by
  have HS : Hid (Sl w lo hi 7 A n f) := hs
  clear hs
  go_enter Tryd.func9, Tryd.ntmps9
  go_wp2
  go_loopw [7] (fun i wr => ∃ k : Nat, k ≤ n ∧ i = .int .i64 k ∧ Hid (allTo (okNestStep f) k = true) ∧ Below w.heap.size w wr) (fun i _ => n - (intOf i).toNat)
  case atStart => exact ⟨0, Nat.zero_le _, rfl, rfl, Below.refl _ _⟩
  case round =>
    obtain ⟨k, hk, rfl, hall, hbel⟩ := hrel
    by_cases hlt : k < n
    · obtain ⟨b, off, rfl, hbw, HC⟩ := HS.out.open_ hbel (by omega)
      obtain ⟨c0, c1, c2, c3, c4, c5, c6⟩ := cell7 HC hlt
      cases hok : okNest (f (k * 7)) (f (k * 7 + 1)) (f (k * 7 + 2)) (f (k * 7 + 3)) (f (k * 7 + 4)) (f (k * 7 + 5)) (f (k * 7 + 6)) with
      | false =>
        have hno : Hid (goodNests f n = false) := goodNests_no hlt (by simp [okNestStep, okNestAt, hok])
        clear HC HS
        go_wp2
        refine wp_region_any (by kernel_rfl) ?_
        change wpAny _ _ _ _ _ _ _ (World.drew _)
        refine wpAny_ready (rs := [0]) (by kernel_rfl) (by simp) ?_
        refine AllReady.cons rfl (fun K hK => ?_) AllReady.nil
        go_simp
        refine hK _ _ ?_
        clear hK K
        refine wpAny_ready (rs := [1]) (by kernel_rfl) (by simp) ?_
        refine AllReady.cons rfl (fun K hK => ?_) AllReady.nil
        go_wp2_with (go_at_call 25; refine (NestOne_any _ _ _ _ _ _ _ _).mono ?_; rintro e w1 ⟨rfl, hb1⟩)
        refine wpAny_ready (rs := [2]) (by kernel_rfl) (by simp) ?_
        refine AllReady.cons rfl (fun K hK => ?_) AllReady.nil
        go_simp
        refine hK _ _ ?_
        clear hK K
        refine wpAny_ready (rs := [3]) (by kernel_rfl) (by simp) ?_
        refine AllReady.cons rfl (fun K hK => ?_) AllReady.nil
        go_simp
        refine hK _ _ ?_
        clear hK K
        refine wpAny_skips (by kernel_rfl) (fun _ _ _ _ _ h => h) [(4, 16), (5, 17), (6, 18), (7, 19), (8, 20), (9, 21), (10, 22), (11, 23), (12, 24), (13, 25), (14, 26), (15, 27), (16, 28)] 1 13 _ _ rfl (by kernel_rfl) ?_
        simp only [skipL, skipA, Act.put, List.setIfInBounds_toArray, List.set_cons_zero, List.set_cons_succ]
        refine wpAny_ready (rs := [17]) (by kernel_rfl) (by simp) ?_
        refine AllReady.cons rfl (fun K hK => ?_) AllReady.nil
        go_simp
        refine hK _ _ ?_
        clear hK K
        refine wpAny_done (by kernel_rfl) ?_ _
        go_wp2
        go_ret
        exact ⟨ret_bool hno.out.symm, below_of hbel ((((Below.refl _ wr).alloc (Nat.le_refl _) _).drew).trans (hb1.mono (by simp))) hbel.size⟩
      | true =>
        by_cases h0 : k = 0
        · have hok1 : Hid (okNestStep f k = true) := by simp only [Hid, okNestStep, okNestAt, hok, Bool.true_and, Bool.or_eq_true, decide_eq_true_eq]; exact Or.inl h0
          have hz : ((k : Int) == 0) = true := by simp; omega
          have hk0 : ¬ 0 < k := by omega
          have hk0' : ¬ (0 : Int) < (k : Int) := by omega
          have hk0b : decide ((0 : Int) < (k : Int)) = false := by simp; omega
          have hk0c : decide (0 < k) = false := by simp; omega
          clear HC HS h0
          go_wp2
          refine wp_region_any (by kernel_rfl) ?_
          change wpAny _ _ _ _ _ _ _ (World.drew _)
          refine wpAny_ready (rs := [0]) (by kernel_rfl) (by simp) ?_
          refine AllReady.cons rfl (fun K hK => ?_) AllReady.nil
          go_simp
          refine hK _ _ ?_
          clear hK K
          refine wpAny_ready (rs := [1]) (by kernel_rfl) (by simp) ?_
          refine AllReady.cons rfl (fun K hK => ?_) AllReady.nil
          go_wp2_with (go_at_call 25; refine (NestOne_any _ _ _ _ _ _ _ _).mono ?_; rintro e w1 ⟨rfl, hb1⟩)
          refine wpAny_ready (rs := [2]) (by kernel_rfl) (by simp) ?_
          refine AllReady.cons rfl (fun K hK => ?_) AllReady.nil
          go_simp
          refine hK _ _ ?_
          clear hK K
          refine wpAny_ready (rs := [3]) (by kernel_rfl) (by simp) ?_
          refine AllReady.cons rfl (fun K hK => ?_) AllReady.nil
          go_simp
          refine hK _ _ ?_
          clear hK K
          refine wpAny_ready (rs := [4]) (by kernel_rfl) (by simp) ?_
          refine AllReady.cons rfl (fun K hK => ?_) AllReady.nil
          go_simp
          refine hK _ _ ?_
          clear hK K
          refine wpAny_ready (rs := [5]) (by kernel_rfl) (by simp) ?_
          refine AllReady.cons rfl (fun K hK => ?_) AllReady.nil
          go_simp
          refine hK _ _ ?_
          clear hK K
          refine wpAny_ready (rs := [6]) (by kernel_rfl) (by simp) ?_
          refine AllReady.cons rfl (fun K hK => ?_) AllReady.nil
          go_simp
          refine hK _ _ ?_
          clear hK K
          refine wpAny_skips (by kernel_rfl) (fun _ _ _ _ _ h => h) [(7, 19), (8, 20), (9, 21), (10, 22), (11, 23), (12, 24), (13, 25), (14, 26), (15, 27)] 2 9 _ _ rfl (by kernel_rfl) ?_
          simp only [skipL, skipA, Act.put, List.setIfInBounds_toArray, List.set_cons_zero, List.set_cons_succ]
          refine wpAny_ready (rs := [16]) (by kernel_rfl) (by simp) ?_
          refine AllReady.cons rfl (fun K hK => ?_) AllReady.nil
          go_simp
          refine hK _ _ ?_
          clear hK K
          refine wpAny_ready (rs := [17]) (by kernel_rfl) (by simp) ?_
          refine AllReady.cons rfl (fun K hK => ?_) AllReady.nil
          go_simp
          refine hK _ _ ?_
          clear hK K
          refine wpAny_done (by kernel_rfl) ?_ _
          go_wp2
          go_roundw
          case rel => exact ⟨k + 1, by omega, by go_num, allTo_succ hall.out hok1.out, below_of hbel ((((Below.refl _ wr).alloc (Nat.le_refl _) _).drew).trans (hb1.mono (by simp))) hbel.size⟩
          case measure => simp [intOf]; omega
        · have cp : wr.cell? ⟨b, off + (k - 1) * 7, none⟩ = some (.int .i64 (f ((k - 1) * 7))) := HC.out _ (by omega)
          have hk0 : 0 < k := by omega
          have hkk : ((k : Int) - 1).toNat = k - 1 := by omega
          have hb0 : (0 : Int) ≤ (k : Int) - 1 := by omega
          have hb1x : (1 : Int) ≤ (k : Int) := by omega
          have hb3 : (k : Int) - 1 < (n : Int) := by omega
          have hwk : IntKind.i64.wrap ((k : Int) - 1) = (k : Int) - 1 := IntWalk.i64_in _ (by omega)
          clear HC HS
          by_cases hlt2 : f ((k - 1) * 7) < f (k * 7)
          · have hok1 : Hid (okNestStep f k = true) := by simp [Hid, okNestStep, okNestAt, hok, hlt2]
            go_wp2
            go_region_held3 (fun w' => w'.cell? ⟨b, off + (k - 1) * 7, none⟩ = some (.int .i64 (f ((k - 1) * 7))) ∧ w'.cell? ⟨wr.heap.size, 0, none⟩ = some (.int .i64 (f (k * 7))) ∧ w'.cell? ⟨wr.heap.size, 1, none⟩ = some (.int .i64 (f (k * 7 + 1))) ∧ w'.cell? ⟨wr.heap.size, 2, none⟩ = some (.int .i64 (f (k * 7 + 2))) ∧ w'.cell? ⟨wr.heap.size, 3, none⟩ = some (.int .i64 (f (k * 7 + 3))) ∧ w'.cell? ⟨wr.heap.size, 4, none⟩ = some (.int .i64 (f (k * 7 + 4))) ∧ w'.cell? ⟨wr.heap.size, 5, none⟩ = some (.int .i64 (f (k * 7 + 5))) ∧ w'.cell? ⟨wr.heap.size, 6, none⟩ = some (.int .i64 (f (k * 7 + 6))))
              (first | go_keep | (go_split_ands; refine ⟨?_, ?_, ?_, ?_, ?_, ?_, ?_, ?_⟩ <;> (refine (hb1.cell (by first | (simp; done) | (simp; omega))).trans ?_; simp [*])))
              (first | (go_at_call 25; refine (NestOne_any _ _ _ _ _ _ _ _).mono ?_; rintro e w1 ⟨rfl, hb1⟩))
            go_wp2
            go_roundw
            case rel => exact ⟨k + 1, by omega, by go_num, allTo_succ hall.out hok1.out, below_of hbel ((((Below.refl _ wr).alloc (Nat.le_refl _) _).drew).trans (hb1.mono (by simp))) hbel.size⟩
            case measure => simp [intOf]; omega
          · have hno : Hid (goodNests f n = false) := goodNests_no hlt (by simp [okNestStep, okNestAt, hok, hlt2]; omega)
            go_wp2
            go_region_held3 (fun w' => w'.cell? ⟨b, off + (k - 1) * 7, none⟩ = some (.int .i64 (f ((k - 1) * 7))) ∧ w'.cell? ⟨wr.heap.size, 0, none⟩ = some (.int .i64 (f (k * 7))) ∧ w'.cell? ⟨wr.heap.size, 1, none⟩ = some (.int .i64 (f (k * 7 + 1))) ∧ w'.cell? ⟨wr.heap.size, 2, none⟩ = some (.int .i64 (f (k * 7 + 2))) ∧ w'.cell? ⟨wr.heap.size, 3, none⟩ = some (.int .i64 (f (k * 7 + 3))) ∧ w'.cell? ⟨wr.heap.size, 4, none⟩ = some (.int .i64 (f (k * 7 + 4))) ∧ w'.cell? ⟨wr.heap.size, 5, none⟩ = some (.int .i64 (f (k * 7 + 5))) ∧ w'.cell? ⟨wr.heap.size, 6, none⟩ = some (.int .i64 (f (k * 7 + 6))))
              (first | go_keep | (go_split_ands; refine ⟨?_, ?_, ?_, ?_, ?_, ?_, ?_, ?_⟩ <;> (refine (hb1.cell (by first | (simp; done) | (simp; omega))).trans ?_; simp [*])))
              (first | (go_at_call 25; refine (NestOne_any _ _ _ _ _ _ _ _).mono ?_; rintro e w1 ⟨rfl, hb1⟩))
            go_wp2
            go_ret
            exact ⟨ret_bool hno.out.symm, below_of hbel ((((Below.refl _ wr).alloc (Nat.le_refl _) _).drew).trans (hb1.mono (by simp))) hbel.size⟩
    · have hkn : k = n := by omega
      subst hkn
      clear HS
      go_wp2
      go_ret
      exact ⟨ret_bool (by rw [Bool.eq_iff_iff]; simp [goodNests, hall.out]; omega), hbel⟩
set_option maxRecDepth 100000 in
set_option maxHeartbeats 1000000 in
theorem sNestAll_any (A : Option Addr) (n c lo hi : Nat) (f : Nat → Int) (w : World) (hs : Sl w lo hi 7 A n f) (hn : n ≤ 1048576) (hnc : n ≤ c) :
    Calls Tryd.prog 28 #[.slice A n c] w fun e w' => e = .returned (.bool (goodNests f n)) ∧ Below w.heap.size w w' := by
  have HS : Hid (Sl w lo hi 7 A n f) := hs
  clear hs
  go_enter Tryd.func28, Tryd.ntmps28
  go_wp2
  go_loopw [3] (fun i wr => ∃ k : Nat, k ≤ n ∧ i = .int .i64 k ∧ Hid (allTo (okNestStep f) k = true) ∧ Below w.heap.size w wr) (fun i _ => n - (intOf i).toNat)
  case atStart => exact ⟨0, Nat.zero_le _, rfl, rfl, Below.refl _ _⟩
  case round =>
    obtain ⟨k, hk, rfl, hall, hbel⟩ := hrel
    by_cases hlt : k < n
    · obtain ⟨b, off, rfl, hbw, HC⟩ := HS.out.open_ hbel (by omega)
      obtain ⟨c0, c1, c2, c3, c4, c5, c6⟩ := cell7 HC hlt
      cases hok : okNest (f (k * 7)) (f (k * 7 + 1)) (f (k * 7 + 2)) (f (k * 7 + 3)) (f (k * 7 + 4)) (f (k * 7 + 5)) (f (k * 7 + 6)) with
      | false =>
        have hno : Hid (goodNests f n = false) := goodNests_no hlt (by simp [okNestStep, okNestAt, hok])
        clear HC HS
        go_wp2
        refine wp_region_any (by kernel_rfl) ?_
        change wpAny _ _ _ _ _ _ _ (World.drew _)
        refine wpAny_take (i := 0) (v := ?_) rfl (by kernel_rfl) (by kernel_rfl) (by kernel_rfl) (fun _ _ _ h => h) (Or.inl ⟨by rfl, ?_⟩) ?_
        rotate_left
        · intro w
          go_simp
          try with_reducible rfl
        simp only [Act.put, List.setIfInBounds_toArray, List.set_cons_zero, List.set_cons_succ]
        refine wpAny_ready (rs := [1]) (by kernel_rfl) (by simp) ?_
        refine AllReady.cons rfl (fun K hK => ?_) AllReady.nil
        go_simp
        refine hK _ _ ?_
        clear hK K
        refine wpAny_ready (rs := [2]) (by kernel_rfl) (by simp) ?_
        refine AllReady.cons rfl (fun K hK => ?_) AllReady.nil
        go_simp
        refine hK _ _ ?_
        clear hK K
        refine wpAny_ready (rs := [3]) (by kernel_rfl) (by simp) ?_
        refine AllReady.cons rfl (fun K hK => ?_) AllReady.nil
        go_simp
        refine hK _ _ ?_
        clear hK K
        refine wpAny_ready (rs := [4]) (by kernel_rfl) (by simp) ?_
        refine AllReady.cons rfl (fun K hK => ?_) AllReady.nil
        go_wp2_with (go_at_call 53; refine (sNestOne_any _ _ _ _ _ _ _ _).mono ?_; rintro e w1 ⟨rfl, hb1⟩)
        refine wpAny_ready (rs := [5]) (by kernel_rfl) (by simp) ?_
        refine AllReady.cons rfl (fun K hK => ?_) AllReady.nil
        go_simp
        refine hK _ _ ?_
        clear hK K
        refine wpAny_ready (rs := [6]) (by kernel_rfl) (by simp) ?_
        refine AllReady.cons rfl (fun K hK => ?_) AllReady.nil
        go_simp
        refine hK _ _ ?_
        clear hK K
        refine wpAny_skips (by kernel_rfl) (fun _ _ _ _ _ h => h) [(7, 17), (8, 18), (9, 19), (10, 20), (11, 21), (12, 22), (13, 23), (14, 24), (15, 25), (16, 26), (17, 27), (18, 28), (19, 29), (20, 30), (21, 31), (22, 32)] 1 16 _ _ rfl (by kernel_rfl) ?_
        simp only [skipL, skipA, Act.put, List.setIfInBounds_toArray, List.set_cons_zero, List.set_cons_succ]
        refine wpAny_ready (rs := [23]) (by kernel_rfl) (by simp) ?_
        refine AllReady.cons rfl (fun K hK => ?_) AllReady.nil
        go_simp
        refine hK _ _ ?_
        clear hK K
        refine wpAny_done (by kernel_rfl) ?_ _
        go_wp2
        go_ret
        exact ⟨ret_bool hno.out.symm, below_of hbel (((Below.refl _ wr).drew).trans (hb1.mono (by simp))) hbel.size⟩
      | true =>
        by_cases h0 : k = 0
        · have hok1 : Hid (okNestStep f k = true) := by simp only [Hid, okNestStep, okNestAt, hok, Bool.true_and, Bool.or_eq_true, decide_eq_true_eq]; exact Or.inl h0
          have hz : ((k : Int) == 0) = true := by simp; omega
          have hk0 : ¬ 0 < k := by omega
          have hk0' : ¬ (0 : Int) < (k : Int) := by omega
          have hk0b : decide ((0 : Int) < (k : Int)) = false := by simp; omega
          have hk0c : decide (0 < k) = false := by simp; omega
          clear HC HS h0
          go_wp2
          refine wp_region_any (by kernel_rfl) ?_
          change wpAny _ _ _ _ _ _ _ (World.drew _)
          refine wpAny_take (i := 0) (v := ?_) rfl (by kernel_rfl) (by kernel_rfl) (by kernel_rfl) (fun _ _ _ h => h) (Or.inl ⟨by rfl, ?_⟩) ?_
          rotate_left
          · intro w
            go_simp
            try with_reducible rfl
          simp only [Act.put, List.setIfInBounds_toArray, List.set_cons_zero, List.set_cons_succ]
          refine wpAny_ready (rs := [1]) (by kernel_rfl) (by simp) ?_
          refine AllReady.cons rfl (fun K hK => ?_) AllReady.nil
          go_simp
          refine hK _ _ ?_
          clear hK K
          refine wpAny_ready (rs := [2]) (by kernel_rfl) (by simp) ?_
          refine AllReady.cons rfl (fun K hK => ?_) AllReady.nil
          go_simp
          refine hK _ _ ?_
          clear hK K
          refine wpAny_ready (rs := [3]) (by kernel_rfl) (by simp) ?_
          refine AllReady.cons rfl (fun K hK => ?_) AllReady.nil
          go_simp
          refine hK _ _ ?_
          clear hK K
          refine wpAny_ready (rs := [4]) (by kernel_rfl) (by simp) ?_
          refine AllReady.cons rfl (fun K hK => ?_) AllReady.nil
          go_wp2_with (go_at_call 53; refine (sNestOne_any _ _ _ _ _ _ _ _).mono ?_; rintro e w1 ⟨rfl, hb1⟩)
          refine wpAny_ready (rs := [5]) (by kernel_rfl) (by simp) ?_
          refine AllReady.cons rfl (fun K hK => ?_) AllReady.nil
          go_simp
          refine hK _ _ ?_
          clear hK K
          refine wpAny_ready (rs := [6]) (by kernel_rfl) (by simp) ?_
          refine AllReady.cons rfl (fun K hK => ?_) AllReady.nil
          go_simp
          refine hK _ _ ?_
          clear hK K
          refine wpAny_ready (rs := [7]) (by kernel_rfl) (by simp) ?_
          refine AllReady.cons rfl (fun K hK => ?_) AllReady.nil
          go_simp
          refine hK _ _ ?_
          clear hK K
          refine wpAny_ready (rs := [8]) (by kernel_rfl) (by simp) ?_
          refine AllReady.cons rfl (fun K hK => ?_) AllReady.nil
          go_simp
          refine hK _ _ ?_
          clear hK K
          refine wpAny_ready (rs := [9]) (by kernel_rfl) (by simp) ?_
          refine AllReady.cons rfl (fun K hK => ?_) AllReady.nil
          go_simp
          refine hK _ _ ?_
          clear hK K
          refine wpAny_skips (by kernel_rfl) (fun _ _ _ _ _ h => h) [(10, 20), (11, 21), (12, 22), (13, 23), (14, 24), (15, 25), (16, 26), (17, 27), (18, 28), (19, 29), (20, 30), (21, 31)] 2 12 _ _ rfl (by kernel_rfl) ?_
          simp only [skipL, skipA, Act.put, List.setIfInBounds_toArray, List.set_cons_zero, List.set_cons_succ]
          refine wpAny_ready (rs := [22]) (by kernel_rfl) (by simp) ?_
          refine AllReady.cons rfl (fun K hK => ?_) AllReady.nil
          go_simp
          refine hK _ _ ?_
          clear hK K
          refine wpAny_ready (rs := [23]) (by kernel_rfl) (by simp) ?_
          refine AllReady.cons rfl (fun K hK => ?_) AllReady.nil
          go_simp
          refine hK _ _ ?_
          clear hK K
          refine wpAny_done (by kernel_rfl) ?_ _
          go_wp2
          go_roundw
          case rel => exact ⟨k + 1, by omega, by go_num, allTo_succ hall.out hok1.out, below_of hbel (((Below.refl _ wr).drew).trans (hb1.mono (by simp))) hbel.size⟩
          case measure => simp [intOf]; omega
        · have cp : wr.cell? ⟨b, off + (k - 1) * 7, none⟩ = some (.int .i64 (f ((k - 1) * 7))) := HC.out _ (by omega)
          have hk0 : 0 < k := by omega
          have hkk : ((k : Int) - 1).toNat = k - 1 := by omega
          have hb0 : (0 : Int) ≤ (k : Int) - 1 := by omega
          have hb1x : (1 : Int) ≤ (k : Int) := by omega
          have hb3 : (k : Int) - 1 < (n : Int) := by omega
          have hwk : IntKind.i64.wrap ((k : Int) - 1) = (k : Int) - 1 := IntWalk.i64_in _ (by omega)
          clear HC HS
          by_cases hlt2 : f ((k - 1) * 7) < f (k * 7)
          · have hok1 : Hid (okNestStep f k = true) := by simp [Hid, okNestStep, okNestAt, hok, hlt2]
            go_wp2
            go_region_held3 (fun w' => w'.cell? ⟨b, off + (k - 1) * 7, none⟩ = some (.int .i64 (f ((k - 1) * 7))) ∧ w'.cell? ⟨b, off + k * 7, none⟩ = some (.int .i64 (f (k * 7))) ∧ w'.cell? ⟨b, off + k * 7 + 1, none⟩ = some (.int .i64 (f (k * 7 + 1))) ∧ w'.cell? ⟨b, off + k * 7 + 2, none⟩ = some (.int .i64 (f (k * 7 + 2))) ∧ w'.cell? ⟨b, off + k * 7 + 3, none⟩ = some (.int .i64 (f (k * 7 + 3))) ∧ w'.cell? ⟨b, off + k * 7 + 4, none⟩ = some (.int .i64 (f (k * 7 + 4))) ∧ w'.cell? ⟨b, off + k * 7 + 5, none⟩ = some (.int .i64 (f (k * 7 + 5))) ∧ w'.cell? ⟨b, off + k * 7 + 6, none⟩ = some (.int .i64 (f (k * 7 + 6))))
              (first | go_keep | (go_split_ands; refine ⟨?_, ?_, ?_, ?_, ?_, ?_, ?_, ?_⟩ <;> (refine (hb1.cell (by exact hbw)).trans ?_; first | assumption | (simp [*]; done))))
              (first | (go_at_call 53; refine (sNestOne_any _ _ _ _ _ _ _ _).mono ?_; rintro e w1 ⟨rfl, hb1⟩))
            go_wp2
            go_roundw
            case rel => exact ⟨k + 1, by omega, by go_num, allTo_succ hall.out hok1.out, below_of hbel (((Below.refl _ wr).drew).trans (hb1.mono (by simp))) hbel.size⟩
            case measure => simp [intOf]; omega
          · have hno : Hid (goodNests f n = false) := goodNests_no hlt (by simp [okNestStep, okNestAt, hok, hlt2]; omega)
            go_wp2
            go_region_held3 (fun w' => w'.cell? ⟨b, off + (k - 1) * 7, none⟩ = some (.int .i64 (f ((k - 1) * 7))) ∧ w'.cell? ⟨b, off + k * 7, none⟩ = some (.int .i64 (f (k * 7))) ∧ w'.cell? ⟨b, off + k * 7 + 1, none⟩ = some (.int .i64 (f (k * 7 + 1))) ∧ w'.cell? ⟨b, off + k * 7 + 2, none⟩ = some (.int .i64 (f (k * 7 + 2))) ∧ w'.cell? ⟨b, off + k * 7 + 3, none⟩ = some (.int .i64 (f (k * 7 + 3))) ∧ w'.cell? ⟨b, off + k * 7 + 4, none⟩ = some (.int .i64 (f (k * 7 + 4))) ∧ w'.cell? ⟨b, off + k * 7 + 5, none⟩ = some (.int .i64 (f (k * 7 + 5))) ∧ w'.cell? ⟨b, off + k * 7 + 6, none⟩ = some (.int .i64 (f (k * 7 + 6))))
              (first | go_keep | (go_split_ands; refine ⟨?_, ?_, ?_, ?_, ?_, ?_, ?_, ?_⟩ <;> (refine (hb1.cell (by exact hbw)).trans ?_; first | assumption | (simp [*]; done))))
              (first | (go_at_call 53; refine (sNestOne_any _ _ _ _ _ _ _ _).mono ?_; rintro e w1 ⟨rfl, hb1⟩))
            go_wp2
            go_ret
            exact ⟨ret_bool hno.out.symm, below_of hbel (((Below.refl _ wr).drew).trans (hb1.mono (by simp))) hbel.size⟩
    · have hkn : k = n := by omega
      subst hkn
      clear HS
      go_wp2
      go_ret
      exact ⟨ret_bool (by rw [Bool.eq_iff_iff]; simp [goodNests, hall.out]; omega), hbel⟩
end Go.Proofs.YtcecpioiagfoiaaDoor
