/-
  alive; AliveOn: the program's and the reference's return the nests that are alive on a day.
-/
import Derived.Test.YtcecpioiagfoiaaDoorNestA
import Derived.Test.YtcecpioiagfoiaaDoorOwn
import Derived.Test.YtcecpioiagfoiaaDoorSmall
import Derived.Test.YtcecpioiagfoiaaDoorApp
namespace Go.Proofs.YtcecpioiagfoiaaDoor
open Go.RowKit
set_option linter.unusedVariables false
set_option linter.unusedSimpArgs false
attribute [local go_sem ↓] Go.wp_at_zero Go.wp_at_succ
theorem infoIntC : (Tryd.prog.info? 3).map (fun i => (i.zero, i.size, i.bytes)) = some (some (.int .i64 0), 1, 8) := by kernel_rfl
def lastV (d b : Int) : Int := wrap64 (wrap64 (d + b) - 1)
def aliveV (d b day : Int) : Bool := inR day d (lastV d b)
def aliveAt (f : Nat → Int) (day : Int) (k : Nat) : Bool := aliveV (f (k * 7 + 3)) (f (k * 7 + 4)) day
def idAt (f : Nat → Int) (k : Nat) : Int := f (k * 7)
def aliveOk (f : Nat → Int) (n : Nat) (day : Int) : Bool := goodNests f n && inR day 0 4000
def aliveRes (f : Nat → Int) (n : Nat) (day : Int) : List Int := if aliveOk f n day then pick (aliveAt f day) (idAt f) n else []
theorem last_any (i k p d b x y : Int) (w : World) :
    Calls Tryd.prog 52 #[.agg #[.int .i64 i, .int .i64 k, .int .i64 p, .int .i64 d, .int .i64 b, .int .i64 x, .int .i64 y]] w fun e w' => e = .returned (.int .i64 (lastV d b)) ∧ Below w.heap.size w w' := by
  go_enter Tryd.func52, Tryd.ntmps52
  go_wp2
  go_ret
  exact ⟨rfl, by go_grown⟩
set_option maxHeartbeats 400000 in
theorem alive_any (i k p d b x y day : Int) (w : World) :
    Calls Tryd.prog 37 #[.agg #[.int .i64 i, .int .i64 k, .int .i64 p, .int .i64 d, .int .i64 b, .int .i64 x, .int .i64 y], .int .i64 day] w fun e w' => e = .returned (.bool (aliveV d b day)) ∧ Below w.heap.size w w' := by
  go_enter Tryd.func37, Tryd.ntmps37
  have HBX : Below w.heap.size w (w.alloc (.cells #[.int .i64 i, .int .i64 k, .int .i64 p, .int .i64 d, .int .i64 b, .int .i64 x, .int .i64 y] 36)) := (Below.refl _ w).alloc (Nat.le_refl _) _
  have HBY : Below (w.alloc (.cells #[.int .i64 i, .int .i64 k, .int .i64 p, .int .i64 d, .int .i64 b, .int .i64 x, .int .i64 y] 36)).heap.size (w.alloc (.cells #[.int .i64 i, .int .i64 k, .int .i64 p, .int .i64 d, .int .i64 b, .int .i64 x, .int .i64 y] 36)) (w.alloc (.cells #[.int .i64 i, .int .i64 k, .int .i64 p, .int .i64 d, .int .i64 b, .int .i64 x, .int .i64 y] 36)) := Below.refl _ _
  go_wp2
  go_region_held3 (fun w' => w'.cell? ⟨w.heap.size, 0, none⟩ = some (.int .i64 i) ∧ w'.cell? ⟨w.heap.size, 1, none⟩ = some (.int .i64 k) ∧ w'.cell? ⟨w.heap.size, 2, none⟩ = some (.int .i64 p) ∧ w'.cell? ⟨w.heap.size, 3, none⟩ = some (.int .i64 d) ∧ w'.cell? ⟨w.heap.size, 4, none⟩ = some (.int .i64 b) ∧ w'.cell? ⟨w.heap.size, 5, none⟩ = some (.int .i64 x) ∧ w'.cell? ⟨w.heap.size, 6, none⟩ = some (.int .i64 y))
    (first | go_keep | ((repeat' apply And.intro) <;> (first | go_keep | (refine (HBY.cell (by simp)).trans ?_; simp))))
    (first | (go_at_call 52; refine (last_any _ _ _ _ _ _ _ _).mono ?_; rintro e w2 ⟨rfl, hb2⟩; replace HBY := HBY.drew.trans (hb2.mono HBY.size); clear hb2) | (go_at_call 55; refine (within_any _ _ _ _).mono ?_; rintro e w3 ⟨rfl, rfl⟩))
  all_goals
    go_wp2
    go_ret
    exact ⟨rfl, HBX.trans (HBY.mono (by simp))⟩
theorem l24Alive_any (i k p d b x y day : Int) (w : World) :
    Calls Tryd.prog 43 #[.agg #[.int .i64 i, .int .i64 k, .int .i64 p, .int .i64 d, .int .i64 b, .int .i64 x, .int .i64 y], .int .i64 day] w fun e w' => e = .returned (.bool (aliveV d b day)) ∧ Below w.heap.size w w' := by
  go_enter Tryd.func43, Tryd.ntmps43
  go_wp2_with (go_at_call 44; refine (l1In_any _ _ _ _).mono ?_; rintro e w3 ⟨rfl, rfl⟩)
  go_ret
  exact ⟨rfl, by go_grown⟩
set_option maxHeartbeats 1000000 in
theorem AliveOn_any (A : Option Addr) (n c lo hi : Nat) (f : Nat → Int) (day : Int) (w : World) (hs : Sl w lo hi 7 A n f) (hn : n ≤ 1048576) (hnc : n ≤ c) :
    Calls Tryd.prog 17 #[.slice A n c, .int .i64 day] w (IntsPost 3 w (aliveRes f n day) (aliveOk f n day)) := by
  have HS : Hid (Sl w lo hi 7 A n f) := hs
  clear hs
  cases hg : goodNests f n with
  | false =>
    have hr : aliveRes f n day = [] := by simp [aliveRes, aliveOk, hg]
    have hk : aliveOk f n day = false := by simp [aliveOk, hg]
    rw [hr, hk]
    clear hr hk
    go_enter Tryd.func17, Tryd.ntmps17
    go_wp2_with fail
    refine (NestAll_any A n c lo hi f w HS.out hn hnc).mono ?_
    rintro e w1 ⟨rfl, hb1⟩
    go_wp2
    go_ret2
    exact IntsPost.nil_ hb1
  | true =>
    cases hz : inR day 0 4000 with
    | false =>
      have hr : aliveRes f n day = [] := by simp [aliveRes, aliveOk, hz]
      have hk : aliveOk f n day = false := by simp [aliveOk, hz]
      rw [hr, hk]
      clear hr hk
      go_enter Tryd.func17, Tryd.ntmps17
      go_wp2_with fail
      refine (NestAll_any A n c lo hi f w HS.out hn hnc).mono ?_
      rintro e w1 ⟨rfl, hb1⟩
      go_wp2_with fail
      refine (isDay_any _ _).mono ?_
      rintro e w2 ⟨rfl, rfl⟩
      go_wp2
      go_ret2
      exact IntsPost.nil_ hb1
    | true =>
      have hr : aliveRes f n day = pick (aliveAt f day) (idAt f) n := by simp [aliveRes, aliveOk, hg, hz]
      have hk : aliveOk f n day = true := by simp [aliveOk, hg, hz]
      rw [hr, hk]
      clear hr hk
      go_enter Tryd.func17, Tryd.ntmps17
      go_wp2_with fail
      refine (NestAll_any A n c lo hi f w HS.out hn hnc).mono ?_
      rintro e w1 ⟨rfl, hb1⟩
      go_wp2_with fail
      refine (isDay_any _ _).mono ?_
      rintro e w2 ⟨rfl, rfl⟩
      go_wp2
      go_loopw [6, 19] (fun v i wr => ∃ k : Nat, k ≤ n ∧ i = .int .i64 k ∧ wr.ownsRow w.heap.size 3 1 v (pick (aliveAt f day) (idAt f) k).length ((pick (aliveAt f day) (idAt f) k).map (Value.int .i64)) ∧ Below w.heap.size w wr) (fun _ i _ => n - (intOf i).toNat)
      case atStart => exact ⟨0, Nat.zero_le _, rfl, World.ownsRow_nil _ _ _ _, hb1⟩
      case round =>
        obtain ⟨k, hk, rfl, hown, hB⟩ := hrel
        have hl : (pick (aliveAt f day) (idAt f) k).length ≤ 100000000 := by have := pick_len (aliveAt f day) (idAt f) k; omega
        generalize hP : pick (aliveAt f day) (idAt f) k = P at hown hl
        have HP : Hid (pick (aliveAt f day) (idAt f) k = P) := hP
        have HO : Hid (wr.ownsRow w.heap.size 3 1 u6 P.length (P.map (Value.int .i64))) := hown
        clear hown hP
        by_cases hlt : k < n
        · obtain ⟨b, off, rfl, hbw, HC⟩ := HS.out.open_ hB (by omega)
          obtain ⟨c0, c1, c2, c3, c4, c5, c6⟩ := cell7 HC hlt
          clear HS
          have hsz := hB.size
          cases ht : aliveV (f (k * 7 + 3)) (f (k * 7 + 4)) day with
          | false =>
            go_wp2_with fail
            refine (alive_any _ _ _ _ _ _ _ _ _).mono ?_
            rintro e w2 ⟨rfl, hb2⟩
            have hb3 : Below wr.heap.size wr w2 := ((Below.refl _ wr).alloc (Nat.le_refl _) _).trans (hb2.mono (by simp))
            have HO2 := ownsRow_below HO.out hb3
            have hB2 := below_of hB hb3 hB.size
            have hsz2 := hB2.size
            have q0 : w2.cell? ⟨wr.heap.size, 0, none⟩ = some (.int .i64 (f (k * 7))) := (hb2.cell (p := ⟨wr.heap.size, 0, none⟩) (by simp)).trans (by simp)
            clear hb2 hb3 c0 c1 c2 c3 c4 c5 c6 HC HO hB hsz
            go_wp2
            go_roundw
            case rel => exact ⟨k + 1, by omega, by go_num, by rw [pick_no ht, HP.out]; exact HO2, hB2⟩
            case measure => simp [intOf]; omega
          | true =>
            go_wp2_with fail
            refine (alive_any _ _ _ _ _ _ _ _ _).mono ?_
            rintro e w2 ⟨rfl, hb2⟩
            have hb3 : Below wr.heap.size wr w2 := ((Below.refl _ wr).alloc (Nat.le_refl _) _).trans (hb2.mono (by simp))
            have HO2 := ownsRow_below HO.out hb3
            have hB2 := below_of hB hb3 hB.size
            have hsz2 := hB2.size
            have q0 : w2.cell? ⟨wr.heap.size, 0, none⟩ = some (.int .i64 (f (k * 7))) := (hb2.cell (p := ⟨wr.heap.size, 0, none⟩) (by simp)).trans (by simp)
            clear hb2 hb3 c0 c1 c2 c3 c4 c5 c6 HC HO hB hsz
            go_wp2_with (at_builtin; refine wpList_append_int1 _ rfl _ _ 37 rfl w.heap.size 3 Tryd.underlying37 infoIntC P (f (k * 7)) _ rfl (HO2.alloc _) _ rfl (by simp) hl (by simp; omega) ?_; intro v' w3 hown3 _ hgrow3)
            go_roundw
            case rel => exact ⟨k + 1, by omega, by go_num, by rw [pick_yes ht, HP.out]; exact hown3, below_app (hB2.alloc hB2.size _) (HO2.alloc _) hgrow3⟩
            case measure => simp [intOf]; omega
        · obtain rfl : n = k := by omega
          clear HS
          go_wp2
          go_ret2
          rw [HP.out]
          exact IntsPost.mk_ HO.out hB
end Go.Proofs.YtcecpioiagfoiaaDoor
