/-
  The worth of a row; BestCrop: the program's and the reference's return the year of the first row of the greatest worth.
-/
import Derived.Test.YtfejgoohefhjoaaDoorCropA
import Derived.Test.YtfejgoohefhjoaaDoorOwn5
namespace Go.Proofs.YtfejgoohefhjoaaDoor
open Go.RowKit
set_option linter.unusedVariables false
set_option linter.unusedSimpArgs false
attribute [local go_sem ↓] Go.wp_at_zero Go.wp_at_succ

def worthV (t l p : Int) : Int := wrap64 (wrap64 (t - l) * p)
def worthAt (f : Nat → Int) (k : Nat) : Int := worthV (f (k * 5 + 2)) (f (k * 5 + 3)) (f (k * 5 + 4))
theorem worth_any (y d t l p : Int) (w : World) :
    Calls Tryd.prog 21 #[.agg #[.int .i64 y, .int .i64 d, .int .i64 t, .int .i64 l, .int .i64 p]] w fun e w' => e = .returned (.int .i64 (worthV t l p)) ∧ Below w.heap.size w w' := by
  go_enter Tryd.func21, Tryd.ntmps21
  go_wp2
  go_ret
  exact ⟨rfl, by go_grown⟩
theorem l26Worth_any (y d t l p : Int) (w : World) :
    Calls Tryd.prog 23 #[.agg #[.int .i64 y, .int .i64 d, .int .i64 t, .int .i64 l, .int .i64 p]] w fun e w' => e = .returned (.int .i64 (worthV t l p)) ∧ Below w.heap.size w w' := by
  go_enter Tryd.func23, Tryd.ntmps23
  go_wp2
  go_ret
  exact ⟨rfl, by go_grown⟩

def worthLt (f : Nat → Int) (a b : Nat) : Bool := decide (worthAt f a < worthAt f b)
def bestTo (f : Nat → Int) : Nat → Nat := bestBy (worthLt f)
theorem bestTo_yes {f : Nat → Int} {k : Nat} (h : worthAt f (bestTo f k) < worthAt f k) : bestTo f (k + 1) = k := by
  unfold bestTo bestBy; rw [if_pos (by simpa [worthLt, bestTo] using h)]
theorem bestTo_no {f : Nat → Int} {k : Nat} (h : ¬ worthAt f (bestTo f k) < worthAt f k) : bestTo f (k + 1) = bestTo f k := by
  show bestBy _ _ = _; unfold bestBy; rw [if_neg (by simpa [worthLt, bestTo] using h)]; rfl
theorem bestTo_one (f : Nat → Int) : bestTo f 1 = 0 := by
  show bestBy _ _ = _; unfold bestBy; split <;> rfl

set_option maxHeartbeats 1000000 in
theorem BestCrop_no (A : Option Addr) (n c lo hi : Nat) (f : Nat → Int) (w : World) (hs : Sl w lo hi 5 A n f) (hn : n ≤ 1048576) (hnc : n ≤ c) (h : goodRows f n = false ∨ n = 0) :
    Calls Tryd.prog 10 #[.slice A n c] w fun e w' => e = .returned (.tuple #[.int .i64 0, .bool false]) ∧ Below w.heap.size w w' := by
  have HS : Hid (Sl w lo hi 5 A n f) := hs
  clear hs
  cases hg : goodRows f n with
  | false =>
    clear h
    go_enter Tryd.func10, Tryd.ntmps10
    go_wp2_with (go_at_call 9; refine (AreCropRows_any A n c lo hi f w HS.out hn hnc).mono ?_; rintro e w1 ⟨rfl, hb1⟩)
    go_ret2
    exact ⟨rfl, hb1⟩
  | true =>
    have h0 : n = 0 := by simpa [hg] using h
    subst h0
    clear h
    go_enter Tryd.func10, Tryd.ntmps10
    go_wp2_with (go_at_call 9; refine (AreCropRows_any A 0 c lo hi f w HS.out hn hnc).mono ?_; rintro e w1 ⟨rfl, hb1⟩)
    go_ret2
    exact ⟨rfl, hb1⟩
set_option maxHeartbeats 1000000 in
theorem BestCrop_yes (A : Option Addr) (n c lo hi : Nat) (f : Nat → Int) (w : World) (hs : Sl w lo hi 5 A n f) (hn : n ≤ 1048576) (hnc : n ≤ c) (h : goodRows f n = true) (h0 : 0 < n) :
    Calls Tryd.prog 10 #[.slice A n c] w fun e w' => e = .returned (.tuple #[.int .i64 (f (bestTo f n * 5)), .bool true]) ∧ Below w.heap.size w w' := by
  have HS : Hid (Sl w lo hi 5 A n f) := hs
  clear hs
  have hnb : ((n : Int) == 0) = false := by simp; omega
  have hni : (0 : Int) < (n : Int) := by omega
  go_enter Tryd.func10, Tryd.ntmps10
  go_wp2_with fail
  refine (AreCropRows_any A n c lo hi f w HS.out hn hnc).mono ?_
  rintro e w1 ⟨rfl, hb1⟩
  have HB1 : Below w.heap.size w w1 := hb1
  have HS1 : Hid (Sl w1 lo hi 5 A n f) := HS.out.below hb1
  clear HS hb1
  obtain ⟨b, off, rfl, hbw, HC⟩ := HS1.out.open_ (Below.refl _ _) (by omega)
  obtain ⟨c0, c1, c2, c3, c4⟩ := cell5 HC h0
  simp only [Nat.zero_mul, Nat.add_zero, Nat.zero_add] at c0 c1 c2 c3 c4
  clear HC
  go_wp2
  clear c0 c1 c2 c3 c4
  go_loopw [20] (fun i wr => ∃ k : Nat, k ≤ n ∧ i = .int .i64 k ∧ Own wr w1.heap.size (w1.heap.size + 1) 36 5 (some ⟨w1.heap.size, 0, none⟩) 1 (fun j => f (bestTo f k * 5 + j)) ∧ Below w1.heap.size w1 wr) (fun i _ => n - (intOf i).toNat)
  case atStart => exact ⟨0, Nat.zero_le _, rfl, own_new5 _ _ _ _ _ _ _ _ rfl rfl rfl rfl rfl, (Below.refl _ _).alloc (Nat.le_refl _) _⟩
  case round =>
    obtain ⟨k, hk, rfl, hO, hbel⟩ := hrel
    by_cases hlt : k < n
    · obtain ⟨hbr, HC⟩ := HS1.out.open_at hbel (by omega)
      obtain ⟨c0, c1, c2, c3, c4⟩ := cell5 HC hlt
      clear HC
      generalize hm : bestTo f k = m at hO
      have Hm : Hid (bestTo f k = m) := hm
      clear hm
      obtain ⟨p0, p1, p2, p3, p4, pf, pg⟩ := hO.cells5
      simp only [Nat.add_zero] at p0
      have HBX : Below (wr.alloc (.cells #[.int .i64 (f (k * 5)), .int .i64 (f (k * 5 + 1)), .int .i64 (f (k * 5 + 2)), .int .i64 (f (k * 5 + 3)), .int .i64 (f (k * 5 + 4))] 36)).heap.size (wr.alloc (.cells #[.int .i64 (f (k * 5)), .int .i64 (f (k * 5 + 1)), .int .i64 (f (k * 5 + 2)), .int .i64 (f (k * 5 + 3)), .int .i64 (f (k * 5 + 4))] 36)) (wr.alloc (.cells #[.int .i64 (f (k * 5)), .int .i64 (f (k * 5 + 1)), .int .i64 (f (k * 5 + 2)), .int .i64 (f (k * 5 + 3)), .int .i64 (f (k * 5 + 4))] 36)) := Below.refl _ _
      by_cases hgt : worthV (f (m * 5 + 2)) (f (m * 5 + 3)) (f (m * 5 + 4)) < worthV (f (k * 5 + 2)) (f (k * 5 + 3)) (f (k * 5 + 4))
      · go_wp2
        go_region_held3 (fun w' => w'.cell? ⟨wr.heap.size, 0, none⟩ = some (.int .i64 (f (k * 5))) ∧ w'.cell? ⟨wr.heap.size, 1, none⟩ = some (.int .i64 (f (k * 5 + 1))) ∧ w'.cell? ⟨wr.heap.size, 2, none⟩ = some (.int .i64 (f (k * 5 + 2))) ∧ w'.cell? ⟨wr.heap.size, 3, none⟩ = some (.int .i64 (f (k * 5 + 3))) ∧ w'.cell? ⟨wr.heap.size, 4, none⟩ = some (.int .i64 (f (k * 5 + 4))) ∧
            w'.cell? ⟨w1.heap.size, 0, none⟩ = some (.int .i64 (f (m * 5))) ∧ w'.cell? ⟨w1.heap.size, 1, none⟩ = some (.int .i64 (f (m * 5 + 1))) ∧ w'.cell? ⟨w1.heap.size, 2, none⟩ = some (.int .i64 (f (m * 5 + 2))) ∧ w'.cell? ⟨w1.heap.size, 3, none⟩ = some (.int .i64 (f (m * 5 + 3))) ∧ w'.cell? ⟨w1.heap.size, 4, none⟩ = some (.int .i64 (f (m * 5 + 4))))
          (first | go_keep | ((repeat' apply And.intro) <;> (first | go_keep | (refine (HBX.cell (by first | (simp; done) | (simp; omega))).trans ((World.cell?_alloc_lt _ _ _ pg).trans ?_); assumption) | (refine (HBX.cell (by first | (simp; done) | (simp; omega))).trans ?_; simp [*]))))
          (first | (go_at_call 21; refine (worth_any _ _ _ _ _ _).mono ?_; rintro e w2 ⟨rfl, hb2⟩; replace HBX := HBX.drew.trans (hb2.mono HBX.size); clear hb2) | (go_at_call 21; refine (worth_any _ _ _ _ _ _).mono ?_; rintro e w2 ⟨rfl, hb2⟩; replace HBX := HBX.trans (hb2.mono HBX.size); clear hb2))
        all_goals
          have hO3 := (hO.below ((Below.refl _ wr).alloc (Nat.le_refl _) _)).below HBX
          obtain ⟨_, _, _, _, _, pf3, pg3⟩ := hO3.cells5
          have B3 : Below w1.heap.size w1 w2 := below_of hbel (((Below.refl _ wr).alloc (Nat.le_refl _) _).trans (HBX.mono (by simp))) hbel.size
          clear p0 p1 p2 p3 p4 pf c0 c1 c2 c3 c4
          go_wp2
          go_roundw
          case rel => exact ⟨k + 1, by omega, by go_num, by rw [bestTo_yes (by unfold worthAt; rw [Hm.out]; exact hgt)]; exact hO3.put5 rfl rfl rfl rfl rfl, (((((B3.setCell (Nat.le_refl _) _).setCell (Nat.le_refl _) _).setCell (Nat.le_refl _) _).setCell (Nat.le_refl _) _).setCell (Nat.le_refl _) _)⟩
          case measure => simp [intOf]; omega
      · go_wp2
        go_region_held3 (fun w' => w'.cell? ⟨wr.heap.size, 0, none⟩ = some (.int .i64 (f (k * 5))) ∧ w'.cell? ⟨wr.heap.size, 1, none⟩ = some (.int .i64 (f (k * 5 + 1))) ∧ w'.cell? ⟨wr.heap.size, 2, none⟩ = some (.int .i64 (f (k * 5 + 2))) ∧ w'.cell? ⟨wr.heap.size, 3, none⟩ = some (.int .i64 (f (k * 5 + 3))) ∧ w'.cell? ⟨wr.heap.size, 4, none⟩ = some (.int .i64 (f (k * 5 + 4))) ∧
            w'.cell? ⟨w1.heap.size, 0, none⟩ = some (.int .i64 (f (m * 5))) ∧ w'.cell? ⟨w1.heap.size, 1, none⟩ = some (.int .i64 (f (m * 5 + 1))) ∧ w'.cell? ⟨w1.heap.size, 2, none⟩ = some (.int .i64 (f (m * 5 + 2))) ∧ w'.cell? ⟨w1.heap.size, 3, none⟩ = some (.int .i64 (f (m * 5 + 3))) ∧ w'.cell? ⟨w1.heap.size, 4, none⟩ = some (.int .i64 (f (m * 5 + 4))))
          (first | go_keep | ((repeat' apply And.intro) <;> (first | go_keep | (refine (HBX.cell (by first | (simp; done) | (simp; omega))).trans ((World.cell?_alloc_lt _ _ _ pg).trans ?_); assumption) | (refine (HBX.cell (by first | (simp; done) | (simp; omega))).trans ?_; simp [*]))))
          (first | (go_at_call 21; refine (worth_any _ _ _ _ _ _).mono ?_; rintro e w2 ⟨rfl, hb2⟩; replace HBX := HBX.drew.trans (hb2.mono HBX.size); clear hb2) | (go_at_call 21; refine (worth_any _ _ _ _ _ _).mono ?_; rintro e w2 ⟨rfl, hb2⟩; replace HBX := HBX.trans (hb2.mono HBX.size); clear hb2))
        all_goals
          have hO3 := (hO.below ((Below.refl _ wr).alloc (Nat.le_refl _) _)).below HBX
          obtain ⟨_, _, _, _, _, pf3, pg3⟩ := hO3.cells5
          have B3 : Below w1.heap.size w1 w2 := below_of hbel (((Below.refl _ wr).alloc (Nat.le_refl _) _).trans (HBX.mono (by simp))) hbel.size
          clear p0 p1 p2 p3 p4 pf c0 c1 c2 c3 c4
          go_wp2
          go_roundw
          case rel => exact ⟨k + 1, by omega, by go_num, by rw [bestTo_no (by unfold worthAt; rw [Hm.out]; exact Int.not_lt.2 hgt), Hm.out]; exact hO3, B3⟩
          case measure => simp [intOf]; omega
    · obtain rfl : k = n := by omega
      obtain ⟨p0, p1, p2, p3, p4, pf, pg⟩ := hO.cells5
      clear HS1
      go_wp2
      go_ret2
      exact ⟨rfl, below_of HB1 hbel HB1.size⟩
set_option maxHeartbeats 1000000 in
theorem sBestCrop_no (A : Option Addr) (n c lo hi : Nat) (f : Nat → Int) (w : World) (hs : Sl w lo hi 5 A n f) (hn : n ≤ 1048576) (hnc : n ≤ c) (h : goodRows f n = false ∨ n = 0) :
    Calls Tryd.prog 11 #[.slice A n c] w fun e w' => e = .returned (.tuple #[.int .i64 0, .bool false]) ∧ Below w.heap.size w w' := by
  have HS : Hid (Sl w lo hi 5 A n f) := hs
  clear hs
  cases hg : goodRows f n with
  | false =>
    clear h
    go_enter Tryd.func11, Tryd.ntmps11
    go_wp2_with (go_at_call 22; refine (l26Good_any A n c lo hi f w HS.out hn hnc).mono ?_; rintro e w1 ⟨rfl, hb1⟩)
    go_ret2
    exact ⟨rfl, hb1⟩
  | true =>
    have h0 : n = 0 := by simpa [hg] using h
    subst h0
    clear h
    go_enter Tryd.func11, Tryd.ntmps11
    go_wp2_with (go_at_call 22; refine (l26Good_any A 0 c lo hi f w HS.out hn hnc).mono ?_; rintro e w1 ⟨rfl, hb1⟩)
    go_ret2
    exact ⟨rfl, hb1⟩
set_option maxHeartbeats 1000000 in
theorem sBestCrop_yes (A : Option Addr) (n c lo hi : Nat) (f : Nat → Int) (w : World) (hs : Sl w lo hi 5 A n f) (hn : n ≤ 1048576) (hnc : n ≤ c) (h : goodRows f n = true) (h0 : 0 < n) :
    Calls Tryd.prog 11 #[.slice A n c] w fun e w' => e = .returned (.tuple #[.int .i64 (f (bestTo f n * 5)), .bool true]) ∧ Below w.heap.size w w' := by
  have HS : Hid (Sl w lo hi 5 A n f) := hs
  clear hs
  have hnb : ((n : Int) == 0) = false := by simp; omega
  have hni : (0 : Int) < (n : Int) := by omega
  go_enter Tryd.func11, Tryd.ntmps11
  go_wp2_with fail
  refine (l26Good_any A n c lo hi f w HS.out hn hnc).mono ?_
  rintro e w1 ⟨rfl, hb1⟩
  have HB1 : Below w.heap.size w w1 := hb1
  have HS1 : Hid (Sl w1 lo hi 5 A n f) := HS.out.below hb1
  clear HS hb1
  obtain ⟨b, off, rfl, hbw, HC⟩ := HS1.out.open_ (Below.refl _ _) (by omega)
  obtain ⟨c0, c1, c2, c3, c4⟩ := cell5 HC h0
  simp only [Nat.zero_mul, Nat.add_zero, Nat.zero_add] at c0 c1 c2 c3 c4
  clear HC
  go_wp2
  clear c0 c1 c2 c3 c4
  go_loopw [5] (fun i wr => ∃ k : Nat, 1 ≤ k ∧ k ≤ n ∧ i = .int .i64 k ∧ Own wr w1.heap.size (w1.heap.size + 1) 36 5 (some ⟨w1.heap.size, 0, none⟩) 1 (fun j => f (bestTo f k * 5 + j)) ∧ Below w1.heap.size w1 wr) (fun i _ => n - (intOf i).toNat)
  case atStart => exact ⟨1, Nat.le_refl _, by omega, rfl, by rw [bestTo_one]; exact own_new5 _ _ _ _ _ _ _ _ rfl rfl rfl rfl rfl, (Below.refl _ _).alloc (Nat.le_refl _) _⟩
  case round =>
    obtain ⟨k, hk1, hk, rfl, hO, hbel⟩ := hrel
    by_cases hlt : k < n
    · obtain ⟨hbr, HC⟩ := HS1.out.open_at hbel (by omega)
      obtain ⟨c0, c1, c2, c3, c4⟩ := cell5 HC hlt
      clear HC
      generalize hm : bestTo f k = m at hO
      have Hm : Hid (bestTo f k = m) := hm
      clear hm
      obtain ⟨p0, p1, p2, p3, p4, pf, pg⟩ := hO.cells5
      simp only [Nat.add_zero] at p0
      have HBX : Below wr.heap.size wr wr := Below.refl _ _
      have hk0 : (0 : Int) ≤ (k : Int) := by omega
      have hki : (k : Int) < (n : Int) := by omega
      by_cases hgt : worthV (f (m * 5 + 2)) (f (m * 5 + 3)) (f (m * 5 + 4)) < worthV (f (k * 5 + 2)) (f (k * 5 + 3)) (f (k * 5 + 4))
      · go_wp2
        go_region_held3 (fun w' => w'.cell? ⟨b, off + k * 5, none⟩ = some (.int .i64 (f (k * 5))) ∧ w'.cell? ⟨b, off + k * 5 + 1, none⟩ = some (.int .i64 (f (k * 5 + 1))) ∧ w'.cell? ⟨b, off + k * 5 + 2, none⟩ = some (.int .i64 (f (k * 5 + 2))) ∧ w'.cell? ⟨b, off + k * 5 + 3, none⟩ = some (.int .i64 (f (k * 5 + 3))) ∧ w'.cell? ⟨b, off + k * 5 + 4, none⟩ = some (.int .i64 (f (k * 5 + 4))) ∧
            w'.cell? ⟨w1.heap.size, 0, none⟩ = some (.int .i64 (f (m * 5))) ∧ w'.cell? ⟨w1.heap.size, 1, none⟩ = some (.int .i64 (f (m * 5 + 1))) ∧ w'.cell? ⟨w1.heap.size, 2, none⟩ = some (.int .i64 (f (m * 5 + 2))) ∧ w'.cell? ⟨w1.heap.size, 3, none⟩ = some (.int .i64 (f (m * 5 + 3))) ∧ w'.cell? ⟨w1.heap.size, 4, none⟩ = some (.int .i64 (f (m * 5 + 4))))
          (first | go_keep | ((repeat' apply And.intro) <;> (first | go_keep | (refine (HBX.cell (by first | exact hbr | exact pg)).trans ?_; assumption))))
          (first | (go_at_call 23; refine (l26Worth_any _ _ _ _ _ _).mono ?_; rintro e w2 ⟨rfl, hb2⟩; replace HBX := HBX.drew.trans (hb2.mono HBX.size); clear hb2) | (go_at_call 23; refine (l26Worth_any _ _ _ _ _ _).mono ?_; rintro e w2 ⟨rfl, hb2⟩; replace HBX := HBX.trans (hb2.mono HBX.size); clear hb2))
        all_goals
          have hO3 := hO.below HBX
          obtain ⟨_, _, _, _, _, pf3, pg3⟩ := hO3.cells5
          have B3 : Below w1.heap.size w1 w2 := below_of hbel HBX hbel.size
          clear p0 p1 p2 p3 p4 pf c0 c1 c2 c3 c4
          go_wp2
          go_roundw
          case rel => exact ⟨k + 1, by omega, by omega, by go_num, by rw [bestTo_yes (by unfold worthAt; rw [Hm.out]; exact hgt)]; exact hO3.put5 rfl rfl rfl rfl rfl, (((((B3.setCell (Nat.le_refl _) _).setCell (Nat.le_refl _) _).setCell (Nat.le_refl _) _).setCell (Nat.le_refl _) _).setCell (Nat.le_refl _) _)⟩
          case measure => simp [intOf]; omega
      · go_wp2
        go_region_held3 (fun w' => w'.cell? ⟨b, off + k * 5, none⟩ = some (.int .i64 (f (k * 5))) ∧ w'.cell? ⟨b, off + k * 5 + 1, none⟩ = some (.int .i64 (f (k * 5 + 1))) ∧ w'.cell? ⟨b, off + k * 5 + 2, none⟩ = some (.int .i64 (f (k * 5 + 2))) ∧ w'.cell? ⟨b, off + k * 5 + 3, none⟩ = some (.int .i64 (f (k * 5 + 3))) ∧ w'.cell? ⟨b, off + k * 5 + 4, none⟩ = some (.int .i64 (f (k * 5 + 4))) ∧
            w'.cell? ⟨w1.heap.size, 0, none⟩ = some (.int .i64 (f (m * 5))) ∧ w'.cell? ⟨w1.heap.size, 1, none⟩ = some (.int .i64 (f (m * 5 + 1))) ∧ w'.cell? ⟨w1.heap.size, 2, none⟩ = some (.int .i64 (f (m * 5 + 2))) ∧ w'.cell? ⟨w1.heap.size, 3, none⟩ = some (.int .i64 (f (m * 5 + 3))) ∧ w'.cell? ⟨w1.heap.size, 4, none⟩ = some (.int .i64 (f (m * 5 + 4))))
          (first | go_keep | ((repeat' apply And.intro) <;> (first | go_keep | (refine (HBX.cell (by first | exact hbr | exact pg)).trans ?_; assumption))))
          (first | (go_at_call 23; refine (l26Worth_any _ _ _ _ _ _).mono ?_; rintro e w2 ⟨rfl, hb2⟩; replace HBX := HBX.drew.trans (hb2.mono HBX.size); clear hb2) | (go_at_call 23; refine (l26Worth_any _ _ _ _ _ _).mono ?_; rintro e w2 ⟨rfl, hb2⟩; replace HBX := HBX.trans (hb2.mono HBX.size); clear hb2))
        all_goals
          have hO3 := hO.below HBX
          obtain ⟨_, _, _, _, _, pf3, pg3⟩ := hO3.cells5
          have B3 : Below w1.heap.size w1 w2 := below_of hbel HBX hbel.size
          clear p0 p1 p2 p3 p4 pf c0 c1 c2 c3 c4
          go_wp2
          go_roundw
          case rel => exact ⟨k + 1, by omega, by omega, by go_num, by rw [bestTo_no (by unfold worthAt; rw [Hm.out]; exact Int.not_lt.2 hgt), Hm.out]; exact hO3, B3⟩
          case measure => simp [intOf]; omega
    · obtain rfl : k = n := by omega
      obtain ⟨p0, p1, p2, p3, p4, pf, pg⟩ := hO.cells5
      clear HS1
      go_wp2
      go_ret2
      exact ⟨rfl, below_of HB1 hbel HB1.size⟩
end Go.Proofs.YtfejgoohefhjoaaDoor
