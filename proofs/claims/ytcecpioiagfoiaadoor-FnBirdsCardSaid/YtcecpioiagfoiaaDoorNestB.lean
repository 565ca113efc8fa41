/-
  NearestNest: the program's and the reference's return the first of the nests of the least square, and the square.
-/
import Derived.Test.YtcecpioiagfoiaaDoorNestA
import Derived.Test.YtcecpioiagfoiaaDoorOwn
import Derived.Test.YtcecpioiagfoiaaDoorSmall
namespace Go.Proofs.YtcecpioiagfoiaaDoor
open Go.RowKit
set_option linter.unusedVariables false
set_option linter.unusedSimpArgs false
attribute [local go_sem ↓] Go.wp_at_zero Go.wp_at_succ
def sqV (X Y x y : Int) : Int := wrap64 (wrap64 (wrap64 (X - x) * wrap64 (X - x)) + wrap64 (wrap64 (Y - y) * wrap64 (Y - y)))
def sqAt (f : Nat → Int) (x y : Int) (k : Nat) : Int := sqV (f (k * 7 + 5)) (f (k * 7 + 6)) x y
def nearLt (f : Nat → Int) (x y : Int) (a k : Nat) : Bool := decide (sqAt f x y k < sqAt f x y a)
def nearTo (f : Nat → Int) (x y : Int) : Nat → Nat := bestBy (nearLt f x y)
theorem nearTo_yes {f : Nat → Int} {x y : Int} {k m : Nat} (hm : nearTo f x y k = m) (h : sqAt f x y k < sqAt f x y m) : nearTo f x y (k + 1) = k := by
  subst hm; exact bestBy_yes (by simpa [nearLt, nearTo] using h)
theorem nearTo_no {f : Nat → Int} {x y : Int} {k m : Nat} (hm : nearTo f x y k = m) (h : ¬ sqAt f x y k < sqAt f x y m) : nearTo f x y (k + 1) = m := by
  subst hm; exact bestBy_no (by simpa [nearLt, nearTo] using h)
theorem nearTo_one (f : Nat → Int) (x y : Int) : nearTo f x y 1 = 0 := bestBy_one _

theorem square_any (i k p d b x y u v : Int) (w : World) :
    Calls Tryd.prog 27 #[.agg #[.int .i64 i, .int .i64 k, .int .i64 p, .int .i64 d, .int .i64 b, .int .i64 x, .int .i64 y], .int .i64 u, .int .i64 v] w fun e w' => e = .returned (.int .i64 (sqV x y u v)) ∧ Below w.heap.size w w' := by
  go_enter Tryd.func27, Tryd.ntmps27
  go_wp2
  go_ret
  exact ⟨rfl, by go_grown⟩
theorem l24Square_any (i k p d b x y u v : Int) (w : World) :
    Calls Tryd.prog 29 #[.agg #[.int .i64 i, .int .i64 k, .int .i64 p, .int .i64 d, .int .i64 b, .int .i64 x, .int .i64 y], .int .i64 u, .int .i64 v] w fun e w' => e = .returned (.int .i64 (sqV x y u v)) ∧ Below w.heap.size w w' := by
  go_enter Tryd.func29, Tryd.ntmps29
  go_wp2
  go_ret
  exact ⟨rfl, by go_grown⟩
set_option maxRecDepth 100000 in
set_option maxHeartbeats 1000000 in
theorem NearestNest_no (A : Option Addr) (n c lo hi : Nat) (f : Nat → Int) (x y : Int) (w : World) (hs : Sl w lo hi 7 A n f) (hn : n ≤ 1048576) (hnc : n ≤ c) (h : goodNests f n = false ∨ n = 0 ∨ inR x 0 999 = false ∨ inR y 0 999 = false) :
    Calls Tryd.prog 11 #[.slice A n c, .int .i64 x, .int .i64 y] w fun e w' => e = .returned (.tuple #[.int .i64 0, .int .i64 0, .bool false]) ∧ Below w.heap.size w w' := by
  have HS : Hid (Sl w lo hi 7 A n f) := hs
  clear hs
  cases hg : goodNests f n with
  | false =>
    clear h
    go_enter Tryd.func11, Tryd.ntmps11
    go_wp2_with (go_at_call 9; refine (NestAll_any A n c lo hi f w HS.out hn hnc).mono ?_; rintro e w1 ⟨rfl, hb1⟩)
    go_ret3
    exact ⟨rfl, hb1⟩
  | true =>
    have h' : n = 0 ∨ inR x 0 999 = false ∨ inR y 0 999 = false := by simpa [hg] using h
    clear h
    by_cases h0 : n = 0
    · subst h0
      clear h'
      cases hx : inR x 0 999 <;> cases hy : inR y 0 999
      all_goals
        go_enter Tryd.func11, Tryd.ntmps11
        go_wp2_with (first | (go_at_call 9; refine (NestAll_any A 0 c lo hi f w HS.out hn hnc).mono ?_; rintro e w1 ⟨rfl, hb1⟩) | (go_at_call 33; refine (isPlace_any _ _).mono ?_; rintro e w2 ⟨rfl, rfl⟩))
        go_ret3
        exact ⟨rfl, hb1⟩
    · have hnb : ((n : Int) == 0) = false := by simp; omega
      have h'' : inR x 0 999 = false ∨ inR y 0 999 = false := by rcases h' with e | e; · exact absurd e h0
                                                                 · exact e
      clear h'
      cases hx : inR x 0 999 <;> cases hy : inR y 0 999 <;> first | (simp [hx, hy] at h''; done) | skip
      all_goals
        clear h''
        go_enter Tryd.func11, Tryd.ntmps11
        go_wp2_with (first | (go_at_call 9; refine (NestAll_any A n c lo hi f w HS.out hn hnc).mono ?_; rintro e w1 ⟨rfl, hb1⟩) | (go_at_call 33; refine (isPlace_any _ _).mono ?_; rintro e w2 ⟨rfl, rfl⟩))
        go_ret3
        exact ⟨rfl, hb1⟩
set_option maxRecDepth 100000 in
set_option maxHeartbeats 2000000 in
theorem NearestNest_yes (A : Option Addr) (n c lo hi : Nat) (f : Nat → Int) (x y : Int) (w : World) (hs : Sl w lo hi 7 A n f) (hn : n ≤ 1048576) (hnc : n ≤ c) (h : goodNests f n = true) (h0 : 0 < n) (hx : inR x 0 999 = true) (hy : inR y 0 999 = true) :
    Calls Tryd.prog 11 #[.slice A n c, .int .i64 x, .int .i64 y] w fun e w' => e = .returned (.tuple #[.int .i64 (f (nearTo f x y n * 7)), .int .i64 (sqAt f x y (nearTo f x y n)), .bool true]) ∧ Below w.heap.size w w' := by
  have HS : Hid (Sl w lo hi 7 A n f) := hs
  clear hs
  have hnb : ((n : Int) == 0) = false := by simp; omega
  have hni : (0 : Int) < (n : Int) := by omega
  go_enter Tryd.func11, Tryd.ntmps11
  go_wp2_with fail
  refine (NestAll_any A n c lo hi f w HS.out hn hnc).mono ?_
  rintro e w1 ⟨rfl, hb1⟩
  have HB1 : Below w.heap.size w w1 := hb1
  have HS1 : Hid (Sl w1 lo hi 7 A n f) := HS.out.below hb1
  clear HS hb1
  obtain ⟨b, off, rfl, hbw, HC⟩ := HS1.out.open_ (Below.refl _ _) (by omega)
  obtain ⟨c0, c1, c2, c3, c4, c5, c6⟩ := cell7 HC h0
  simp only [Nat.zero_mul, Nat.add_zero, Nat.zero_add] at c0 c1 c2 c3 c4 c5 c6
  clear HC
  go_wp2_with (go_at_call 33; refine (isPlace_any _ _).mono ?_; rintro e w2 ⟨rfl, rfl⟩)
  clear c0 c1 c2 c3 c4 c5 c6
  go_loopw [35] (fun i wr => ∃ k : Nat, k ≤ n ∧ i = .int .i64 k ∧ Own wr w1.heap.size (w1.heap.size + 1) 36 7 (some ⟨w1.heap.size, 0, none⟩) 1 (fun j => f (nearTo f x y k * 7 + j)) ∧ Below w1.heap.size w1 wr) (fun i _ => n - (intOf i).toNat)
  case atStart => exact ⟨0, Nat.zero_le _, rfl, own_new7 _ _ _ _ _ _ _ _ _ _ rfl rfl rfl rfl rfl rfl rfl, (Below.refl _ _).alloc (Nat.le_refl _) _⟩
  case round =>
    obtain ⟨k, hk, rfl, hO, hbel⟩ := hrel
    by_cases hlt : k < n
    · obtain ⟨hbr, HC⟩ := HS1.out.open_at hbel (by omega)
      obtain ⟨c0, c1, c2, c3, c4, c5, c6⟩ := cell7 HC hlt
      clear HC
      generalize hm : nearTo f x y k = m at hO
      have Hm : Hid (nearTo f x y k = m) := hm
      clear hm
      obtain ⟨p0, p1, p2, p3, p4, p5, p6, pf, pg⟩ := hO.cells7
      simp only [Nat.add_zero] at p0
      have HBX : Below (wr.alloc (.cells #[.int .i64 (f (k * 7)), .int .i64 (f (k * 7 + 1)), .int .i64 (f (k * 7 + 2)), .int .i64 (f (k * 7 + 3)), .int .i64 (f (k * 7 + 4)), .int .i64 (f (k * 7 + 5)), .int .i64 (f (k * 7 + 6))] 36)).heap.size (wr.alloc (.cells #[.int .i64 (f (k * 7)), .int .i64 (f (k * 7 + 1)), .int .i64 (f (k * 7 + 2)), .int .i64 (f (k * 7 + 3)), .int .i64 (f (k * 7 + 4)), .int .i64 (f (k * 7 + 5)), .int .i64 (f (k * 7 + 6))] 36)) (wr.alloc (.cells #[.int .i64 (f (k * 7)), .int .i64 (f (k * 7 + 1)), .int .i64 (f (k * 7 + 2)), .int .i64 (f (k * 7 + 3)), .int .i64 (f (k * 7 + 4)), .int .i64 (f (k * 7 + 5)), .int .i64 (f (k * 7 + 6))] 36)) := Below.refl _ _
      have hk0 : (0 : Int) ≤ (k : Int) := by omega
      have hki : (k : Int) < (n : Int) := by omega
      by_cases hgt : sqV (f (k * 7 + 5)) (f (k * 7 + 6)) x y < sqV (f (m * 7 + 5)) (f (m * 7 + 6)) x y
      · go_wp2
        go_region_held3 (fun w' => w'.cell? ⟨wr.heap.size, 0, none⟩ = some (.int .i64 (f (k * 7))) ∧ w'.cell? ⟨wr.heap.size, 1, none⟩ = some (.int .i64 (f (k * 7 + 1))) ∧ w'.cell? ⟨wr.heap.size, 2, none⟩ = some (.int .i64 (f (k * 7 + 2))) ∧ w'.cell? ⟨wr.heap.size, 3, none⟩ = some (.int .i64 (f (k * 7 + 3))) ∧ w'.cell? ⟨wr.heap.size, 4, none⟩ = some (.int .i64 (f (k * 7 + 4))) ∧ w'.cell? ⟨wr.heap.size, 5, none⟩ = some (.int .i64 (f (k * 7 + 5))) ∧ w'.cell? ⟨wr.heap.size, 6, none⟩ = some (.int .i64 (f (k * 7 + 6))) ∧
            w'.cell? ⟨w1.heap.size, 0, none⟩ = some (.int .i64 (f (m * 7))) ∧ w'.cell? ⟨w1.heap.size, 1, none⟩ = some (.int .i64 (f (m * 7 + 1))) ∧ w'.cell? ⟨w1.heap.size, 2, none⟩ = some (.int .i64 (f (m * 7 + 2))) ∧ w'.cell? ⟨w1.heap.size, 3, none⟩ = some (.int .i64 (f (m * 7 + 3))) ∧ w'.cell? ⟨w1.heap.size, 4, none⟩ = some (.int .i64 (f (m * 7 + 4))) ∧ w'.cell? ⟨w1.heap.size, 5, none⟩ = some (.int .i64 (f (m * 7 + 5))) ∧ w'.cell? ⟨w1.heap.size, 6, none⟩ = some (.int .i64 (f (m * 7 + 6))))
          (first | go_keep | ((repeat' apply And.intro) <;> (first | go_keep | (refine (HBX.cell (by first | (simp; done) | (simp; omega))).trans ((World.cell?_alloc_lt _ _ _ pg).trans ?_); assumption) | (refine (HBX.cell (by first | (simp; done) | (simp; omega))).trans ?_; simp [*]))))
          (first | (go_at_call 27; refine (square_any _ _ _ _ _ _ _ _ _ _).mono ?_; rintro e w2 ⟨rfl, hb2⟩; replace HBX := HBX.drew.trans (hb2.mono HBX.size); clear hb2) | (go_at_call 27; refine (square_any _ _ _ _ _ _ _ _ _ _).mono ?_; rintro e w2 ⟨rfl, hb2⟩; replace HBX := HBX.trans (hb2.mono HBX.size); clear hb2))
        all_goals
          have hO3 := (hO.below ((Below.refl _ wr).alloc (Nat.le_refl _) _)).below HBX
          obtain ⟨_, _, _, _, _, _, _, pf3, pg3⟩ := hO3.cells7
          have B3 : Below w1.heap.size w1 w2 := below_of hbel (((Below.refl _ wr).alloc (Nat.le_refl _) _).trans (HBX.mono (by simp))) hbel.size
          clear p0 p1 p2 p3 p4 p5 p6 pf c0 c1 c2 c3 c4 c5 c6
          go_wp2
          go_roundw
          case rel => exact ⟨k + 1, by omega, by go_num, by rw [nearTo_yes Hm.out hgt]; exact hO3.put7 rfl rfl rfl rfl rfl rfl rfl, (((((((B3.setCell (Nat.le_refl _) _).setCell (Nat.le_refl _) _).setCell (Nat.le_refl _) _).setCell (Nat.le_refl _) _).setCell (Nat.le_refl _) _).setCell (Nat.le_refl _) _).setCell (Nat.le_refl _) _)⟩
          case measure => simp [intOf]; omega
      · go_wp2
        go_region_held3 (fun w' => w'.cell? ⟨wr.heap.size, 0, none⟩ = some (.int .i64 (f (k * 7))) ∧ w'.cell? ⟨wr.heap.size, 1, none⟩ = some (.int .i64 (f (k * 7 + 1))) ∧ w'.cell? ⟨wr.heap.size, 2, none⟩ = some (.int .i64 (f (k * 7 + 2))) ∧ w'.cell? ⟨wr.heap.size, 3, none⟩ = some (.int .i64 (f (k * 7 + 3))) ∧ w'.cell? ⟨wr.heap.size, 4, none⟩ = some (.int .i64 (f (k * 7 + 4))) ∧ w'.cell? ⟨wr.heap.size, 5, none⟩ = some (.int .i64 (f (k * 7 + 5))) ∧ w'.cell? ⟨wr.heap.size, 6, none⟩ = some (.int .i64 (f (k * 7 + 6))) ∧
            w'.cell? ⟨w1.heap.size, 0, none⟩ = some (.int .i64 (f (m * 7))) ∧ w'.cell? ⟨w1.heap.size, 1, none⟩ = some (.int .i64 (f (m * 7 + 1))) ∧ w'.cell? ⟨w1.heap.size, 2, none⟩ = some (.int .i64 (f (m * 7 + 2))) ∧ w'.cell? ⟨w1.heap.size, 3, none⟩ = some (.int .i64 (f (m * 7 + 3))) ∧ w'.cell? ⟨w1.heap.size, 4, none⟩ = some (.int .i64 (f (m * 7 + 4))) ∧ w'.cell? ⟨w1.heap.size, 5, none⟩ = some (.int .i64 (f (m * 7 + 5))) ∧ w'.cell? ⟨w1.heap.size, 6, none⟩ = some (.int .i64 (f (m * 7 + 6))))
          (first | go_keep | ((repeat' apply And.intro) <;> (first | go_keep | (refine (HBX.cell (by first | (simp; done) | (simp; omega))).trans ((World.cell?_alloc_lt _ _ _ pg).trans ?_); assumption) | (refine (HBX.cell (by first | (simp; done) | (simp; omega))).trans ?_; simp [*]))))
          (first | (go_at_call 27; refine (square_any _ _ _ _ _ _ _ _ _ _).mono ?_; rintro e w2 ⟨rfl, hb2⟩; replace HBX := HBX.drew.trans (hb2.mono HBX.size); clear hb2) | (go_at_call 27; refine (square_any _ _ _ _ _ _ _ _ _ _).mono ?_; rintro e w2 ⟨rfl, hb2⟩; replace HBX := HBX.trans (hb2.mono HBX.size); clear hb2))
        all_goals
          have hO3 := (hO.below ((Below.refl _ wr).alloc (Nat.le_refl _) _)).below HBX
          obtain ⟨_, _, _, _, _, _, _, pf3, pg3⟩ := hO3.cells7
          have B3 : Below w1.heap.size w1 w2 := below_of hbel (((Below.refl _ wr).alloc (Nat.le_refl _) _).trans (HBX.mono (by simp))) hbel.size
          clear p0 p1 p2 p3 p4 p5 p6 pf c0 c1 c2 c3 c4 c5 c6
          go_wp2
          go_roundw
          case rel => exact ⟨k + 1, by omega, by go_num, by rw [nearTo_no Hm.out (Int.not_lt.2 hgt)]; exact hO3, B3⟩
          case measure => simp [intOf]; omega
    · obtain rfl : k = n := by omega
      generalize hm : nearTo f x y k = m at hO
      have Hm : Hid (nearTo f x y k = m) := hm
      clear hm
      obtain ⟨p0, p1, p2, p3, p4, p5, p6, pf, pg⟩ := hO.cells7
      simp only [Nat.add_zero] at p0
      have HBX : Below wr.heap.size wr wr := Below.refl _ _
      clear HS1
      go_wp2
      go_region_held3 (fun w' => w'.cell? ⟨w1.heap.size, 0, none⟩ = some (.int .i64 (f (m * 7))) ∧ w'.cell? ⟨w1.heap.size, 1, none⟩ = some (.int .i64 (f (m * 7 + 1))) ∧ w'.cell? ⟨w1.heap.size, 2, none⟩ = some (.int .i64 (f (m * 7 + 2))) ∧ w'.cell? ⟨w1.heap.size, 3, none⟩ = some (.int .i64 (f (m * 7 + 3))) ∧ w'.cell? ⟨w1.heap.size, 4, none⟩ = some (.int .i64 (f (m * 7 + 4))) ∧ w'.cell? ⟨w1.heap.size, 5, none⟩ = some (.int .i64 (f (m * 7 + 5))) ∧ w'.cell? ⟨w1.heap.size, 6, none⟩ = some (.int .i64 (f (m * 7 + 6))))
        (first | go_keep | ((repeat' apply And.intro) <;> (first | go_keep | (refine (HBX.cell (by exact pg)).trans ?_; assumption))))
        (first | (go_at_call 27; refine (square_any _ _ _ _ _ _ _ _ _ _).mono ?_; rintro e w2 ⟨rfl, hb2⟩; replace HBX := HBX.drew.trans (hb2.mono HBX.size); clear hb2) | (go_at_call 27; refine (square_any _ _ _ _ _ _ _ _ _ _).mono ?_; rintro e w2 ⟨rfl, hb2⟩; replace HBX := HBX.trans (hb2.mono HBX.size); clear hb2))
      all_goals
        go_wp2
        go_ret3
        exact ⟨by rw [Hm.out]; rfl, below_of (below_of HB1 hbel HB1.size) HBX (by have := HB1.size; have := hbel.size; omega)⟩
set_option maxRecDepth 100000 in
set_option maxHeartbeats 1000000 in
theorem sNearestNest_no (A : Option Addr) (n c lo hi : Nat) (f : Nat → Int) (x y : Int) (w : World) (hs : Sl w lo hi 7 A n f) (hn : n ≤ 1048576) (hnc : n ≤ c) (h : goodNests f n = false ∨ n = 0 ∨ inR x 0 999 = false ∨ inR y 0 999 = false) :
    Calls Tryd.prog 12 #[.slice A n c, .int .i64 x, .int .i64 y] w fun e w' => e = .returned (.tuple #[.int .i64 0, .int .i64 0, .bool false]) ∧ Below w.heap.size w w' := by
  have HS : Hid (Sl w lo hi 7 A n f) := hs
  clear hs
  cases hg : goodNests f n with
  | false =>
    clear h
    go_enter Tryd.func12, Tryd.ntmps12
    go_wp2_with (go_at_call 28; refine (sNestAll_any A n c lo hi f w HS.out hn hnc).mono ?_; rintro e w1 ⟨rfl, hb1⟩)
    go_ret3
    exact ⟨rfl, hb1⟩
  | true =>
    have h' : n = 0 ∨ inR x 0 999 = false ∨ inR y 0 999 = false := by simpa [hg] using h
    clear h
    by_cases h0 : n = 0
    · subst h0
      clear h'
      cases hx : inR x 0 999 <;> cases hy : inR y 0 999
      all_goals
        go_enter Tryd.func12, Tryd.ntmps12
        go_wp2_with (first | (go_at_call 28; refine (sNestAll_any A 0 c lo hi f w HS.out hn hnc).mono ?_; rintro e w1 ⟨rfl, hb1⟩) | (go_at_call 34; refine (l24Meter_any _ _).mono ?_; rintro e w2 ⟨rfl, rfl⟩))
        go_ret3
        exact ⟨rfl, hb1⟩
    · have hnb : ((n : Int) == 0) = false := by simp; omega
      have h'' : inR x 0 999 = false ∨ inR y 0 999 = false := by rcases h' with e | e; · exact absurd e h0
                                                                 · exact e
      clear h'
      cases hx : inR x 0 999 <;> cases hy : inR y 0 999 <;> first | (simp [hx, hy] at h''; done) | skip
      all_goals
        clear h''
        go_enter Tryd.func12, Tryd.ntmps12
        go_wp2_with (first | (go_at_call 28; refine (sNestAll_any A n c lo hi f w HS.out hn hnc).mono ?_; rintro e w1 ⟨rfl, hb1⟩) | (go_at_call 34; refine (l24Meter_any _ _).mono ?_; rintro e w2 ⟨rfl, rfl⟩))
        go_ret3
        exact ⟨rfl, hb1⟩
set_option maxRecDepth 100000 in
set_option maxHeartbeats 2000000 in
theorem sNearestNest_yes (A : Option Addr) (n c lo hi : Nat) (f : Nat → Int) (x y : Int) (w : World) (hs : Sl w lo hi 7 A n f) (hn : n ≤ 1048576) (hnc : n ≤ c) (h : goodNests f n = true) (h0 : 0 < n) (hx : inR x 0 999 = true) (hy : inR y 0 999 = true) :
    Calls Tryd.prog 12 #[.slice A n c, .int .i64 x, .int .i64 y] w fun e w' => e = .returned (.tuple #[.int .i64 (f (nearTo f x y n * 7)), .int .i64 (sqAt f x y (nearTo f x y n)), .bool true]) ∧ Below w.heap.size w w' := by
  have HS : Hid (Sl w lo hi 7 A n f) := hs
  clear hs
  have hnb : ((n : Int) == 0) = false := by simp; omega
  have hni : (0 : Int) < (n : Int) := by omega
  go_enter Tryd.func12, Tryd.ntmps12
  go_wp2_with fail
  refine (sNestAll_any A n c lo hi f w HS.out hn hnc).mono ?_
  rintro e w1 ⟨rfl, hb1⟩
  have HB1 : Below w.heap.size w w1 := hb1
  have HS1 : Hid (Sl w1 lo hi 7 A n f) := HS.out.below hb1
  clear HS hb1
  obtain ⟨b, off, rfl, hbw, HC⟩ := HS1.out.open_ (Below.refl _ _) (by omega)
  obtain ⟨c0, c1, c2, c3, c4, c5, c6⟩ := cell7 HC h0
  simp only [Nat.zero_mul, Nat.add_zero, Nat.zero_add] at c0 c1 c2 c3 c4 c5 c6
  clear HC
  go_wp2_with (go_at_call 34; refine (l24Meter_any _ _).mono ?_; rintro e w2 ⟨rfl, rfl⟩)
  clear c0 c1 c2 c3 c4 c5 c6
  go_loopw [10] (fun i wr => ∃ k : Nat, 1 ≤ k ∧ k ≤ n ∧ i = .int .i64 k ∧ Own wr w1.heap.size (w1.heap.size + 1) 36 7 (some ⟨w1.heap.size, 0, none⟩) 1 (fun j => f (nearTo f x y k * 7 + j)) ∧ Below w1.heap.size w1 wr) (fun i _ => n - (intOf i).toNat)
  case atStart => exact ⟨1, Nat.le_refl _, by omega, rfl, by rw [nearTo_one]; exact own_new7 _ _ _ _ _ _ _ _ _ _ rfl rfl rfl rfl rfl rfl rfl, (Below.refl _ _).alloc (Nat.le_refl _) _⟩
  case round =>
    obtain ⟨k, hk1, hk, rfl, hO, hbel⟩ := hrel
    by_cases hlt : k < n
    · obtain ⟨hbr, HC⟩ := HS1.out.open_at hbel (by omega)
      obtain ⟨c0, c1, c2, c3, c4, c5, c6⟩ := cell7 HC hlt
      clear HC
      generalize hm : nearTo f x y k = m at hO
      have Hm : Hid (nearTo f x y k = m) := hm
      clear hm
      obtain ⟨p0, p1, p2, p3, p4, p5, p6, pf, pg⟩ := hO.cells7
      simp only [Nat.add_zero] at p0
      have HBX : Below wr.heap.size wr wr := Below.refl _ _
      have hk0 : (0 : Int) ≤ (k : Int) := by omega
      have hki : (k : Int) < (n : Int) := by omega
      by_cases hgt : sqV (f (k * 7 + 5)) (f (k * 7 + 6)) x y < sqV (f (m * 7 + 5)) (f (m * 7 + 6)) x y
      · go_wp2
        go_region_held3 (fun w' => w'.cell? ⟨b, off + k * 7, none⟩ = some (.int .i64 (f (k * 7))) ∧ w'.cell? ⟨b, off + k * 7 + 1, none⟩ = some (.int .i64 (f (k * 7 + 1))) ∧ w'.cell? ⟨b, off + k * 7 + 2, none⟩ = some (.int .i64 (f (k * 7 + 2))) ∧ w'.cell? ⟨b, off + k * 7 + 3, none⟩ = some (.int .i64 (f (k * 7 + 3))) ∧ w'.cell? ⟨b, off + k * 7 + 4, none⟩ = some (.int .i64 (f (k * 7 + 4))) ∧ w'.cell? ⟨b, off + k * 7 + 5, none⟩ = some (.int .i64 (f (k * 7 + 5))) ∧ w'.cell? ⟨b, off + k * 7 + 6, none⟩ = some (.int .i64 (f (k * 7 + 6))) ∧
            w'.cell? ⟨w1.heap.size, 0, none⟩ = some (.int .i64 (f (m * 7))) ∧ w'.cell? ⟨w1.heap.size, 1, none⟩ = some (.int .i64 (f (m * 7 + 1))) ∧ w'.cell? ⟨w1.heap.size, 2, none⟩ = some (.int .i64 (f (m * 7 + 2))) ∧ w'.cell? ⟨w1.heap.size, 3, none⟩ = some (.int .i64 (f (m * 7 + 3))) ∧ w'.cell? ⟨w1.heap.size, 4, none⟩ = some (.int .i64 (f (m * 7 + 4))) ∧ w'.cell? ⟨w1.heap.size, 5, none⟩ = some (.int .i64 (f (m * 7 + 5))) ∧ w'.cell? ⟨w1.heap.size, 6, none⟩ = some (.int .i64 (f (m * 7 + 6))))
          (first | go_keep | ((repeat' apply And.intro) <;> (first | go_keep | (refine (HBX.cell (by first | exact hbr | exact pg)).trans ?_; assumption))))
          (first | (go_at_call 29; refine (l24Square_any _ _ _ _ _ _ _ _ _ _).mono ?_; rintro e w2 ⟨rfl, hb2⟩; replace HBX := HBX.drew.trans (hb2.mono HBX.size); clear hb2) | (go_at_call 29; refine (l24Square_any _ _ _ _ _ _ _ _ _ _).mono ?_; rintro e w2 ⟨rfl, hb2⟩; replace HBX := HBX.trans (hb2.mono HBX.size); clear hb2))
        all_goals
          have hO3 := hO.below HBX
          obtain ⟨_, _, _, _, _, _, _, pf3, pg3⟩ := hO3.cells7
          have B3 : Below w1.heap.size w1 w2 := below_of hbel HBX hbel.size
          clear p0 p1 p2 p3 p4 p5 p6 pf c0 c1 c2 c3 c4 c5 c6
          go_wp2
          go_roundw
          case rel => exact ⟨k + 1, by omega, by omega, by go_num, by rw [nearTo_yes Hm.out hgt]; exact hO3.put7 rfl rfl rfl rfl rfl rfl rfl, (((((((B3.setCell (Nat.le_refl _) _).setCell (Nat.le_refl _) _).setCell (Nat.le_refl _) _).setCell (Nat.le_refl _) _).setCell (Nat.le_refl _) _).setCell (Nat.le_refl _) _).setCell (Nat.le_refl _) _)⟩
          case measure => simp [intOf]; omega
      · go_wp2
        go_region_held3 (fun w' => w'.cell? ⟨b, off + k * 7, none⟩ = some (.int .i64 (f (k * 7))) ∧ w'.cell? ⟨b, off + k * 7 + 1, none⟩ = some (.int .i64 (f (k * 7 + 1))) ∧ w'.cell? ⟨b, off + k * 7 + 2, none⟩ = some (.int .i64 (f (k * 7 + 2))) ∧ w'.cell? ⟨b, off + k * 7 + 3, none⟩ = some (.int .i64 (f (k * 7 + 3))) ∧ w'.cell? ⟨b, off + k * 7 + 4, none⟩ = some (.int .i64 (f (k * 7 + 4))) ∧ w'.cell? ⟨b, off + k * 7 + 5, none⟩ = some (.int .i64 (f (k * 7 + 5))) ∧ w'.cell? ⟨b, off + k * 7 + 6, none⟩ = some (.int .i64 (f (k * 7 + 6))) ∧
            w'.cell? ⟨w1.heap.size, 0, none⟩ = some (.int .i64 (f (m * 7))) ∧ w'.cell? ⟨w1.heap.size, 1, none⟩ = some (.int .i64 (f (m * 7 + 1))) ∧ w'.cell? ⟨w1.heap.size, 2, none⟩ = some (.int .i64 (f (m * 7 + 2))) ∧ w'.cell? ⟨w1.heap.size, 3, none⟩ = some (.int .i64 (f (m * 7 + 3))) ∧ w'.cell? ⟨w1.heap.size, 4, none⟩ = some (.int .i64 (f (m * 7 + 4))) ∧ w'.cell? ⟨w1.heap.size, 5, none⟩ = some (.int .i64 (f (m * 7 + 5))) ∧ w'.cell? ⟨w1.heap.size, 6, none⟩ = some (.int .i64 (f (m * 7 + 6))))
          (first | go_keep | ((repeat' apply And.intro) <;> (first | go_keep | (refine (HBX.cell (by first | exact hbr | exact pg)).trans ?_; assumption))))
          (first | (go_at_call 29; refine (l24Square_any _ _ _ _ _ _ _ _ _ _).mono ?_; rintro e w2 ⟨rfl, hb2⟩; replace HBX := HBX.drew.trans (hb2.mono HBX.size); clear hb2) | (go_at_call 29; refine (l24Square_any _ _ _ _ _ _ _ _ _ _).mono ?_; rintro e w2 ⟨rfl, hb2⟩; replace HBX := HBX.trans (hb2.mono HBX.size); clear hb2))
        all_goals
          have hO3 := hO.below HBX
          obtain ⟨_, _, _, _, _, _, _, pf3, pg3⟩ := hO3.cells7
          have B3 : Below w1.heap.size w1 w2 := below_of hbel HBX hbel.size
          clear p0 p1 p2 p3 p4 p5 p6 pf c0 c1 c2 c3 c4 c5 c6
          go_wp2
          go_roundw
          case rel => exact ⟨k + 1, by omega, by omega, by go_num, by rw [nearTo_no Hm.out (Int.not_lt.2 hgt)]; exact hO3, B3⟩
          case measure => simp [intOf]; omega
    · obtain rfl : k = n := by omega
      generalize hm : nearTo f x y k = m at hO
      have Hm : Hid (nearTo f x y k = m) := hm
      clear hm
      obtain ⟨p0, p1, p2, p3, p4, p5, p6, pf, pg⟩ := hO.cells7
      simp only [Nat.add_zero] at p0
      have HBX : Below wr.heap.size wr wr := Below.refl _ _
      clear HS1
      go_wp2
      go_region_held3 (fun w' => w'.cell? ⟨w1.heap.size, 0, none⟩ = some (.int .i64 (f (m * 7))) ∧ w'.cell? ⟨w1.heap.size, 1, none⟩ = some (.int .i64 (f (m * 7 + 1))) ∧ w'.cell? ⟨w1.heap.size, 2, none⟩ = some (.int .i64 (f (m * 7 + 2))) ∧ w'.cell? ⟨w1.heap.size, 3, none⟩ = some (.int .i64 (f (m * 7 + 3))) ∧ w'.cell? ⟨w1.heap.size, 4, none⟩ = some (.int .i64 (f (m * 7 + 4))) ∧ w'.cell? ⟨w1.heap.size, 5, none⟩ = some (.int .i64 (f (m * 7 + 5))) ∧ w'.cell? ⟨w1.heap.size, 6, none⟩ = some (.int .i64 (f (m * 7 + 6))))
        (first | go_keep | ((repeat' apply And.intro) <;> (first | go_keep | (refine (HBX.cell (by exact pg)).trans ?_; assumption))))
        (first | (go_at_call 29; refine (l24Square_any _ _ _ _ _ _ _ _ _ _).mono ?_; rintro e w2 ⟨rfl, hb2⟩; replace HBX := HBX.drew.trans (hb2.mono HBX.size); clear hb2) | (go_at_call 29; refine (l24Square_any _ _ _ _ _ _ _ _ _ _).mono ?_; rintro e w2 ⟨rfl, hb2⟩; replace HBX := HBX.trans (hb2.mono HBX.size); clear hb2))
      all_goals
        go_wp2
        go_ret3
        exact ⟨by rw [Hm.out]; rfl, below_of (below_of HB1 hbel HB1.size) HBX (by have := HB1.size; have := hbel.size; omega)⟩
end Go.Proofs.YtcecpioiagfoiaaDoor
