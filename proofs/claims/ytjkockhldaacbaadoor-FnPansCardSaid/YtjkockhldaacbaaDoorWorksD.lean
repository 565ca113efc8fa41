/-
  The room in a pan: the program's and the reference's return the same.
-/
import Derived.Test.YtjkockhldaacbaaDoorPk1
import Derived.Test.YtjkockhldaacbaaDoorWorksC
namespace Go.Proofs.YtjkockhldaacbaaDoor
open Go.RowKit
set_option linter.unusedVariables false
set_option linter.unusedSimpArgs false
attribute [local go_sem ↓] Go.wp_at_zero Go.wp_at_succ
def roomAt (f : Nat → Int) (j : Nat) : Int := wrap64 (f (j * 4 + 1) - massV (f (j * 4 + 2)) (f (j * 4 + 3)))

theorem RoomInPan_no (A : Option Addr) (n c lo hi : Nat) (f : Nat → Int) (I H S P : Int) (z : Int) (w : World) (hs : Sl w lo hi 4 A n f) (hn : n ≤ 1048576) (hnc : n ≤ c) (h : goodWorks f n I H S P = false ∨ findV (pid f) z n 0 = -1) :
    Calls Tryd.prog 17 #[.agg #[.slice A n c, .int .i64 I, .int .i64 H, .int .i64 S, .int .i64 P], .int .i64 z] w fun e w' => e = .returned (.tuple #[.int .i64 0, .bool false]) ∧ Below w.heap.size w w' := by
  have HS : Hid (Sl (w.alloc (.cells #[.slice A n c, .int .i64 I, .int .i64 H, .int .i64 S, .int .i64 P] 26)) lo hi 4 A n f) := hs.below ((Below.refl _ w).alloc (Nat.le_refl _) _)
  clear hs
  cases hg : goodWorks f n I H S P with
  | false =>
    clear h
    generalize hfd : findV (pid f) z n 0 = r
    go_enter Tryd.func17, Tryd.ntmps17
    go_wp2_with fail
    refine (panAt_any A n c lo hi f I H S P z _ HS.out hn hnc).mono ?_
    rw [hfd]
    rintro e w2 ⟨rfl, hb2⟩
    have b0 : w2.cell? ⟨w.heap.size, 0, none⟩ = some (.slice A n c) := (hb2.cell (p := ⟨w.heap.size, 0, none⟩) (by simp)).trans (by simp); have b1 : w2.cell? ⟨w.heap.size, 1, none⟩ = some (.int .i64 I) := (hb2.cell (p := ⟨w.heap.size, 1, none⟩) (by simp)).trans (by simp); have b2 : w2.cell? ⟨w.heap.size, 2, none⟩ = some (.int .i64 H) := (hb2.cell (p := ⟨w.heap.size, 2, none⟩) (by simp)).trans (by simp); have b3 : w2.cell? ⟨w.heap.size, 3, none⟩ = some (.int .i64 S) := (hb2.cell (p := ⟨w.heap.size, 3, none⟩) (by simp)).trans (by simp); have b4 : w2.cell? ⟨w.heap.size, 4, none⟩ = some (.int .i64 P) := (hb2.cell (p := ⟨w.heap.size, 4, none⟩) (by simp)).trans (by simp)
    have HS2 := HS.out.below hb2
    go_wp2_with fail
    refine (isWorks_any A n c lo hi f I H S P _ HS2 hn hnc).mono ?_
    rw [hg]
    rintro e w3 ⟨rfl, hb3⟩
    have B3 := below_of hb2 hb3 hb2.size
    clear b0 b1 b2 b3 b4 HS2 hb2 hb3
    go_wp2
    go_ret2
    exact ⟨rfl, ((Below.refl _ w).alloc (Nat.le_refl _) _).trans (B3.mono (by simp))⟩
  | true =>
    have hfd : findV (pid f) z n 0 = -1 := by simpa [hg] using h
    clear h
    go_enter Tryd.func17, Tryd.ntmps17
    go_wp2_with fail
    refine (panAt_any A n c lo hi f I H S P z _ HS.out hn hnc).mono ?_
    rw [hfd]
    rintro e w2 ⟨rfl, hb2⟩
    have b0 : w2.cell? ⟨w.heap.size, 0, none⟩ = some (.slice A n c) := (hb2.cell (p := ⟨w.heap.size, 0, none⟩) (by simp)).trans (by simp); have b1 : w2.cell? ⟨w.heap.size, 1, none⟩ = some (.int .i64 I) := (hb2.cell (p := ⟨w.heap.size, 1, none⟩) (by simp)).trans (by simp); have b2 : w2.cell? ⟨w.heap.size, 2, none⟩ = some (.int .i64 H) := (hb2.cell (p := ⟨w.heap.size, 2, none⟩) (by simp)).trans (by simp); have b3 : w2.cell? ⟨w.heap.size, 3, none⟩ = some (.int .i64 S) := (hb2.cell (p := ⟨w.heap.size, 3, none⟩) (by simp)).trans (by simp); have b4 : w2.cell? ⟨w.heap.size, 4, none⟩ = some (.int .i64 P) := (hb2.cell (p := ⟨w.heap.size, 4, none⟩) (by simp)).trans (by simp)
    have HS2 := HS.out.below hb2
    go_wp2_with fail
    refine (isWorks_any A n c lo hi f I H S P _ HS2 hn hnc).mono ?_
    rw [hg]
    rintro e w3 ⟨rfl, hb3⟩
    have B3 := below_of hb2 hb3 hb2.size
    clear b0 b1 b2 b3 b4 HS2 hb2 hb3
    go_wp2
    go_ret2
    exact ⟨rfl, ((Below.refl _ w).alloc (Nat.le_refl _) _).trans (B3.mono (by simp))⟩
set_option maxRecDepth 100000 in
set_option maxHeartbeats 1000000 in
theorem RoomInPan_yes (A : Option Addr) (n c lo hi : Nat) (f : Nat → Int) (I H S P : Int) (z : Int) (w : World) (hs : Sl w lo hi 4 A n f) (hn : n ≤ 1048576) (hnc : n ≤ c) (hg : goodWorks f n I H S P = true) (j : Nat) (hj : j < n) (hfd : findV (pid f) z n 0 = (j : Int)) :
    Calls Tryd.prog 17 #[.agg #[.slice A n c, .int .i64 I, .int .i64 H, .int .i64 S, .int .i64 P], .int .i64 z] w fun e w' => e = .returned (.tuple #[.int .i64 (roomAt f j), .bool true]) ∧ Below w.heap.size w w' := by
  have HS : Hid (Sl (w.alloc (.cells #[.slice A n c, .int .i64 I, .int .i64 H, .int .i64 S, .int .i64 P] 26)) lo hi 4 A n f) := hs.below ((Below.refl _ w).alloc (Nat.le_refl _) _)
  clear hs
  have hj0 : ¬ ((j : Int) < 0) := by omega
  have hk0i : (0 : Int) ≤ (j : Int) := by omega
  have hkni : (j : Int) < (n : Int) := by omega
  · skip
    go_enter Tryd.func17, Tryd.ntmps17
    go_wp2_with fail
    refine (panAt_any A n c lo hi f I H S P z _ HS.out hn hnc).mono ?_
    rw [hfd]
    rintro e w2 ⟨rfl, hb2⟩
    have b0 : w2.cell? ⟨w.heap.size, 0, none⟩ = some (.slice A n c) := (hb2.cell (p := ⟨w.heap.size, 0, none⟩) (by simp)).trans (by simp); have b1 : w2.cell? ⟨w.heap.size, 1, none⟩ = some (.int .i64 I) := (hb2.cell (p := ⟨w.heap.size, 1, none⟩) (by simp)).trans (by simp); have b2 : w2.cell? ⟨w.heap.size, 2, none⟩ = some (.int .i64 H) := (hb2.cell (p := ⟨w.heap.size, 2, none⟩) (by simp)).trans (by simp); have b3 : w2.cell? ⟨w.heap.size, 3, none⟩ = some (.int .i64 S) := (hb2.cell (p := ⟨w.heap.size, 3, none⟩) (by simp)).trans (by simp); have b4 : w2.cell? ⟨w.heap.size, 4, none⟩ = some (.int .i64 P) := (hb2.cell (p := ⟨w.heap.size, 4, none⟩) (by simp)).trans (by simp)
    have HS2 := HS.out.below hb2
    go_wp2_with fail
    refine (isWorks_any A n c lo hi f I H S P _ HS2 hn hnc).mono ?_
    rw [hg]
    rintro e w3 ⟨rfl, hb3⟩
    have B3 := below_of hb2 hb3 hb2.size
    clear b0 b1 b2 b3 b4 HS2 hb2 hb3
    have b0 : w3.cell? ⟨w.heap.size, 0, none⟩ = some (.slice A n c) := (B3.cell (p := ⟨w.heap.size, 0, none⟩) (by simp)).trans (by simp)
    obtain ⟨b, off, rfl, hbw, HC⟩ := HS.out.open_ B3 (by omega)
    obtain ⟨c0, c1, c2, c3⟩ := cell4 HC hj
    have hbz : w.heap.size < w3.heap.size := by have := B3.size; simp at this; omega
    have HF : Hid (∀ w', Below w3.heap.size w3 w' → w'.cell? ⟨w.heap.size, 0, none⟩ = some (.slice (some ⟨b, off, none⟩) n c) ∧ w'.cell? ⟨b, off + j * 4 + 1, none⟩ = some (.int .i64 (f (j * 4 + 1))) ∧ w'.cell? ⟨b, off + j * 4 + 2, none⟩ = some (.int .i64 (f (j * 4 + 2))) ∧ w'.cell? ⟨b, off + j * 4 + 3, none⟩ = some (.int .i64 (f (j * 4 + 3)))) := fun w' hq => ⟨(hq.cell (p := ⟨w.heap.size, 0, none⟩) hbz).trans b0, (hq.cell (p := ⟨b, off + j * 4 + 1, none⟩) hbw).trans c1, (hq.cell (p := ⟨b, off + j * 4 + 2, none⟩) hbw).trans c2, (hq.cell (p := ⟨b, off + j * 4 + 3, none⟩) hbw).trans c3⟩
    clear HC HS
    go_wp2
    refine wp_region_held_drew (S := fun w' => Below (w3).heap.size (w3) w') (by kernel_rfl) ((Below.refl _ _).drew) (fun hHeld => ?_)
    refine tk (v := ?_) 0 17 HF rfl ?_ hHeld ?_
    rotate_left; · (intro _ _ _; go_simp; try with_reducible rfl)
    simp only [Act.put, p1, p2, p3]
    refine tk (v := ?_) 1 18 HF rfl ?_ hHeld ?_
    rotate_left; · (intro _ _ _; go_simp; try with_reducible rfl)
    simp only [Act.put, p1, p2, p3]
    refine tk (v := ?_) 2 19 HF rfl ?_ hHeld ?_
    rotate_left; · (intro _ _ _; go_simp; try with_reducible rfl)
    simp only [Act.put, p1, p2, p3]
    refine tk (v := ?_) 3 20 HF rfl ?_ hHeld ?_
    rotate_left; · (intro _ _ _; go_simp; try with_reducible rfl)
    simp only [Act.put, p1, p2, p3]
    refine tk (v := ?_) 4 21 HF rfl ?_ hHeld ?_
    rotate_left; · (intro _ _ _; go_simp; try with_reducible rfl)
    simp only [Act.put, p1, p2, p3]
    refine tk (v := ?_) 5 22 HF rfl ?_ hHeld ?_
    rotate_left; · (intro _ _ _; go_simp; try with_reducible rfl)
    simp only [Act.put, p1, p2, p3]
    refine tk (v := ?_) 6 23 HF rfl ?_ hHeld ?_
    rotate_left; · (intro _ _ _; go_simp; try with_reducible rfl)
    simp only [Act.put, p1, p2, p3]
    refine tk (v := ?_) 7 24 HF rfl ?_ hHeld ?_
    rotate_left; · (intro _ _ _; go_simp; try with_reducible rfl)
    simp only [Act.put, p1, p2, p3]
    refine tk (v := ?_) 8 25 HF rfl ?_ hHeld ?_
    rotate_left; · (intro _ _ _; go_simp; try with_reducible rfl)
    simp only [Act.put, p1, p2, p3]
    refine tk (v := ?_) 9 26 HF rfl ?_ hHeld ?_
    rotate_left; · (intro _ _ _; go_simp; try with_reducible rfl)
    simp only [Act.put, p1, p2, p3]
    refine tk (v := ?_) 10 27 HF rfl ?_ hHeld ?_
    rotate_left; · (intro _ _ _; go_simp; try with_reducible rfl)
    simp only [Act.put, p1, p2, p3]
    refine tk (v := ?_) 11 28 HF rfl ?_ hHeld ?_
    rotate_left; · (intro _ _ _; go_simp; try with_reducible rfl)
    simp only [Act.put, p1, p2, p3]
    refine wpAnyH_ready (rs := [12]) (by kernel_rfl) (by simp) ?_
    refine AllReadyH.cons rfl (fun K hK => ?_) AllReadyH.nil
    go_simp
    (go_at_call 33; refine (mass_any _ _ _).mono ?_; rintro e w2 ⟨rfl, hb2⟩)
    refine hK.out _ _ (hHeld.trans (hb2.mono hHeld.size)) (fun hHeld => ?_)
    clear hK K hb2
    refine tk (v := ?_) 13 30 HF rfl ?_ hHeld ?_
    rotate_left; · (intro _ _ _; go_simp; try with_reducible rfl)
    simp only [Act.put, p1, p2, p3]
    refine tk (v := ?_) 14 4 HF rfl ?_ hHeld ?_
    rotate_left; · (intro _ _ _; go_simp; try with_reducible rfl)
    simp only [Act.put, p1, p2, p3]
    refine tk (v := ?_) 15 5 HF rfl ?_ hHeld ?_
    rotate_left; · (intro _ _ _; go_simp; try with_reducible rfl)
    simp only [Act.put, p1, p2, p3]
    refine wpAnyH_done (by kernel_rfl) ?_ _
    go_wp2
    go_ret2
    exact ⟨by rw [roomAt, ← IntWalk.i64_left]; rfl, ((Below.refl _ w).alloc (Nat.le_refl _) _).trans ((below_of B3 hHeld B3.size).mono (by simp))⟩
theorem specRoomInPan_no (A : Option Addr) (n c lo hi : Nat) (f : Nat → Int) (I H S P : Int) (z : Int) (w : World) (hs : Sl w lo hi 4 A n f) (hn : n ≤ 1048576) (hnc : n ≤ c) (h : goodWorks f n I H S P = false ∨ findV (pid f) z n 0 = -1) :
    Calls Tryd.prog 18 #[.agg #[.slice A n c, .int .i64 I, .int .i64 H, .int .i64 S, .int .i64 P], .int .i64 z] w fun e w' => e = .returned (.tuple #[.int .i64 0, .bool false]) ∧ Below w.heap.size w w' := by
  have HS : Hid (Sl (w.alloc (.cells #[.slice A n c, .int .i64 I, .int .i64 H, .int .i64 S, .int .i64 P] 26)) lo hi 4 A n f) := hs.below ((Below.refl _ w).alloc (Nat.le_refl _) _)
  clear hs
  cases hg : goodWorks f n I H S P with
  | false =>
    clear h
    generalize hfd : findV (pid f) z n 0 = r
    go_enter Tryd.func18, Tryd.ntmps18
    go_wp2_with fail
    refine (l25Find_any A n c lo hi f I H S P z _ HS.out hn hnc).mono ?_
    rw [hfd]
    rintro e w2 ⟨rfl, hb2⟩
    have b0 : w2.cell? ⟨w.heap.size, 0, none⟩ = some (.slice A n c) := (hb2.cell (p := ⟨w.heap.size, 0, none⟩) (by simp)).trans (by simp); have b1 : w2.cell? ⟨w.heap.size, 1, none⟩ = some (.int .i64 I) := (hb2.cell (p := ⟨w.heap.size, 1, none⟩) (by simp)).trans (by simp); have b2 : w2.cell? ⟨w.heap.size, 2, none⟩ = some (.int .i64 H) := (hb2.cell (p := ⟨w.heap.size, 2, none⟩) (by simp)).trans (by simp); have b3 : w2.cell? ⟨w.heap.size, 3, none⟩ = some (.int .i64 S) := (hb2.cell (p := ⟨w.heap.size, 3, none⟩) (by simp)).trans (by simp); have b4 : w2.cell? ⟨w.heap.size, 4, none⟩ = some (.int .i64 P) := (hb2.cell (p := ⟨w.heap.size, 4, none⟩) (by simp)).trans (by simp)
    have HS2 := HS.out.below hb2
    go_wp2_with fail
    refine (l25Good_any A n c lo hi f I H S P _ HS2 hn hnc).mono ?_
    rw [hg]
    rintro e w3 ⟨rfl, hb3⟩
    have B3 := below_of hb2 hb3 hb2.size
    clear b0 b1 b2 b3 b4 HS2 hb2 hb3
    go_wp2
    go_ret2
    exact ⟨rfl, ((Below.refl _ w).alloc (Nat.le_refl _) _).trans (B3.mono (by simp))⟩
  | true =>
    have hfd : findV (pid f) z n 0 = -1 := by simpa [hg] using h
    clear h
    go_enter Tryd.func18, Tryd.ntmps18
    go_wp2_with fail
    refine (l25Find_any A n c lo hi f I H S P z _ HS.out hn hnc).mono ?_
    rw [hfd]
    rintro e w2 ⟨rfl, hb2⟩
    have b0 : w2.cell? ⟨w.heap.size, 0, none⟩ = some (.slice A n c) := (hb2.cell (p := ⟨w.heap.size, 0, none⟩) (by simp)).trans (by simp); have b1 : w2.cell? ⟨w.heap.size, 1, none⟩ = some (.int .i64 I) := (hb2.cell (p := ⟨w.heap.size, 1, none⟩) (by simp)).trans (by simp); have b2 : w2.cell? ⟨w.heap.size, 2, none⟩ = some (.int .i64 H) := (hb2.cell (p := ⟨w.heap.size, 2, none⟩) (by simp)).trans (by simp); have b3 : w2.cell? ⟨w.heap.size, 3, none⟩ = some (.int .i64 S) := (hb2.cell (p := ⟨w.heap.size, 3, none⟩) (by simp)).trans (by simp); have b4 : w2.cell? ⟨w.heap.size, 4, none⟩ = some (.int .i64 P) := (hb2.cell (p := ⟨w.heap.size, 4, none⟩) (by simp)).trans (by simp)
    have HS2 := HS.out.below hb2
    go_wp2_with fail
    refine (l25Good_any A n c lo hi f I H S P _ HS2 hn hnc).mono ?_
    rw [hg]
    rintro e w3 ⟨rfl, hb3⟩
    have B3 := below_of hb2 hb3 hb2.size
    clear b0 b1 b2 b3 b4 HS2 hb2 hb3
    go_wp2
    go_ret2
    exact ⟨rfl, ((Below.refl _ w).alloc (Nat.le_refl _) _).trans (B3.mono (by simp))⟩
set_option maxRecDepth 100000 in
set_option maxHeartbeats 1000000 in
theorem specRoomInPan_yes (A : Option Addr) (n c lo hi : Nat) (f : Nat → Int) (I H S P : Int) (z : Int) (w : World) (hs : Sl w lo hi 4 A n f) (hn : n ≤ 1048576) (hnc : n ≤ c) (hg : goodWorks f n I H S P = true) (j : Nat) (hj : j < n) (hfd : findV (pid f) z n 0 = (j : Int)) :
    Calls Tryd.prog 18 #[.agg #[.slice A n c, .int .i64 I, .int .i64 H, .int .i64 S, .int .i64 P], .int .i64 z] w fun e w' => e = .returned (.tuple #[.int .i64 (roomAt f j), .bool true]) ∧ Below w.heap.size w w' := by
  have HS : Hid (Sl (w.alloc (.cells #[.slice A n c, .int .i64 I, .int .i64 H, .int .i64 S, .int .i64 P] 26)) lo hi 4 A n f) := hs.below ((Below.refl _ w).alloc (Nat.le_refl _) _)
  clear hs
  have hj0 : ¬ ((j : Int) < 0) := by omega
  have hk0i : (0 : Int) ≤ (j : Int) := by omega
  have hkni : (j : Int) < (n : Int) := by omega
  · skip
    go_enter Tryd.func18, Tryd.ntmps18
    go_wp2_with fail
    refine (l25Find_any A n c lo hi f I H S P z _ HS.out hn hnc).mono ?_
    rw [hfd]
    rintro e w2 ⟨rfl, hb2⟩
    have b0 : w2.cell? ⟨w.heap.size, 0, none⟩ = some (.slice A n c) := (hb2.cell (p := ⟨w.heap.size, 0, none⟩) (by simp)).trans (by simp); have b1 : w2.cell? ⟨w.heap.size, 1, none⟩ = some (.int .i64 I) := (hb2.cell (p := ⟨w.heap.size, 1, none⟩) (by simp)).trans (by simp); have b2 : w2.cell? ⟨w.heap.size, 2, none⟩ = some (.int .i64 H) := (hb2.cell (p := ⟨w.heap.size, 2, none⟩) (by simp)).trans (by simp); have b3 : w2.cell? ⟨w.heap.size, 3, none⟩ = some (.int .i64 S) := (hb2.cell (p := ⟨w.heap.size, 3, none⟩) (by simp)).trans (by simp); have b4 : w2.cell? ⟨w.heap.size, 4, none⟩ = some (.int .i64 P) := (hb2.cell (p := ⟨w.heap.size, 4, none⟩) (by simp)).trans (by simp)
    have HS2 := HS.out.below hb2
    go_wp2_with fail
    refine (l25Good_any A n c lo hi f I H S P _ HS2 hn hnc).mono ?_
    rw [hg]
    rintro e w3 ⟨rfl, hb3⟩
    have B3 := below_of hb2 hb3 hb2.size
    clear b0 b1 b2 b3 b4 HS2 hb2 hb3
    have b0 : w3.cell? ⟨w.heap.size, 0, none⟩ = some (.slice A n c) := (B3.cell (p := ⟨w.heap.size, 0, none⟩) (by simp)).trans (by simp)
    obtain ⟨b, off, rfl, hbw, HC⟩ := HS.out.open_ B3 (by omega)
    obtain ⟨c0, c1, c2, c3⟩ := cell4 HC hj
    have hbz : w.heap.size < w3.heap.size := by have := B3.size; simp at this; omega
    have HF : Hid (∀ w', Below w3.heap.size w3 w' → w'.cell? ⟨w.heap.size, 0, none⟩ = some (.slice (some ⟨b, off, none⟩) n c) ∧ w'.cell? ⟨b, off + j * 4 + 1, none⟩ = some (.int .i64 (f (j * 4 + 1))) ∧ w'.cell? ⟨b, off + j * 4 + 2, none⟩ = some (.int .i64 (f (j * 4 + 2))) ∧ w'.cell? ⟨b, off + j * 4 + 3, none⟩ = some (.int .i64 (f (j * 4 + 3)))) := fun w' hq => ⟨(hq.cell (p := ⟨w.heap.size, 0, none⟩) hbz).trans b0, (hq.cell (p := ⟨b, off + j * 4 + 1, none⟩) hbw).trans c1, (hq.cell (p := ⟨b, off + j * 4 + 2, none⟩) hbw).trans c2, (hq.cell (p := ⟨b, off + j * 4 + 3, none⟩) hbw).trans c3⟩
    clear HC HS
    go_wp2
    refine wp_region_held_drew (S := fun w' => Below (w3).heap.size (w3) w') (by kernel_rfl) ((Below.refl _ _).drew) (fun hHeld => ?_)
    refine tk (v := ?_) 0 17 HF rfl ?_ hHeld ?_
    rotate_left; · (intro _ _ _; go_simp; try with_reducible rfl)
    simp only [Act.put, p1, p2, p3]
    refine tk (v := ?_) 1 18 HF rfl ?_ hHeld ?_
    rotate_left; · (intro _ _ _; go_simp; try with_reducible rfl)
    simp only [Act.put, p1, p2, p3]
    refine tk (v := ?_) 2 19 HF rfl ?_ hHeld ?_
    rotate_left; · (intro _ _ _; go_simp; try with_reducible rfl)
    simp only [Act.put, p1, p2, p3]
    refine tk (v := ?_) 3 20 HF rfl ?_ hHeld ?_
    rotate_left; · (intro _ _ _; go_simp; try with_reducible rfl)
    simp only [Act.put, p1, p2, p3]
    refine tk (v := ?_) 4 21 HF rfl ?_ hHeld ?_
    rotate_left; · (intro _ _ _; go_simp; try with_reducible rfl)
    simp only [Act.put, p1, p2, p3]
    refine tk (v := ?_) 5 22 HF rfl ?_ hHeld ?_
    rotate_left; · (intro _ _ _; go_simp; try with_reducible rfl)
    simp only [Act.put, p1, p2, p3]
    refine tk (v := ?_) 6 23 HF rfl ?_ hHeld ?_
    rotate_left; · (intro _ _ _; go_simp; try with_reducible rfl)
    simp only [Act.put, p1, p2, p3]
    refine tk (v := ?_) 7 24 HF rfl ?_ hHeld ?_
    rotate_left; · (intro _ _ _; go_simp; try with_reducible rfl)
    simp only [Act.put, p1, p2, p3]
    refine tk (v := ?_) 8 25 HF rfl ?_ hHeld ?_
    rotate_left; · (intro _ _ _; go_simp; try with_reducible rfl)
    simp only [Act.put, p1, p2, p3]
    refine tk (v := ?_) 9 26 HF rfl ?_ hHeld ?_
    rotate_left; · (intro _ _ _; go_simp; try with_reducible rfl)
    simp only [Act.put, p1, p2, p3]
    refine tk (v := ?_) 10 27 HF rfl ?_ hHeld ?_
    rotate_left; · (intro _ _ _; go_simp; try with_reducible rfl)
    simp only [Act.put, p1, p2, p3]
    refine tk (v := ?_) 11 28 HF rfl ?_ hHeld ?_
    rotate_left; · (intro _ _ _; go_simp; try with_reducible rfl)
    simp only [Act.put, p1, p2, p3]
    refine wpAnyH_ready (rs := [12]) (by kernel_rfl) (by simp) ?_
    refine AllReadyH.cons rfl (fun K hK => ?_) AllReadyH.nil
    go_simp
    (go_at_call 28; refine (l2Mass_any _ _ _).mono ?_; rintro e w2 ⟨rfl, hb2⟩)
    refine hK.out _ _ (hHeld.trans (hb2.mono hHeld.size)) (fun hHeld => ?_)
    clear hK K hb2
    refine tk (v := ?_) 13 30 HF rfl ?_ hHeld ?_
    rotate_left; · (intro _ _ _; go_simp; try with_reducible rfl)
    simp only [Act.put, p1, p2, p3]
    refine tk (v := ?_) 14 4 HF rfl ?_ hHeld ?_
    rotate_left; · (intro _ _ _; go_simp; try with_reducible rfl)
    simp only [Act.put, p1, p2, p3]
    refine tk (v := ?_) 15 5 HF rfl ?_ hHeld ?_
    rotate_left; · (intro _ _ _; go_simp; try with_reducible rfl)
    simp only [Act.put, p1, p2, p3]
    refine wpAnyH_done (by kernel_rfl) ?_ _
    go_wp2
    go_ret2
    exact ⟨by rw [roomAt, ← IntWalk.i64_left]; rfl, ((Below.refl _ w).alloc (Nat.le_refl _) _).trans ((below_of B3 hHeld B3.size).mono (by simp))⟩
end Go.Proofs.YtjkockhldaacbaaDoor
