/-
  Texts of this claim, merged.
-/
import Derived.Test.YtpndjhelpoenpaaGreatDoorZC4
set_option linter.unusedVariables false
set_option linter.unusedSimpArgs false
set_option maxRecDepth 100000
set_option maxHeartbeats 8000000
namespace Go.Proofs.YtpndjhelpoenpaaGreatDoor
open Go.RowKit
attribute [local go_sem ↓] Go.wp_at_zero Go.wp_at_succ
theorem l25Good_any (A : Option Addr) (n c lo hi : Nat) (f : Nat → Int) (I H S P : Int) (w : World) (hs : Sl w lo hi 4 A n f) (hn : n ≤ 1048576) (hnc : n ≤ c) :
  Calls Tryz.prog 80 #[.agg #[.slice A n c, .int .i64 I, .int .i64 H, .int .i64 S, .int .i64 P]] w fun e w' => e = .returned (.bool (goodWorks f n I H S P)) ∧ Below w.heap.size w w' := by
 have HS : Hid (Sl (w.alloc (.cells #[.slice A n c, .int .i64 I, .int .i64 H, .int .i64 S, .int .i64 P] 32)) lo hi 4 A n f) := hs.below ((Below.refl _ w).alloc (Nat.le_refl _) _)
 clear hs
 have HF : Hid (∀ w', Below (w.alloc (.cells #[.slice A n c, .int .i64 I, .int .i64 H, .int .i64 S, .int .i64 P] 32)).heap.size (w.alloc (.cells #[.slice A n c, .int .i64 I, .int .i64 H, .int .i64 S, .int .i64 P] 32)) w' → w'.cell? ⟨w.heap.size, 0, none⟩ = some (.slice A n c) ∧ w'.cell? ⟨w.heap.size, 1, none⟩ = some (.int .i64 I) ∧ w'.cell? ⟨w.heap.size, 2, none⟩ = some (.int .i64 H) ∧ w'.cell? ⟨w.heap.size, 3, none⟩ = some (.int .i64 S) ∧ w'.cell? ⟨w.heap.size, 4, none⟩ = some (.int .i64 P)) := fun w' hq => (cells5 (bx (g := w.heap.size) hq))
 go_enter Tryz.func80, Tryz.ntmps80
 go_wp2
 refine wp_region_held_drew (S := fun w' => Below ((w.alloc (.cells #[.slice A n c, .int .i64 I, .int .i64 H, .int .i64 S, .int .i64 P] 32))).heap.size ((w.alloc (.cells #[.slice A n c, .int .i64 I, .int .i64 H, .int .i64 S, .int .i64 P] 32))) w') (by kernel_rfl) ((Below.refl _ _).drew) (fun jd => ?_)
 refine tj 0 3 HF rfl jd ?_
 refine wpAnyH_ready (rs := [1]) (by kernel_rfl) (by simp) ?_
 refine AllReadyH.cons rfl (fun K hK => ?_) AllReadyH.nil
 go_simp
 (go_at_call 123; refine (l25Pans_any A n c lo hi f I H S P _ (HS.out.below jd) hn hnc).mono ?_; rintro e w2 ⟨rfl, hb2⟩)
 refine hK.out _ _ (jd.trans (hb2.mono jd.size)) (fun jd => ?_)
 clear hK K hb2
 refine tj 2 5 HF rfl jd ?_
 cases hp : pansOk f n with
 | false =>
  refine wpAnyH_skips (by kernel_rfl) (fun _ _ _ _ _ h => h) jd [(3, 6), (4, 7), (5, 8)] 33 3 _ _ rfl (by kernel_rfl) ?_
  simp only [skipL, skipA, Act.put, p1, p2, p3]
  refine tj2 6 9 7 10 HF jd ?_
  refine wpAnyH_skips (by kernel_rfl) (fun _ _ _ _ _ h => h) jd [(8, 11), (9, 12), (10, 13)] 28 3 _ _ rfl (by kernel_rfl) ?_
  simp only [skipL, skipA, Act.put, p1, p2, p3]
  refine tj2 11 14 12 15 HF jd ?_
  refine wpAnyH_skips (by kernel_rfl) (fun _ _ _ _ _ h => h) jd [(13, 16), (14, 17), (15, 18)] 23 3 _ _ rfl (by kernel_rfl) ?_
  simp only [skipL, skipA, Act.put, p1, p2, p3]
  refine tj2 16 19 17 20 HF jd ?_
  refine wpAnyH_skips (by kernel_rfl) (fun _ _ _ _ _ h => h) jd [(18, 21), (19, 22), (20, 23)] 18 3 _ _ rfl (by kernel_rfl) ?_
  simp only [skipL, skipA, Act.put, p1, p2, p3]
  refine tj2 21 24 22 25 HF jd ?_
  refine wpAnyH_skips (by kernel_rfl) (fun _ _ _ _ _ h => h) jd [(23, 26), (24, 27), (25, 28), (26, 29), (27, 30), (28, 31), (29, 32), (30, 33), (31, 34), (32, 35), (33, 36), (34, 37), (35, 38), (36, 39)] 2 14 _ _ rfl (by kernel_rfl) ?_
  simp only [skipL, skipA, Act.put, p1, p2, p3]
  refine tj2 37 40 38 2 HF jd ?_
  refine wpAnyH_done (by kernel_rfl) ?_ _
  go_wp2
  go_ret
  exact ⟨ret_bool (by simp [goodWorks, kilosOk, totalV, hp]; try (rw [Bool.eq_iff_iff]; simp only [beq_iff_eq, IntWalk.i64_left]; exact ⟨fun h => decide_eq_true h, fun h => of_decide_eq_true h⟩)), ((Below.refl _ w).alloc (Nat.le_refl _) _).trans (jd.mono (by simp))⟩
 | true =>
  refine tj2 3 6 4 7 HF jd ?_
  refine wpAnyH_ready (rs := [5]) (by kernel_rfl) (by simp) ?_
  refine AllReadyH.cons rfl (fun K hK => ?_) AllReadyH.nil
  go_simp
  (go_at_call 124; refine (quiet_below (l21Kilos_any _ _)).mono ?_; rintro e w2 ⟨rfl, hb2⟩)
  refine hK.out _ _ (jd.trans (hb2.mono jd.size)) (fun jd => ?_)
  clear hK K hb2
  refine tj2 6 9 7 10 HF jd ?_
  cases h1 : inR I 0 1000000 with
  | false =>
   refine wpAnyH_skips (by kernel_rfl) (fun _ _ _ _ _ h => h) jd [(8, 11), (9, 12), (10, 13)] 28 3 _ _ rfl (by kernel_rfl) ?_
   simp only [skipL, skipA, Act.put, p1, p2, p3]
   refine tj2 11 14 12 15 HF jd ?_
   refine wpAnyH_skips (by kernel_rfl) (fun _ _ _ _ _ h => h) jd [(13, 16), (14, 17), (15, 18)] 23 3 _ _ rfl (by kernel_rfl) ?_
   simp only [skipL, skipA, Act.put, p1, p2, p3]
   refine tj2 16 19 17 20 HF jd ?_
   refine wpAnyH_skips (by kernel_rfl) (fun _ _ _ _ _ h => h) jd [(18, 21), (19, 22), (20, 23)] 18 3 _ _ rfl (by kernel_rfl) ?_
   simp only [skipL, skipA, Act.put, p1, p2, p3]
   refine tj2 21 24 22 25 HF jd ?_
   refine wpAnyH_skips (by kernel_rfl) (fun _ _ _ _ _ h => h) jd [(23, 26), (24, 27), (25, 28), (26, 29), (27, 30), (28, 31), (29, 32), (30, 33), (31, 34), (32, 35), (33, 36), (34, 37), (35, 38), (36, 39)] 2 14 _ _ rfl (by kernel_rfl) ?_
   simp only [skipL, skipA, Act.put, p1, p2, p3]
   refine tj2 37 40 38 2 HF jd ?_
   refine wpAnyH_done (by kernel_rfl) ?_ _
   go_wp2
   go_ret
   exact ⟨ret_bool (by simp [goodWorks, kilosOk, totalV, hp, h1]; try (rw [Bool.eq_iff_iff]; simp only [beq_iff_eq, IntWalk.i64_left]; exact ⟨fun h => decide_eq_true h, fun h => of_decide_eq_true h⟩)), ((Below.refl _ w).alloc (Nat.le_refl _) _).trans (jd.mono (by simp))⟩
  | true =>
   refine tj2 8 11 9 12 HF jd ?_
   refine wpAnyH_ready (rs := [10]) (by kernel_rfl) (by simp) ?_
   refine AllReadyH.cons rfl (fun K hK => ?_) AllReadyH.nil
   go_simp
   (go_at_call 124; refine (quiet_below (l21Kilos_any _ _)).mono ?_; rintro e w2 ⟨rfl, hb2⟩)
   refine hK.out _ _ (jd.trans (hb2.mono jd.size)) (fun jd => ?_)
   clear hK K hb2
   refine tj2 11 14 12 15 HF jd ?_
   cases h2 : inR H 0 1000000 with
   | false =>
    refine wpAnyH_skips (by kernel_rfl) (fun _ _ _ _ _ h => h) jd [(13, 16), (14, 17), (15, 18)] 23 3 _ _ rfl (by kernel_rfl) ?_
    simp only [skipL, skipA, Act.put, p1, p2, p3]
    refine tj2 16 19 17 20 HF jd ?_
    refine wpAnyH_skips (by kernel_rfl) (fun _ _ _ _ _ h => h) jd [(18, 21), (19, 22), (20, 23)] 18 3 _ _ rfl (by kernel_rfl) ?_
    simp only [skipL, skipA, Act.put, p1, p2, p3]
    refine tj2 21 24 22 25 HF jd ?_
    refine wpAnyH_skips (by kernel_rfl) (fun _ _ _ _ _ h => h) jd [(23, 26), (24, 27), (25, 28), (26, 29), (27, 30), (28, 31), (29, 32), (30, 33), (31, 34), (32, 35), (33, 36), (34, 37), (35, 38), (36, 39)] 2 14 _ _ rfl (by kernel_rfl) ?_
    simp only [skipL, skipA, Act.put, p1, p2, p3]
    refine tj2 37 40 38 2 HF jd ?_
    refine wpAnyH_done (by kernel_rfl) ?_ _
    go_wp2
    go_ret
    exact ⟨ret_bool (by simp [goodWorks, kilosOk, totalV, hp, h1, h2]; try (rw [Bool.eq_iff_iff]; simp only [beq_iff_eq, IntWalk.i64_left]; exact ⟨fun h => decide_eq_true h, fun h => of_decide_eq_true h⟩)), ((Below.refl _ w).alloc (Nat.le_refl _) _).trans (jd.mono (by simp))⟩
   | true =>
    refine tj2 13 16 14 17 HF jd ?_
    refine wpAnyH_ready (rs := [15]) (by kernel_rfl) (by simp) ?_
    refine AllReadyH.cons rfl (fun K hK => ?_) AllReadyH.nil
    go_simp
    (go_at_call 124; refine (quiet_below (l21Kilos_any _ _)).mono ?_; rintro e w2 ⟨rfl, hb2⟩)
    refine hK.out _ _ (jd.trans (hb2.mono jd.size)) (fun jd => ?_)
    clear hK K hb2
    refine tj2 16 19 17 20 HF jd ?_
    cases h3 : inR S 0 1000000 with
    | false =>
     refine wpAnyH_skips (by kernel_rfl) (fun _ _ _ _ _ h => h) jd [(18, 21), (19, 22), (20, 23)] 18 3 _ _ rfl (by kernel_rfl) ?_
     simp only [skipL, skipA, Act.put, p1, p2, p3]
     refine tj2 21 24 22 25 HF jd ?_
     refine wpAnyH_skips (by kernel_rfl) (fun _ _ _ _ _ h => h) jd [(23, 26), (24, 27), (25, 28), (26, 29), (27, 30), (28, 31), (29, 32), (30, 33), (31, 34), (32, 35), (33, 36), (34, 37), (35, 38), (36, 39)] 2 14 _ _ rfl (by kernel_rfl) ?_
     simp only [skipL, skipA, Act.put, p1, p2, p3]
     refine tj2 37 40 38 2 HF jd ?_
     refine wpAnyH_done (by kernel_rfl) ?_ _
     go_wp2
     go_ret
     exact ⟨ret_bool (by simp [goodWorks, kilosOk, totalV, hp, h1, h2, h3]; try (rw [Bool.eq_iff_iff]; simp only [beq_iff_eq, IntWalk.i64_left]; exact ⟨fun h => decide_eq_true h, fun h => of_decide_eq_true h⟩)), ((Below.refl _ w).alloc (Nat.le_refl _) _).trans (jd.mono (by simp))⟩
    | true =>
     refine tj2 18 21 19 22 HF jd ?_
     refine wpAnyH_ready (rs := [20]) (by kernel_rfl) (by simp) ?_
     refine AllReadyH.cons rfl (fun K hK => ?_) AllReadyH.nil
     go_simp
     (go_at_call 124; refine (quiet_below (l21Kilos_any _ _)).mono ?_; rintro e w2 ⟨rfl, hb2⟩)
     refine hK.out _ _ (jd.trans (hb2.mono jd.size)) (fun jd => ?_)
     clear hK K hb2
     refine tj2 21 24 22 25 HF jd ?_
     cases h4 : inR P 0 1000000 with
     | false =>
      refine wpAnyH_skips (by kernel_rfl) (fun _ _ _ _ _ h => h) jd [(23, 26), (24, 27), (25, 28), (26, 29), (27, 30), (28, 31), (29, 32), (30, 33), (31, 34), (32, 35), (33, 36), (34, 37), (35, 38), (36, 39)] 2 14 _ _ rfl (by kernel_rfl) ?_
      simp only [skipL, skipA, Act.put, p1, p2, p3]
      refine tj2 37 40 38 2 HF jd ?_
      refine wpAnyH_done (by kernel_rfl) ?_ _
      go_wp2
      go_ret
      exact ⟨ret_bool (by simp [goodWorks, kilosOk, totalV, hp, h1, h2, h3, h4]; try (rw [Bool.eq_iff_iff]; simp only [beq_iff_eq, IntWalk.i64_left]; exact ⟨fun h => decide_eq_true h, fun h => of_decide_eq_true h⟩)), ((Below.refl _ w).alloc (Nat.le_refl _) _).trans (jd.mono (by simp))⟩
     | true =>
      refine tj4 23 26 24 27 25 28 27 30 HF jd ?_
      refine tj4 28 31 30 33 31 34 33 36 HF jd ?_
      refine tj 34 37 HF rfl jd ?_
      refine wpAnyH_ready (rs := [26]) (by kernel_rfl) (by simp) ?_
      refine AllReadyH.cons rfl (fun K hK => ?_) AllReadyH.nil
      go_simp
      (go_at_call 125; refine (l25Salt_any A n c lo hi f I H S P _ (HS.out.below jd) hn hnc).mono ?_; rintro e w2 ⟨rfl, hb2⟩)
      refine hK.out _ _ (jd.trans (hb2.mono jd.size)) (fun jd => ?_)
      clear hK K hb2
      refine tj4 29 32 32 35 35 38 36 39 HF jd ?_
      refine tj2 37 40 38 2 HF jd ?_
      refine wpAnyH_done (by kernel_rfl) ?_ _
      go_wp2
      go_ret
      exact ⟨ret_bool (by simp [goodWorks, kilosOk, totalV, hp, h1, h2, h3, h4]; try (rw [Bool.eq_iff_iff]; simp only [beq_iff_eq, IntWalk.i64_left]; exact ⟨fun h => decide_eq_true h, fun h => of_decide_eq_true h⟩)), ((Below.refl _ w).alloc (Nat.le_refl _) _).trans (jd.mono (by simp))⟩
theorem isWorks_good (A : Option Addr) (n c lo hi : Nat) (f : Nat → Int) (I H S P : Int) (w : World) (hs : Sl w lo hi 4 A n f) (hn : n ≤ 1048576) (hnc : n ≤ c) (hlen : n ≤ 6) (k1 : inR I 0 1000000 = true) (k2 : inR H 0 1000000 = true) (k3 : inR S 0 1000000 = true) (k4 : inR P 0 1000000 = true) :
  Calls Tryz.prog 76 #[.agg #[.slice A n c, .int .i64 I, .int .i64 H, .int .i64 S, .int .i64 P]] w fun e w' => e = .returned (.bool (goodWorks f n I H S P)) ∧ Below w.heap.size w w' := by
 have HS : Hid (Sl (w.alloc (.cells #[.slice A n c, .int .i64 I, .int .i64 H, .int .i64 S, .int .i64 P] 32)) lo hi 4 A n f) := hs.below ((Below.refl _ w).alloc (Nat.le_refl _) _)
 clear hs
 have hl6 : ¬ ((6 : Int) < (n : Int)) := by omega
 go_enter Tryz.func76, Tryz.ntmps76
 go_wp2_with (go_at_call 118; refine (isKilos_any _ _).mono ?_; rintro e w2 ⟨rfl, rfl⟩)
 go_loopw [36] (fun i wr => ∃ k : Nat, k ≤ n ∧ i = .int .i64 k ∧ Hid (allTo (panStep f) k = true) ∧ Below (w.alloc (.cells #[.slice A n c, .int .i64 I, .int .i64 H, .int .i64 S, .int .i64 P] 32)).heap.size (w.alloc (.cells #[.slice A n c, .int .i64 I, .int .i64 H, .int .i64 S, .int .i64 P] 32)) wr) (fun i _ => n - (intOf i).toNat)
 case atStart => exact ⟨0, Nat.zero_le _, rfl, rfl, Below.refl _ _⟩
 case round =>
  obtain ⟨k, hk, rfl, hall, hbel⟩ := hrel
  have hbz : w.heap.size < wr.heap.size := by have := hbel.size; simp at this; omega
  have b0 : wr.cell? ⟨w.heap.size, 0, none⟩ = some (.slice A n c) := (hbel.cell (p := ⟨w.heap.size, 0, none⟩) (by simp)).trans (by simp)
  by_cases hlt : k < n
  ·obtain ⟨b, off, rfl, hbw, HC⟩ := HS.out.open_ hbel (by omega)
   obtain ⟨c0, c1, c2, c3⟩ := cell4 HC hlt
   have hk0i : (0 : Int) ≤ (k : Int) := by omega
   have hkni : (k : Int) < (n : Int) := by omega
   have HF : Hid (∀ w', Below (wr.alloc (.cells #[.int .i64 (f (k * 4)), .int .i64 (f (k * 4 + 1)), .int .i64 (f (k * 4 + 2)), .int .i64 (f (k * 4 + 3))] 97)).heap.size (wr.alloc (.cells #[.int .i64 (f (k * 4)), .int .i64 (f (k * 4 + 1)), .int .i64 (f (k * 4 + 2)), .int .i64 (f (k * 4 + 3))] 97)) w' → w'.cell? ⟨wr.heap.size, 0, none⟩ = some (.int .i64 (f (k * 4))) ∧ w'.cell? ⟨wr.heap.size, 1, none⟩ = some (.int .i64 (f (k * 4 + 1))) ∧ w'.cell? ⟨wr.heap.size, 2, none⟩ = some (.int .i64 (f (k * 4 + 2))) ∧ w'.cell? ⟨wr.heap.size, 3, none⟩ = some (.int .i64 (f (k * 4 + 3))) ∧ w'.cell? ⟨w.heap.size, 0, none⟩ = some (.slice (some ⟨b, off, none⟩) n c)) := fun w' hq => ⟨(hq.cell (p := ⟨wr.heap.size, 0, none⟩) (by simp)).trans (by simp), (hq.cell (p := ⟨wr.heap.size, 1, none⟩) (by simp)).trans (by simp), (hq.cell (p := ⟨wr.heap.size, 2, none⟩) (by simp)).trans (by simp), (hq.cell (p := ⟨wr.heap.size, 3, none⟩) (by simp)).trans (by simp), (hq.cell (p := ⟨w.heap.size, 0, none⟩) (by simp; omega)).trans ((World.cell?_alloc_lt _ _ _ hbz).trans b0)⟩
   have HP : Hid (0 < k → ∀ w', Below (wr.alloc (.cells #[.int .i64 (f (k * 4)), .int .i64 (f (k * 4 + 1)), .int .i64 (f (k * 4 + 2)), .int .i64 (f (k * 4 + 3))] 97)).heap.size (wr.alloc (.cells #[.int .i64 (f (k * 4)), .int .i64 (f (k * 4 + 1)), .int .i64 (f (k * 4 + 2)), .int .i64 (f (k * 4 + 3))] 97)) w' → w'.cell? ⟨b, off + (k - 1) * 4, none⟩ = some (.int .i64 (f ((k - 1) * 4)))) := fun hk0 w' hq => (hq.cell (p := ⟨b, off + (k - 1) * 4, none⟩) (by simp; omega)).trans ((World.cell?_alloc_lt _ _ _ hbw).trans (HC.out _ (by omega)))
   clear HC HS
   go_wp2
   refine wp_region_held_drew (S := fun w' => Below ((wr.alloc (.cells #[.int .i64 (f (k * 4)), .int .i64 (f (k * 4 + 1)), .int .i64 (f (k * 4 + 2)), .int .i64 (f (k * 4 + 3))] 97))).heap.size ((wr.alloc (.cells #[.int .i64 (f (k * 4)), .int .i64 (f (k * 4 + 1)), .int .i64 (f (k * 4 + 2)), .int .i64 (f (k * 4 + 3))] 97))) w') (by kernel_rfl) ((Below.refl _ _).drew) (fun jd => ?_)
   refine tj2 0 41 1 42 HF jd ?_
   refine wpAnyH_ready (rs := [2]) (by kernel_rfl) (by simp) ?_
   refine AllReadyH.cons rfl (fun K hK => ?_) AllReadyH.nil
   go_simp
   (go_at_call 119; refine (quiet_below (isId_any _ _)).mono ?_; rintro e w2 ⟨rfl, hb2⟩)
   refine hK.out _ _ (jd.trans (hb2.mono jd.size)) (fun jd => ?_)
   clear hK K hb2
   refine tj2 3 44 4 45 HF jd ?_
   cases h1 : inR (f (k * 4)) 1 99 with
   | false =>
    have h2 : True := trivial
    have h3 : True := trivial
    have hm : True := trivial
    have hno : Hid (pansOk f n = false) := pansOk_no hlt (by simp [panStep, okPanAt, okPan, h1, h2, h3, hm])
    refine wpAnyH_skips (by kernel_rfl) (fun _ _ _ _ _ h => h) jd [(5, 46), (6, 47), (7, 48), (8, 49)] 31 4 _ _ rfl (by kernel_rfl) ?_
    simp only [skipL, skipA, Act.put, p1, p2, p3]
    refine tj2 9 50 10 51 HF jd ?_
    refine wpAnyH_skips (by kernel_rfl) (fun _ _ _ _ _ h => h) jd [(11, 52), (12, 53), (13, 54), (14, 55)] 25 4 _ _ rfl (by kernel_rfl) ?_
    simp only [skipL, skipA, Act.put, p1, p2, p3]
    refine tj2 15 56 16 57 HF jd ?_
    refine wpAnyH_skips (by kernel_rfl) (fun _ _ _ _ _ h => h) jd [(17, 58), (18, 59), (19, 60), (20, 61), (21, 62), (22, 63)] 17 6 _ _ rfl (by kernel_rfl) ?_
    simp only [skipL, skipA, Act.put, p1, p2, p3]
    refine tj2 23 64 24 65 HF jd ?_
    refine wpAnyH_skips (by kernel_rfl) (fun _ _ _ _ _ h => h) jd [(25, 66), (26, 67), (27, 68), (28, 69), (29, 70), (30, 71), (31, 72), (32, 73), (33, 74), (34, 75), (35, 76), (36, 77), (37, 78), (38, 79)] 1 14 _ _ rfl (by kernel_rfl) ?_
    simp only [skipL, skipA, Act.put, p1, p2, p3]
    refine tj 39 80 HF rfl jd ?_
    refine wpAnyH_done (by kernel_rfl) ?_ _
    go_wp2
    go_ret
    exact ⟨ret_bool (by simp [goodWorks, hno.out]), ((Below.refl _ w).alloc (Nat.le_refl _) _).trans ((below_of hbel (((Below.refl _ wr).alloc (Nat.le_refl _) _).trans (jd.mono (by simp))) hbel.size).mono (by simp))⟩
   | true =>
    refine tj2 5 46 6 47 HF jd ?_
    refine wpAnyH_ready (rs := [7]) (by kernel_rfl) (by simp) ?_
    refine AllReadyH.cons rfl (fun K hK => ?_) AllReadyH.nil
    go_simp
    (go_at_call 70; refine (quiet_below (within_any _ _ _ _)).mono ?_; rintro e w2 ⟨rfl, hb2⟩)
    refine hK.out _ _ (jd.trans (hb2.mono jd.size)) (fun jd => ?_)
    clear hK K hb2
    refine tj3 8 49 9 50 10 51 HF jd ?_
    cases h2 : inR (f (k * 4 + 1)) 1 100000 with
    | false =>
     have h3 : True := trivial
     have hm : True := trivial
     have hno : Hid (pansOk f n = false) := pansOk_no hlt (by simp [panStep, okPanAt, okPan, h1, h2, h3, hm])
     refine wpAnyH_skips (by kernel_rfl) (fun _ _ _ _ _ h => h) jd [(11, 52), (12, 53), (13, 54), (14, 55)] 25 4 _ _ rfl (by kernel_rfl) ?_
     simp only [skipL, skipA, Act.put, p1, p2, p3]
     refine tj2 15 56 16 57 HF jd ?_
     refine wpAnyH_skips (by kernel_rfl) (fun _ _ _ _ _ h => h) jd [(17, 58), (18, 59), (19, 60), (20, 61), (21, 62), (22, 63)] 17 6 _ _ rfl (by kernel_rfl) ?_
     simp only [skipL, skipA, Act.put, p1, p2, p3]
     refine tj2 23 64 24 65 HF jd ?_
     refine wpAnyH_skips (by kernel_rfl) (fun _ _ _ _ _ h => h) jd [(25, 66), (26, 67), (27, 68), (28, 69), (29, 70), (30, 71), (31, 72), (32, 73), (33, 74), (34, 75), (35, 76), (36, 77), (37, 78), (38, 79)] 1 14 _ _ rfl (by kernel_rfl) ?_
     simp only [skipL, skipA, Act.put, p1, p2, p3]
     refine tj 39 80 HF rfl jd ?_
     refine wpAnyH_done (by kernel_rfl) ?_ _
     go_wp2
     go_ret
     exact ⟨ret_bool (by simp [goodWorks, hno.out]), ((Below.refl _ w).alloc (Nat.le_refl _) _).trans ((below_of hbel (((Below.refl _ wr).alloc (Nat.le_refl _) _).trans (jd.mono (by simp))) hbel.size).mono (by simp))⟩
    | true =>
     refine tj2 11 52 12 53 HF jd ?_
     refine wpAnyH_ready (rs := [13]) (by kernel_rfl) (by simp) ?_
     refine AllReadyH.cons rfl (fun K hK => ?_) AllReadyH.nil
     go_simp
     (go_at_call 120; refine (IsBrine_any _ _ _).mono ?_; rintro e w2 ⟨rfl, hb2⟩)
     refine hK.out _ _ (jd.trans (hb2.mono jd.size)) (fun jd => ?_)
     clear hK K hb2
     refine tj3 14 55 15 56 16 57 HF jd ?_
     cases h3 : okBrine (f (k * 4 + 2)) (f (k * 4 + 3)) with
     | false =>
      have hm : True := trivial
      have hno : Hid (pansOk f n = false) := pansOk_no hlt (by simp [panStep, okPanAt, okPan, h1, h2, h3, hm])
      refine wpAnyH_skips (by kernel_rfl) (fun _ _ _ _ _ h => h) jd [(17, 58), (18, 59), (19, 60), (20, 61), (21, 62), (22, 63)] 17 6 _ _ rfl (by kernel_rfl) ?_
      simp only [skipL, skipA, Act.put, p1, p2, p3]
      refine tj2 23 64 24 65 HF jd ?_
      refine wpAnyH_skips (by kernel_rfl) (fun _ _ _ _ _ h => h) jd [(25, 66), (26, 67), (27, 68), (28, 69), (29, 70), (30, 71), (31, 72), (32, 73), (33, 74), (34, 75), (35, 76), (36, 77), (37, 78), (38, 79)] 1 14 _ _ rfl (by kernel_rfl) ?_
      simp only [skipL, skipA, Act.put, p1, p2, p3]
      refine tj 39 80 HF rfl jd ?_
      refine wpAnyH_done (by kernel_rfl) ?_ _
      go_wp2
      go_ret
      exact ⟨ret_bool (by simp [goodWorks, hno.out]), ((Below.refl _ w).alloc (Nat.le_refl _) _).trans ((below_of hbel (((Below.refl _ wr).alloc (Nat.le_refl _) _).trans (jd.mono (by simp))) hbel.size).mono (by simp))⟩
     | true =>
      by_cases hm : massV (f (k * 4 + 2)) (f (k * 4 + 3)) ≤ f (k * 4 + 1)
      ·have hmd : ¬ (f (k * 4 + 1) < massV (f (k * 4 + 2)) (f (k * 4 + 3))) := by omega
       refine tj4 17 58 18 59 20 61 21 62 HF jd ?_
       refine wpAnyH_ready (rs := [19]) (by kernel_rfl) (by simp) ?_
       refine AllReadyH.cons rfl (fun K hK => ?_) AllReadyH.nil
       go_simp
       (go_at_call 121; refine (mass_any _ _ _).mono ?_; rintro e w2 ⟨rfl, hb2⟩)
       refine hK.out _ _ (jd.trans (hb2.mono jd.size)) (fun jd => ?_)
       clear hK K hb2
       refine tj4 22 63 23 64 24 65 25 66 HF jd ?_
       refine tj2 26 67 27 68 HF jd ?_
       by_cases h0 : k = 0
       ·have hok1 : Hid (panStep f k = true) := by simp only [Hid, panStep, okPanAt, okPan, h1, h2, h3, hm, Bool.true_and, Bool.or_eq_true, decide_eq_true_eq, decide_true]; exact Or.inl h0
        have hk0b : decide ((0 : Int) < (k : Int)) = false := by simp; omega
        have hk0c : decide (0 < k) = false := by simp; omega
        clear h0 HP
        try simp only [hk0b, hk0c]
        refine wpAnyH_skips (by kernel_rfl) (fun _ _ _ _ _ h => h) jd [(28, 69), (29, 70), (30, 71), (31, 72), (32, 73), (33, 74), (34, 75), (35, 76), (36, 77), (37, 78)] 2 10 _ _ rfl (by kernel_rfl) ?_
        simp only [skipL, skipA, Act.put, p1, p2, p3]
        refine tj2 38 79 39 80 HF jd ?_
        refine wpAnyH_done (by kernel_rfl) ?_ _
        go_wp2
        go_roundw
        case rel => exact ⟨k + 1, by omega, by go_num, allTo_succ hall.out hok1.out, below_of hbel (((Below.refl _ wr).alloc (Nat.le_refl _) _).trans (jd.mono (by simp))) hbel.size⟩
        case measure => simp [intOf]; omega
       ·have hk0 : 0 < k := by omega
        have hkk : ((k : Int) - 1).toNat = k - 1 := by omega
        have hb0 : (0 : Int) ≤ (k : Int) - 1 := by omega
        have hb1x : (1 : Int) ≤ (k : Int) := by omega
        have hb3 : (k : Int) - 1 < (n : Int) := by omega
        have hwk : IntKind.i64.wrap ((k : Int) - 1) = (k : Int) - 1 := IntWalk.i64_in _ (by omega)
        have hk0b : decide ((0 : Int) < (k : Int)) = true := by simp; omega
        have hk0c : decide (0 < k) = true := by simp; omega
        replace HF := Hid.and_ HF (HP.out hk0)
        clear HP
        try simp only [hk0b, hk0c]
        by_cases hlt2 : f ((k - 1) * 4) < f (k * 4)
        ·have hok1 : Hid (panStep f k = true) := by simp [Hid, panStep, okPanAt, okPan, h1, h2, h3, hm, hlt2]
         refine tj4 28 69 29 70 30 71 31 72 HF jd ?_
         refine tj4 32 73 33 74 34 75 35 76 HF jd ?_
         refine tj4 36 77 37 78 38 79 39 80 HF jd ?_
         refine wpAnyH_done (by kernel_rfl) ?_ _
         go_wp2
         go_roundw
         case rel => exact ⟨k + 1, by omega, by go_num, allTo_succ hall.out hok1.out, below_of hbel (((Below.refl _ wr).alloc (Nat.le_refl _) _).trans (jd.mono (by simp))) hbel.size⟩
         case measure => simp [intOf]; omega
        ·have hno : Hid (pansOk f n = false) := pansOk_no hlt (by simp [panStep, okPanAt, okPan, h1, h2, h3, hm, hlt2]; omega)
         refine tj4 28 69 29 70 30 71 31 72 HF jd ?_
         refine tj4 32 73 33 74 34 75 35 76 HF jd ?_
         refine tj4 36 77 37 78 38 79 39 80 HF jd ?_
         refine wpAnyH_done (by kernel_rfl) ?_ _
         go_wp2
         go_ret
         exact ⟨ret_bool (by simp [goodWorks, hno.out]), ((Below.refl _ w).alloc (Nat.le_refl _) _).trans ((below_of hbel (((Below.refl _ wr).alloc (Nat.le_refl _) _).trans (jd.mono (by simp))) hbel.size).mono (by simp))⟩
      ·have hmd : f (k * 4 + 1) < massV (f (k * 4 + 2)) (f (k * 4 + 3)) := by omega
       have hno : Hid (pansOk f n = false) := pansOk_no hlt (by simp [panStep, okPanAt, okPan, h1, h2, h3, hm])
       refine tj4 17 58 18 59 20 61 21 62 HF jd ?_
       refine wpAnyH_ready (rs := [19]) (by kernel_rfl) (by simp) ?_
       refine AllReadyH.cons rfl (fun K hK => ?_) AllReadyH.nil
       go_simp
       (go_at_call 121; refine (mass_any _ _ _).mono ?_; rintro e w2 ⟨rfl, hb2⟩)
       refine hK.out _ _ (jd.trans (hb2.mono jd.size)) (fun jd => ?_)
       clear hK K hb2
       refine tj3 22 63 23 64 24 65 HF jd ?_
       refine wpAnyH_skips (by kernel_rfl) (fun _ _ _ _ _ h => h) jd [(25, 66), (26, 67), (27, 68), (28, 69), (29, 70), (30, 71), (31, 72), (32, 73), (33, 74), (34, 75), (35, 76), (36, 77), (37, 78), (38, 79)] 1 14 _ _ rfl (by kernel_rfl) ?_
       simp only [skipL, skipA, Act.put, p1, p2, p3]
       refine tj 39 80 HF rfl jd ?_
       refine wpAnyH_done (by kernel_rfl) ?_ _
       go_wp2
       go_ret
       exact ⟨ret_bool (by simp [goodWorks, hno.out]), ((Below.refl _ w).alloc (Nat.le_refl _) _).trans ((below_of hbel (((Below.refl _ wr).alloc (Nat.le_refl _) _).trans (jd.mono (by simp))) hbel.size).mono (by simp))⟩
  ·obtain rfl : n = k := by omega
   have b1 : wr.cell? ⟨w.heap.size, 1, none⟩ = some (.int .i64 I) := (hbel.cell (p := ⟨w.heap.size, 1, none⟩) (by simp)).trans (by simp)
   have b2 : wr.cell? ⟨w.heap.size, 2, none⟩ = some (.int .i64 H) := (hbel.cell (p := ⟨w.heap.size, 2, none⟩) (by simp)).trans (by simp)
   have b3 : wr.cell? ⟨w.heap.size, 3, none⟩ = some (.int .i64 S) := (hbel.cell (p := ⟨w.heap.size, 3, none⟩) (by simp)).trans (by simp)
   have b4 : wr.cell? ⟨w.heap.size, 4, none⟩ = some (.int .i64 P) := (hbel.cell (p := ⟨w.heap.size, 4, none⟩) (by simp)).trans (by simp)
   have hps : pansOk f n = true := by simp [pansOk, hall.out, hlen]
   have HF : Hid (∀ w', Below wr.heap.size wr w' → _) := fun w' hq => And.intro (kp hq b0) (And.intro (kp hq b1) (And.intro (kp hq b2) (And.intro (kp hq b3) (kp hq b4))))
   have HW : Hid (Sl wr lo hi 4 A n f) := HS.out.below hbel
   clear HS
   go_wp2
   refine wp_region_held_drew (S := fun w' => Below (wr).heap.size (wr) w') (by kernel_rfl) ((Below.refl _ _).drew) (fun jd => ?_)
   refine tj4 0 82 1 83 2 84 4 86 HF jd ?_
   refine tj4 5 87 7 89 8 90 10 92 HF jd ?_
   refine tj 11 93 HF rfl jd ?_
   refine wpAnyH_ready (rs := [3]) (by kernel_rfl) (by simp) ?_
   refine AllReadyH.cons rfl (fun K hK => ?_) AllReadyH.nil
   go_simp
   (go_at_call 122; refine (saltInPans_any A n c lo hi f I H S P _ (HW.out.below jd) hn hnc).mono ?_; rintro e w2 ⟨rfl, hb2⟩)
   refine hK.out _ _ (jd.trans (hb2.mono jd.size)) (fun jd => ?_)
   clear hK K hb2
   refine tj4 6 88 9 91 12 94 13 95 HF jd ?_
   refine tj 14 2 HF rfl jd ?_
   refine wpAnyH_done (by kernel_rfl) ?_ _
   go_wp2
   go_ret
   exact ⟨ret_bool (by simp [goodWorks, kilosOk, totalV, hps, k1, k2, k3, k4]; try (rw [Bool.eq_iff_iff]; simp only [beq_iff_eq, IntWalk.i64_left]; exact ⟨fun h => decide_eq_true h, fun h => of_decide_eq_true h⟩)), ((Below.refl _ w).alloc (Nat.le_refl _) _).trans ((below_of hbel jd hbel.size).mono (by simp))⟩
theorem isWorks_any (A : Option Addr) (n c lo hi : Nat) (f : Nat → Int) (I H S P : Int) (w : World) (hs : Sl w lo hi 4 A n f) (hn : n ≤ 1048576) (hnc : n ≤ c) :
  Calls Tryz.prog 76 #[.agg #[.slice A n c, .int .i64 I, .int .i64 H, .int .i64 S, .int .i64 P]] w fun e w' => e = .returned (.bool (goodWorks f n I H S P)) ∧ Below w.heap.size w w' := by
 by_cases hlen : n ≤ 6
 ·have hl6 : ¬ ((6 : Int) < (n : Int)) := by omega
  cases k1 : inR I 0 1000000 with
  | false =>
   go_enter Tryz.func76, Tryz.ntmps76
   go_wp2_with (go_at_call 118; refine (isKilos_any _ _).mono ?_; rintro e w2 ⟨rfl, rfl⟩)
   go_ret
   exact ⟨ret_bool (by simp [goodWorks, kilosOk, k1]), (Below.refl _ w).alloc (Nat.le_refl _) _⟩
  | true =>
   cases k2 : inR H 0 1000000 with
   | false =>
    go_enter Tryz.func76, Tryz.ntmps76
    go_wp2_with (go_at_call 118; refine (isKilos_any _ _).mono ?_; rintro e w2 ⟨rfl, rfl⟩)
    go_ret
    exact ⟨ret_bool (by simp [goodWorks, kilosOk, k1, k2]), (Below.refl _ w).alloc (Nat.le_refl _) _⟩
   | true =>
    cases k3 : inR S 0 1000000 with
    | false =>
     go_enter Tryz.func76, Tryz.ntmps76
     go_wp2_with (go_at_call 118; refine (isKilos_any _ _).mono ?_; rintro e w2 ⟨rfl, rfl⟩)
     go_ret
     exact ⟨ret_bool (by simp [goodWorks, kilosOk, k1, k2, k3]), (Below.refl _ w).alloc (Nat.le_refl _) _⟩
    | true =>
     cases k4 : inR P 0 1000000 with
     | false =>
      go_enter Tryz.func76, Tryz.ntmps76
      go_wp2_with (go_at_call 118; refine (isKilos_any _ _).mono ?_; rintro e w2 ⟨rfl, rfl⟩)
      go_ret
      exact ⟨ret_bool (by simp [goodWorks, kilosOk, k1, k2, k3, k4]), (Below.refl _ w).alloc (Nat.le_refl _) _⟩
     | true => exact isWorks_good A n c lo hi f I H S P w hs hn hnc hlen k1 k2 k3 k4
 ·have hl6 : (6 : Int) < (n : Int) := by omega
  go_enter Tryz.func76, Tryz.ntmps76
  go_wp2_with (go_at_call 118; refine (isKilos_any _ _).mono ?_; rintro e w2 ⟨rfl, rfl⟩)
  go_ret
  exact ⟨ret_bool (by simp [goodWorks, pansOk, hlen]), (Below.refl _ w).alloc (Nat.le_refl _) _⟩
end Go.Proofs.YtpndjhelpoenpaaGreatDoor
namespace Go.Proofs.YtpndjhelpoenpaaGreatDoor
open Go.RowKit
attribute [local go_sem ↓] Go.wp_at_zero Go.wp_at_succ
def findV (g : Nat → Int) (z : Int) : Nat → Nat → Int
 | 0, _ => -1
 | m + 1, k => if g k = z then (k : Int) else findV g z m (k + 1)
theorem findV_cases (g : Nat → Int) (z : Int) : ∀ m k, (findV g z m k = -1 ∧ ∀ j, k ≤ j → j < k + m → g j ≠ z) ∨ ∃ j, k ≤ j ∧ j < k + m ∧ findV g z m k = (j : Int) ∧ g j = z
 | 0, k => Or.inl ⟨rfl, fun j h1 h2 => absurd h2 (by omega)⟩
 | m + 1, k => by
  by_cases h : g k = z
  ·exact Or.inr ⟨k, Nat.le_refl _, by omega, by simp [findV, h], h⟩
  ·rcases findV_cases g z m (k + 1) with ⟨h1, h2⟩ | ⟨j, h1, h2, h3, h4⟩
   ·refine Or.inl ⟨by simp [findV, h, h1], fun j hj1 hj2 => ?_⟩
    by_cases hk : j = k
    ·exact hk ▸ h
    ·exact h2 j (by omega) (by omega)
   ·exact Or.inr ⟨j, by omega, by omega, by simp [findV, h, h3], h4⟩
def pid (f : Nat → Int) (k : Nat) : Int := f (k * 4)
def satV (f : Nat → Int) (n : Nat) (b : Bool) : Int := if b then sumW (saltAt f) n else 0
theorem panAt1_any (i h wt s z : Int) (q : Nat) (w : World) (hq : w.cell? ⟨q, 0, none⟩ = some (.int .i64 z)) (hqb : q < w.heap.size) :
  Calls Tryz.prog 152 #[.agg #[.int .i64 i, .int .i64 h, .int .i64 wt, .int .i64 s], .pointer (some ⟨q, 0, none⟩)] w fun e w' => e = .returned (.bool (decide (i = z))) ∧ Below w.heap.size w w' := by
 go_enter Tryz.func152, Tryz.ntmps152
 go_wp2
 go_ret
 exact ⟨ret_bool (by rw [Bool.eq_iff_iff]; simp), by go_grown⟩
theorem panIndex_any (A : Option Addr) (n c lo hi : Nat) (f : Nat → Int) (z : Int) (q : Nat) (w : World) (hs : Sl w lo hi 4 A n f) (hq : w.cell? ⟨q, 0, none⟩ = some (.int .i64 z)) (hqb : q < w.heap.size) (hn : n ≤ 1048576) (hnc : n ≤ c) :
  Calls Tryz.prog 151 #[.slice A n c, .func (.func 152) #[] #[.pointer (some ⟨q, 0, none⟩)]] w fun e w' => e = .returned (.int .i64 (findV (pid f) z n 0)) ∧ Below w.heap.size w w' := by
 have HS : Hid (Sl w lo hi 4 A n f) := hs
 clear hs
 go_enter Tryz.func151, Tryz.ntmps151
 go_wp2
 go_loopw [8] (fun i wr => ∃ k : Nat, k ≤ n ∧ i = .int .i64 k ∧ findV (pid f) z n 0 = findV (pid f) z (n - k) k ∧ Below w.heap.size w wr) (fun i _ => n - (intOf i).toNat)
 case atStart => exact ⟨0, Nat.zero_le _, rfl, rfl, Below.refl _ _⟩
 case round =>
  obtain ⟨k, hk, rfl, hfd, hbel⟩ := hrel
  by_cases hlt : k < n
  ·obtain ⟨b, off, rfl, hbw, HC⟩ := HS.out.open_ hbel (by omega)
   obtain ⟨c0, c1, c2, c3⟩ := cell4 HC hlt
   have hqr := kp hbel hq
   have hqw : q < wr.heap.size := Nat.lt_of_lt_of_le hqb hbel.size
   have hk0i : (0 : Int) ≤ (k : Int) := by omega
   have hkni : (k : Int) < (n : Int) := by omega
   have hstep : findV (pid f) z (n - k) k = if f (k * 4) = z then (k : Int) else findV (pid f) z (n - (k + 1)) (k + 1) := by
    obtain ⟨m, hm⟩ : ∃ m, n - k = m + 1 := ⟨n - k - 1, by omega⟩
    rw [hm, show n - (k + 1) = m by omega]; rfl
   have HH : Hid (findV (pid f) z n 0 = if f (k * 4) = z then (k : Int) else findV (pid f) z (n - (k + 1)) (k + 1)) := hfd.trans hstep
   clear HC HS hfd hstep
   by_cases hz : f (k * 4) = z
   ·go_wp2_with (go_at_call 152; refine (panAt1_any _ _ _ _ z q _ hqr hqw).mono ?_; rintro e w2 ⟨rfl, hb2⟩)
    go_ret
    exact ⟨ret_int (by rw [HH.out, if_pos hz]), below_of hbel hb2 hbel.size⟩
   ·go_wp2_with (go_at_call 152; refine (panAt1_any _ _ _ _ z q _ hqr hqw).mono ?_; rintro e w2 ⟨rfl, hb2⟩)
    go_roundw
    case rel => exact ⟨k + 1, by omega, by go_num, by rw [HH.out, if_neg hz], below_of hbel hb2 hbel.size⟩
    case measure => simp [intOf]; omega
  ·obtain rfl : n = k := by omega
   have HH : Hid (findV (pid f) z n 0 = -1) := by rw [Hid, hfd, Nat.sub_self]; rfl
   clear HS hfd
   go_wp2
   go_ret
   exact ⟨ret_int (by rw [HH.out]), hbel⟩
theorem panAt_any (A : Option Addr) (n c lo hi : Nat) (f : Nat → Int) (I H S P : Int) (z : Int) (w : World) (hs : Sl w lo hi 4 A n f) (hn : n ≤ 1048576) (hnc : n ≤ c) :
  Calls Tryz.prog 109 #[.agg #[.slice A n c, .int .i64 I, .int .i64 H, .int .i64 S, .int .i64 P], .int .i64 z] w fun e w' => e = .returned (.int .i64 (findV (pid f) z n 0)) ∧ Below w.heap.size w w' := by
 have HS : Hid (Sl ((w.alloc (.cells #[.slice A n c, .int .i64 I, .int .i64 H, .int .i64 S, .int .i64 P] 32)).alloc (.cells #[.int .i64 z] 3)) lo hi 4 A n f) := hs.below (by go_grown)
 have hmf : ∀ (fn : Fn) (first cap : Array Value) (w : World), (Instr.makeFunc fn first cap).run Tryz.prog w = .ok (.func fn first cap) w := fun _ _ _ _ => rfl
 clear hs
 go_enter Tryz.func109, Tryz.ntmps109
 go_wp2_with fail
 refine (panIndex_any A n c lo hi f z (w.heap.size + 1) _ HS.out (by go_simp) (by simp) hn hnc).mono ?_
 rintro e w2 ⟨rfl, hb2⟩
 go_wp2
 go_ret
 exact ⟨rfl, (((Below.refl _ w).alloc (Nat.le_refl _) _).alloc (by simp) _).trans (hb2.mono (by simp; omega))⟩
theorem l25Find_any (A : Option Addr) (n c lo hi : Nat) (f : Nat → Int) (I H S P : Int) (z : Int) (w : World) (hs : Sl w lo hi 4 A n f) (hn : n ≤ 1048576) (hnc : n ≤ c) :
  Calls Tryz.prog 154 #[.agg #[.slice A n c, .int .i64 I, .int .i64 H, .int .i64 S, .int .i64 P], .int .i64 z] w fun e w' => e = .returned (.int .i64 (findV (pid f) z n 0)) ∧ Below w.heap.size w w' := by
 have HS : Hid (Sl (w.alloc (.cells #[.slice A n c, .int .i64 I, .int .i64 H, .int .i64 S, .int .i64 P] 32)) lo hi 4 A n f) := hs.below ((Below.refl _ w).alloc (Nat.le_refl _) _)
 clear hs
 go_enter Tryz.func154, Tryz.ntmps154
 go_wp2
 go_loopw [5] (fun i wr => ∃ k : Nat, k ≤ n ∧ i = .int .i64 k ∧ findV (pid f) z n 0 = findV (pid f) z (n - k) k ∧ Below (w.alloc (.cells #[.slice A n c, .int .i64 I, .int .i64 H, .int .i64 S, .int .i64 P] 32)).heap.size (w.alloc (.cells #[.slice A n c, .int .i64 I, .int .i64 H, .int .i64 S, .int .i64 P] 32)) wr) (fun i _ => n - (intOf i).toNat)
 case atStart => exact ⟨0, Nat.zero_le _, rfl, rfl, Below.refl _ _⟩
 case round =>
  obtain ⟨k, hk, rfl, hfd, hbel⟩ := hrel
  have hbz : w.heap.size < wr.heap.size := by have := hbel.size; simp at this; omega
  have b0 : wr.cell? ⟨w.heap.size, 0, none⟩ = some (.slice A n c) := (hbel.cell (p := ⟨w.heap.size, 0, none⟩) (by simp)).trans (by simp)
  by_cases hlt : k < n
  ·obtain ⟨b, off, rfl, hbw, HC⟩ := HS.out.open_ hbel (by omega)
   obtain ⟨c0, c1, c2, c3⟩ := cell4 HC hlt
   have hk0i : (0 : Int) ≤ (k : Int) := by omega
   have hkni : (k : Int) < (n : Int) := by omega
   have hstep : findV (pid f) z (n - k) k = if f (k * 4) = z then (k : Int) else findV (pid f) z (n - (k + 1)) (k + 1) := by
    obtain ⟨m, hm⟩ : ∃ m, n - k = m + 1 := ⟨n - k - 1, by omega⟩
    rw [hm, show n - (k + 1) = m by omega]; rfl
   have HH : Hid (findV (pid f) z n 0 = if f (k * 4) = z then (k : Int) else findV (pid f) z (n - (k + 1)) (k + 1)) := hfd.trans hstep
   clear HC HS hfd hstep
   by_cases hz : f (k * 4) = z
   ·go_wp2
    go_ret
    exact ⟨ret_int (by rw [HH.out, if_pos hz]), ((Below.refl _ w).alloc (Nat.le_refl _) _).trans (hbel.mono (by simp))⟩
   ·go_wp2
    go_roundw
    case rel => exact ⟨k + 1, by omega, by go_num, by rw [HH.out, if_neg hz], hbel⟩
    case measure => simp [intOf]; omega
  ·obtain rfl : n = k := by omega
   have HH : Hid (findV (pid f) z n 0 = -1) := by rw [Hid, hfd, Nat.sub_self]; rfl
   clear HS hfd
   go_wp2
   go_ret
   exact ⟨ret_int (by rw [HH.out]), ((Below.refl _ w).alloc (Nat.le_refl _) _).trans (hbel.mono (by simp))⟩
end Go.Proofs.YtpndjhelpoenpaaGreatDoor
namespace Go.Proofs.YtpndjhelpoenpaaGreatDoor
open Go.RowKit
attribute [local go_sem ↓] Go.wp_at_zero Go.wp_at_succ
def mayV (wt s : Int) : Bool := decide (wrap64 (260 * massV wt s) < wrap64 (1000 * s))
def dryN (wt s : Int) : Nat := (wt + s - (1000 * s - 1) / 260).toNat
theorem mayV_iff {wt s : Int} (h1 : -1000000 ≤ wt) (h2 : wt ≤ 1000000) (h3 : 0 ≤ s) (h4 : s ≤ 1000000) : mayV wt s = true ↔ 260 * (wt + s) < 1000 * s := by
 unfold mayV massV
 rw [IntWalk.wrap64_in (wt + s) ⟨by omega, by omega⟩, IntWalk.wrap64_in (260 * (wt + s)) ⟨by omega, by omega⟩, IntWalk.wrap64_in (1000 * s) ⟨by omega, by omega⟩]
 simp
theorem dry_le {wt s : Int} (h1 : 0 ≤ wt) (h2 : wt ≤ 1000000) (h3 : 0 < s) (h4 : s ≤ 1000000) : (dryN wt s : Int) ≤ wt + s := by unfold dryN; omega
theorem dry_step {wt s : Int} (h1 : 0 ≤ wt) (h2 : wt ≤ 1000000) (h3 : 0 < s) (h4 : s ≤ 1000000) {k : Nat} (hk : k ≤ dryN wt s) (hm : mayV (wt - k) s = false) : k < dryN wt s := by
 have hd := dry_le h1 h2 h3 h4
 have := mt (mayV_iff (wt := wt - k) (s := s) (by omega) (by omega) (by omega) h4).2 (by simp [hm])
 unfold dryN at *
 omega
theorem dry_done {wt s : Int} (h1 : 0 ≤ wt) (h2 : wt ≤ 1000000) (h3 : 0 < s) (h4 : s ≤ 1000000) {k : Nat} (hk : k ≤ dryN wt s) (hm : mayV (wt - k) s = true) : k = dryN wt s := by
 have hd := dry_le h1 h2 h3 h4
 have := (mayV_iff (wt := wt - k) (s := s) (by omega) (by omega) (by omega) h4).1 hm
 unfold dryN at *
 omega
def mostV (a b : Int) : Int := if b < a then a else b
theorem good_brine {f : Nat → Int} {n : Nat} {I H S P : Int} (hg : goodWorks f n I H S P = true) {j : Nat} (hj : j < n) : 0 ≤ f (j * 4 + 2) ∧ f (j * 4 + 2) ≤ 1000000 ∧ 0 ≤ f (j * 4 + 3) ∧ f (j * 4 + 3) ≤ 1000000 ∧ n ≤ 6 := by
 simp only [goodWorks, pansOk, Bool.and_eq_true, decide_eq_true_eq] at hg
 have h := allTo_at hj hg.1.1.1
 simp only [panStep, okPanAt, okPan, okBrine, inR, Bool.and_eq_true, decide_eq_true_eq] at h
 omega
theorem l1Most_any (a b : Int) (w : World) :
  Calls Tryz.prog 106 #[.int .i64 a, .int .i64 b] w fun e w' => e = .returned (.int .i64 (mostV a b)) ∧ w = w' := by
 by_cases h : b < a
 ·go_enter Tryz.func106, Tryz.ntmps106
  go_wp2
  go_ret
  exact ⟨ret_int (by unfold mostV; rw [if_pos (by omega)]), rfl⟩
 ·go_enter Tryz.func106, Tryz.ntmps106
  go_wp2
  go_ret
  exact ⟨ret_int (by unfold mostV; rw [if_neg (by omega)]), rfl⟩
theorem mayRake_any (wt s : Int) (w : World) :
  Calls Tryz.prog 170 #[.agg #[.int .i64 wt, .int .i64 s]] w fun e w' => e = .returned (.bool (mayV wt s)) ∧ Below w.heap.size w w' := by
 have HF : Hid (∀ w', Below (w.alloc (.cells #[.int .i64 wt, .int .i64 s] 95)).heap.size (w.alloc (.cells #[.int .i64 wt, .int .i64 s] 95)) w' → w'.cell? ⟨w.heap.size, 0, none⟩ = some (.int .i64 wt) ∧ w'.cell? ⟨w.heap.size, 1, none⟩ = some (.int .i64 s)) := fun w' hq => (cells2 (bx (g := w.heap.size) hq))
 go_enter Tryz.func170, Tryz.ntmps170
 go_wp2
 refine wp_region_held_drew (S := fun w' => Below ((w.alloc (.cells #[.int .i64 wt, .int .i64 s] 95))).heap.size ((w.alloc (.cells #[.int .i64 wt, .int .i64 s] 95))) w') (by kernel_rfl) ((Below.refl _ _).drew) (fun jd => ?_)
 refine tj4 0 3 1 4 2 5 3 6 HF jd ?_
 refine wpAnyH_ready (rs := [4]) (by kernel_rfl) (by simp) ?_
 refine AllReadyH.cons rfl (fun K hK => ?_) AllReadyH.nil
 go_simp
 (go_at_call 121; refine (mass_any _ _ _).mono ?_; rintro e w2 ⟨rfl, hb2⟩)
 refine hK.out _ _ (jd.trans (hb2.mono jd.size)) (fun jd => ?_)
 clear hK K hb2
 refine tj3 5 8 6 9 7 2 HF jd ?_
 refine wpAnyH_done (by kernel_rfl) ?_ _
 go_wp2
 go_ret
 exact ⟨ret_bool (by simp only [mayV, ← IntWalk.i64_left]), ((Below.refl _ w).alloc (Nat.le_refl _) _).trans (jd.mono (by simp))⟩
theorem l25May_any (wt s : Int) (w : World) :
  Calls Tryz.prog 185 #[.agg #[.int .i64 wt, .int .i64 s]] w fun e w' => e = .returned (.bool (mayV wt s)) ∧ Below w.heap.size w w' := by
 have HF : Hid (∀ w', Below (w.alloc (.cells #[.int .i64 wt, .int .i64 s] 95)).heap.size (w.alloc (.cells #[.int .i64 wt, .int .i64 s] 95)) w' → w'.cell? ⟨w.heap.size, 0, none⟩ = some (.int .i64 wt) ∧ w'.cell? ⟨w.heap.size, 1, none⟩ = some (.int .i64 s)) := fun w' hq => (cells2 (bx (g := w.heap.size) hq))
 go_enter Tryz.func185, Tryz.ntmps185
 go_wp2
 refine wp_region_held_drew (S := fun w' => Below ((w.alloc (.cells #[.int .i64 wt, .int .i64 s] 95))).heap.size ((w.alloc (.cells #[.int .i64 wt, .int .i64 s] 95))) w') (by kernel_rfl) ((Below.refl _ _).drew) (fun jd => ?_)
 refine tj4 0 3 1 4 2 5 3 6 HF jd ?_
 refine wpAnyH_ready (rs := [4]) (by kernel_rfl) (by simp) ?_
 refine AllReadyH.cons rfl (fun K hK => ?_) AllReadyH.nil
 go_simp
 (go_at_call 150; refine (l2Mass_any _ _ _).mono ?_; rintro e w2 ⟨rfl, hb2⟩)
 refine hK.out _ _ (jd.trans (hb2.mono jd.size)) (fun jd => ?_)
 clear hK K hb2
 refine tj3 5 8 6 9 7 2 HF jd ?_
 refine wpAnyH_done (by kernel_rfl) ?_ _
 go_wp2
 go_ret
 exact ⟨ret_bool (by simp only [mayV, ← IntWalk.i64_left]), ((Below.refl _ w).alloc (Nat.le_refl _) _).trans (jd.mono (by simp))⟩
theorem DryToRake_no (A : Option Addr) (n c lo hi : Nat) (f : Nat → Int) (I H S P : Int) (z : Int) (w : World) (hs : Sl w lo hi 4 A n f) (hn : n ≤ 1048576) (hnc : n ≤ c) (h : goodWorks f n I H S P = false ∨ findV (pid f) z n 0 = -1) :
  Calls Tryz.prog 143 #[.agg #[.slice A n c, .int .i64 I, .int .i64 H, .int .i64 S, .int .i64 P], .int .i64 z] w fun e w' => e = .returned (.tuple #[.int .i64 0, .bool false]) ∧ Below w.heap.size w w' := by
 have HS : Hid (Sl (w.alloc (.cells #[.slice A n c, .int .i64 I, .int .i64 H, .int .i64 S, .int .i64 P] 32)) lo hi 4 A n f) := hs.below ((Below.refl _ w).alloc (Nat.le_refl _) _)
 clear hs
 cases hg : goodWorks f n I H S P with
 | false =>
  clear h
  generalize hfd : findV (pid f) z n 0 = r
  go_enter Tryz.func143, Tryz.ntmps143
  go_wp2_with fail
  refine (panAt_any A n c lo hi f I H S P z _ HS.out hn hnc).mono ?_
  rw [hfd]
  rintro e w2 ⟨rfl, hb2⟩
  obtain ⟨b0, b1, b2, b3, b4⟩ := cells5 (bx (g := w.heap.size) hb2)
  have HS2 := HS.out.below hb2
  go_wp2_with fail
  refine (isWorks_any A n c lo hi f I H S P _ HS2 hn hnc).mono ?_
  rw [hg]
  rintro e w3 ⟨rfl, hb3⟩
  have B3 := below_of hb2 hb3 hb2.size
  clear b0 b1 b2 b3 b4 HS2 hb2 hb3
  go_wp2
  go_ret2
  exact ⟨rfl, ((Below.refl _ w).alloc (Nat.le_refl _) _).trans (B3.mono (by simp))⟩
 | true =>
  have hfd : findV (pid f) z n 0 = -1 := by simpa [hg] using h
  clear h
  go_enter Tryz.func143, Tryz.ntmps143
  go_wp2_with fail
  refine (panAt_any A n c lo hi f I H S P z _ HS.out hn hnc).mono ?_
  rw [hfd]
  rintro e w2 ⟨rfl, hb2⟩
  obtain ⟨b0, b1, b2, b3, b4⟩ := cells5 (bx (g := w.heap.size) hb2)
  have HS2 := HS.out.below hb2
  go_wp2_with fail
  refine (isWorks_any A n c lo hi f I H S P _ HS2 hn hnc).mono ?_
  rw [hg]
  rintro e w3 ⟨rfl, hb3⟩
  have B3 := below_of hb2 hb3 hb2.size
  clear b0 b1 b2 b3 b4 HS2 hb2 hb3
  go_wp2
  go_ret2
  exact ⟨rfl, ((Below.refl _ w).alloc (Nat.le_refl _) _).trans (B3.mono (by simp))⟩
theorem DryToRake_zero (A : Option Addr) (n c lo hi : Nat) (f : Nat → Int) (I H S P : Int) (z : Int) (w : World) (hs : Sl w lo hi 4 A n f) (hn : n ≤ 1048576) (hnc : n ≤ c) (hg : goodWorks f n I H S P = true) (j : Nat) (hj : j < n) (hfd : findV (pid f) z n 0 = (j : Int)) (hz : f (j * 4 + 3) = 0) :
  Calls Tryz.prog 143 #[.agg #[.slice A n c, .int .i64 I, .int .i64 H, .int .i64 S, .int .i64 P], .int .i64 z] w fun e w' => e = .returned (.tuple #[.int .i64 0, .bool false]) ∧ Below w.heap.size w w' := by
 have HS : Hid (Sl (w.alloc (.cells #[.slice A n c, .int .i64 I, .int .i64 H, .int .i64 S, .int .i64 P] 32)) lo hi 4 A n f) := hs.below ((Below.refl _ w).alloc (Nat.le_refl _) _)
 clear hs
 have hj0 : ¬ ((j : Int) < 0) := by omega
 have hk0i : (0 : Int) ≤ (j : Int) := by omega
 have hkni : (j : Int) < (n : Int) := by omega
 ·skip
  go_enter Tryz.func143, Tryz.ntmps143
  go_wp2_with fail
  refine (panAt_any A n c lo hi f I H S P z _ HS.out hn hnc).mono ?_
  rw [hfd]
  rintro e w2 ⟨rfl, hb2⟩
  obtain ⟨b0, b1, b2, b3, b4⟩ := cells5 (bx (g := w.heap.size) hb2)
  have HS2 := HS.out.below hb2
  go_wp2_with fail
  refine (isWorks_any A n c lo hi f I H S P _ HS2 hn hnc).mono ?_
  rw [hg]
  rintro e w3 ⟨rfl, hb3⟩
  have B3 := below_of hb2 hb3 hb2.size
  clear b0 b1 b2 b3 b4 HS2 hb2 hb3
  have b0 : w3.cell? ⟨w.heap.size, 0, none⟩ = some (.slice A n c) := (B3.cell (p := ⟨w.heap.size, 0, none⟩) (by simp)).trans (by simp)
  obtain ⟨b, off, rfl, hbw, HC⟩ := HS.out.open_ B3 (by omega)
  obtain ⟨c0, c1, c2, c3⟩ := cell4 HC hj
  clear HC HS
  rw [hz] at c3
  go_wp2
  go_ret2
  exact ⟨rfl, ((Below.refl _ w).alloc (Nat.le_refl _) _).trans (B3.mono (by simp))⟩
theorem DryToRake_yes (A : Option Addr) (n c lo hi : Nat) (f : Nat → Int) (I H S P : Int) (z : Int) (w : World) (hs : Sl w lo hi 4 A n f) (hn : n ≤ 1048576) (hnc : n ≤ c) (hg : goodWorks f n I H S P = true) (j : Nat) (hj : j < n) (hfd : findV (pid f) z n 0 = (j : Int)) (hz : f (j * 4 + 3) ≠ 0) :
  Calls Tryz.prog 143 #[.agg #[.slice A n c, .int .i64 I, .int .i64 H, .int .i64 S, .int .i64 P], .int .i64 z] w fun e w' => e = .returned (.tuple #[.int .i64 (dryN (f (j * 4 + 2)) (f (j * 4 + 3)) : Int), .bool true]) ∧ Below w.heap.size w w' := by
 have HS : Hid (Sl (w.alloc (.cells #[.slice A n c, .int .i64 I, .int .i64 H, .int .i64 S, .int .i64 P] 32)) lo hi 4 A n f) := hs.below ((Below.refl _ w).alloc (Nat.le_refl _) _)
 clear hs
 have hj0 : ¬ ((j : Int) < 0) := by omega
 have hk0i : (0 : Int) ≤ (j : Int) := by omega
 have hkni : (j : Int) < (n : Int) := by omega
 have hzb : (f (j * 4 + 3) == 0) = false := by simpa using hz
 obtain ⟨g1, g2, g3, g4, _⟩ := good_brine hg hj
 ·skip
  go_enter Tryz.func143, Tryz.ntmps143
  go_wp2_with fail
  refine (panAt_any A n c lo hi f I H S P z _ HS.out hn hnc).mono ?_
  rw [hfd]
  rintro e w2 ⟨rfl, hb2⟩
  obtain ⟨b0, b1, b2, b3, b4⟩ := cells5 (bx (g := w.heap.size) hb2)
  have HS2 := HS.out.below hb2
  go_wp2_with fail
  refine (isWorks_any A n c lo hi f I H S P _ HS2 hn hnc).mono ?_
  rw [hg]
  rintro e w3 ⟨rfl, hb3⟩
  have B3 := below_of hb2 hb3 hb2.size
  clear b0 b1 b2 b3 b4 HS2 hb2 hb3
  have b0 : w3.cell? ⟨w.heap.size, 0, none⟩ = some (.slice A n c) := (B3.cell (p := ⟨w.heap.size, 0, none⟩) (by simp)).trans (by simp)
  obtain ⟨b, off, rfl, hbw, HC⟩ := HS.out.open_ B3 (by omega)
  obtain ⟨c0, c1, c2, c3⟩ := cell4 HC hj
  clear HC HS
  go_wp2
  go_loopw [8] (fun i wr => ∃ k : Nat, k ≤ dryN (f (j * 4 + 2)) (f (j * 4 + 3)) ∧ i = .int .i64 k ∧ Below (w3.alloc (.cells #[.int .i64 (f (j * 4 + 2)), .int .i64 (f (j * 4 + 3))] 95)).heap.size (w3.alloc (.cells #[.int .i64 (f (j * 4 + 2)), .int .i64 (f (j * 4 + 3))] 95)) wr) (fun i _ => dryN (f (j * 4 + 2)) (f (j * 4 + 3)) - (intOf i).toNat)
  case atStart => exact ⟨0, Nat.zero_le _, rfl, Below.refl _ _⟩
  case round =>
   obtain ⟨k, hk, rfl, hbel⟩ := hrel
   obtain ⟨d0, d1⟩ := cells2 (bx (g := w3.heap.size) hbel)
   have hdl := dry_le g1 g2 (by omega : 0 < (f (j * 4 + 3))) g4
   have hwk : IntKind.i64.wrap ((f (j * 4 + 2)) - k) = (f (j * 4 + 2)) - k := IntWalk.i64_in _ (by omega)
   have hwk2 : wrap64 ((f (j * 4 + 2)) - k) = (f (j * 4 + 2)) - k := IntWalk.wrap64_in _ (by omega)
   have BR : Below w3.heap.size w3 wr := ((Below.refl _ w3).alloc (Nat.le_refl _) _).trans (hbel.mono (by simp))
   cases hm : mayV ((f (j * 4 + 2)) - k) (f (j * 4 + 3)) with
   | false =>
    have hlt := dry_step g1 g2 (by omega : 0 < (f (j * 4 + 3))) g4 hk hm
    go_wp2_with (go_at_call 170; refine (mayRake_any _ _ _).mono ?_; rintro e w2 ⟨rfl, hb2⟩)
    go_roundw
    case rel => exact ⟨k + 1, by omega, by go_num, below_of hbel hb2 hbel.size⟩
    case measure => simp [intOf]; omega
   | true =>
    have hlt : Hid (k = dryN (f (j * 4 + 2)) (f (j * 4 + 3))) := dry_done g1 g2 (by omega : 0 < (f (j * 4 + 3))) g4 hk hm
    go_wp2_with (go_at_call 170; refine (mayRake_any _ _ _).mono ?_; rintro e w2 ⟨rfl, hb2⟩)
    go_returns
    exact ⟨by rw [← hlt.out]; rfl, ((Below.refl _ w).alloc (Nat.le_refl _) _).trans ((below_of B3 (below_of BR hb2 BR.size) B3.size).mono (by simp))⟩
theorem specDryToRake_no (A : Option Addr) (n c lo hi : Nat) (f : Nat → Int) (I H S P : Int) (z : Int) (w : World) (hs : Sl w lo hi 4 A n f) (hn : n ≤ 1048576) (hnc : n ≤ c) (h : goodWorks f n I H S P = false ∨ findV (pid f) z n 0 = -1) :
  Calls Tryz.prog 131 #[.agg #[.slice A n c, .int .i64 I, .int .i64 H, .int .i64 S, .int .i64 P], .int .i64 z] w fun e w' => e = .returned (.tuple #[.int .i64 0, .bool false]) ∧ Below w.heap.size w w' := by
 have HS : Hid (Sl (w.alloc (.cells #[.slice A n c, .int .i64 I, .int .i64 H, .int .i64 S, .int .i64 P] 32)) lo hi 4 A n f) := hs.below ((Below.refl _ w).alloc (Nat.le_refl _) _)
 clear hs
 cases hg : goodWorks f n I H S P with
 | false =>
  clear h
  generalize hfd : findV (pid f) z n 0 = r
  go_enter Tryz.func131, Tryz.ntmps131
  go_wp2_with fail
  refine (l25Find_any A n c lo hi f I H S P z _ HS.out hn hnc).mono ?_
  rw [hfd]
  rintro e w2 ⟨rfl, hb2⟩
  obtain ⟨b0, b1, b2, b3, b4⟩ := cells5 (bx (g := w.heap.size) hb2)
  have HS2 := HS.out.below hb2
  go_wp2_with fail
  refine (l25Good_any A n c lo hi f I H S P _ HS2 hn hnc).mono ?_
  rw [hg]
  rintro e w3 ⟨rfl, hb3⟩
  have B3 := below_of hb2 hb3 hb2.size
  clear b0 b1 b2 b3 b4 HS2 hb2 hb3
  go_wp2
  go_ret2
  exact ⟨rfl, ((Below.refl _ w).alloc (Nat.le_refl _) _).trans (B3.mono (by simp))⟩
 | true =>
  have hfd : findV (pid f) z n 0 = -1 := by simpa [hg] using h
  clear h
  go_enter Tryz.func131, Tryz.ntmps131
  go_wp2_with fail
  refine (l25Find_any A n c lo hi f I H S P z _ HS.out hn hnc).mono ?_
  rw [hfd]
  rintro e w2 ⟨rfl, hb2⟩
  obtain ⟨b0, b1, b2, b3, b4⟩ := cells5 (bx (g := w.heap.size) hb2)
  have HS2 := HS.out.below hb2
  go_wp2_with fail
  refine (l25Good_any A n c lo hi f I H S P _ HS2 hn hnc).mono ?_
  rw [hg]
  rintro e w3 ⟨rfl, hb3⟩
  have B3 := below_of hb2 hb3 hb2.size
  clear b0 b1 b2 b3 b4 HS2 hb2 hb3
  go_wp2
  go_ret2
  exact ⟨rfl, ((Below.refl _ w).alloc (Nat.le_refl _) _).trans (B3.mono (by simp))⟩
theorem specDryToRake_zero (A : Option Addr) (n c lo hi : Nat) (f : Nat → Int) (I H S P : Int) (z : Int) (w : World) (hs : Sl w lo hi 4 A n f) (hn : n ≤ 1048576) (hnc : n ≤ c) (hg : goodWorks f n I H S P = true) (j : Nat) (hj : j < n) (hfd : findV (pid f) z n 0 = (j : Int)) (hz : f (j * 4 + 3) = 0) :
  Calls Tryz.prog 131 #[.agg #[.slice A n c, .int .i64 I, .int .i64 H, .int .i64 S, .int .i64 P], .int .i64 z] w fun e w' => e = .returned (.tuple #[.int .i64 0, .bool false]) ∧ Below w.heap.size w w' := by
 have HS : Hid (Sl (w.alloc (.cells #[.slice A n c, .int .i64 I, .int .i64 H, .int .i64 S, .int .i64 P] 32)) lo hi 4 A n f) := hs.below ((Below.refl _ w).alloc (Nat.le_refl _) _)
 clear hs
 have hj0 : ¬ ((j : Int) < 0) := by omega
 have hk0i : (0 : Int) ≤ (j : Int) := by omega
 have hkni : (j : Int) < (n : Int) := by omega
 ·skip
  go_enter Tryz.func131, Tryz.ntmps131
  go_wp2_with fail
  refine (l25Find_any A n c lo hi f I H S P z _ HS.out hn hnc).mono ?_
  rw [hfd]
  rintro e w2 ⟨rfl, hb2⟩
  obtain ⟨b0, b1, b2, b3, b4⟩ := cells5 (bx (g := w.heap.size) hb2)
  have HS2 := HS.out.below hb2
  go_wp2_with fail
  refine (l25Good_any A n c lo hi f I H S P _ HS2 hn hnc).mono ?_
  rw [hg]
  rintro e w3 ⟨rfl, hb3⟩
  have B3 := below_of hb2 hb3 hb2.size
  clear b0 b1 b2 b3 b4 HS2 hb2 hb3
  have b0 : w3.cell? ⟨w.heap.size, 0, none⟩ = some (.slice A n c) := (B3.cell (p := ⟨w.heap.size, 0, none⟩) (by simp)).trans (by simp)
  obtain ⟨b, off, rfl, hbw, HC⟩ := HS.out.open_ B3 (by omega)
  obtain ⟨c0, c1, c2, c3⟩ := cell4 HC hj
  clear HC HS
  rw [hz] at c3
  go_wp2
  go_ret2
  exact ⟨rfl, ((Below.refl _ w).alloc (Nat.le_refl _) _).trans (B3.mono (by simp))⟩
theorem specDryToRake_yes (A : Option Addr) (n c lo hi : Nat) (f : Nat → Int) (I H S P : Int) (z : Int) (w : World) (hs : Sl w lo hi 4 A n f) (hn : n ≤ 1048576) (hnc : n ≤ c) (hg : goodWorks f n I H S P = true) (j : Nat) (hj : j < n) (hfd : findV (pid f) z n 0 = (j : Int)) (hz : f (j * 4 + 3) ≠ 0) :
  Calls Tryz.prog 131 #[.agg #[.slice A n c, .int .i64 I, .int .i64 H, .int .i64 S, .int .i64 P], .int .i64 z] w fun e w' => e = .returned (.tuple #[.int .i64 (dryN (f (j * 4 + 2)) (f (j * 4 + 3)) : Int), .bool true]) ∧ Below w.heap.size w w' := by
 have HS : Hid (Sl (w.alloc (.cells #[.slice A n c, .int .i64 I, .int .i64 H, .int .i64 S, .int .i64 P] 32)) lo hi 4 A n f) := hs.below ((Below.refl _ w).alloc (Nat.le_refl _) _)
 clear hs
 have hj0 : ¬ ((j : Int) < 0) := by omega
 have hk0i : (0 : Int) ≤ (j : Int) := by omega
 have hkni : (j : Int) < (n : Int) := by omega
 have hzb : (f (j * 4 + 3) == 0) = false := by simpa using hz
 obtain ⟨g1, g2, g3, g4, _⟩ := good_brine hg hj
 have hv : Hid (mostV 0 (IntKind.i64.wrap (massV (f (j * 4 + 2)) (f (j * 4 + 3)) - IntKind.i64.wrap ((IntKind.i64.wrap (IntKind.i64.wrap (1000 * f (j * 4 + 3)) - 1)).tdiv 260))) = (dryN (f (j * 4 + 2)) (f (j * 4 + 3)) : Int)) := by
  unfold massV dryN
  simp only [IntWalk.i64_left]
  rw [IntWalk.wrap64_in (1000 * f (j * 4 + 3)) ⟨by omega, by omega⟩, IntWalk.wrap64_in (f (j * 4 + 2) + f (j * 4 + 3)) ⟨by omega, by omega⟩, IntWalk.wrap64_in (1000 * f (j * 4 + 3) - 1) ⟨by omega, by omega⟩]
  rw [Int.tdiv_eq_ediv_of_nonneg (by omega)]
  rw [IntWalk.wrap64_in ((1000 * f (j * 4 + 3) - 1) / 260) ⟨by omega, by omega⟩]
  rw [IntWalk.wrap64_in _ ⟨by omega, by omega⟩]
  unfold mostV Hid
  split <;> omega
 ·skip
  go_enter Tryz.func131, Tryz.ntmps131
  go_wp2_with fail
  refine (l25Find_any A n c lo hi f I H S P z _ HS.out hn hnc).mono ?_
  rw [hfd]
  rintro e w2 ⟨rfl, hb2⟩
  obtain ⟨b0, b1, b2, b3, b4⟩ := cells5 (bx (g := w.heap.size) hb2)
  have HS2 := HS.out.below hb2
  go_wp2_with fail
  refine (l25Good_any A n c lo hi f I H S P _ HS2 hn hnc).mono ?_
  rw [hg]
  rintro e w3 ⟨rfl, hb3⟩
  have B3 := below_of hb2 hb3 hb2.size
  clear b0 b1 b2 b3 b4 HS2 hb2 hb3
  have b0 : w3.cell? ⟨w.heap.size, 0, none⟩ = some (.slice A n c) := (B3.cell (p := ⟨w.heap.size, 0, none⟩) (by simp)).trans (by simp)
  obtain ⟨b, off, rfl, hbw, HC⟩ := HS.out.open_ B3 (by omega)
  obtain ⟨c0, c1, c2, c3⟩ := cell4 HC hj
  clear HC HS
  have HF : Hid (∀ w', Below (w3.alloc (.cells #[.int .i64 (f (j * 4 + 2)), .int .i64 (f (j * 4 + 3))] 95)).heap.size (w3.alloc (.cells #[.int .i64 (f (j * 4 + 2)), .int .i64 (f (j * 4 + 3))] 95)) w' → w'.cell? ⟨w3.heap.size, 0, none⟩ = some (.int .i64 (f (j * 4 + 2))) ∧ w'.cell? ⟨w3.heap.size, 1, none⟩ = some (.int .i64 (f (j * 4 + 3)))) := fun w' hq => (cells2 (bx (g := w3.heap.size) hq))
  go_wp2
  refine wp_region_held_drew (S := fun w' => Below ((w3.alloc (.cells #[.int .i64 (f (j * 4 + 2)), .int .i64 (f (j * 4 + 3))] 95))).heap.size ((w3.alloc (.cells #[.int .i64 (f (j * 4 + 2)), .int .i64 (f (j * 4 + 3))] 95))) w') (by kernel_rfl) ((Below.refl _ _).drew) (fun jd => ?_)
  refine tj4 0 34 2 36 3 37 4 38 HF jd ?_
  refine tj2 5 39 6 40 HF jd ?_
  refine wpAnyH_ready (rs := [1]) (by kernel_rfl) (by simp) ?_
  refine AllReadyH.cons rfl (fun K hK => ?_) AllReadyH.nil
  go_simp
  (go_at_call 150; refine (l2Mass_any _ _ _).mono ?_; rintro e w2 ⟨rfl, hb2⟩)
  refine hK.out _ _ (jd.trans (hb2.mono jd.size)) (fun jd => ?_)
  clear hK K hb2
  refine tj 7 41 HF rfl jd ?_
  refine wpAnyH_ready (rs := [8]) (by kernel_rfl) (by simp) ?_
  refine AllReadyH.cons rfl (fun K hK => ?_) AllReadyH.nil
  go_simp
  (go_at_call 106; refine (quiet_below (l1Most_any _ _ _)).mono ?_; rintro e w2 ⟨rfl, hb2⟩)
  refine hK.out _ _ (jd.trans (hb2.mono jd.size)) (fun jd => ?_)
  clear hK K hb2
  refine tj2 9 4 10 5 HF jd ?_
  refine wpAnyH_done (by kernel_rfl) ?_ _
  go_wp2
  go_ret2
  exact ⟨by rw [← hv.out]; rfl, ((Below.refl _ w).alloc (Nat.le_refl _) _).trans ((below_of B3 (((Below.refl _ w3).alloc (Nat.le_refl _) _).trans (jd.mono (by simp))) B3.size).mono (by simp))⟩
end Go.Proofs.YtpndjhelpoenpaaGreatDoor
