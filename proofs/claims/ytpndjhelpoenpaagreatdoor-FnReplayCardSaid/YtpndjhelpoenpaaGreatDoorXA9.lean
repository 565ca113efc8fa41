/-
  Texts of this claim, merged.
-/
import Derived.Test.YtpndjhelpoenpaaGreatDoorXA6
set_option linter.unusedVariables false
set_option linter.unusedSimpArgs false
set_option maxRecDepth 100000
set_option maxHeartbeats 8000000
namespace Go.Proofs.YtpndjhelpoenpaaGreatDoor
open Go.RowKit
attribute [local go_sem ↓] Go.wp_at_zero Go.wp_at_succ
theorem l25Good_any (A : Option Addr) (n c lo hi : Nat) (f : Nat → Int) (I H S P : Int) (w : World) (hs : Sl w lo hi 4 A n f) (hn : n ≤ 1048576) (hnc : n ≤ c) :
  Calls Tryz.prog 80 #[.agg (wB A n c I H S P)] w fun e w' => e = .returned (.bool (goodWorks f n I H S P)) ∧ bW w w' := by
 refine z38 ?_
 intro HS
 clear hs
 refine z104 ?_
 intro HF
 go_enter Tryz.func80, Tryz.ntmps80
 go_wp2
 refine wp_region_held_drew (S := fun w' => bW ((w.alloc (.cells (wB A n c I H S P) 32))) w') (by exact z12) ((Below.refl _ _).drew) (fun jd => ?_)
 refine tj 0 3 HF rfl jd ?_
 refine wpAnyH_ready (rs := [1]) (by exact z12) (by simp) ?_
 refine z44 ?_
 intro K hK
 (go_at_call 123; refine (l25Pans_any A n c lo hi f I H S P _ (HS.out.below jd) hn hnc).mono ?_; rintro e w2 ⟨rfl, hb2⟩)
 revert K hK hb2
 refine z45 ?_
 intro jd
 refine tj 2 5 HF rfl jd ?_
 cases hp : pansOk f n with
 | false =>
  refine wpAnyH_skips (by exact z12) (fun _ _ _ _ _ h => h) jd [(3, 6), (4, 7), (5, 8)] 33 3 _ _ rfl (by exact z12) ?_
  refine z47 ?_
  refine tj2 6 9 7 10 HF jd ?_
  refine wpAnyH_skips (by exact z12) (fun _ _ _ _ _ h => h) jd [(8, 11), (9, 12), (10, 13)] 28 3 _ _ rfl (by exact z12) ?_
  refine z47 ?_
  refine tj2 11 14 12 15 HF jd ?_
  refine wpAnyH_skips (by exact z12) (fun _ _ _ _ _ h => h) jd [(13, 16), (14, 17), (15, 18)] 23 3 _ _ rfl (by exact z12) ?_
  refine z47 ?_
  refine tj2 16 19 17 20 HF jd ?_
  refine z105 ?_
  refine z49 ?_
  go_wp2
  go_ret
  exact ⟨ret_bool (by simp [goodWorks, kilosOk, totalV, hp]; try (rw [Bool.eq_iff_iff]; simp only [beq_iff_eq, IntWalk.i64_left]; exact ⟨fun h => decide_eq_true h, fun h => of_decide_eq_true h⟩)), ((Below.refl _ w).alloc nL _).trans (jd.mono (by simp))⟩
 | true =>
  refine tj2 3 6 4 7 HF jd ?_
  refine wpAnyH_ready (rs := [5]) (by exact z12) (by simp) ?_
  refine z44 ?_
  intro K hK
  refine z106 ?_
  intro w2 hb2
  revert K hK hb2
  refine z45 ?_
  intro jd
  refine tj2 6 9 7 10 HF jd ?_
  cases h1 : inR I 0 1000000 with
  | false =>
   refine wpAnyH_skips (by exact z12) (fun _ _ _ _ _ h => h) jd [(8, 11), (9, 12), (10, 13)] 28 3 _ _ rfl (by exact z12) ?_
   refine z47 ?_
   refine tj2 11 14 12 15 HF jd ?_
   refine wpAnyH_skips (by exact z12) (fun _ _ _ _ _ h => h) jd [(13, 16), (14, 17), (15, 18)] 23 3 _ _ rfl (by exact z12) ?_
   refine z47 ?_
   refine tj2 16 19 17 20 HF jd ?_
   refine z105 ?_
   refine z49 ?_
   go_wp2
   go_ret
   exact ⟨ret_bool (by simp [goodWorks, kilosOk, totalV, hp, h1]; try (rw [Bool.eq_iff_iff]; simp only [beq_iff_eq, IntWalk.i64_left]; exact ⟨fun h => decide_eq_true h, fun h => of_decide_eq_true h⟩)), ((Below.refl _ w).alloc nL _).trans (jd.mono (by simp))⟩
  | true =>
   refine tj2 8 11 9 12 HF jd ?_
   refine wpAnyH_ready (rs := [10]) (by exact z12) (by simp) ?_
   refine z44 ?_
   intro K hK
   refine z106 ?_
   intro w2 hb2
   revert K hK hb2
   refine z45 ?_
   intro jd
   refine tj2 11 14 12 15 HF jd ?_
   cases h2 : inR H 0 1000000 with
   | false =>
    refine wpAnyH_skips (by exact z12) (fun _ _ _ _ _ h => h) jd [(13, 16), (14, 17), (15, 18)] 23 3 _ _ rfl (by exact z12) ?_
    refine z47 ?_
    refine tj2 16 19 17 20 HF jd ?_
    refine z105 ?_
    refine z49 ?_
    go_wp2
    go_ret
    exact ⟨ret_bool (by simp [goodWorks, kilosOk, totalV, hp, h1, h2]; try (rw [Bool.eq_iff_iff]; simp only [beq_iff_eq, IntWalk.i64_left]; exact ⟨fun h => decide_eq_true h, fun h => of_decide_eq_true h⟩)), ((Below.refl _ w).alloc nL _).trans (jd.mono (by simp))⟩
   | true =>
    refine tj2 13 16 14 17 HF jd ?_
    refine wpAnyH_ready (rs := [15]) (by exact z12) (by simp) ?_
    refine z44 ?_
    intro K hK
    refine z106 ?_
    intro w2 hb2
    revert K hK hb2
    refine z45 ?_
    intro jd
    refine tj2 16 19 17 20 HF jd ?_
    cases h3 : inR S 0 1000000 with
    | false =>
     refine z105 ?_
     refine z49 ?_
     go_wp2
     go_ret
     exact ⟨ret_bool (by simp [goodWorks, kilosOk, totalV, hp, h1, h2, h3]; try (rw [Bool.eq_iff_iff]; simp only [beq_iff_eq, IntWalk.i64_left]; exact ⟨fun h => decide_eq_true h, fun h => of_decide_eq_true h⟩)), ((Below.refl _ w).alloc nL _).trans (jd.mono (by simp))⟩
    | true =>
     refine tj2 18 21 19 22 HF jd ?_
     refine wpAnyH_ready (rs := [20]) (by exact z12) (by simp) ?_
     refine z44 ?_
     intro K hK
     refine z106 ?_
     intro w2 hb2
     revert K hK hb2
     refine z45 ?_
     intro jd
     refine tj2 21 24 22 25 HF jd ?_
     cases h4 : inR P 0 1000000 with
     | false =>
      refine wpAnyH_skips (by exact z12) (fun _ _ _ _ _ h => h) jd [(23, 26), (24, 27), (25, 28), (26, 29), (27, 30), (28, 31), (29, 32), (30, 33), (31, 34), (32, 35), (33, 36), (34, 37), (35, 38), (36, 39)] 2 14 _ _ rfl (by exact z12) ?_
      refine z47 ?_
      refine tj2 37 40 38 2 HF jd ?_
      refine z49 ?_
      exact z107
     | true =>
      refine tj4 23 26 24 27 25 28 27 30 HF jd ?_
      refine tj4 28 31 30 33 31 34 33 36 HF jd ?_
      refine tj 34 37 HF rfl jd ?_
      refine wpAnyH_ready (rs := [26]) (by exact z12) (by simp) ?_
      refine z44 ?_
      intro K hK
      (go_at_call 125; refine (l25Salt_any A n c lo hi f I H S P _ (HS.out.below jd) hn hnc).mono ?_; rintro e w2 ⟨rfl, hb2⟩)
      revert K hK hb2
      refine z45 ?_
      intro jd
      refine tj4 29 32 32 35 35 38 36 39 HF jd ?_
      refine tj2 37 40 38 2 HF jd ?_
      refine z49 ?_
      exact z107
theorem isWorks_good (A : Option Addr) (n c lo hi : Nat) (f : Nat → Int) (I H S P : Int) (w : World) (hs : Sl w lo hi 4 A n f) (hn : n ≤ 1048576) (hnc : n ≤ c) (hlen : n ≤ 6) (k1 : inR I 0 1000000 = true) (k2 : inR H 0 1000000 = true) (k3 : inR S 0 1000000 = true) (k4 : inR P 0 1000000 = true) :
  Calls Tryz.prog 76 #[.agg (wB A n c I H S P)] w fun e w' => e = .returned (.bool (goodWorks f n I H S P)) ∧ bW w w' := by
 refine z38 ?_
 intro HS
 clear hs
 have hl6 : ¬ ((6 : Int) < (n : Int)) := by omega
 go_enter Tryz.func76, Tryz.ntmps76
 go_wp2_with (go_at_call 118; refine (isKilos_any _ _).mono ?_; rintro e w2 ⟨rfl, rfl⟩)
 go_loopw [36] (fun i wr => ∃ k : Nat, k ≤ n ∧ i = .int .i64 k ∧ Hid (allTo (panStep f) k = true) ∧ bW (w.alloc (.cells (wB A n c I H S P) 32)) wr) (fun i _ => n - (intOf i).toNat)
 case atStart => exact z39
 case round =>
  obtain ⟨k, hk, rfl, hall, hbel⟩ := hrel
  refine z40 ?_
  intro hbz b0
  by_cases hlt : k < n
  ·obtain ⟨b, off, rfl, hbw, HC⟩ := HS.out.open_ hbel (by omega)
   refine z42 ?_
   intro c0 c1 c2 c3 hk0i hkni HF HP
   clear HC HS
   go_wp2
   refine wp_region_held_drew (S := fun w' => bW ((wr.alloc (.cells (iV (f (k * 4)) (f (k * 4 + 1)) (f (k * 4 + 2)) (f (k * 4 + 3))) 97))) w') (by exact z12) ((Below.refl _ _).drew) (fun jd => ?_)
   refine tj2 0 41 1 42 HF jd ?_
   refine wpAnyH_ready (rs := [2]) (by exact z12) (by simp) ?_
   refine z44 ?_
   intro K hK
   (go_at_call 119; refine (quiet_below (isId_any _ _)).mono ?_; rintro e w2 ⟨rfl, hb2⟩)
   revert K hK hb2
   refine z45 ?_
   intro jd
   refine tj2 3 44 4 45 HF jd ?_
   cases h1 : inR (f (k * 4)) 1 99 with
   | false =>
    have h2 : True := trivial
    have h3 : True := trivial
    have hm : True := trivial
    refine z46 ?_
    intro hno
    refine wpAnyH_skips (by exact z12) (fun _ _ _ _ _ h => h) jd [(5, 46), (6, 47), (7, 48), (8, 49)] 31 4 _ _ rfl (by exact z12) ?_
    refine z47 ?_
    refine tj2 9 50 10 51 HF jd ?_
    refine wpAnyH_skips (by exact z12) (fun _ _ _ _ _ h => h) jd [(11, 52), (12, 53), (13, 54), (14, 55)] 25 4 _ _ rfl (by exact z12) ?_
    refine z47 ?_
    refine tj2 15 56 16 57 HF jd ?_
    refine wpAnyH_skips (by exact z12) (fun _ _ _ _ _ h => h) jd [(17, 58), (18, 59), (19, 60), (20, 61), (21, 62), (22, 63)] 17 6 _ _ rfl (by exact z12) ?_
    refine z47 ?_
    refine tj2 23 64 24 65 HF jd ?_
    refine z108 ?_
    refine z47 ?_
    refine tj 39 80 HF rfl jd ?_
    refine z49 ?_
    exact z109
   | true =>
    refine tj2 5 46 6 47 HF jd ?_
    refine wpAnyH_ready (rs := [7]) (by exact z12) (by simp) ?_
    refine z44 ?_
    intro K hK
    (go_at_call 70; refine (quiet_below (within_any _ _ _ _)).mono ?_; rintro e w2 ⟨rfl, hb2⟩)
    revert K hK hb2
    refine z45 ?_
    intro jd
    refine tj3 8 49 9 50 10 51 HF jd ?_
    cases h2 : inR (f (k * 4 + 1)) 1 100000 with
    | false =>
     have h3 : True := trivial
     have hm : True := trivial
     refine z46 ?_
     intro hno
     refine wpAnyH_skips (by exact z12) (fun _ _ _ _ _ h => h) jd [(11, 52), (12, 53), (13, 54), (14, 55)] 25 4 _ _ rfl (by exact z12) ?_
     refine z47 ?_
     refine tj2 15 56 16 57 HF jd ?_
     refine wpAnyH_skips (by exact z12) (fun _ _ _ _ _ h => h) jd [(17, 58), (18, 59), (19, 60), (20, 61), (21, 62), (22, 63)] 17 6 _ _ rfl (by exact z12) ?_
     refine z47 ?_
     refine tj2 23 64 24 65 HF jd ?_
     refine z108 ?_
     refine z47 ?_
     refine tj 39 80 HF rfl jd ?_
     refine z49 ?_
     exact z109
    | true =>
     refine tj2 11 52 12 53 HF jd ?_
     refine wpAnyH_ready (rs := [13]) (by exact z12) (by simp) ?_
     refine z44 ?_
     intro K hK
     (go_at_call 120; refine (IsBrine_any _ _ _).mono ?_; rintro e w2 ⟨rfl, hb2⟩)
     revert K hK hb2
     refine z45 ?_
     intro jd
     refine tj3 14 55 15 56 16 57 HF jd ?_
     cases h3 : okBrine (f (k * 4 + 2)) (f (k * 4 + 3)) with
     | false =>
      have hm : True := trivial
      refine z46 ?_
      intro hno
      refine wpAnyH_skips (by exact z12) (fun _ _ _ _ _ h => h) jd [(17, 58), (18, 59), (19, 60), (20, 61), (21, 62), (22, 63)] 17 6 _ _ rfl (by exact z12) ?_
      refine z47 ?_
      refine tj2 23 64 24 65 HF jd ?_
      refine z108 ?_
      refine z47 ?_
      refine tj 39 80 HF rfl jd ?_
      refine z49 ?_
      exact z109
     | true =>
      by_cases hm : massV (f (k * 4 + 2)) (f (k * 4 + 3)) ≤ f (k * 4 + 1)
      ·have hmd : ¬ (f (k * 4 + 1) < massV (f (k * 4 + 2)) (f (k * 4 + 3))) := by omega
       refine tj4 17 58 18 59 20 61 21 62 HF jd ?_
       refine wpAnyH_ready (rs := [19]) (by exact z12) (by simp) ?_
       refine z44 ?_
       intro K hK
       (go_at_call 121; refine (mass_any _ _ _).mono ?_; rintro e w2 ⟨rfl, hb2⟩)
       revert K hK hb2
       refine z45 ?_
       intro jd
       refine tj4 22 63 23 64 24 65 25 66 HF jd ?_
       refine tj2 26 67 27 68 HF jd ?_
       by_cases h0 : k = 0
       ·revert HP h0
        refine z52 ?_
        intro hok1 hk0b hk0c
        refine wpAnyH_skips (by exact z12) (fun _ _ _ _ _ h => h) jd [(28, 69), (29, 70), (30, 71), (31, 72), (32, 73), (33, 74), (34, 75), (35, 76), (36, 77), (37, 78)] 2 10 _ _ rfl (by exact z12) ?_
        refine z47 ?_
        refine tj2 38 79 39 80 HF jd ?_
        refine z49 ?_
        exact z53
       ·revert HF HP
        refine z54 ?_
        intro hk0 hkk hb0 hb1x hb3 hwk hk0b hk0c HF
        by_cases hlt2 : f ((k - 1) * 4) < f (k * 4)
        ·have hok1 : Hid (panStep f k = true) := by simp [Hid, panStep, okPanAt, okPan, h1, h2, h3, hm, hlt2]
         refine tj4 28 69 29 70 30 71 31 72 HF jd ?_
         refine tj4 32 73 33 74 34 75 35 76 HF jd ?_
         refine tj4 36 77 37 78 38 79 39 80 HF jd ?_
         refine z49 ?_
         exact z53
        ·have hno : Hid (pansOk f n = false) := pansOk_no hlt (by simp [panStep, okPanAt, okPan, h1, h2, h3, hm, hlt2]; omega)
         refine tj4 28 69 29 70 30 71 31 72 HF jd ?_
         refine tj4 32 73 33 74 34 75 35 76 HF jd ?_
         refine tj4 36 77 37 78 38 79 39 80 HF jd ?_
         refine z49 ?_
         exact z109
      ·have hmd : f (k * 4 + 1) < massV (f (k * 4 + 2)) (f (k * 4 + 3)) := by omega
       refine z46 ?_
       intro hno
       refine tj4 17 58 18 59 20 61 21 62 HF jd ?_
       refine wpAnyH_ready (rs := [19]) (by exact z12) (by simp) ?_
       refine z44 ?_
       intro K hK
       (go_at_call 121; refine (mass_any _ _ _).mono ?_; rintro e w2 ⟨rfl, hb2⟩)
       revert K hK hb2
       refine z45 ?_
       intro jd
       refine tj3 22 63 23 64 24 65 HF jd ?_
       refine z108 ?_
       refine z47 ?_
       refine tj 39 80 HF rfl jd ?_
       refine z49 ?_
       exact z109
  ·obtain rfl : n = k := by omega
   have b1 : cI wr w.heap.size 1 I := (hbel.cell (p := ⟨w.heap.size, 1, none⟩) (by simp)).trans (by simp)
   have b2 : cI wr w.heap.size 2 H := (hbel.cell (p := ⟨w.heap.size, 2, none⟩) (by simp)).trans (by simp)
   have b3 : cI wr w.heap.size 3 S := (hbel.cell (p := ⟨w.heap.size, 3, none⟩) (by simp)).trans (by simp)
   have b4 : cI wr w.heap.size 4 P := (hbel.cell (p := ⟨w.heap.size, 4, none⟩) (by simp)).trans (by simp)
   have hps : pansOk f n = true := by simp [pansOk, hall.out, hlen]
   have HF : Hid (∀ w', bW wr w' → _) := fun w' hq => And.intro (kp hq b0) (And.intro (kp hq b1) (And.intro (kp hq b2) (And.intro (kp hq b3) (kp hq b4))))
   have HW : Hid (Sl wr lo hi 4 A n f) := HS.out.below hbel
   clear HS
   go_wp2
   refine wp_region_held_drew (S := fun w' => bW (wr) w') (by exact z12) ((Below.refl _ _).drew) (fun jd => ?_)
   refine tj4 0 82 1 83 2 84 4 86 HF jd ?_
   refine tj4 5 87 7 89 8 90 10 92 HF jd ?_
   refine tj 11 93 HF rfl jd ?_
   refine wpAnyH_ready (rs := [3]) (by exact z12) (by simp) ?_
   refine z44 ?_
   intro K hK
   (go_at_call 122; refine (saltInPans_any A n c lo hi f I H S P _ (HW.out.below jd) hn hnc).mono ?_; rintro e w2 ⟨rfl, hb2⟩)
   revert K hK hb2
   refine z45 ?_
   intro jd
   refine tj4 6 88 9 91 12 94 13 95 HF jd ?_
   refine tj 14 2 HF rfl jd ?_
   refine z49 ?_
   go_wp2
   go_ret
   exact ⟨ret_bool (by simp [goodWorks, kilosOk, totalV, hps, k1, k2, k3, k4]; try (rw [Bool.eq_iff_iff]; simp only [beq_iff_eq, IntWalk.i64_left]; exact ⟨fun h => decide_eq_true h, fun h => of_decide_eq_true h⟩)), ((Below.refl _ w).alloc nL _).trans ((below_of hbel jd hbel.size).mono (by simp))⟩
theorem isWorks_any (A : Option Addr) (n c lo hi : Nat) (f : Nat → Int) (I H S P : Int) (w : World) (hs : Sl w lo hi 4 A n f) (hn : n ≤ 1048576) (hnc : n ≤ c) :
  Calls Tryz.prog 76 #[.agg (wB A n c I H S P)] w fun e w' => e = .returned (.bool (goodWorks f n I H S P)) ∧ bW w w' := by
 by_cases hlen : n ≤ 6
 ·have hl6 : ¬ ((6 : Int) < (n : Int)) := by omega
  cases k1 : inR I 0 1000000 with
  | false =>
   go_enter Tryz.func76, Tryz.ntmps76
   go_wp2_with (go_at_call 118; refine (isKilos_any _ _).mono ?_; refine z56 ?_)
   go_ret
   exact ⟨ret_bool (by simp [goodWorks, kilosOk, k1]), (Below.refl _ w).alloc nL _⟩
  | true =>
   cases k2 : inR H 0 1000000 with
   | false =>
    go_enter Tryz.func76, Tryz.ntmps76
    go_wp2_with (go_at_call 118; refine (isKilos_any _ _).mono ?_; rintro e w2 ⟨rfl, rfl⟩)
    go_ret
    exact ⟨ret_bool (by simp [goodWorks, kilosOk, k1, k2]), (Below.refl _ w).alloc nL _⟩
   | true =>
    cases k3 : inR S 0 1000000 with
    | false =>
     go_enter Tryz.func76, Tryz.ntmps76
     go_wp2_with (go_at_call 118; refine (isKilos_any _ _).mono ?_; rintro e w2 ⟨rfl, rfl⟩)
     go_ret
     exact ⟨ret_bool (by simp [goodWorks, kilosOk, k1, k2, k3]), (Below.refl _ w).alloc nL _⟩
    | true =>
     cases k4 : inR P 0 1000000 with
     | false =>
      go_enter Tryz.func76, Tryz.ntmps76
      go_wp2_with (go_at_call 118; refine (isKilos_any _ _).mono ?_; rintro e w2 ⟨rfl, rfl⟩)
      go_ret
      exact ⟨ret_bool (by simp [goodWorks, kilosOk, k1, k2, k3, k4]), (Below.refl _ w).alloc nL _⟩
     | true => exact isWorks_good A n c lo hi f I H S P w hs hn hnc hlen k1 k2 k3 k4
 ·have hl6 : (6 : Int) < (n : Int) := by omega
  go_enter Tryz.func76, Tryz.ntmps76
  go_wp2_with (go_at_call 118; refine (isKilos_any _ _).mono ?_; rintro e w2 ⟨rfl, rfl⟩)
  go_ret
  exact ⟨ret_bool (by simp [goodWorks, pansOk, hlen]), (Below.refl _ w).alloc nL _⟩
end Go.Proofs.YtpndjhelpoenpaaGreatDoor
namespace Go.Proofs.YtpndjhelpoenpaaGreatDoor
open Go.RowKit
attribute [local go_sem ↓] Go.wp_at_zero Go.wp_at_succ
def findV (g : Nat → Int) (z : Int) : Nat → Nat → Int
 | 0, _ => -1
 | m + 1, k => if g k = z then (k : Int) else findV g z m (k + 1)
theorem findV_cases (g : Nat → Int) (z : Int) : ∀ m k, (findV g z m k = -1 ∧ ∀ j, k ≤ j → j < k + m → g j ≠ z) ∨ ∃ j, k ≤ j ∧ j < k + m ∧ findV g z m k = (j : Int) ∧ g j = z
 | 0, k => Or.inl ⟨rfl, fun j h1 h2 => absurd h2 (by omega)⟩
 | m + 1, k => by
  by_cases h : g k = z
  ·exact Or.inr ⟨k, Nat.le_refl _, by omega, by simp [findV, h], h⟩
  ·rcases findV_cases g z m (k + 1) with ⟨h1, h2⟩ | ⟨j, h1, h2, h3, h4⟩
   ·refine Or.inl ⟨by simp [findV, h, h1], fun j hj1 hj2 => ?_⟩
    by_cases hk : j = k
    ·exact hk ▸ h
    ·exact h2 j (by omega) (by omega)
   ·exact Or.inr ⟨j, by omega, by omega, by simp [findV, h, h3], h4⟩
def pid (f : Nat → Int) (k : Nat) : Int := f (k * 4)
def satV (f : Nat → Int) (n : Nat) (b : Bool) : Int := if b then sumW (saltAt f) n else 0
theorem panAt1_any (i h wt s z : Int) (q : Nat) (w : World) (hq : cI w q 0 z) (hqb : q < w.heap.size) :
  Calls Tryz.prog 152 #[.agg (iV i h wt s), .pointer (some ⟨q, 0, none⟩)] w fun e w' => e = .returned (.bool (decide (i = z))) ∧ bW w w' := by
 go_enter Tryz.func152, Tryz.ntmps152
 go_wp2
 go_ret
 exact ⟨ret_bool (by rw [Bool.eq_iff_iff]; simp), by go_grown⟩
theorem panIndex_any (A : Option Addr) (n c lo hi : Nat) (f : Nat → Int) (z : Int) (q : Nat) (w : World) (hs : Sl w lo hi 4 A n f) (hq : cI w q 0 z) (hqb : q < w.heap.size) (hn : n ≤ 1048576) (hnc : n ≤ c) :
  Calls Tryz.prog 151 #[.slice A n c, .func (.func 152) #[] #[.pointer (some ⟨q, 0, none⟩)]] w fun e w' => e = .returned (.int .i64 (findV (pid f) z n 0)) ∧ bW w w' := by
 have HS : Hid (Sl w lo hi 4 A n f) := hs
 clear hs
 go_enter Tryz.func151, Tryz.ntmps151
 go_wp2
 go_loopw [8] (fun i wr => ∃ k : Nat, k ≤ n ∧ i = .int .i64 k ∧ findV (pid f) z n 0 = findV (pid f) z (n - k) k ∧ bW w wr) (fun i _ => n - (intOf i).toNat)
 case atStart => exact z39
 case round =>
  obtain ⟨k, hk, rfl, hfd, hbel⟩ := hrel
  by_cases hlt : k < n
  ·obtain ⟨b, off, rfl, hbw, HC⟩ := HS.out.open_ hbel (by omega)
   obtain ⟨c0, c1, c2, c3⟩ := cell4 HC hlt
   have hqr := kp hbel hq
   have hqw : q < wr.heap.size := Nat.lt_of_lt_of_le hqb hbel.size
   refine z110 ?_
   intro hk0i hkni hstep HH
   clear HC HS hfd hstep
   by_cases hz : f (k * 4) = z
   ·go_wp2_with (go_at_call 152; refine (panAt1_any _ _ _ _ z q _ hqr hqw).mono ?_; rintro e w2 ⟨rfl, hb2⟩)
    go_ret
    exact ⟨ret_int (by rw [HH.out, if_pos hz]), below_of hbel hb2 hbel.size⟩
   ·go_wp2_with (go_at_call 152; refine (panAt1_any _ _ _ _ z q _ hqr hqw).mono ?_; rintro e w2 ⟨rfl, hb2⟩)
    go_roundw
    case rel => exact ⟨k + 1, by omega, by go_num, by rw [HH.out, if_neg hz], below_of hbel hb2 hbel.size⟩
    case measure => simp [intOf]; omega
  ·obtain rfl : n = k := by omega
   have HH : Hid (findV (pid f) z n 0 = -1) := by rw [Hid, hfd, Nat.sub_self]; rfl
   clear HS hfd
   go_wp2
   go_ret
   exact ⟨ret_int (by rw [HH.out]), hbel⟩
theorem panAt_any (A : Option Addr) (n c lo hi : Nat) (f : Nat → Int) (I H S P : Int) (z : Int) (w : World) (hs : Sl w lo hi 4 A n f) (hn : n ≤ 1048576) (hnc : n ≤ c) :
  Calls Tryz.prog 109 #[.agg (wB A n c I H S P), .int .i64 z] w fun e w' => e = .returned (.int .i64 (findV (pid f) z n 0)) ∧ bW w w' := by
 have HS : Hid (Sl ((w.alloc (.cells (wB A n c I H S P) 32)).alloc (.cells #[.int .i64 z] 3)) lo hi 4 A n f) := hs.below (by go_grown)
 have hmf : ∀ (fn : Fn) (first cap : Array Value) (w : World), (Instr.makeFunc fn first cap).run Tryz.prog w = .ok (.func fn first cap) w := fun _ _ _ _ => rfl
 clear hs
 go_enter Tryz.func109, Tryz.ntmps109
 go_wp2_with fail
 refine (panIndex_any A n c lo hi f z (w.heap.size + 1) _ HS.out (by go_simp) (by simp) hn hnc).mono ?_
 rintro e w2 ⟨rfl, hb2⟩
 go_wp2
 go_ret
 exact ⟨rfl, (((Below.refl _ w).alloc nL _).alloc (by simp) _).trans (hb2.mono (by simp; omega))⟩
theorem l25Find_any (A : Option Addr) (n c lo hi : Nat) (f : Nat → Int) (I H S P : Int) (z : Int) (w : World) (hs : Sl w lo hi 4 A n f) (hn : n ≤ 1048576) (hnc : n ≤ c) :
  Calls Tryz.prog 154 #[.agg (wB A n c I H S P), .int .i64 z] w fun e w' => e = .returned (.int .i64 (findV (pid f) z n 0)) ∧ bW w w' := by
 refine z38 ?_
 intro HS
 clear hs
 go_enter Tryz.func154, Tryz.ntmps154
 go_wp2
 go_loopw [5] (fun i wr => ∃ k : Nat, k ≤ n ∧ i = .int .i64 k ∧ findV (pid f) z n 0 = findV (pid f) z (n - k) k ∧ bW (w.alloc (.cells (wB A n c I H S P) 32)) wr) (fun i _ => n - (intOf i).toNat)
 case atStart => exact z39
 case round =>
  obtain ⟨k, hk, rfl, hfd, hbel⟩ := hrel
  refine z40 ?_
  intro hbz b0
  by_cases hlt : k < n
  ·obtain ⟨b, off, rfl, hbw, HC⟩ := HS.out.open_ hbel (by omega)
   obtain ⟨c0, c1, c2, c3⟩ := cell4 HC hlt
   refine z110 ?_
   intro hk0i hkni hstep HH
   clear HC HS hfd hstep
   by_cases hz : f (k * 4) = z
   ·go_wp2
    go_ret
    exact ⟨ret_int (by rw [HH.out, if_pos hz]), ((Below.refl _ w).alloc nL _).trans (hbel.mono (by simp))⟩
   ·go_wp2
    go_roundw
    case rel => exact ⟨k + 1, by omega, by go_num, by rw [HH.out, if_neg hz], hbel⟩
    case measure => simp [intOf]; omega
  ·obtain rfl : n = k := by omega
   have HH : Hid (findV (pid f) z n 0 = -1) := by rw [Hid, hfd, Nat.sub_self]; rfl
   clear HS hfd
   go_wp2
   go_ret
   exact ⟨ret_int (by rw [HH.out]), ((Below.refl _ w).alloc nL _).trans (hbel.mono (by simp))⟩
end Go.Proofs.YtpndjhelpoenpaaGreatDoor
namespace Go.Proofs.YtpndjhelpoenpaaGreatDoor
open Go.RowKit
attribute [local go_sem ↓] Go.wp_at_zero Go.wp_at_succ
def mayV (wt s : Int) : Bool := decide (wrap64 (260 * massV wt s) < wrap64 (1000 * s))
def dryN (wt s : Int) : Nat := (wt + s - (1000 * s - 1) / 260).toNat
theorem mayV_iff {wt s : Int} (h1 : -1000000 ≤ wt) (h2 : wt ≤ 1000000) (h3 : 0 ≤ s) (h4 : s ≤ 1000000) : mayV wt s = true ↔ 260 * (wt + s) < 1000 * s := by
 unfold mayV massV
 rw [IntWalk.wrap64_in (wt + s) ⟨by omega, by omega⟩, IntWalk.wrap64_in (260 * (wt + s)) ⟨by omega, by omega⟩, IntWalk.wrap64_in (1000 * s) ⟨by omega, by omega⟩]
 simp
theorem dry_le {wt s : Int} (h1 : 0 ≤ wt) (h2 : wt ≤ 1000000) (h3 : 0 < s) (h4 : s ≤ 1000000) : (dryN wt s : Int) ≤ wt + s := by unfold dryN; omega
theorem dry_step {wt s : Int} (h1 : 0 ≤ wt) (h2 : wt ≤ 1000000) (h3 : 0 < s) (h4 : s ≤ 1000000) {k : Nat} (hk : k ≤ dryN wt s) (hm : mayV (wt - k) s = false) : k < dryN wt s := by
 have hd := dry_le h1 h2 h3 h4
 have := mt (mayV_iff (wt := wt - k) (s := s) (by omega) (by omega) (by omega) h4).2 (by simp [hm])
 unfold dryN at *
 omega
theorem dry_done {wt s : Int} (h1 : 0 ≤ wt) (h2 : wt ≤ 1000000) (h3 : 0 < s) (h4 : s ≤ 1000000) {k : Nat} (hk : k ≤ dryN wt s) (hm : mayV (wt - k) s = true) : k = dryN wt s := by
 have hd := dry_le h1 h2 h3 h4
 have := (mayV_iff (wt := wt - k) (s := s) (by omega) (by omega) (by omega) h4).1 hm
 unfold dryN at *
 omega
def mostV (a b : Int) : Int := if b < a then a else b
theorem good_brine {f : Nat → Int} {n : Nat} {I H S P : Int} (hg : goodWorks f n I H S P = true) {j : Nat} (hj : j < n) : 0 ≤ f (j * 4 + 2) ∧ f (j * 4 + 2) ≤ 1000000 ∧ 0 ≤ f (j * 4 + 3) ∧ f (j * 4 + 3) ≤ 1000000 ∧ n ≤ 6 := by
 revert hg
 refine z111 ?_
 intro hg h
 simp only [panStep, okPanAt, okPan, okBrine, inR, Bool.and_eq_true, decide_eq_true_eq] at h
 omega
theorem l1Most_any (a b : Int) (w : World) :
  Calls Tryz.prog 106 (jV a b) w fun e w' => e = .returned (.int .i64 (mostV a b)) ∧ w = w' := by
 by_cases h : b < a
 ·go_enter Tryz.func106, Tryz.ntmps106
  go_wp2
  go_ret
  exact ⟨ret_int (by unfold mostV; rw [if_pos (by omega)]), rfl⟩
 ·go_enter Tryz.func106, Tryz.ntmps106
  go_wp2
  go_ret
  exact ⟨ret_int (by unfold mostV; rw [if_neg (by omega)]), rfl⟩
theorem mayRake_any (wt s : Int) (w : World) :
  Calls Tryz.prog 170 #[.agg (jV wt s)] w fun e w' => e = .returned (.bool (mayV wt s)) ∧ bW w w' := by
 refine z112 ?_
 intro HF
 go_enter Tryz.func170, Tryz.ntmps170
 go_wp2
 refine wp_region_held_drew (S := fun w' => bW ((w.alloc (.cells (jV wt s) 95))) w') (by exact z12) ((Below.refl _ _).drew) (fun jd => ?_)
 refine tj4 0 3 1 4 2 5 3 6 HF jd ?_
 refine z113 ?_
 refine z44 ?_
 intro K hK
 (go_at_call 121; refine (mass_any _ _ _).mono ?_; rintro e w2 ⟨rfl, hb2⟩)
 revert K hK hb2
 refine z45 ?_
 intro jd
 refine tj3 5 8 6 9 7 2 HF jd ?_
 refine z49 ?_
 exact z114
theorem l25May_any (wt s : Int) (w : World) :
  Calls Tryz.prog 185 #[.agg (jV wt s)] w fun e w' => e = .returned (.bool (mayV wt s)) ∧ bW w w' := by
 refine z112 ?_
 intro HF
 go_enter Tryz.func185, Tryz.ntmps185
 go_wp2
 refine wp_region_held_drew (S := fun w' => bW ((w.alloc (.cells (jV wt s) 95))) w') (by exact z12) ((Below.refl _ _).drew) (fun jd => ?_)
 refine tj4 0 3 1 4 2 5 3 6 HF jd ?_
 refine z113 ?_
 refine z44 ?_
 intro K hK
 refine z51 ?_
 intro w2 hb2
 revert K hK hb2
 refine z45 ?_
 intro jd
 refine tj3 5 8 6 9 7 2 HF jd ?_
 refine z49 ?_
 exact z114
theorem DryToRake_no (A : Option Addr) (n c lo hi : Nat) (f : Nat → Int) (I H S P : Int) (z : Int) (w : World) (hs : Sl w lo hi 4 A n f) (hn : n ≤ 1048576) (hnc : n ≤ c) (h : goodWorks f n I H S P = false ∨ findV (pid f) z n 0 = -1) :
  Calls Tryz.prog 143 #[.agg (wB A n c I H S P), .int .i64 z] w fun e w' => e = .returned (.tuple #[.int .i64 0, .bool false]) ∧ bW w w' := by
 refine z38 ?_
 intro HS
 clear hs
 cases hg : goodWorks f n I H S P with
 | false =>
  clear h
  generalize hfd : findV (pid f) z n 0 = r
  go_enter Tryz.func143, Tryz.ntmps143
  exact z115
 | true =>
  have hfd : findV (pid f) z n 0 = -1 := by simpa [hg] using h
  clear h
  go_enter Tryz.func143, Tryz.ntmps143
  exact z115
theorem DryToRake_zero (A : Option Addr) (n c lo hi : Nat) (f : Nat → Int) (I H S P : Int) (z : Int) (w : World) (hs : Sl w lo hi 4 A n f) (hn : n ≤ 1048576) (hnc : n ≤ c) (hg : goodWorks f n I H S P = true) (j : Nat) (hj : j < n) (hfd : findV (pid f) z n 0 = (j : Int)) (hz : f (j * 4 + 3) = 0) :
  Calls Tryz.prog 143 #[.agg (wB A n c I H S P), .int .i64 z] w fun e w' => e = .returned (.tuple #[.int .i64 0, .bool false]) ∧ bW w w' := by
 refine z38 ?_
 intro HS
 clear hs
 refine z119 ?_
 intro hj0 hk0i hkni
 ·skip
  go_enter Tryz.func143, Tryz.ntmps143
  go_wp2_with fail
  refine z116 ?_
  refine z117 ?_
  intro w2 hb2 b0 b1 b2 b3 b4 HS2
  go_wp2_with fail
  refine (isWorks_any A n c lo hi f I H S P _ HS2 hn hnc).mono ?_
  revert A HS hb2 b0 b1 b2 b3 b4 HS2
  refine z120 ?_
  intro w3 b off HS B3 b0 hbw HC c0 c1 c2 c3
  clear HC HS
  rw [hz] at c3
  exact z118
theorem DryToRake_yes (A : Option Addr) (n c lo hi : Nat) (f : Nat → Int) (I H S P : Int) (z : Int) (w : World) (hs : Sl w lo hi 4 A n f) (hn : n ≤ 1048576) (hnc : n ≤ c) (hg : goodWorks f n I H S P = true) (j : Nat) (hj : j < n) (hfd : findV (pid f) z n 0 = (j : Int)) (hz : f (j * 4 + 3) ≠ 0) :
  Calls Tryz.prog 143 #[.agg (wB A n c I H S P), .int .i64 z] w fun e w' => e = .returned (.tuple #[.int .i64 (dryN (f (j * 4 + 2)) (f (j * 4 + 3)) : Int), .bool true]) ∧ bW w w' := by
 refine z38 ?_
 intro HS
 clear hs
 refine z119 ?_
 intro hj0 hk0i hkni
 have hzb : (f (j * 4 + 3) == 0) = false := by simpa using hz
 obtain ⟨g1, g2, g3, g4, _⟩ := good_brine hg hj
 ·skip
  go_enter Tryz.func143, Tryz.ntmps143
  go_wp2_with fail
  refine z116 ?_
  refine z117 ?_
  intro w2 hb2 b0 b1 b2 b3 b4 HS2
  go_wp2_with fail
  refine (isWorks_any A n c lo hi f I H S P _ HS2 hn hnc).mono ?_
  revert A HS hb2 b0 b1 b2 b3 b4 HS2
  refine z120 ?_
  intro w3 b off HS B3 b0 hbw HC c0 c1 c2 c3
  clear HC HS
  go_wp2
  go_loopw [8] (fun i wr => ∃ k : Nat, k ≤ dryN (f (j * 4 + 2)) (f (j * 4 + 3)) ∧ i = .int .i64 k ∧ bW (w3.alloc (.cells (jV (f (j * 4 + 2)) (f (j * 4 + 3))) 95)) wr) (fun i _ => dryN (f (j * 4 + 2)) (f (j * 4 + 3)) - (intOf i).toNat)
  case atStart => exact z121
  case round =>
   obtain ⟨k, hk, rfl, hbel⟩ := hrel
   obtain ⟨d0, d1⟩ := cells2 (bx (g := w3.heap.size) hbel)
   have hdl := dry_le g1 g2 (by omega : 0 < (f (j * 4 + 3))) g4
   have hwk : IntKind.i64.wrap ((f (j * 4 + 2)) - k) = (f (j * 4 + 2)) - k := IntWalk.i64_in _ (by omega)
   have hwk2 : wrap64 ((f (j * 4 + 2)) - k) = (f (j * 4 + 2)) - k := IntWalk.wrap64_in _ (by omega)
   have BR : bW w3 wr := ((Below.refl _ w3).alloc nL _).trans (hbel.mono (by simp))
   cases hm : mayV ((f (j * 4 + 2)) - k) (f (j * 4 + 3)) with
   | false =>
    have hlt := dry_step g1 g2 (by omega : 0 < (f (j * 4 + 3))) g4 hk hm
    go_wp2_with (go_at_call 170; refine (mayRake_any _ _ _).mono ?_; rintro e w2 ⟨rfl, hb2⟩)
    go_roundw
    case rel => exact ⟨k + 1, by omega, by go_num, below_of hbel hb2 hbel.size⟩
    case measure => simp [intOf]; omega
   | true =>
    have hlt : Hid (k = dryN (f (j * 4 + 2)) (f (j * 4 + 3))) := dry_done g1 g2 (by omega : 0 < (f (j * 4 + 3))) g4 hk hm
    go_wp2_with (go_at_call 170; refine (mayRake_any _ _ _).mono ?_; rintro e w2 ⟨rfl, hb2⟩)
    go_returns
    exact ⟨by rw [← hlt.out]; rfl, ((Below.refl _ w).alloc nL _).trans ((below_of B3 (below_of BR hb2 BR.size) B3.size).mono (by simp))⟩
theorem specDryToRake_no (A : Option Addr) (n c lo hi : Nat) (f : Nat → Int) (I H S P : Int) (z : Int) (w : World) (hs : Sl w lo hi 4 A n f) (hn : n ≤ 1048576) (hnc : n ≤ c) (h : goodWorks f n I H S P = false ∨ findV (pid f) z n 0 = -1) :
  Calls Tryz.prog 131 #[.agg (wB A n c I H S P), .int .i64 z] w fun e w' => e = .returned (.tuple #[.int .i64 0, .bool false]) ∧ bW w w' := by
 refine z38 ?_
 intro HS
 clear hs
 cases hg : goodWorks f n I H S P with
 | false =>
  clear h
  generalize hfd : findV (pid f) z n 0 = r
  go_enter Tryz.func131, Tryz.ntmps131
  exact z122
 | true =>
  have hfd : findV (pid f) z n 0 = -1 := by simpa [hg] using h
  clear h
  go_enter Tryz.func131, Tryz.ntmps131
  exact z122
theorem specDryToRake_zero (A : Option Addr) (n c lo hi : Nat) (f : Nat → Int) (I H S P : Int) (z : Int) (w : World) (hs : Sl w lo hi 4 A n f) (hn : n ≤ 1048576) (hnc : n ≤ c) (hg : goodWorks f n I H S P = true) (j : Nat) (hj : j < n) (hfd : findV (pid f) z n 0 = (j : Int)) (hz : f (j * 4 + 3) = 0) :
  Calls Tryz.prog 131 #[.agg (wB A n c I H S P), .int .i64 z] w fun e w' => e = .returned (.tuple #[.int .i64 0, .bool false]) ∧ bW w w' := by
 refine z38 ?_
 intro HS
 clear hs
 refine z119 ?_
 intro hj0 hk0i hkni
 ·skip
  go_enter Tryz.func131, Tryz.ntmps131
  go_wp2_with fail
  refine z123 ?_
  refine z117 ?_
  intro w2 hb2 b0 b1 b2 b3 b4 HS2
  go_wp2_with fail
  refine (l25Good_any A n c lo hi f I H S P _ HS2 hn hnc).mono ?_
  revert A HS hb2 b0 b1 b2 b3 b4 HS2
  refine z120 ?_
  intro w3 b off HS B3 b0 hbw HC c0 c1 c2 c3
  clear HC HS
  rw [hz] at c3
  exact z118
theorem specDryToRake_yes (A : Option Addr) (n c lo hi : Nat) (f : Nat → Int) (I H S P : Int) (z : Int) (w : World) (hs : Sl w lo hi 4 A n f) (hn : n ≤ 1048576) (hnc : n ≤ c) (hg : goodWorks f n I H S P = true) (j : Nat) (hj : j < n) (hfd : findV (pid f) z n 0 = (j : Int)) (hz : f (j * 4 + 3) ≠ 0) :
  Calls Tryz.prog 131 #[.agg (wB A n c I H S P), .int .i64 z] w fun e w' => e = .returned (.tuple #[.int .i64 (dryN (f (j * 4 + 2)) (f (j * 4 + 3)) : Int), .bool true]) ∧ bW w w' := by
 refine z38 ?_
 intro HS
 clear hs
 refine z119 ?_
 intro hj0 hk0i hkni
 have hzb : (f (j * 4 + 3) == 0) = false := by simpa using hz
 obtain ⟨g1, g2, g3, g4, _⟩ := good_brine hg hj
 have hv : Hid (mostV 0 (IntKind.i64.wrap (massV (f (j * 4 + 2)) (f (j * 4 + 3)) - IntKind.i64.wrap ((IntKind.i64.wrap (IntKind.i64.wrap (1000 * f (j * 4 + 3)) - 1)).tdiv 260))) = (dryN (f (j * 4 + 2)) (f (j * 4 + 3)) : Int)) := by
  unfold massV dryN
  simp only [IntWalk.i64_left]
  rw [IntWalk.wrap64_in (1000 * f (j * 4 + 3)) ⟨by omega, by omega⟩, IntWalk.wrap64_in (f (j * 4 + 2) + f (j * 4 + 3)) ⟨by omega, by omega⟩, IntWalk.wrap64_in (1000 * f (j * 4 + 3) - 1) ⟨by omega, by omega⟩]
  rw [Int.tdiv_eq_ediv_of_nonneg (by omega)]
  rw [IntWalk.wrap64_in ((1000 * f (j * 4 + 3) - 1) / 260) ⟨by omega, by omega⟩]
  rw [IntWalk.wrap64_in _ ⟨by omega, by omega⟩]
  unfold mostV Hid
  split <;> omega
 ·skip
  go_enter Tryz.func131, Tryz.ntmps131
  go_wp2_with fail
  refine z123 ?_
  refine z117 ?_
  intro w2 hb2 b0 b1 b2 b3 b4 HS2
  go_wp2_with fail
  refine (l25Good_any A n c lo hi f I H S P _ HS2 hn hnc).mono ?_
  revert A HS hb2 b0 b1 b2 b3 b4 HS2
  refine z120 ?_
  intro w3 b off HS B3 b0 hbw HC c0 c1 c2 c3
  clear HC HS
  have HF : Hid (∀ w', bW (w3.alloc (.cells (jV (f (j * 4 + 2)) (f (j * 4 + 3))) 95)) w' → cI w' w3.heap.size 0 (f (j * 4 + 2)) ∧ cI w' w3.heap.size 1 (f (j * 4 + 3))) := fun w' hq => (cells2 (bx (g := w3.heap.size) hq))
  go_wp2
  refine wp_region_held_drew (S := fun w' => bW ((w3.alloc (.cells (jV (f (j * 4 + 2)) (f (j * 4 + 3))) 95))) w') (by exact z12) ((Below.refl _ _).drew) (fun jd => ?_)
  refine tj4 0 34 2 36 3 37 4 38 HF jd ?_
  refine tj2 5 39 6 40 HF jd ?_
  refine wpAnyH_ready (rs := [1]) (by exact z12) (by simp) ?_
  refine z44 ?_
  intro K hK
  refine z51 ?_
  intro w2 hb2
  revert K hK hb2
  refine z45 ?_
  intro jd
  refine tj 7 41 HF rfl jd ?_
  refine wpAnyH_ready (rs := [8]) (by exact z12) (by simp) ?_
  refine z44 ?_
  intro K hK
  (go_at_call 106; refine (quiet_below (l1Most_any _ _ _)).mono ?_; rintro e w2 ⟨rfl, hb2⟩)
  revert K hK hb2
  refine z45 ?_
  intro jd
  refine tj2 9 4 10 5 HF jd ?_
  refine z49 ?_
  go_wp2
  go_ret2
  exact ⟨by rw [← hv.out]; rfl, ((Below.refl _ w).alloc nL _).trans ((below_of B3 (((Below.refl _ w3).alloc nL _).trans (jd.mono (by simp))) B3.size).mono (by simp))⟩
end Go.Proofs.YtpndjhelpoenpaaGreatDoor
namespace Go.Proofs.YtpndjhelpoenpaaGreatDoor
variable {α : Type}
def stopI [Inhabited α] (mv : α → α → Bool) (L : List α) (n : α) : Nat → Nat
 | 0 => 0
 | k + 1 => if mv (L[k]?.getD default) n then stopI mv L n k else k + 1
def insI [Inhabited α] (mv : α → α → Bool) (L : List α) (n : α) : List α := L.take (stopI mv L n L.length) ++ n :: L.drop (stopI mv L n L.length)
theorem stopI_le [Inhabited α] (mv : α → α → Bool) (L : List α) (n : α) : ∀ k, stopI mv L n k ≤ k
 | 0 => Nat.le_refl _
 | k + 1 => by
  have := stopI_le mv L n k
  unfold stopI; split <;> omega
theorem insI_length [Inhabited α] (mv : α → α → Bool) (L : List α) (n : α) : (insI mv L n).length = L.length + 1 := by
 have := stopI_le mv L n L.length
 simp [insI]; omega
theorem insI_mem [Inhabited α] (mv : α → α → Bool) (L : List α) (n z : α) : z ∈ insI mv L n ↔ z ∈ L ∨ z = n := by
 unfold insI
 rw [List.mem_append, List.mem_cons]
 conv => rhs; rw [← List.take_append_drop (stopI mv L n L.length) L, List.mem_append]
 constructor
 ·rintro (h | h | h) <;> simp [h]
 ·rintro ((h | h) | h) <;> simp [h]
def isortL [Inhabited α] (mv : α → α → Bool) (L : List α) : List α := L.foldl (insI mv) []
theorem foldIns_length [Inhabited α] (mv : α → α → Bool) (L : List α) : ∀ S : List α, (L.foldl (insI mv) S).length = S.length + L.length := by
 induction L with
 | nil => intro S; rfl
 | cons x t ih => intro S; rw [List.foldl_cons, ih, insI_length, List.length_cons]; omega
theorem foldIns_mem [Inhabited α] (mv : α → α → Bool) (L : List α) : ∀ (S : List α) (z : α), z ∈ L.foldl (insI mv) S ↔ z ∈ S ∨ z ∈ L := by
 induction L with
 | nil => simp
 | cons x t ih => intro S z; rw [List.foldl_cons, ih, insI_mem]; simp [or_assoc]
theorem isortL_mem [Inhabited α] (mv : α → α → Bool) (L : List α) (z : α) : z ∈ isortL mv L ↔ z ∈ L := by simp [isortL, foldIns_mem]
theorem isortL_length [Inhabited α] (mv : α → α → Bool) (L : List α) : (isortL mv L).length = L.length := by simp [isortL, foldIns_length]
theorem swp_list [Inhabited α] {d : Array α} {A B : List α} {x y : α} (h : d.toList = A ++ x :: y :: B) : (Sort.swp d (A.length + 1) A.length).toList = A ++ y :: x :: B := by
 have hs : d.size = A.length + (B.length + 2) := by rw [← Array.length_toList, h]; simp
 have h0 : d[A.length]! = x := by
  rw [getElem!_pos d _ (by omega), ← Array.getElem_toList, List.getElem_of_eq h]; simp
 have h1 : d[A.length + 1]! = y := by
  rw [getElem!_pos d _ (by omega), ← Array.getElem_toList, List.getElem_of_eq h]
  rw [List.getElem_append_right (by omega)]; simp
 unfold Sort.swp
 rw [h0, h1]
 simp only [Array.toList_setIfInBounds, h]
 rw [List.set_append_right _ _ (by omega), List.set_append_right _ _ (by omega)]
 simp
theorem inner_list [Inhabited α] (lt : α → α → Bool) (S R : List α) (n : α) : ∀ (j : Nat) (d : Array α), j ≤ S.length → d.toList = S.take j ++ n :: (S.drop j ++ R) →
  (Sort.insInner lt 0 j d).toList = S.take (stopI (fun p n => lt n p) S n j) ++ n :: (S.drop (stopI (fun p n => lt n p) S n j) ++ R)
 | 0, d, _, h => by simpa [Sort.insInner, stopI] using h
 | j + 1, d, hj, h => by
  have hjl : j < S.length := by omega
  have htk : S.take (j + 1) = S.take j ++ [S[j]] := by rw [List.take_succ_eq_append_getElem hjl]
  have hl : (S.take j).length = j := by simp; omega
  rw [htk, List.append_assoc, List.singleton_append] at h
  have hs : d.size = j + (S.drop (j + 1) ++ R).length + 2 := by rw [← Array.length_toList, h]; simp; omega
  have h0 : d[j]! = S[j] := by
   rw [getElem!_pos d _ (by omega), ← Array.getElem_toList, List.getElem_of_eq h, List.getElem_append_right (by omega)]
   simp [hl]
  have h1 : d[j + 1]! = n := by
   rw [getElem!_pos d _ (by omega), ← Array.getElem_toList, List.getElem_of_eq h, List.getElem_append_right (by omega)]
   simp [hl]
  have hsj : S[j]?.getD default = S[j] := by simp [hjl]
  unfold Sort.insInner stopI
  rw [h0, h1, hsj]
  by_cases hc : lt n S[j] = true
  ·rw [if_pos (by simp [hc]), if_pos hc]
   have hw := swp_list h
   rw [hl] at hw
   refine inner_list lt S R n j _ (by omega) ?_
   rw [hw]
   congr 2
   rw [← List.cons_append, List.drop_eq_getElem_cons hjl]
  ·rw [if_neg (by simp [hc]), if_neg hc, h, htk, List.append_assoc, List.singleton_append]
theorem outer_list [Inhabited α] (lt : α → α → Bool) (b : Nat) : ∀ (m i : Nat) (d : Array α) (S R : List α), m = b - i → S.length = i → d.toList = S ++ R → R.length = b - i → i ≤ b →
  (Sort.insOuter lt 0 b i d).toList = R.foldl (insI fun p n => lt n p) S := by
 intro m
 induction m with
 | zero =>
  intro i d S R hm hS hd hR hib
  have : R = [] := List.length_eq_zero_iff.1 (by omega)
  subst this
  unfold Sort.insOuter
  rw [if_neg (by omega), hd]
  simp
 | succ m ih =>
  intro i d S R hm hS hd hR hib
  cases R with
  | nil => simp at hR; omega
  | cons n R =>
   unfold Sort.insOuter
   rw [if_pos (by omega), List.foldl_cons]
   simp only [List.length_cons] at hR
   have hin := inner_list lt S R n i d (by omega) (by rw [← hS, List.take_length, List.drop_length]; simpa using hd)
   refine ih (i + 1) _ _ R (by omega) (by rw [insI_length, hS]) ?_ (by omega) (by omega)
   rw [hin, ← hS]
   unfold insI
   simp
theorem sort_list [Inhabited α] (lt : α → α → Bool) (d : Array α) : (Sort.insertionSort lt d 0 d.size).toList = isortL (fun p n => lt n p) d.toList := by
 unfold Sort.insertionSort isortL
 cases hd : d.toList with
 | nil =>
  have : d.size = 0 := by rw [← Array.length_toList, hd]; rfl
  unfold Sort.insOuter
  rw [if_neg (by omega), hd]
  rfl
 | cons x R =>
  have hs : d.size = R.length + 1 := by rw [← Array.length_toList, hd]; rfl
  rw [List.foldl_cons]
  exact outer_list lt d.size (d.size - 1) 1 d [x] R rfl rfl hd (by omega) (by omega)
end Go.Proofs.YtpndjhelpoenpaaGreatDoor
