/-
  Texts of this claim, merged.
-/
import Derived.Test.YtpndjhelpoenpaaGreatDoorXA21
set_option linter.unusedVariables false
set_option linter.unusedSimpArgs false
set_option maxRecDepth 100000
set_option maxHeartbeats 8000000
namespace Go.Proofs.YtpndjhelpoenpaaGreatDoor
open Go.RowKit
attribute [local go_sem ↓] Go.wp_at_zero Go.wp_at_succ
theorem salt_small {f : Nat → Int} {n : Nat} {I H S P : Int} (hg : goodWorks f n I H S P = true) : -9223372036854775808 ≤ sumW (saltAt f) n ∧ sumW (saltAt f) n ≤ 9223372036854775807 := by
 cases n with
 | zero => simp [sumW]
 | succ k =>
  simp only [sumW, wrap64]
  omega
theorem replyOf_p (kc : Int) (u : ByteArray) (hk : (kc = 1 ∧ u = wd1) ∨ (kc = 2 ∧ u = wd2) ∨ (kc = 4 ∧ u = wd4) ∨ (kc = 14 ∧ u = wd14)) (A : Option Addr) (n c lo hi : Nat) (f : Nat → Int) (I H S P : Int) (B : Option Addr) (m d lb hb : Nat) (g : Nat → Int) (w : World) (hs : Sl w lo hi 4 A n f) (hn : n ≤ 1048576) (hnc : n ≤ c) (hz : Sl w lb hb 1 B m g) (hmd : m ≤ d) (ht : Tab w) (hgd : goodWorks f n I H S P = true) (hm : 1 ≤ m) :
  Calls Tryz.prog 96 #[.agg (wB A n c I H S P), .string u, .slice B m d] w fun e w' => e = .returned (.tuple #[.string (rpS f n I H S P kc (g 0) (g 1)), .bool (rpOk f n kc (g 0) (g 1))]) ∧ bW w w' := by
 have hm0 : 0 < m := by omega
 refine z257 ?_
 intro hX h0 hS
 have hZ := hz.below hX
 have qq3 : (u.toList == ([108, 101, 97, 100] : List UInt8)) = false := by rcases hk with ⟨_, rfl⟩ | ⟨_, rfl⟩ | ⟨_, rfl⟩ | ⟨_, rfl⟩ <;> decide +kernel
 have qq5 : (u.toList == ([114, 97, 107, 101] : List UInt8)) = false := by rcases hk with ⟨_, rfl⟩ | ⟨_, rfl⟩ | ⟨_, rfl⟩ | ⟨_, rfl⟩ <;> decide +kernel
 have qq9 : (u.toList == ([104, 101, 97, 112] : List UInt8)) = false := by rcases hk with ⟨_, rfl⟩ | ⟨_, rfl⟩ | ⟨_, rfl⟩ | ⟨_, rfl⟩ <;> decide +kernel
 have qq6 : (u.toList == ([115, 104, 105, 112] : List UInt8)) = false := by rcases hk with ⟨_, rfl⟩ | ⟨_, rfl⟩ | ⟨_, rfl⟩ | ⟨_, rfl⟩ <;> decide +kernel
 have qq7 : (u.toList == ([115, 104, 117, 116] : List UInt8)) = false := by rcases hk with ⟨_, rfl⟩ | ⟨_, rfl⟩ | ⟨_, rfl⟩ | ⟨_, rfl⟩ <;> decide +kernel
 have qq8 : (u.toList == ([105, 110] : List UInt8)) = false := by rcases hk with ⟨_, rfl⟩ | ⟨_, rfl⟩ | ⟨_, rfl⟩ | ⟨_, rfl⟩ <;> decide +kernel
 have qq10 : (u.toList == ([112, 97, 110, 115] : List UInt8)) = false := by rcases hk with ⟨_, rfl⟩ | ⟨_, rfl⟩ | ⟨_, rfl⟩ | ⟨_, rfl⟩ <;> decide +kernel
 have qq11 : (u.toList == ([109, 97, 121] : List UInt8)) = false := by rcases hk with ⟨_, rfl⟩ | ⟨_, rfl⟩ | ⟨_, rfl⟩ | ⟨_, rfl⟩ <;> decide +kernel
 have qq12 : (u.toList == ([111, 114, 100, 101, 114] : List UInt8)) = false := by rcases hk with ⟨_, rfl⟩ | ⟨_, rfl⟩ | ⟨_, rfl⟩ | ⟨_, rfl⟩ <;> decide +kernel
 have qq13 : (u.toList == ([109, 111, 114, 101] : List UInt8)) = false := by rcases hk with ⟨_, rfl⟩ | ⟨_, rfl⟩ | ⟨_, rfl⟩ | ⟨_, rfl⟩ <;> decide +kernel
 by_cases hv : 0 ≤ findV (pid f) (g 0) n 0
 ·obtain ⟨j, hj, hfd, hpj⟩ := findV_mem hv
  have HK : Hid (rpOk f n kc (g 0) (g 1) = true) := by show _ = _; rcases hk with ⟨rfl, _⟩ | ⟨rfl, _⟩ | ⟨rfl, _⟩ | ⟨rfl, _⟩ <;> simp [rpOk, hv]
  have HR : Hid (rpS f n I H S P kc (g 0) (g 1) = panX f n (g 0)) := by show _ = _; rw [rpS, if_pos HK.out]; rcases hk with ⟨rfl, _⟩ | ⟨rfl, _⟩ | ⟨rfl, _⟩ | ⟨rfl, _⟩ <;> simp [rpR]
  have hat := lh (atN_eq (f := f) hfd)
  have HFD := lh hfd
  clear hv
  refine z258 ?_
  go_upto_region 24 with fail
  refine z161 ?_
  intro w1 hw1
  rw [← hw1] at hX h0 hS hZ
  clear hw1
  obtain ⟨b1, o1, eB, _, hb1, hc⟩ := (hZ).here (by omega)
  subst eB
  refine z259 ?_
  intro x0 HF HX HS HT
  clear hfd
  clear hX hS hZ h0 hs hz ht
  refine wp_region_class (C := fun w' => bW (w1) w') (by exact z12) (by exact z12) ((Below.refl _ _).drew) ?_
  refine z260 ?_
  refine wpQuiet_meet (d := 87) (v := ?_) ?_ ?_ (by rfl) ?_ ?_ ?_
  rotate_left
  rotate_left
  rotate_left
  ·exact z13
  ·intro wS hS
   refine (PanText_yes _ n c lo hi f I H S P (g 0) wS (HS.out.below hS) hn hnc (HT.out.below hS) hgd j hj HFD.out).mono ?_
   exact z14
  refine z15 ?_
  refine tr 88 HF ?_
  refine tr 89 HF ?_
  exact z261
 ·have hfd := findV_none hv
  have HK : Hid (rpOk f n kc (g 0) (g 1) = false) := by show _ = _; rcases hk with ⟨rfl, _⟩ | ⟨rfl, _⟩ | ⟨rfl, _⟩ | ⟨rfl, _⟩ <;> simp [rpOk, hv]
  have HR : Hid (rpS f n I H S P kc (g 0) (g 1) = ⟨#[]⟩) := by show _ = _; rw [rpS, if_neg (by rw [HK.out]; simp)]; rcases hk with ⟨rfl, _⟩ | ⟨rfl, _⟩ | ⟨rfl, _⟩ | ⟨rfl, _⟩ <;> rfl
  have HFD := lh hfd
  clear hv hfd
  refine z258 ?_
  go_upto_region 24 with fail
  refine z161 ?_
  intro w1 hw1
  rw [← hw1] at hX h0 hS hZ
  clear hw1
  obtain ⟨b1, o1, eB, _, hb1, hc⟩ := (hZ).here (by omega)
  revert B hs hz ht hZ hS h0 hX eB
  refine z262 ?_
  intro x0 HF HX HS HT
  refine z260 ?_
  refine wpQuiet_meet (d := 87) (v := ?_) ?_ ?_ (by rfl) ?_ ?_ ?_
  rotate_left
  rotate_left
  rotate_left
  ·exact z13
  ·intro wS hS
   refine (PanText_no _ n c lo hi f I H S P (g 0) wS (HS.out.below hS) hn hnc (HT.out.below hS) (Or.inr HFD.out)).mono ?_
   exact z14
  refine z15 ?_
  refine tr 88 HF ?_
  refine tr 89 HF ?_
  exact z263
theorem replyOf_3 (u : ByteArray) (hu : u = wd3) (A : Option Addr) (n c lo hi : Nat) (f : Nat → Int) (I H S P : Int) (B : Option Addr) (m d lb hb : Nat) (g : Nat → Int) (w : World) (hs : Sl w lo hi 4 A n f) (hn : n ≤ 1048576) (hnc : n ≤ c) (hz : Sl w lb hb 1 B m g) (hmd : m ≤ d) (ht : Tab w) (hgd : goodWorks f n I H S P = true) (hm : m = 3) (hI : -9223372036854775808 ≤ I ∧ I ≤ 9223372036854775807) (hH : -9223372036854775808 ≤ H ∧ H ≤ 9223372036854775807) (hS_ : -9223372036854775808 ≤ S ∧ S ≤ 9223372036854775807) (hP : -9223372036854775808 ≤ P ∧ P ≤ 9223372036854775807) :
  Calls Tryz.prog 96 #[.agg (wB A n c I H S P), .string u, .slice B m d] w fun e w' => e = .returned (.tuple #[.string (rpS f n I H S P 3 (g 0) (g 1)), .bool (rpOk f n 3 (g 0) (g 1))]) ∧ bW w w' := by
 refine z257 ?_
 intro hX h0 hS
 have hZ := hz.below hX
 have qq3 : (u.toList == ([108, 101, 97, 100] : List UInt8)) = true := by rw [hu]; decide +kernel
 clear hu
 by_cases hv : 0 ≤ findV (pid f) (g 1) n 0
 ·obtain ⟨j, hj, hfd, hpj⟩ := findV_mem hv
  have HK : Hid (rpOk f n 3 (g 0) (g 1) = true) := by show _ = _; simp [rpOk, hv]
  have HR : Hid (rpS f n I H S P 3 (g 0) (g 1) = panX f n (g 1)) := by show _ = _; rw [rpS, if_pos HK.out]; simp [rpR]
  have hat := lh (atN_eq (f := f) hfd)
  have HFD := lh hfd
  clear hv
  refine z258 ?_
  go_upto_region 3 with fail
  refine z161 ?_
  intro w1 hw1
  rw [← hw1] at hX h0 hS hZ
  clear hw1
  obtain ⟨b1, o1, eB, _, hb1, hc⟩ := (hZ).here (by omega)
  subst eB
  refine z264 ?_
  intro x1 HF HX HS HT
  clear hfd
  clear hX hS hZ h0 hs hz ht
  refine wp_region_class (C := fun w' => bW (w1) w') (by exact z12) (by exact z12) ((Below.refl _ _).drew) ?_
  refine tr 17 HF ?_
  refine tr 18 HF ?_
  refine tr 19 HF ?_
  refine tr 20 HF ?_
  refine wpQuiet_meet (d := 21) (v := ?_) ?_ ?_ (by rfl) ?_ ?_ ?_
  rotate_left
  rotate_left
  rotate_left
  ·exact z13
  ·intro wS hS
   refine (PanText_yes _ n c lo hi f I H S P (g 1) wS (HS.out.below hS) hn hnc (HT.out.below hS) hgd j hj HFD.out).mono ?_
   exact z14
  refine z15 ?_
  refine tr 22 HF ?_
  refine tr 23 HF ?_
  exact z261
 ·have hfd := findV_none hv
  have HK : Hid (rpOk f n 3 (g 0) (g 1) = false) := by show _ = _; simp [rpOk, hv]
  have HR : Hid (rpS f n I H S P 3 (g 0) (g 1) = ⟨#[]⟩) := by show _ = _; rw [rpS, if_neg (by rw [HK.out]; simp)]; rfl
  have HFD := lh hfd
  clear hv hfd
  refine z258 ?_
  go_upto_region 3 with fail
  refine z161 ?_
  intro w1 hw1
  rw [← hw1] at hX h0 hS hZ
  clear hw1
  obtain ⟨b1, o1, eB, _, hb1, hc⟩ := (hZ).here (by omega)
  subst eB
  refine z264 ?_
  intro x1 HF HX HS HT
  clear hX hS hZ h0 hs hz ht
  refine wp_region_class (C := fun w' => bW (w1) w') (by exact z12) (by exact z12) ((Below.refl _ _).drew) ?_
  refine tr 17 HF ?_
  refine tr 18 HF ?_
  refine tr 19 HF ?_
  refine tr 20 HF ?_
  refine wpQuiet_meet (d := 21) (v := ?_) ?_ ?_ (by rfl) ?_ ?_ ?_
  rotate_left
  rotate_left
  rotate_left
  ·exact z13
  ·intro wS hS
   refine (PanText_no _ n c lo hi f I H S P (g 1) wS (HS.out.below hS) hn hnc (HT.out.below hS) (Or.inr HFD.out)).mono ?_
   exact z14
  refine z15 ?_
  refine tr 22 HF ?_
  refine tr 23 HF ?_
  exact z263
theorem replyOf_5 (u : ByteArray) (hu : u = wd5) (A : Option Addr) (n c lo hi : Nat) (f : Nat → Int) (I H S P : Int) (B : Option Addr) (m d lb hb : Nat) (g : Nat → Int) (w : World) (hs : Sl w lo hi 4 A n f) (hn : n ≤ 1048576) (hnc : n ≤ c) (hz : Sl w lb hb 1 B m g) (hmd : m ≤ d) (ht : Tab w) (hgd : goodWorks f n I H S P = true) (hm : m = 2) (hI : -9223372036854775808 ≤ I ∧ I ≤ 9223372036854775807) (hH : -9223372036854775808 ≤ H ∧ H ≤ 9223372036854775807) (hS_ : -9223372036854775808 ≤ S ∧ S ≤ 9223372036854775807) (hP : -9223372036854775808 ≤ P ∧ P ≤ 9223372036854775807) :
  Calls Tryz.prog 96 #[.agg (wB A n c I H S P), .string u, .slice B m d] w fun e w' => e = .returned (.tuple #[.string (rpS f n I H S P 5 (g 0) (g 1)), .bool (rpOk f n 5 (g 0) (g 1))]) ∧ bW w w' := by
 refine z257 ?_
 intro hX h0 hS
 have hZ := hz.below hX
 have qq3 := wq0 hu (by exact z11)
 have qq5 : (u.toList == ([114, 97, 107, 101] : List UInt8)) = true := by rw [hu]; decide +kernel
 clear hu
 have HK : Hid (rpOk f n 5 (g 0) (g 1) = true) := by show _ = _; simp [rpOk]
 have HR : Hid (rpS f n I H S P 5 (g 0) (g 1) = numB H) := by show _ = _; rw [rpS, if_pos HK.out]; simp [rpR]
 refine z258 ?_
 go_upto_region 6 with fail
 revert hX h0 hS hZ
 refine z265 ?_
 intro w1 HX HT e0 e1 e2 e3 e4
 go_wp2_with fail
 refine (decimal_any H (by omega) (by omega) w1 HT.out).mono ?_
 exact z266
theorem replyOf_6 (u : ByteArray) (hu : u = wd6) (A : Option Addr) (n c lo hi : Nat) (f : Nat → Int) (I H S P : Int) (B : Option Addr) (m d lb hb : Nat) (g : Nat → Int) (w : World) (hs : Sl w lo hi 4 A n f) (hn : n ≤ 1048576) (hnc : n ≤ c) (hz : Sl w lb hb 1 B m g) (hmd : m ≤ d) (ht : Tab w) (hgd : goodWorks f n I H S P = true) (hm : m = 1) (hI : -9223372036854775808 ≤ I ∧ I ≤ 9223372036854775807) (hH : -9223372036854775808 ≤ H ∧ H ≤ 9223372036854775807) (hS_ : -9223372036854775808 ≤ S ∧ S ≤ 9223372036854775807) (hP : -9223372036854775808 ≤ P ∧ P ≤ 9223372036854775807) :
  Calls Tryz.prog 96 #[.agg (wB A n c I H S P), .string u, .slice B m d] w fun e w' => e = .returned (.tuple #[.string (rpS f n I H S P 6 (g 0) (g 1)), .bool (rpOk f n 6 (g 0) (g 1))]) ∧ bW w w' := by
 refine z257 ?_
 intro hX h0 hS
 have hZ := hz.below hX
 have qq3 := wq0 hu (by exact z11)
 have qq5 := wq2 hu (by exact z11)
 have qq9 := wq6 hu (by exact z11)
 have qq6 : (u.toList == ([115, 104, 105, 112] : List UInt8)) = true := by rw [hu]; decide +kernel
 clear hu
 have HK : Hid (rpOk f n 6 (g 0) (g 1) = true) := by show _ = _; simp [rpOk]
 have HR : Hid (rpS f n I H S P 6 (g 0) (g 1) = numB S) := by show _ = _; rw [rpS, if_pos HK.out]; simp [rpR]
 refine z258 ?_
 go_upto_region 8 with fail
 revert hX h0 hS hZ
 refine z265 ?_
 intro w1 HX HT e0 e1 e2 e3 e4
 go_wp2_with fail
 refine (decimal_any S (by omega) (by omega) w1 HT.out).mono ?_
 exact z266
theorem replyOf_7 (u : ByteArray) (hu : u = wd7) (A : Option Addr) (n c lo hi : Nat) (f : Nat → Int) (I H S P : Int) (B : Option Addr) (m d lb hb : Nat) (g : Nat → Int) (w : World) (hs : Sl w lo hi 4 A n f) (hn : n ≤ 1048576) (hnc : n ≤ c) (hz : Sl w lb hb 1 B m g) (hmd : m ≤ d) (ht : Tab w) (hgd : goodWorks f n I H S P = true) (hm : m = 1) (hI : -9223372036854775808 ≤ I ∧ I ≤ 9223372036854775807) (hH : -9223372036854775808 ≤ H ∧ H ≤ 9223372036854775807) (hS_ : -9223372036854775808 ≤ S ∧ S ≤ 9223372036854775807) (hP : -9223372036854775808 ≤ P ∧ P ≤ 9223372036854775807) :
  Calls Tryz.prog 96 #[.agg (wB A n c I H S P), .string u, .slice B m d] w fun e w' => e = .returned (.tuple #[.string (rpS f n I H S P 7 (g 0) (g 1)), .bool (rpOk f n 7 (g 0) (g 1))]) ∧ bW w w' := by
 refine z257 ?_
 intro hX h0 hS
 have hZ := hz.below hX
 have qq3 := wq0 hu (by exact z11)
 have qq5 := wq2 hu (by exact z11)
 have qq9 := wq6 hu (by exact z11)
 have qq6 := wq1 hu (by exact z11)
 have qq7 : (u.toList == ([115, 104, 117, 116] : List UInt8)) = true := by rw [hu]; decide +kernel
 clear hu
 have HK : Hid (rpOk f n 7 (g 0) (g 1) = true) := by show _ = _; simp [rpOk]
 have HR : Hid (rpS f n I H S P 7 (g 0) (g 1) = numB P) := by show _ = _; rw [rpS, if_pos HK.out]; simp [rpR]
 refine z258 ?_
 go_upto_region 10 with fail
 revert hX h0 hS hZ
 refine z265 ?_
 intro w1 HX HT e0 e1 e2 e3 e4
 go_wp2_with fail
 refine (decimal_any P (by omega) (by omega) w1 HT.out).mono ?_
 exact z266
theorem replyOf_8 (u : ByteArray) (hu : u = wd8) (A : Option Addr) (n c lo hi : Nat) (f : Nat → Int) (I H S P : Int) (B : Option Addr) (m d lb hb : Nat) (g : Nat → Int) (w : World) (hs : Sl w lo hi 4 A n f) (hn : n ≤ 1048576) (hnc : n ≤ c) (hz : Sl w lb hb 1 B m g) (hmd : m ≤ d) (ht : Tab w) (hgd : goodWorks f n I H S P = true) (hm : m = 0) (hI : -9223372036854775808 ≤ I ∧ I ≤ 9223372036854775807) (hH : -9223372036854775808 ≤ H ∧ H ≤ 9223372036854775807) (hS_ : -9223372036854775808 ≤ S ∧ S ≤ 9223372036854775807) (hP : -9223372036854775808 ≤ P ∧ P ≤ 9223372036854775807) :
  Calls Tryz.prog 96 #[.agg (wB A n c I H S P), .string u, .slice B m d] w fun e w' => e = .returned (.tuple #[.string (rpS f n I H S P 8 (g 0) (g 1)), .bool (rpOk f n 8 (g 0) (g 1))]) ∧ bW w w' := by
 refine z257 ?_
 intro hX h0 hS
 have hZ := hz.below hX
 have qq3 := wq0 hu (by exact z11)
 have qq5 := wq2 hu (by exact z11)
 have qq9 := wq6 hu (by exact z11)
 have qq6 := wq1 hu (by exact z11)
 have qq7 := wq3 hu (by exact z11)
 have qq8 : (u.toList == ([105, 110] : List UInt8)) = true := by rw [hu]; decide +kernel
 clear hu
 have HK : Hid (rpOk f n 8 (g 0) (g 1) = true) := by show _ = _; simp [rpOk]
 have HR : Hid (rpS f n I H S P 8 (g 0) (g 1) = numB I) := by show _ = _; rw [rpS, if_pos HK.out]; simp [rpR]
 refine z258 ?_
 go_upto_region 12 with fail
 revert hX h0 hS hZ
 refine z265 ?_
 intro w1 HX HT e0 e1 e2 e3 e4
 go_wp2_with fail
 refine (decimal_any I (by omega) (by omega) w1 HT.out).mono ?_
 exact z266
theorem replyOf_9 (u : ByteArray) (hu : u = wd9) (A : Option Addr) (n c lo hi : Nat) (f : Nat → Int) (I H S P : Int) (B : Option Addr) (m d lb hb : Nat) (g : Nat → Int) (w : World) (hs : Sl w lo hi 4 A n f) (hn : n ≤ 1048576) (hnc : n ≤ c) (hz : Sl w lb hb 1 B m g) (hmd : m ≤ d) (ht : Tab w) (hgd : goodWorks f n I H S P = true) (hm : m = 0) (hI : -9223372036854775808 ≤ I ∧ I ≤ 9223372036854775807) (hH : -9223372036854775808 ≤ H ∧ H ≤ 9223372036854775807) (hS_ : -9223372036854775808 ≤ S ∧ S ≤ 9223372036854775807) (hP : -9223372036854775808 ≤ P ∧ P ≤ 9223372036854775807) :
  Calls Tryz.prog 96 #[.agg (wB A n c I H S P), .string u, .slice B m d] w fun e w' => e = .returned (.tuple #[.string (rpS f n I H S P 9 (g 0) (g 1)), .bool (rpOk f n 9 (g 0) (g 1))]) ∧ bW w w' := by
 refine z257 ?_
 intro hX h0 hS
 have hZ := hz.below hX
 have qq3 := wq0 hu (by exact z11)
 have qq5 := wq2 hu (by exact z11)
 have qq9 : (u.toList == ([104, 101, 97, 112] : List UInt8)) = true := by rw [hu]; decide +kernel
 clear hu
 have HK : Hid (rpOk f n 9 (g 0) (g 1) = true) := by show _ = _; simp [rpOk]
 have HR : Hid (rpS f n I H S P 9 (g 0) (g 1) = numB H) := by show _ = _; rw [rpS, if_pos HK.out]; simp [rpR]
 refine z258 ?_
 go_upto_region 6 with fail
 revert hX h0 hS hZ
 refine z265 ?_
 intro w1 HX HT e0 e1 e2 e3 e4
 go_wp2_with fail
 refine (decimal_any H (by omega) (by omega) w1 HT.out).mono ?_
 exact z266
theorem replyOf_10 (u : ByteArray) (hu : u = wd10) (A : Option Addr) (n c lo hi : Nat) (f : Nat → Int) (I H S P : Int) (B : Option Addr) (m d lb hb : Nat) (g : Nat → Int) (w : World) (hs : Sl w lo hi 4 A n f) (hn : n ≤ 1048576) (hnc : n ≤ c) (hz : Sl w lb hb 1 B m g) (hmd : m ≤ d) (ht : Tab w) (hgd : goodWorks f n I H S P = true) (hm : m = 0) (hI : -9223372036854775808 ≤ I ∧ I ≤ 9223372036854775807) (hH : -9223372036854775808 ≤ H ∧ H ≤ 9223372036854775807) (hS_ : -9223372036854775808 ≤ S ∧ S ≤ 9223372036854775807) (hP : -9223372036854775808 ≤ P ∧ P ≤ 9223372036854775807) :
  Calls Tryz.prog 96 #[.agg (wB A n c I H S P), .string u, .slice B m d] w fun e w' => e = .returned (.tuple #[.string (rpS f n I H S P 10 (g 0) (g 1)), .bool (rpOk f n 10 (g 0) (g 1))]) ∧ bW w w' := by
 refine z257 ?_
 intro hX h0 hS
 have hZ := hz.below hX
 have qq3 := wq0 hu (by exact z11)
 have qq5 := wq2 hu (by exact z11)
 have qq9 := wq6 hu (by exact z11)
 have qq6 := wq1 hu (by exact z11)
 have qq7 := wq3 hu (by exact z11)
 have qq8 := wq7 hu (by exact z11)
 have qq10 : (u.toList == ([112, 97, 110, 115] : List UInt8)) = true := by rw [hu]; decide +kernel
 clear hu
 have HK : Hid (rpOk f n 10 (g 0) (g 1) = true) := by show _ = _; simp [rpOk]
 have HR : Hid (rpS f n I H S P 10 (g 0) (g 1) = numB (sumW (saltAt f) n)) := by show _ = _; rw [rpS, if_pos HK.out]; simp [rpR]
 refine z258 ?_
 go_upto_region 14 with fail
 refine z161 ?_
 intro w1 hw1
 rw [← hw1] at hX h0 hS hZ
 clear hw1
 have HX := lh hX
 have HT := lh (ht.below hX)
 have HS := lh hS
 obtain ⟨e0, e1, e2, e3, e4⟩ := cells5 h0
 clear h0 hX hS hZ
 have hsb := salt_small hgd
 go_wp2_with fail
 refine (saltInPans_any A n c lo hi f I H S P w1 HS.out hn hnc).mono ?_
 rintro e w2 ⟨rfl, hb2⟩
 have HT2 := lh (HT.out.below hb2)
 go_wp2_with fail
 refine (decimal_any _ (by omega) (by omega) w2 HT2.out).mono ?_
 exact z267
theorem replyOf_11 (u : ByteArray) (hu : u = wd11) (A : Option Addr) (n c lo hi : Nat) (f : Nat → Int) (I H S P : Int) (B : Option Addr) (m d lb hb : Nat) (g : Nat → Int) (w : World) (hs : Sl w lo hi 4 A n f) (hn : n ≤ 1048576) (hnc : n ≤ c) (hz : Sl w lb hb 1 B m g) (hmd : m ≤ d) (ht : Tab w) (hgd : goodWorks f n I H S P = true) (hm : m = 0) (hI : -9223372036854775808 ≤ I ∧ I ≤ 9223372036854775807) (hH : -9223372036854775808 ≤ H ∧ H ≤ 9223372036854775807) (hS_ : -9223372036854775808 ≤ S ∧ S ≤ 9223372036854775807) (hP : -9223372036854775808 ≤ P ∧ P ≤ 9223372036854775807) :
  Calls Tryz.prog 96 #[.agg (wB A n c I H S P), .string u, .slice B m d] w fun e w' => e = .returned (.tuple #[.string (rpS f n I H S P 11 (g 0) (g 1)), .bool (rpOk f n 11 (g 0) (g 1))]) ∧ bW w w' := by
 refine z257 ?_
 intro hX h0 hS
 have hZ := hz.below hX
 have qq3 := wq0 hu (by exact z11)
 have qq5 := wq2 hu (by exact z11)
 have qq9 := wq6 hu (by exact z11)
 have qq6 := wq1 hu (by exact z11)
 have qq7 := wq3 hu (by exact z11)
 have qq8 := wq7 hu (by exact z11)
 have qq10 := wq9 hu (by exact z11)
 have qq11 : (u.toList == ([109, 97, 121] : List UInt8)) = true := by rw [hu]; decide +kernel
 clear hu
 have HK : Hid (rpOk f n 11 (g 0) (g 1) = true) := by show _ = _; simp [rpOk]
 have HR : Hid (rpS f n I H S P 11 (g 0) (g 1) = listB (fun j => (rakeRes f n true).getD j 0) (rakeRes f n true).length) := by show _ = _; rw [rpS, if_pos HK.out]; simp [rpR]
 refine z258 ?_
 go_upto_region 16 with fail
 refine z161 ?_
 intro w1 hw1
 rw [← hw1] at hX h0 hS hZ
 clear hw1
 have HX := lh hX
 have HT := lh (ht.below hX)
 have HS := lh hS
 obtain ⟨e0, e1, e2, e3, e4⟩ := cells5 h0
 clear h0 hX hS hZ
 have hsm := lh (rake_small hgd)
 have hln := rakeRes_len f n true
 have hn6 := con_len hgd
 have HM := MayRake_any A n c lo hi f I H S P w1 HS.out hn hnc
 rw [hgd] at HM
 generalize rakeRes f n true = L at HM hsm hln HR
 exact z268
theorem replyOf_12 (u : ByteArray) (hu : u = wd12) (A : Option Addr) (n c lo hi : Nat) (f : Nat → Int) (I H S P : Int) (B : Option Addr) (m d lb hb : Nat) (g : Nat → Int) (w : World) (hs : Sl w lo hi 4 A n f) (hn : n ≤ 1048576) (hnc : n ≤ c) (hz : Sl w lb hb 1 B m g) (hmd : m ≤ d) (ht : Tab w) (hgd : goodWorks f n I H S P = true) (hm : m = 0) (hI : -9223372036854775808 ≤ I ∧ I ≤ 9223372036854775807) (hH : -9223372036854775808 ≤ H ∧ H ≤ 9223372036854775807) (hS_ : -9223372036854775808 ≤ S ∧ S ≤ 9223372036854775807) (hP : -9223372036854775808 ≤ P ∧ P ≤ 9223372036854775807) :
  Calls Tryz.prog 96 #[.agg (wB A n c I H S P), .string u, .slice B m d] w fun e w' => e = .returned (.tuple #[.string (rpS f n I H S P 12 (g 0) (g 1)), .bool (rpOk f n 12 (g 0) (g 1))]) ∧ bW w w' := by
 refine z257 ?_
 intro hX h0 hS
 have hZ := hz.below hX
 have qq3 := wq0 hu (by exact z11)
 have qq5 := wq2 hu (by exact z11)
 have qq9 := wq6 hu (by exact z11)
 have qq6 := wq1 hu (by exact z11)
 have qq7 := wq3 hu (by exact z11)
 have qq8 := wq7 hu (by exact z11)
 have qq10 := wq9 hu (by exact z11)
 have qq11 := wq10 hu (by exact z11)
 have qq12 : (u.toList == ([111, 114, 100, 101, 114] : List UInt8)) = true := by rw [hu]; decide +kernel
 clear hu
 have HK : Hid (rpOk f n 12 (g 0) (g 1) = true) := by show _ = _; simp [rpOk]
 have HR : Hid (rpS f n I H S P 12 (g 0) (g 1) = listB (fun j => (ordRes f n true).getD j 0) (ordRes f n true).length) := by show _ = _; rw [rpS, if_pos HK.out]; simp [rpR]
 refine z258 ?_
 go_upto_region 19 with fail
 refine z161 ?_
 intro w1 hw1
 rw [← hw1] at hX h0 hS hZ
 clear hw1
 have HX := lh hX
 have HT := lh (ht.below hX)
 have HS := lh hS
 obtain ⟨e0, e1, e2, e3, e4⟩ := cells5 h0
 clear h0 hX hS hZ
 have hsm := lh (ord_small hgd)
 have hln := ordRes_len f n true
 have hn6 := con_len hgd
 have HM := PanOrder_any A n c lo hi f I H S P w1 HS.out hn hnc
 rw [hgd] at HM
 generalize ordRes f n true = L at HM hsm hln HR
 exact z268
theorem replyOf_13 (u : ByteArray) (hu : u = wd13) (A : Option Addr) (n c lo hi : Nat) (f : Nat → Int) (I H S P : Int) (B : Option Addr) (m d lb hb : Nat) (g : Nat → Int) (w : World) (hs : Sl w lo hi 4 A n f) (hn : n ≤ 1048576) (hnc : n ≤ c) (hz : Sl w lb hb 1 B m g) (hmd : m ≤ d) (ht : Tab w) (hgd : goodWorks f n I H S P = true) (hm : m = 1) (hI : -9223372036854775808 ≤ I ∧ I ≤ 9223372036854775807) (hH : -9223372036854775808 ≤ H ∧ H ≤ 9223372036854775807) (hS_ : -9223372036854775808 ≤ S ∧ S ≤ 9223372036854775807) (hP : -9223372036854775808 ≤ P ∧ P ≤ 9223372036854775807) :
  Calls Tryz.prog 96 #[.agg (wB A n c I H S P), .string u, .slice B m d] w fun e w' => e = .returned (.tuple #[.string (rpS f n I H S P 13 (g 0) (g 1)), .bool (rpOk f n 13 (g 0) (g 1))]) ∧ bW w w' := by
 refine z257 ?_
 intro hX h0 hS
 have hZ := hz.below hX
 have qq3 := wq0 hu (by exact z11)
 have qq5 := wq2 hu (by exact z11)
 have qq9 := wq6 hu (by exact z11)
 have qq6 := wq1 hu (by exact z11)
 have qq7 := wq3 hu (by exact z11)
 have qq8 := wq7 hu (by exact z11)
 have qq10 := wq9 hu (by exact z11)
 have qq11 := wq10 hu (by exact z11)
 have qq12 := wq11 hu (by exact z11)
 have qq13 : (u.toList == ([109, 111, 114, 101] : List UInt8)) = true := by rw [hu]; decide +kernel
 clear hu
 by_cases hv : 0 ≤ findV (pid f) (g 0) n 0
 ·obtain ⟨j, hj, hfd, hpj⟩ := findV_mem hv
  have hat := lh (atN_eq (f := f) hfd)
  by_cases hz3 : f (j * 4 + 3) = 0
  ·have hz0 : f (atN f n (g 0) * 4 + 3) = 0 := by rw [hat.out]; exact hz3
   obtain ⟨bw, bs, b3, b4, _⟩ := good_brine hgd hj
   have HK : Hid (rpOk f n 13 (g 0) (g 1) = false) := by show _ = _; simp [rpOk, hv, hz0]
   have HR : Hid (rpS f n I H S P 13 (g 0) (g 1) = numB 0) := by show _ = _; rw [rpS, if_neg (by rw [HK.out]; simp)]; rfl
   have HFD := lh hfd
   clear hfd
   refine z258 ?_
   go_upto_region 22 with fail
   refine z161 ?_
   intro w1 hw1
   rw [← hw1] at hX h0 hS hZ
   clear hw1
   obtain ⟨b1, o1, eB, _, hb1, hc⟩ := (hZ).here (by omega)
   revert B hs hz ht hZ hS h0 hX eB
   refine z262 ?_
   intro x0 HF HX HS HT
   refine tr 73 HF ?_
   refine tr 74 HF ?_
   refine tr 75 HF ?_
   refine tr 76 HF ?_
   refine wpQuiet_meet (d := 77) (v := ?_) ?_ ?_ (by rfl) ?_ ?_ ?_
   rotate_left
   rotate_left
   rotate_left
   ·exact z13
   ·intro wS hS
    refine (DryToRake_zero A n c lo hi f I H S P (g 0) wS (HS.out.below hS) hn hnc hgd j hj HFD.out hz3).mono ?_
    exact z14
   refine z15 ?_
   exact z269
  ·have hz0 : ¬ f (atN f n (g 0) * 4 + 3) = 0 := by rw [hat.out]; exact hz3
   obtain ⟨bw, bs, b3, b4, _⟩ := good_brine hgd hj
   have HK : Hid (rpOk f n 13 (g 0) (g 1) = true) := by show _ = _; simp [rpOk, hv, hz0]
   have HR : Hid (rpS f n I H S P 13 (g 0) (g 1) = numB (dryN (f (atN f n (g 0) * 4 + 2)) (f (atN f n (g 0) * 4 + 3)) : Nat)) := by show _ = _; rw [rpS, if_pos HK.out]; simp [rpR]
   have HFD := lh hfd
   clear hfd
   refine z258 ?_
   go_upto_region 22 with fail
   refine z161 ?_
   intro w1 hw1
   rw [← hw1] at hX h0 hS hZ
   clear hw1
   obtain ⟨b1, o1, eB, _, hb1, hc⟩ := (hZ).here (by omega)
   revert B hs hz ht hZ hS h0 hX eB
   refine z262 ?_
   intro x0 HF HX HS HT
   refine tr 73 HF ?_
   refine tr 74 HF ?_
   refine tr 75 HF ?_
   refine tr 76 HF ?_
   refine wpQuiet_meet (d := 77) (v := ?_) ?_ ?_ (by rfl) ?_ ?_ ?_
   rotate_left
   rotate_left
   rotate_left
   ·exact z13
   ·intro wS hS
    refine (DryToRake_yes A n c lo hi f I H S P (g 0) wS (HS.out.below hS) hn hnc hgd j hj HFD.out hz3).mono ?_
    exact z14
   refine z15 ?_
   refine tr 72 HF ?_
   refine tr 78 HF ?_
   refine tr 79 HF ?_
   refine tr 12 HF ?_
   refine tr 13 HF ?_
   refine wpQuiet_nil (fun wq jd => ?_)
   have hdl := dry_le bw bs (show (0 : Int) < f (j * 4 + 3) by omega) b4
   go_wp2_with fail
   refine (decimal_any (dryN (f (j * 4 + 2)) (f (j * 4 + 3)) : Nat) (by omega) (by omega) wq (HT.out.below jd)).mono ?_
   rintro e w2 ⟨rfl, hb2⟩
   go_wp2_with fail
   go_ret2
   exact ⟨(by rw [HK.out, HR.out, hat.out]; try rfl), HX.out.trans ((below_of jd hb2 jd.size).mono HX.out.size)⟩
 ·have hfd := findV_none hv
  have HK : Hid (rpOk f n 13 (g 0) (g 1) = false) := by show _ = _; simp [rpOk, hv]
  have HR : Hid (rpS f n I H S P 13 (g 0) (g 1) = numB 0) := by show _ = _; rw [rpS, if_neg (by rw [HK.out]; simp)]; rfl
  have HFD := lh hfd
  clear hfd
  refine z258 ?_
  go_upto_region 22 with fail
  refine z161 ?_
  intro w1 hw1
  rw [← hw1] at hX h0 hS hZ
  clear hw1
  obtain ⟨b1, o1, eB, _, hb1, hc⟩ := (hZ).here (by omega)
  revert B hs hz ht hZ hS h0 hX eB
  refine z262 ?_
  intro x0 HF HX HS HT
  refine tr 73 HF ?_
  refine tr 74 HF ?_
  refine tr 75 HF ?_
  refine tr 76 HF ?_
  refine wpQuiet_meet (d := 77) (v := ?_) ?_ ?_ (by rfl) ?_ ?_ ?_
  rotate_left
  rotate_left
  rotate_left
  ·exact z13
  ·intro wS hS
   refine (DryToRake_no A n c lo hi f I H S P (g 0) wS (HS.out.below hS) hn hnc (Or.inr HFD.out)).mono ?_
   exact z14
  refine z15 ?_
  exact z269
end Go.Proofs.YtpndjhelpoenpaaGreatDoor
namespace Go.Proofs.YtpndjhelpoenpaaGreatDoor
open Go.RowKit
attribute [local go_sem ↓] Go.wp_at_zero Go.wp_at_succ
theorem infoStepR : (Tryz.prog.info? 107).map (·.size) = some 4 := by exact z12
theorem stepFor_1 (u : ByteArray) (hu : u = wd1) (B : Option Addr) (m d lb hb : Nat) (g : Nat → Int) (w : World) (hz : Sl w lb hb 1 B m g) (hmd : m ≤ d) (hm : m = 2) :
  Calls Tryz.prog 94 #[.string u, .slice B m d] w fun e w' => e = .returned (.tuple #[.agg (iV 1 (g 0) 0 (g 1)), .bool true]) ∧ bW w w' := by
 refine z270 ?_
 intro hX h0 hZ
 have qq1 : (u.toList == ([98, 117, 105, 108, 100] : List UInt8)) = true := by rw [hu]; decide +kernel
 clear hu
 go_enter Tryz.func94, Tryz.ntmps94
 go_upto_region 3 with fail
 refine z161 ?_
 intro w1 hw1
 rw [← hw1] at hX h0 hZ
 clear hw1
 obtain ⟨b1, o1, eB, _, hb1, hc⟩ := (hZ).here (by omega)
 subst eB
 revert h0 hX hc hZ
 refine z271 ?_
 intro HF v0 jd h9
 refine tj4 0 9 1 10 2 11 3 12 HF jd ?_
 refine tj3 4 13 5 14 6 15 HF jd ?_
 refine wS0 7 w.heap.size (iV 1 (g 0) 0 (g 1)) 107 infoStepR h9 (fun w' hg' => jd.grown hg' jd.size (fun k hk => by cases hk; exact z35)) ?ks
 case ks =>
  revert HF jd h9
  refine z272 ?_
  intro v3 e0 e1 e2 e3 HB
  refine z49 ?_
  go_wp2
  refine z66 ?_
  exact z273
theorem stepFor_2 (u : ByteArray) (hu : u = wd2) (B : Option Addr) (m d lb hb : Nat) (g : Nat → Int) (w : World) (hz : Sl w lb hb 1 B m g) (hmd : m ≤ d) (hm : m = 2) :
  Calls Tryz.prog 94 #[.string u, .slice B m d] w fun e w' => e = .returned (.tuple #[.agg (iV 2 (g 0) 0 (g 1)), .bool true]) ∧ bW w w' := by
 refine z270 ?_
 intro hX h0 hZ
 have qq1 := wq4 hu (by exact z11)
 have qq2 : (u.toList == ([116, 97, 107, 101] : List UInt8)) = true := by rw [hu]; decide +kernel
 clear hu
 go_enter Tryz.func94, Tryz.ntmps94
 go_upto_region 5 with fail
 refine z161 ?_
 intro w1 hw1
 rw [← hw1] at hX h0 hZ
 clear hw1
 obtain ⟨b1, o1, eB, _, hb1, hc⟩ := (hZ).here (by omega)
 subst eB
 revert h0 hX hc hZ
 refine z271 ?_
 intro HF v0 jd h9
 refine tj4 0 18 1 19 2 20 3 21 HF jd ?_
 refine tj3 4 22 5 23 6 24 HF jd ?_
 refine wS0 7 w.heap.size (iV 2 (g 0) 0 (g 1)) 107 infoStepR h9 (fun w' hg' => jd.grown hg' jd.size (fun k hk => by cases hk; exact z35)) ?ks
 case ks =>
  revert HF jd h9
  refine z272 ?_
  intro v3 e0 e1 e2 e3 HB
  refine z49 ?_
  go_wp2
  refine z66 ?_
  exact z273
theorem stepFor_3 (u : ByteArray) (hu : u = wd3) (B : Option Addr) (m d lb hb : Nat) (g : Nat → Int) (w : World) (hz : Sl w lb hb 1 B m g) (hmd : m ≤ d) (hm : m = 3) :
  Calls Tryz.prog 94 #[.string u, .slice B m d] w fun e w' => e = .returned (.tuple #[.agg (iV 3 (g 0) (g 1) (g 2)), .bool true]) ∧ bW w w' := by
 refine z270 ?_
 intro hX h0 hZ
 have qq1 := wq4 hu (by exact z11)
 have qq2 := wq5 hu (by exact z11)
 have qq3 : (u.toList == ([108, 101, 97, 100] : List UInt8)) = true := by rw [hu]; decide +kernel
 clear hu
 go_enter Tryz.func94, Tryz.ntmps94
 go_upto_region 7 with fail
 refine z161 ?_
 intro w1 hw1
 rw [← hw1] at hX h0 hZ
 clear hw1
 obtain ⟨b1, o1, eB, _, hb1, hc⟩ := (hZ).here (by omega)
 subst eB
 have x0 : cI w1 b1 o1 (g 0) := hc 0 (by omega)
 have x1 : cI w1 b1 (o1 + 1) (g 1) := hc 1 (by omega)
 have x2 : cI w1 b1 (o1 + 2) (g 2) := hc 2 (by omega)
 have HF : Hid (∀ w', bW w w' → cI w' b1 o1 (g 0) ∧ cI w' b1 (o1 + 1) (g 1) ∧ cI w' b1 (o1 + 2) (g 2)) := fun w' hq => by
  have hlt : b1 < w.heap.size := Nat.lt_of_lt_of_le hb1 hz.hi_le
  exact ⟨(hq.cell (p := ⟨b1, o1, none⟩) hlt).trans ((hX.cell (p := ⟨b1, o1, none⟩) hlt).symm.trans x0), (hq.cell (p := ⟨b1, o1 + 1, none⟩) hlt).trans ((hX.cell (p := ⟨b1, o1 + 1, none⟩) hlt).symm.trans x1), (hq.cell (p := ⟨b1, o1 + 2, none⟩) hlt).trans ((hX.cell (p := ⟨b1, o1 + 2, none⟩) hlt).symm.trans x2)⟩
 refine wp_region_held_drew (S := fun w' => bW w w') (by exact z12) (hX.drew) (fun jd => ?_)
 obtain ⟨v0, hv0⟩ : ∃ v, w1.drew = v := ⟨_, rfl⟩
 have h9 : v0.heap[w.heap.size]? = some (.cells (iV 0 0 0 0) 107 (0, 0)) := by rw [← hv0]; exact h0
 rw [hv0] at jd ⊢
 clear hv0 h0 hX hZ hc x0 x1 x2
 refine tj4 0 27 1 28 2 29 3 30 HF jd ?_
 refine tj4 4 31 5 32 6 33 7 34 HF jd ?_
 refine tj2 8 35 9 36 HF jd ?_
 refine wS0 10 w.heap.size (iV 3 (g 0) (g 1) (g 2)) 107 infoStepR h9 (fun w' hg' => jd.grown hg' jd.size (fun k hk => by cases hk; exact z35)) ?ks
 case ks =>
  intro v3 hh hgw hS3
  obtain ⟨e0, e1, e2, e3⟩ := cells4 hh
  have HB := lh hS3
  clear hh hgw jd h9
  have jd := hS3
  refine tj 11 5 HF rfl jd ?_
  clear hS3 jd HF
  refine z49 ?_
  go_wp2
  refine z66 ?_
  exact z273
theorem stepFor_4 (u : ByteArray) (hu : u = wd4) (B : Option Addr) (m d lb hb : Nat) (g : Nat → Int) (w : World) (hz : Sl w lb hb 1 B m g) (hmd : m ≤ d) (hm : m = 2) :
  Calls Tryz.prog 94 #[.string u, .slice B m d] w fun e w' => e = .returned (.tuple #[.agg (iV 4 (g 0) 0 (g 1)), .bool true]) ∧ bW w w' := by
 refine z270 ?_
 intro hX h0 hZ
 have qq1 := wq4 hu (by exact z11)
 have qq2 := wq5 hu (by exact z11)
 have qq3 := wq0 hu (by exact z11)
 have qq4 : (u.toList == ([100, 114, 121] : List UInt8)) = true := by rw [hu]; decide +kernel
 clear hu
 go_enter Tryz.func94, Tryz.ntmps94
 go_upto_region 9 with fail
 refine z161 ?_
 intro w1 hw1
 rw [← hw1] at hX h0 hZ
 clear hw1
 obtain ⟨b1, o1, eB, _, hb1, hc⟩ := (hZ).here (by omega)
 subst eB
 revert h0 hX hc hZ
 refine z271 ?_
 intro HF v0 jd h9
 refine tj4 0 39 1 40 2 41 3 42 HF jd ?_
 refine tj3 4 43 5 44 6 45 HF jd ?_
 refine wS0 7 w.heap.size (iV 4 (g 0) 0 (g 1)) 107 infoStepR h9 (fun w' hg' => jd.grown hg' jd.size (fun k hk => by cases hk; exact z35)) ?ks
 case ks =>
  revert HF jd h9
  refine z272 ?_
  intro v3 e0 e1 e2 e3 HB
  refine z49 ?_
  go_wp2
  refine z66 ?_
  exact z273
theorem stepFor_5 (u : ByteArray) (hu : u = wd5) (B : Option Addr) (m d lb hb : Nat) (g : Nat → Int) (w : World) (hz : Sl w lb hb 1 B m g) (hmd : m ≤ d) (hm : m = 2) :
  Calls Tryz.prog 94 #[.string u, .slice B m d] w fun e w' => e = .returned (.tuple #[.agg (iV 5 (g 0) 0 (g 1)), .bool true]) ∧ bW w w' := by
 refine z270 ?_
 intro hX h0 hZ
 have qq1 := wq4 hu (by exact z11)
 have qq2 := wq5 hu (by exact z11)
 have qq3 := wq0 hu (by exact z11)
 have qq4 := wq8 hu (by exact z11)
 have qq5 : (u.toList == ([114, 97, 107, 101] : List UInt8)) = true := by rw [hu]; decide +kernel
 clear hu
 go_enter Tryz.func94, Tryz.ntmps94
 go_upto_region 11 with fail
 refine z161 ?_
 intro w1 hw1
 rw [← hw1] at hX h0 hZ
 clear hw1
 obtain ⟨b1, o1, eB, _, hb1, hc⟩ := (hZ).here (by omega)
 subst eB
 revert h0 hX hc hZ
 refine z271 ?_
 intro HF v0 jd h9
 refine tj4 0 48 1 49 2 50 3 51 HF jd ?_
 refine tj3 4 52 5 53 6 54 HF jd ?_
 refine wS0 7 w.heap.size (iV 5 (g 0) 0 (g 1)) 107 infoStepR h9 (fun w' hg' => jd.grown hg' jd.size (fun k hk => by cases hk; exact z35)) ?ks
 case ks =>
  revert HF jd h9
  refine z272 ?_
  intro v3 e0 e1 e2 e3 HB
  refine z49 ?_
  go_wp2
  refine z66 ?_
  exact z273
theorem stepFor_6 (u : ByteArray) (hu : u = wd6) (B : Option Addr) (m d lb hb : Nat) (g : Nat → Int) (w : World) (hz : Sl w lb hb 1 B m g) (hmd : m ≤ d) (hm : m = 1) :
  Calls Tryz.prog 94 #[.string u, .slice B m d] w fun e w' => e = .returned (.tuple #[.agg (iV 6 0 0 (g 0)), .bool true]) ∧ bW w w' := by
 have qq1 := wq4 hu (by exact z11)
 have qq2 := wq5 hu (by exact z11)
 have qq3 := wq0 hu (by exact z11)
 have qq4 := wq8 hu (by exact z11)
 have qq5 := wq2 hu (by exact z11)
 have qq6 : (u.toList == ([115, 104, 105, 112] : List UInt8)) = true := by rw [hu]; decide +kernel
 exact z274
theorem stepFor_7 (u : ByteArray) (hu : u = wd7) (B : Option Addr) (m d lb hb : Nat) (g : Nat → Int) (w : World) (hz : Sl w lb hb 1 B m g) (hmd : m ≤ d) (hm : m = 1) :
  Calls Tryz.prog 94 #[.string u, .slice B m d] w fun e w' => e = .returned (.tuple #[.agg (iV 7 (g 0) 0 0), .bool true]) ∧ bW w w' := by
 have qq1 := wq4 hu (by exact z11)
 have qq2 := wq5 hu (by exact z11)
 have qq3 := wq0 hu (by exact z11)
 have qq4 := wq8 hu (by exact z11)
 have qq5 := wq2 hu (by exact z11)
 have qq6 := wq1 hu (by exact z11)
 have qq7 : (u.toList == ([115, 104, 117, 116] : List UInt8)) = true := by rw [hu]; decide +kernel
 exact z274
theorem stepFor_no (u : ByteArray) (h1 : u ≠ wd1) (h2 : u ≠ wd2) (h3 : u ≠ wd3) (h4 : u ≠ wd4) (h5 : u ≠ wd5) (h6 : u ≠ wd6) (h7 : u ≠ wd7) (B : Option Addr) (m d : Nat) (w : World) :
  Calls Tryz.prog 94 #[.string u, .slice B m d] w fun e w' => e = .returned (.tuple #[.agg (iV 0 0 0 0), .bool false]) ∧ bW w w' := by
 have qq1 : (u.toList == ([98, 117, 105, 108, 100] : List UInt8)) = false := by
  rw [show ([98, 117, 105, 108, 100] : List UInt8) = wd1.toList by exact z11, toList_beq]
  exact decide_eq_false h1
 have qq2 : (u.toList == ([116, 97, 107, 101] : List UInt8)) = false := by
  rw [show ([116, 97, 107, 101] : List UInt8) = wd2.toList by exact z11, toList_beq]
  exact decide_eq_false h2
 have qq3 : (u.toList == ([108, 101, 97, 100] : List UInt8)) = false := by
  rw [show ([108, 101, 97, 100] : List UInt8) = wd3.toList by exact z11, toList_beq]
  exact decide_eq_false h3
 have qq4 : (u.toList == ([100, 114, 121] : List UInt8)) = false := by
  rw [show ([100, 114, 121] : List UInt8) = wd4.toList by exact z11, toList_beq]
  exact decide_eq_false h4
 have qq5 : (u.toList == ([114, 97, 107, 101] : List UInt8)) = false := by
  rw [show ([114, 97, 107, 101] : List UInt8) = wd5.toList by exact z11, toList_beq]
  exact decide_eq_false h5
 have qq6 : (u.toList == ([115, 104, 105, 112] : List UInt8)) = false := by
  rw [show ([115, 104, 105, 112] : List UInt8) = wd6.toList by exact z11, toList_beq]
  exact decide_eq_false h6
 have qq7 : (u.toList == ([115, 104, 117, 116] : List UInt8)) = false := by
  rw [show ([115, 104, 117, 116] : List UInt8) = wd7.toList by exact z11, toList_beq]
  exact decide_eq_false h7
 clear h1 h2 h3 h4 h5 h6 h7
 go_enter Tryz.func94, Tryz.ntmps94
 go_wp2
 go_returns
 exact z37
end Go.Proofs.YtpndjhelpoenpaaGreatDoor
