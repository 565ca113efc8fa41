/-
  Texts of this claim, merged.
-/
import Derived.Test.YtpndjhelpoenpaaGreatDoorXA19
set_option linter.unusedVariables false
set_option linter.unusedSimpArgs false
set_option maxRecDepth 100000
set_option maxHeartbeats 8000000
namespace Go.Proofs.YtpndjhelpoenpaaGreatDoor
open Go.RowKit
section
variable {f : Nat → Int} {i : Nat} {wt s : Int}
theorem setB_0 (k : Nat) : setB f i wt s (k * 4) = f (k * 4) := by
 have h1 : k * 4 ≠ i * 4 + 2 := by omega
 have h2 : k * 4 ≠ i * 4 + 3 := by omega
 exact z250
theorem setB_1 (k : Nat) : setB f i wt s (k * 4 + 1) = f (k * 4 + 1) := by
 have h1 : k * 4 + 1 ≠ i * 4 + 2 := by omega
 have h2 : k * 4 + 1 ≠ i * 4 + 3 := by omega
 exact z250
theorem setB_2 (k : Nat) (h : k ≠ i) : setB f i wt s (k * 4 + 2) = f (k * 4 + 2) := by
 have h1 : k * 4 + 2 ≠ i * 4 + 2 := by omega
 have h2 : k * 4 + 2 ≠ i * 4 + 3 := by omega
 exact z250
theorem setB_3 (k : Nat) (h : k ≠ i) : setB f i wt s (k * 4 + 3) = f (k * 4 + 3) := by
 have h1 : k * 4 + 3 ≠ i * 4 + 2 := by omega
 have h2 : k * 4 + 3 ≠ i * 4 + 3 := by omega
 exact z250
theorem setB_2i : setB f i wt s (i * 4 + 2) = wt := by simp [setB, upd]
theorem setB_3i : setB f i wt s (i * 4 + 3) = s := by simp [setB, upd]
theorem setB_pred (k : Nat) : setB f i wt s ((k - 1) * 4) = f ((k - 1) * 4) := setB_0 (k - 1)
end
theorem allTo_intro {p : Nat → Bool} {n : Nat} (h : ∀ k, k < n → p k = true) : allTo p n = true := by
 induction n with
 | zero => rfl
 | succ n ih => exact allTo_succ (ih fun k hk => h k (by omega)) (h n (by omega))
theorem sumW_bounds {g : Nat → Int} (n : Nat) (hn : n ≤ 6) (h : ∀ k, k < n → 0 ≤ g k ∧ g k ≤ 1000000) : ∀ k, k ≤ n → 0 ≤ sumW g k ∧ sumW g k ≤ k * 1000000 := by
 intro k
 induction k with
 | zero => intro _; exact ⟨Int.le_refl _, by simp [sumW]⟩
 | succ k ih =>
  intro hk
  obtain ⟨h1, h2⟩ := ih (by omega)
  obtain ⟨h3, h4⟩ := h k (by omega)
  rw [sumW, IntWalk.wrap64_in _ ⟨by omega, by omega⟩]
  constructor
  ·omega
  ·push_cast; omega
theorem sumW_less {g g' : Nat → Int} {n i : Nat} (hn : n ≤ 6) (hi : i < n) (h : ∀ k, k < n → 0 ≤ g k ∧ g k ≤ 1000000) (d : Int) (hd : 0 ≤ d) (hdi : d ≤ g i) (he : ∀ k, k ≠ i → g' k = g k) (hei : g' i = g i - d) :
  ∀ k, k ≤ n → sumW g' k = (if i < k then sumW g k - d else sumW g k) ∧ (i < k → d ≤ sumW g k) := by
 intro k
 induction k with
 | zero => intro _; simp [sumW]
 | succ k ih =>
  intro hk
  obtain ⟨h1, h2⟩ := ih (by omega)
  obtain ⟨h3, h4⟩ := h k (by omega)
  obtain ⟨b1, b2⟩ := sumW_bounds n hn h k (by omega)
  have e : sumW g (k + 1) = sumW g k + g k := by rw [sumW, IntWalk.wrap64_in _ ⟨by omega, by omega⟩]
  rw [e]
  by_cases hki : k = i
  ·subst hki
   rw [if_neg (Nat.lt_irrefl _)] at h1
   rw [if_pos (Nat.lt_succ_self _)]
   refine ⟨?_, fun _ => by omega⟩
   rw [sumW, h1, hei, IntWalk.wrap64_in _ ⟨by omega, by omega⟩]
   omega
  ·by_cases hlt : i < k
   ·rw [if_pos hlt] at h1
    have := h2 hlt
    rw [if_pos (by omega)]
    refine ⟨?_, fun _ => by omega⟩
    rw [sumW, h1, he k hki, IntWalk.wrap64_in _ ⟨by omega, by omega⟩]
    omega
   ·rw [if_neg hlt] at h1
    rw [if_neg (by omega)]
    refine ⟨?_, fun hx => absurd hx (by omega)⟩
    rw [sumW, h1, he k hki, IntWalk.wrap64_in _ ⟨by omega, by omega⟩]
theorem rake_ok {f : Nat → Int} {n : Nat} {I H S P : Int} (hg : goodWorks f n I H S P = true) {i : Nat} (hi : i < n) :
  (mayV (f (i * 4 + 2)) (f (i * 4 + 3)) && goodWorks (setB f i (f (i * 4 + 2)) (wrap64 (f (i * 4 + 3) - 1))) n I (wrap64 (H + 1)) S P) = mayV (f (i * 4 + 2)) (f (i * 4 + 3)) := by
 cases hm : mayV (f (i * 4 + 2)) (f (i * 4 + 3)) with
 | false => rfl
 | true =>
  rw [Bool.true_and]
  obtain ⟨b1, b2, b3, b4, h6⟩ := good_brine hg hi
  have hq := (mayV_iff (by omega) b2 b3 b4).1 hm
  have hbr : ∀ k, k < n → 0 ≤ saltAt f k ∧ saltAt f k ≤ 1000000 := fun k hk => by
   obtain ⟨_, _, h3, h4, _⟩ := good_brine hg hk
   exact ⟨h3, h4⟩
  rw [IntWalk.wrap64_in (f (i * 4 + 3) - 1) ⟨by omega, by omega⟩]
  simp only [goodWorks, pansOk, kilosOk, inR, Bool.and_eq_true, decide_eq_true_eq] at hg ⊢
  obtain ⟨⟨⟨hall, hlen⟩, hk⟩, hI⟩ := hg
  obtain ⟨⟨⟨⟨i0, i1⟩, ⟨k0, k1⟩⟩, ⟨s0, s1⟩⟩, ⟨p0, p1⟩⟩ := hk
  obtain ⟨t1, t2⟩ := sumW_bounds n hlen hbr n nL
  obtain ⟨u1, u2⟩ := sumW_less (g := saltAt f) (g' := saltAt (setB f i (f (i * 4 + 2)) (f (i * 4 + 3) - 1))) hlen hi hbr 1 (by omega) (by unfold saltAt; omega) (fun k hk => setB_3 k hk) setB_3i n nL
  rw [if_pos hi] at u1
  have u3 := u2 hi
  have ht : totalV f n H S P = sumW (saltAt f) n + H + S + P := by
   unfold totalV
   rw [IntWalk.wrap64_in (sumW (saltAt f) n + H) ⟨by omega, by omega⟩, IntWalk.wrap64_in (sumW (saltAt f) n + H + S) ⟨by omega, by omega⟩, IntWalk.wrap64_in _ ⟨by omega, by omega⟩]
  rw [ht] at hI
  rw [IntWalk.wrap64_in (H + 1) ⟨by omega, by omega⟩]
  refine ⟨⟨⟨?_, hlen⟩, ⟨⟨⟨i0, i1⟩, ⟨by omega, by omega⟩⟩, ⟨s0, s1⟩⟩, ⟨p0, p1⟩⟩, ?_⟩
  ·refine allTo_intro fun k hk => ?_
   have hp := allTo_at hk hall
   simp only [panStep, okPanAt, setB_0, setB_1, setB_pred] at hp ⊢
   by_cases hki : k = i
   ·subst hki
    rw [setB_2i, setB_3i]
    have m1 : massV (f (k * 4 + 2)) (f (k * 4 + 3)) = f (k * 4 + 2) + f (k * 4 + 3) := IntWalk.wrap64_in _ ⟨by omega, by omega⟩
    have m2 : massV (f (k * 4 + 2)) (f (k * 4 + 3) - 1) = f (k * 4 + 2) + (f (k * 4 + 3) - 1) := IntWalk.wrap64_in _ ⟨by omega, by omega⟩
    simp only [okPan, okBrine, inR, m1, m2, Bool.and_eq_true, decide_eq_true_eq] at hp ⊢
    obtain ⟨⟨⟨⟨⟨q1, q2⟩, ⟨q3, q4⟩⟩, ⟨⟨q5, q6⟩, ⟨q7, q8⟩⟩⟩, q9⟩, q10⟩ := hp
    exact ⟨⟨⟨⟨⟨q1, q2⟩, ⟨q3, q4⟩⟩, ⟨⟨q5, q6⟩, ⟨by omega, by omega⟩⟩⟩, by omega⟩, q10⟩
   ·rw [setB_2 k hki, setB_3 k hki]
    exact hp
  ·unfold totalV
   rw [u1, IntWalk.wrap64_in (sumW (saltAt f) n - 1 + (H + 1)) ⟨by omega, by omega⟩, IntWalk.wrap64_in (sumW (saltAt f) n - 1 + (H + 1) + S) ⟨by omega, by omega⟩, IntWalk.wrap64_in _ ⟨by omega, by omega⟩]
   omega
attribute [local go_sem ↓] Go.wp_at_zero Go.wp_at_succ
def brineB (wt s : Int) : ByteArray := ((⟨#[119]⟩ ++ numB wt) ++ ⟨#[32, 115]⟩) ++ numB s
def panB (h wt s : Int) : ByteArray := (brineB wt s ++ ⟨#[32, 111, 102, 32]⟩) ++ numB h
theorem good_pan {f : Nat → Int} {n : Nat} {I H S P : Int} (hg : goodWorks f n I H S P = true) {j : Nat} (hj : j < n) : (1 ≤ f (j * 4 + 1) ∧ f (j * 4 + 1) ≤ 100000) ∧ (0 ≤ f (j * 4 + 2) ∧ f (j * 4 + 2) ≤ 1000000) ∧ (0 ≤ f (j * 4 + 3) ∧ f (j * 4 + 3) ≤ 1000000) ∧ okBrine (f (j * 4 + 2)) (f (j * 4 + 3)) = true ∧ n ≤ 6 := by
 revert hg
 refine z111 ?_
 intro hg h
 simp only [panStep, okPanAt, okPan, Bool.and_eq_true, decide_eq_true_eq] at h
 have h2 := h.1.1.2
 simp only [okBrine, inR, Bool.and_eq_true, decide_eq_true_eq] at h2
 have h3 := h.1.1.1.2
 simp only [inR, decide_eq_true_eq] at h3
 refine ⟨h3, h2.1, h2.2, h.1.1.2, hg.1.1.2⟩
theorem brineB_size {wt s : Int} (h1 : 0 ≤ wt ∧ wt ≤ 1000000) (h2 : 0 ≤ s ∧ s ≤ 1000000) : (brineB wt s).size ≤ 50 := by
 have := numB_size (n := wt) (by omega) (by omega)
 have := numB_size (n := s) (by omega) (by omega)
 simp only [brineB, ByteArray.size_append', ByteArray.size_mk', List.size_toArray, List.length_cons, List.length_nil]
 omega
theorem BrineText_yes (wt s : Int) (hok : okBrine wt s = true) (w : World) (ht : Tab w) :
  Calls Tryz.prog 110 #[.agg (jV wt s)] w fun e w' => e = .returned (.tuple #[.string (brineB wt s), .bool true]) ∧ bW w w' := by
 have HAL : bW w (w.alloc (.cells (jV wt s) 95)) := (Below.refl _ w).alloc nL _
 have hw : (0 ≤ wt ∧ wt ≤ 1000000) ∧ 0 ≤ s ∧ s ≤ 1000000 := by simpa [okBrine, inR] using hok
 obtain ⟨⟨hw0, hw1⟩, hs0, hs1⟩ := hw
 have hz1 := numB_size (n := wt) (by omega) (by omega)
 have hz2 := numB_size (n := s) (by omega) (by omega)
 have HT : Hid (Tab (w.alloc (.cells (jV wt s) 95))) := ht.below HAL
 have HF0 : Hid (∀ w', bW (w.alloc (.cells (jV wt s) 95)) w' → cI w' w.heap.size 0 wt ∧ cI w' w.heap.size 1 s) := by
  intro w' hq
  exact (cells2 (bx (g := w.heap.size) hq))
 go_enter Tryz.func110, Tryz.ntmps110
 go_wp2_with fail
 refine (IsBrine_any wt s _).mono ?_
 rw [hok]
 rintro e w1 ⟨rfl, hb1⟩
 have HF : Hid (∀ w', bW w1 w' → cI w' w.heap.size 0 wt ∧ cI w' w.heap.size 1 s) := fun w' hq => HF0.out w' (hb1.trans (hq.mono hb1.size))
 clear HF0
 go_wp2_with fail
 refine wp_region_class (C := fun w' => bW (w1) w') (by exact z12) (by exact z12) ((Below.refl _ _).drew) ?_
 refine tr 7 HF ?_
 refine tr 8 HF ?_
 refine wpQuiet_meet (d := 9) (v := ?_) ?_ ?_ (by rfl) ?_ ?_ ?_
 rotate_left
 rotate_left
 rotate_left
 ·exact z13
 ·intro wS hS
  refine (decimal_any wt (by omega) (by omega) wS (HT.out.below (hb1.trans (hS.mono hb1.size)))).mono ?_
  exact z14
 refine z15 ?_
 refine wpQuiet_take (d := 10) (v := ?_) (by rfl) ?_ ?_
 rotate_left
 ·exact z17
 refine z15 ?_
 refine wpQuiet_take (d := 11) (v := ?_) (by rfl) ?_ ?_
 rotate_left
 ·exact z17
 refine z15 ?_
 refine tr 12 HF ?_
 refine tr 13 HF ?_
 refine wpQuiet_meet (d := 14) (v := ?_) ?_ ?_ (by rfl) ?_ ?_ ?_
 rotate_left
 rotate_left
 rotate_left
 ·exact z13
 ·intro wS hS
  refine (decimal_any s (by omega) (by omega) wS (HT.out.below (hb1.trans (hS.mono hb1.size)))).mono ?_
  exact z14
 refine z15 ?_
 refine wpQuiet_take (d := 15) (v := ?_) (by rfl) ?_ ?_
 rotate_left
 ·exact z17
 refine z15 ?_
 refine tr 2 HF ?_
 refine tr 3 HF ?_
 refine wpQuiet_nil (fun wq jd => ?_)
 go_wp2_with fail
 go_ret2
 exact ⟨rfl, HAL.trans ((hb1.trans (jd.mono hb1.size)).mono (by simp))⟩
theorem l2Text_any (wt s : Int) (hw : 0 ≤ wt ∧ wt ≤ 1000000) (hs : 0 ≤ s ∧ s ≤ 1000000) (w : World) :
  Calls Tryz.prog 112 #[.agg (jV wt s)] w fun e w' => e = .returned (.string (brineB wt s)) ∧ bW w w' := by
 have HAL : bW w (w.alloc (.cells (jV wt s) 95)) := (Below.refl _ w).alloc nL _
 obtain ⟨hw0, hw1⟩ := hw
 obtain ⟨hs0, hs1⟩ := hs
 have hz1 := numB_size (n := wt) (by omega) (by omega)
 have hz2 := numB_size (n := s) (by omega) (by omega)
 have HF : Hid (∀ w', bW (w.alloc (.cells (jV wt s) 95)) w' → cI w' w.heap.size 0 wt ∧ cI w' w.heap.size 1 s) := by
  intro w' hq
  exact (cells2 (bx (g := w.heap.size) hq))
 go_enter Tryz.func112, Tryz.ntmps112
 go_wp2_with fail
 refine wp_region_class (C := fun w' => bW ((w.alloc (.cells (jV wt s) 95))) w') (by exact z12) (by exact z12) ((Below.refl _ _).drew) ?_
 refine tr 3 HF ?_
 refine tr 4 HF ?_
 refine wpQuiet_meet (d := 5) (v := ?_) ?_ ?_ (by rfl) ?_ ?_ ?_
 rotate_left
 rotate_left
 rotate_left
 ·exact z13
 ·intro wS hS
  refine (l1Num_any wt (by omega) (by omega) wS).mono ?_
  exact z14
 refine z15 ?_
 refine wpQuiet_take (d := 6) (v := ?_) (by rfl) ?_ ?_
 rotate_left
 ·exact z17
 refine z15 ?_
 refine wpQuiet_take (d := 7) (v := ?_) (by rfl) ?_ ?_
 rotate_left
 ·exact z17
 refine z15 ?_
 refine tr 8 HF ?_
 refine tr 9 HF ?_
 refine wpQuiet_meet (d := 10) (v := ?_) ?_ ?_ (by rfl) ?_ ?_ ?_
 rotate_left
 rotate_left
 rotate_left
 ·exact z13
 ·intro wS hS
  refine (l1Num_any s (by omega) (by omega) wS).mono ?_
  exact z14
 refine z15 ?_
 refine wpQuiet_take (d := 11) (v := ?_) (by rfl) ?_ ?_
 rotate_left
 ·exact z17
 refine z15 ?_
 refine tr 2 HF ?_
 exact z29
theorem l25Text_any (i h wt s : Int) (hh : 1 ≤ h ∧ h ≤ 100000) (hw : 0 ≤ wt ∧ wt ≤ 1000000) (hs : 0 ≤ s ∧ s ≤ 1000000) (w : World) :
  Calls Tryz.prog 67 #[.agg (iV i h wt s)] w fun e w' => e = .returned (.string (panB h wt s)) ∧ bW w w' := by
 have HAL : bW w (w.alloc (.cells (iV i h wt s) 97)) := (Below.refl _ w).alloc nL _
 obtain ⟨hh0, hh1⟩ := hh
 have hz1 := numB_size (n := h) (by omega) (by omega)
 have hz2 := brineB_size hw hs
 have HF : Hid (∀ w', bW (w.alloc (.cells (iV i h wt s) 97)) w' → cI w' w.heap.size 1 h ∧ cI w' w.heap.size 2 wt ∧ cI w' w.heap.size 3 s) := by
  intro w' hq
  exact ⟨(hq.cell (p := ⟨w.heap.size, 1, none⟩) (by simp)).trans (by simp), (hq.cell (p := ⟨w.heap.size, 2, none⟩) (by simp)).trans (by simp), (hq.cell (p := ⟨w.heap.size, 3, none⟩) (by simp)).trans (by simp)⟩
 go_enter Tryz.func67, Tryz.ntmps67
 go_wp2_with fail
 refine wp_region_class (C := fun w' => bW ((w.alloc (.cells (iV i h wt s) 97))) w') (by exact z12) (by exact z12) ((Below.refl _ _).drew) ?_
 refine tr 3 HF ?_
 refine tr 4 HF ?_
 refine wpQuiet_meet (d := 5) (v := ?_) ?_ ?_ (by rfl) ?_ ?_ ?_
 rotate_left
 rotate_left
 rotate_left
 ·exact z13
 ·intro wS hS
  refine (l2Text_any wt s hw hs wS).mono ?_
  exact z14
 refine z15 ?_
 refine wpQuiet_take (d := 6) (v := ?_) (by rfl) ?_ ?_
 rotate_left
 ·exact z17
 refine z15 ?_
 refine tr 7 HF ?_
 refine tr 8 HF ?_
 refine wpQuiet_meet (d := 9) (v := ?_) ?_ ?_ (by rfl) ?_ ?_ ?_
 rotate_left
 rotate_left
 rotate_left
 ·exact z13
 ·intro wS hS
  refine (l1Num_any h (by omega) (by omega) wS).mono ?_
  exact z14
 refine z15 ?_
 refine wpQuiet_take (d := 10) (v := ?_) (by rfl) ?_ ?_
 rotate_left
 ·exact z17
 refine z15 ?_
 refine tr 2 HF ?_
 exact z29
theorem PanText_no (A : Option Addr) (n c lo hi : Nat) (f : Nat → Int) (I H S P : Int) (z : Int) (w : World) (hs : Sl w lo hi 4 A n f) (hn : n ≤ 1048576) (hnc : n ≤ c) (ht : Tab w) (h : goodWorks f n I H S P = false ∨ findV (pid f) z n 0 = -1) :
  Calls Tryz.prog 64 #[.agg (wB A n c I H S P), .int .i64 z] w fun e w' => e = .returned (.tuple #[.string ⟨#[]⟩, .bool false]) ∧ bW w w' := by
 refine z38 ?_
 intro HS
 clear hs
 cases hg : goodWorks f n I H S P with
 | false =>
  clear h
  generalize hfd : findV (pid f) z n 0 = r
  go_enter Tryz.func64, Tryz.ntmps64
  exact z115
 | true =>
  have hfd : findV (pid f) z n 0 = -1 := by simpa [hg] using h
  clear h
  go_enter Tryz.func64, Tryz.ntmps64
  exact z115
theorem PanText_yes (A : Option Addr) (n c lo hi : Nat) (f : Nat → Int) (I H S P : Int) (z : Int) (w : World) (hs : Sl w lo hi 4 A n f) (hn : n ≤ 1048576) (hnc : n ≤ c) (ht : Tab w) (hg : goodWorks f n I H S P = true) (j : Nat) (hj : j < n) (hfd : findV (pid f) z n 0 = (j : Int)) :
  Calls Tryz.prog 64 #[.agg (wB A n c I H S P), .int .i64 z] w fun e w' => e = .returned (.tuple #[.string (panB (f (j * 4 + 1)) (f (j * 4 + 2)) (f (j * 4 + 3))), .bool true]) ∧ bW w w' := by
 refine z38 ?_
 intro HS
 clear hs
 refine z119 ?_
 intro hj0 hk0i hkni
 ·skip
  go_enter Tryz.func64, Tryz.ntmps64
  go_wp2_with fail
  refine z116 ?_
  refine z117 ?_
  intro w2 hb2 b0 b1 b2 b3 b4 HS2
  go_wp2_with fail
  refine (isWorks_any A n c lo hi f I H S P _ HS2 hn hnc).mono ?_
  revert A HS hb2 b0 b1 b2 b3 b4 HS2
  refine z120 ?_
  intro w3 b off HS B3 b0 hbw HC c0 c1 c2 c3
  refine z251 ?_
  intro hbz HF
  have HT3 : Hid (Tab w3) := ht.below (((Below.refl _ w).alloc nL _).trans (B3.mono (by simp)))
  clear HC HS
  obtain ⟨_, hw, hs, hob, hn6⟩ := good_pan hg hj
  have hz1 := brineB_size hw hs
  obtain ⟨hh, _, _, _, _⟩ := good_pan hg hj
  have hz2 := numB_size (n := f (j * 4 + 1)) (by omega) (by omega)
  go_wp2_with fail
  refine (BrineText_yes _ _ hob _ HT3.out).mono ?_
  rintro e w4 ⟨rfl, hb4⟩
  obtain ⟨d0, d1, d2, d3⟩ := HF.out w4 hb4
  clear c1 c2 c3 b0 hob
  go_wp2_with fail
  refine (decimal_any _ (by omega) (by omega) _ (HT3.out.below hb4)).mono ?_
  rintro e w5 ⟨rfl, hb5⟩
  have B5 := below_of (below_of B3 hb4 B3.size) hb5 (by have := hb4.size; have := B3.size; omega)
  go_wp2_with fail
  go_ret2
  exact ⟨rfl, ((Below.refl _ w).alloc nL _).trans (B5.mono (by simp))⟩
theorem sPanText_no (A : Option Addr) (n c lo hi : Nat) (f : Nat → Int) (I H S P : Int) (z : Int) (w : World) (hs : Sl w lo hi 4 A n f) (hn : n ≤ 1048576) (hnc : n ≤ c) (h : goodWorks f n I H S P = false ∨ findV (pid f) z n 0 = -1) :
  Calls Tryz.prog 161 #[.agg (wB A n c I H S P), .int .i64 z] w fun e w' => e = .returned (.tuple #[.string ⟨#[]⟩, .bool false]) ∧ bW w w' := by
 refine z38 ?_
 intro HS
 clear hs
 cases hg : goodWorks f n I H S P with
 | false =>
  clear h
  generalize hfd : findV (pid f) z n 0 = r
  go_enter Tryz.func161, Tryz.ntmps161
  exact z122
 | true =>
  have hfd : findV (pid f) z n 0 = -1 := by simpa [hg] using h
  clear h
  go_enter Tryz.func161, Tryz.ntmps161
  exact z122
theorem sPanText_yes (A : Option Addr) (n c lo hi : Nat) (f : Nat → Int) (I H S P : Int) (z : Int) (w : World) (hs : Sl w lo hi 4 A n f) (hn : n ≤ 1048576) (hnc : n ≤ c) (hg : goodWorks f n I H S P = true) (j : Nat) (hj : j < n) (hfd : findV (pid f) z n 0 = (j : Int)) :
  Calls Tryz.prog 161 #[.agg (wB A n c I H S P), .int .i64 z] w fun e w' => e = .returned (.tuple #[.string (panB (f (j * 4 + 1)) (f (j * 4 + 2)) (f (j * 4 + 3))), .bool true]) ∧ bW w w' := by
 refine z38 ?_
 intro HS
 clear hs
 refine z119 ?_
 intro hj0 hk0i hkni
 ·skip
  go_enter Tryz.func161, Tryz.ntmps161
  go_wp2_with fail
  refine z123 ?_
  refine z117 ?_
  intro w2 hb2 b0 b1 b2 b3 b4 HS2
  go_wp2_with fail
  refine (l25Good_any A n c lo hi f I H S P _ HS2 hn hnc).mono ?_
  revert A HS hb2 b0 b1 b2 b3 b4 HS2
  refine z120 ?_
  intro w3 b off HS B3 b0 hbw HC c0 c1 c2 c3
  refine z251 ?_
  intro hbz HF
  clear HC HS HF
  obtain ⟨hh, hw, hs, hob, hn6⟩ := good_pan hg hj
  go_wp2_with fail
  refine (l25Text_any _ _ _ _ hh hw hs _).mono ?_
  rintro e w4 ⟨rfl, hb4⟩
  have B4 := below_of B3 hb4 B3.size
  go_wp2_with fail
  go_ret2
  exact ⟨rfl, ((Below.refl _ w).alloc nL _).trans (B4.mono (by simp))⟩
end Go.Proofs.YtpndjhelpoenpaaGreatDoor
namespace Go.Proofs.YtpndjhelpoenpaaGreatDoor
open Go.RowKit
def lineP (f : Nat → Int) (j : Nat) : ByteArray := ((numB (f (j * 4)) ++ ⟨#[58, 32]⟩) ++ panB (f (j * 4 + 1)) (f (j * 4 + 2)) (f (j * 4 + 3))) ++ ⟨#[10]⟩
def pansB (f : Nat → Int) : Nat → ByteArray
 | 0 => ⟨#[]⟩
 | k + 1 => pansB f k ++ lineP f k
def fmtB (f : Nat → Int) (n : Nat) (I H S z : Int) : ByteArray :=
 ((((((((pansB f n ++ ⟨#[105, 110, 32]⟩) ++ numB I) ++ ⟨#[59, 32, 104, 101, 97, 112, 32]⟩) ++ numB H) ++ ⟨#[59, 32, 115, 104, 105, 112, 112, 101, 100, 32]⟩) ++ numB S) ++ ⟨#[59, 32, 114, 101, 99, 111, 114, 100, 115, 32]⟩) ++ numB z) ++ ⟨#[10]⟩
theorem con_len {f : Nat → Int} {n : Nat} {I H S P : Int} (hg : goodWorks f n I H S P = true) : n ≤ 6 := by
 simp only [goodWorks, pansOk, Bool.and_eq_true, decide_eq_true_eq] at hg
 exact hg.1.1.2
theorem pan_id {f : Nat → Int} {n : Nat} {I H S P : Int} (hg : goodWorks f n I H S P = true) {j : Nat} (hj : j < n) : 1 ≤ f (j * 4) ∧ f (j * 4) ≤ 99 := by
 revert hg
 refine z111 ?_
 intro hg h
 simp only [panStep, okPanAt, okPan, inR, Bool.and_eq_true, decide_eq_true_eq] at h
 exact h.1.1.1.1
def wd1 : ByteArray := ⟨#[98, 117, 105, 108, 100]⟩
def wd2 : ByteArray := ⟨#[116, 97, 107, 101]⟩
def wd3 : ByteArray := ⟨#[108, 101, 97, 100]⟩
def wd4 : ByteArray := ⟨#[100, 114, 121]⟩
def wd5 : ByteArray := ⟨#[114, 97, 107, 101]⟩
def wd6 : ByteArray := ⟨#[115, 104, 105, 112]⟩
def wd7 : ByteArray := ⟨#[115, 104, 117, 116]⟩
def wd8 : ByteArray := ⟨#[105, 110]⟩
def wd9 : ByteArray := ⟨#[104, 101, 97, 112]⟩
def wd10 : ByteArray := ⟨#[112, 97, 110, 115]⟩
def wd11 : ByteArray := ⟨#[109, 97, 121]⟩
def wd12 : ByteArray := ⟨#[111, 114, 100, 101, 114]⟩
def wd13 : ByteArray := ⟨#[109, 111, 114, 101]⟩
def wd14 : ByteArray := ⟨#[116, 101, 120, 116]⟩
def cmdN (u : ByteArray) (m : Nat) : Int :=
 if m = 2 ∧ u = wd1 then 1
 else if m = 2 ∧ u = wd2 then 2
 else if m = 3 ∧ u = wd3 then 3
 else if m = 2 ∧ u = wd4 then 4
 else if m = 2 ∧ u = wd5 then 5
 else if m = 1 ∧ u = wd6 then 6
 else if m = 1 ∧ u = wd7 then 7
 else if m = 0 ∧ u = wd8 then 8
 else if m = 0 ∧ u = wd9 then 9
 else if m = 0 ∧ u = wd10 then 10
 else if m = 0 ∧ u = wd11 then 11
 else if m = 0 ∧ u = wd12 then 12
 else if m = 1 ∧ u = wd13 then 13
 else if m = 1 ∧ u = wd14 then 14
 else 0
def panX (f : Nat → Int) (n : Nat) (id : Int) : ByteArray := panB (f (atN f n id * 4 + 1)) (f (atN f n id * 4 + 2)) (f (atN f n id * 4 + 3))
def rpOk (f : Nat → Int) (n : Nat) (c x0 x1 : Int) : Bool :=
 if c = 3 then decide (0 ≤ findV (pid f) x1 n 0)
 else if c = 1 ∨ c = 2 ∨ c = 4 ∨ c = 14 then decide (0 ≤ findV (pid f) x0 n 0)
 else if c = 13 then decide (0 ≤ findV (pid f) x0 n 0) && decide (f (atN f n x0 * 4 + 3) ≠ 0)
 else true
def rpR (f : Nat → Int) (n : Nat) (I H S P c x0 x1 : Int) : ByteArray :=
 if c = 3 then panX f n x1
 else if c = 5 ∨ c = 9 then numB H
 else if c = 6 then numB S
 else if c = 7 then numB P
 else if c = 8 then numB I
 else if c = 10 then numB (sumW (saltAt f) n)
 else if c = 11 then listB (fun j => (rakeRes f n true).getD j 0) (rakeRes f n true).length
 else if c = 12 then listB (fun j => (ordRes f n true).getD j 0) (ordRes f n true).length
 else if c = 13 then numB (dryN (f (atN f n x0 * 4 + 2)) (f (atN f n x0 * 4 + 3)) : Nat)
 else panX f n x0
def rpS (f : Nat → Int) (n : Nat) (I H S P c x0 x1 : Int) : ByteArray := if rpOk f n c x0 x1 then rpR f n I H S P c x0 x1 else if c = 13 then numB 0 else ⟨#[]⟩
def exId (c x0 : Int) : Int := if c = 6 then 0 else x0
def exTo (c x1 : Int) : Int := if c = 3 then x1 else 0
def exZ (c x0 x1 x2 : Int) : Int := if c = 3 then x2 else if c = 6 then x0 else if c = 7 then 0 else x1
def isStep (c : Int) : Bool := decide (1 ≤ c ∧ c ≤ 7)
def exOk (f : Nat → Int) (n : Nat) (I H S P c x0 x1 x2 : Int) : Bool :=
 if c = 0 then false else if isStep c then stOk f n I H S P c (exId c x0) (exTo c x1) (exZ c x0 x1 x2) else rpOk f n c x0 x1
def exGo (f : Nat → Int) (n : Nat) (I H S P c x0 x1 x2 : Int) : Bool := isStep c && stOk f n I H S P c (exId c x0) (exTo c x1) (exZ c x0 x1 x2)
def exL (f : Nat → Int) (n : Nat) (I H S P c x0 x1 x2 : Int) : List Int := if exGo f n I H S P c x0 x1 x2 then stL f n c (exId c x0) (exTo c x1) (exZ c x0 x1 x2) else cellsL f n
def exN (f : Nat → Int) (n : Nat) (I H S P c x0 x1 x2 : Int) : Nat := if exGo f n I H S P c x0 x1 x2 then stN n c else n
def exI (f : Nat → Int) (n : Nat) (I H S P c x0 x1 x2 : Int) : Int := if exGo f n I H S P c x0 x1 x2 then stI I c (exZ c x0 x1 x2) else I
def exH (f : Nat → Int) (n : Nat) (I H S P c x0 x1 x2 : Int) : Int := if exGo f n I H S P c x0 x1 x2 then stH H c (exZ c x0 x1 x2) else H
def exS (f : Nat → Int) (n : Nat) (I H S P c x0 x1 x2 : Int) : Int := if exGo f n I H S P c x0 x1 x2 then stS S c (exZ c x0 x1 x2) else S
def exP (f : Nat → Int) (n : Nat) (I H S P c x0 x1 x2 : Int) : Int := if exGo f n I H S P c x0 x1 x2 then stP f n P c (exId c x0) else P
def exR (f : Nat → Int) (n : Nat) (I H S P c x0 x1 x2 : Int) : ByteArray :=
 if exOk f n I H S P c x0 x1 x2 then rpR (lf (exL f n I H S P c x0 x1 x2)) (exN f n I H S P c x0 x1 x2) (exI f n I H S P c x0 x1 x2) (exH f n I H S P c x0 x1 x2) (exS f n I H S P c x0 x1 x2) (exP f n I H S P c x0 x1 x2) c x0 x1 else ⟨#[63]⟩
theorem findV_pos {g : Nat → Int} {z : Int} {m j : Nat} (hj : j < m) (h : g j = z) : 0 ≤ findV g z m 0 := by
 rcases findV_cases g z m 0 with ⟨_, h2⟩ | ⟨i, _, _, e, _⟩
 ·exact absurd h (h2 j (Nat.zero_le _) (by omega))
 ·omega
theorem findV_mem {g : Nat → Int} {z : Int} {m : Nat} (h : 0 ≤ findV g z m 0) : ∃ j, j < m ∧ findV g z m 0 = (j : Int) ∧ g j = z := by
 rcases findV_cases g z m 0 with ⟨e, _⟩ | ⟨i, _, hi, e, he⟩
 ·omega
 ·exact ⟨i, by omega, e, he⟩
theorem findV_none {g : Nat → Int} {z : Int} {m : Nat} (h : ¬ 0 ≤ findV g z m 0) : findV g z m 0 = -1 := by
 rcases findV_cases g z m 0 with ⟨e, _⟩ | ⟨i, _, hi, e, he⟩
 ·exact e
 ·omega
theorem atN_eq {f : Nat → Int} {n : Nat} {id : Int} {j : Nat} (h : findV (pid f) id n 0 = (j : Int)) : atN f n id = j := by simp [atN, h]
theorem find_keep {f g : Nat → Int} {n : Nat} {id : Int} (h : ∀ k, k < n → g (k * 4) = f (k * 4)) (hf : 0 ≤ findV (pid f) id n 0) : 0 ≤ findV (pid g) id n 0 := by
 obtain ⟨j, hj, _, e⟩ := findV_mem hf
 exact findV_pos hj ((h j hj).trans e)
theorem lf_cells (f : Nat → Int) (n : Nat) {j : Nat} (h : j < n * 4) : lf (cellsL f n) j = f j := cellsL_getD f n j h
theorem leadF_0 (f : Nat → Int) (i j : Nat) (z : Int) (k : Nat) : leadF f i j z (k * 4) = f (k * 4) := by
 unfold leadF
 split
 ·rw [setB_0, setB_0]
 ·rfl
theorem build_at (f : Nat → Int) (n p : Nat) (id z : Int) (hp : p ≤ n) : lf (buildL f n p id z) (p * 4) = id := by
 unfold lf buildL
 have hl : ((cellsL f n).take (p * 4)).length = p * 4 := by rw [List.length_take, cellsL_len]; omega
 rw [List.getD_eq_getElem?_getD, List.append_assoc, List.getElem?_append_right (by omega), hl, Nat.sub_self]
 rfl
theorem st_there {f : Nat → Int} {n : Nat} {I H S P c x0 x1 x2 : Int} (hc : isStep c = true) (h : stOk f n I H S P c (exId c x0) (exTo c x1) (exZ c x0 x1 x2) = true) :
  rpOk (lf (stL f n c (exId c x0) (exTo c x1) (exZ c x0 x1 x2))) (stN n c) c x0 x1 = true := by
 simp only [stOk, Bool.and_eq_true] at h
 have hv := h.2.1
 clear h
 simp only [isStep, decide_eq_true_eq] at hc
 by_cases c1 : c = 1
 ·subst c1
  have hp := (placeV_le f x0 n 0).2
  simp only [rpOk, stN, stL, exId, exTo, exZ]
  simp
  exact findV_pos (j := placeV f x0 n 0) (by omega) (build_at f n _ x0 x1 (by omega))
 by_cases c2 : c = 2
 ·subst c2
  exact z252
 by_cases c3 : c = 3
 ·subst c3
  simp [stV, exId, exTo, exZ] at hv
  simp only [rpOk, stN, stL, exId, exTo, exZ]
  simp
  exact find_keep (fun k hk => by rw [lf_cells _ _ (by omega), leadF_0]) hv.2.1
 by_cases c4 : c = 4
 ·subst c4
  exact z252
 have c14 : c ≠ 14 := by omega
 have c13 : c ≠ 13 := by omega
 simp [rpOk, c1, c2, c3, c4, c14, c13]
theorem st_good {f : Nat → Int} {n : Nat} {I H S P kd id tt0 z : Int} (h : stOk f n I H S P kd id tt0 z = true) : goodWorks (lf (stL f n kd id tt0 z)) (stN n kd) (stI I kd z) (stH H kd z) (stS S kd z) (stP f n P kd id) = true := by
 simp only [stOk, mkOk, Bool.and_eq_true] at h
 exact h.2.2.2.2
theorem ids_small {f : Nat → Int} {n : Nat} {I H S P : Int} (hg : goodWorks f n I H S P = true) {L : List Nat} (hL : ∀ j ∈ L, j < n) : ∀ j, j < (idsP f L).length → 0 ≤ (idsP f L).getD j 0 ∧ (idsP f L).getD j 0 ≤ 999999 := by
 intro j hj
 have hj' : j < L.length := by rw [idsP, List.length_map] at hj; exact hj
 have e : (idsP f L).getD j 0 = f (L[j]'hj' * 4) := by simp [idsP, List.getD_eq_getElem?_getD, hj']
 have := pan_id hg (hL _ (List.getElem_mem hj'))
 rw [e]
 omega
theorem rake_small {f : Nat → Int} {n : Nat} {I H S P : Int} (hg : goodWorks f n I H S P = true) : ∀ j, j < (rakeRes f n true).length → 0 ≤ (rakeRes f n true).getD j 0 ∧ (rakeRes f n true).getD j 0 ≤ 999999 := by
 have e : rakeRes f n true = idsP f (pickN (rakeB f) n) := by simp [rakeRes]
 rw [e]
 exact ids_small hg (fun j hj => (pickN_lt _ n j hj).1)
theorem ord_small {f : Nat → Int} {n : Nat} {I H S P : Int} (hg : goodWorks f n I H S P = true) : ∀ j, j < (ordRes f n true).length → 0 ≤ (ordRes f n true).getD j 0 ∧ (ordRes f n true).getD j 0 ≤ 999999 := by
 have e : ordRes f n true = idsP f (ordL f n) := by simp [ordRes]
 rw [e]
 exact ids_small hg (ordL_lt f n)
end Go.Proofs.YtpndjhelpoenpaaGreatDoor
namespace Go.Proofs.YtpndjhelpoenpaaGreatDoor
open Go.RowKit Go.Sort
attribute [local go_sem ↓] Go.wp_at_zero Go.wp_at_succ
section
variable {P : Program} {md : Region.Mode} {ops : Array Oper} {Q : Exit → Act → World → Prop} {S : World → Prop}
theorem wpAnyH_split {i j di dj : Nat} {fuel : Nat} {listed : Array Bool} {a : Act} {w : World} {oi oj : Oper} {skip : List Nat} {Pi Pj : Value → World → Prop}
  (hoi : ops[i]? = some oi) (hoj : ops[j]? = some oj) (hgi : oi.guard = none) (hgj : oj.guard = none)
  (r0 : Region.ready md ops listed = [i, j]) (Ji : Job P Q S oi di a skip Pi) (Jj : Job P Q S oj dj a skip Pj) (hst : ∀ w1 w2, S w1 → bW w1 w2 → S w2) (hS : S w)
  (hi : ∀ v w', Pi v w' → S w' → bW w w' → wpAnyH P md ops Q S fuel (listed.setIfInBounds i true) (a.put (some di) v) w')
  (hj : ∀ v w', Pj v w' → S w' → bW w w' → wpAnyH P md ops Q S fuel (listed.setIfInBounds j true) (a.put (some dj) v) w') :
  wpAnyH P md ops Q S (fuel + 1) listed a w := by
 refine wpAnyH_ready (fuel := fuel) r0 (by simp) (AllReadyH.cons hoi (fun K hK => ?_) (AllReadyH.cons hoj (fun K hK => ?_) AllReadyH.nil))
 ·rw [if_pos (wanted_plain hgi)]
  refine Ji a w K (fun _ _ => rfl) hS (fun v w2 hp hb => ?_)
  have hB := hst _ _ hS hb
  exact hK.out _ _ hB (fun _ => hi v w2 hp hB hb)
 ·rw [if_pos (wanted_plain hgj)]
  refine Jj a w K (fun _ _ => rfl) hS (fun v w2 hp hb => ?_)
  have hB := hst _ _ hS hb
  exact hK.out _ _ hB (fun _ => hj v w2 hp hB hb)
end
theorem pans_up {f : Nat → Int} {n : Nat} {I H S P : Int} (hg : goodWorks f n I H S P = true) : ∀ k, k < n → ∀ j, j < k → f (j * 4) < f (k * 4) := by
 intro k
 induction k with
 | zero => intro _ j hj; omega
 | succ k ih =>
  intro hk j hj
  have hs := hg
  simp only [goodWorks, pansOk, Bool.and_eq_true] at hs
  have hp := allTo_at hk hs.1.1.1
  simp only [panStep, Bool.and_eq_true, Bool.or_eq_true, decide_eq_true_eq] at hp
  have h1 : f (k * 4) < f ((k + 1) * 4) := by
   rcases hp.2 with h0 | h0
   ·omega
   ·simpa using h0
  by_cases hjk : j = k
  ·subst hjk; exact h1
  ·exact Int.lt_trans (ih (by omega) j (by omega)) h1
theorem find_at {f : Nat → Int} {n : Nat} {I H S P : Int} (hg : goodWorks f n I H S P = true) {i : Nat} (hi : i < n) : findV (pid f) (f (i * 4)) n 0 = (i : Int) := by
 rcases findV_cases (pid f) (f (i * 4)) n 0 with ⟨_, h⟩ | ⟨j, _, hj, h, he⟩
 ·exact absurd rfl (h i (by omega) (by omega))
 ·rw [h]
  have hu := pans_up hg
  by_cases h1 : j < i
  ·have := hu i hi j h1
   have he' : f (j * 4) = f (i * 4) := he
   omega
  ·by_cases h2 : i < j
   ·have := hu j (by omega) i h2
    have he' : f (j * 4) = f (i * 4) := he
    omega
   ·have : j = i := by omega
    subst this; rfl
theorem sMayRake_any (A : Option Addr) (n c lo hi : Nat) (f : Nat → Int) (I H S P : Int) (w : World) (hs : Sl w lo hi 4 A n f) (hn : n ≤ 1048576) (hnc : n ≤ c) :
  Calls Tryz.prog 128 #[.agg (wB A n c I H S P)] w (IntsPost 3 w (rakeRes f n (goodWorks f n I H S P)) (goodWorks f n I H S P)) := by
 refine z124 ?_
 intro BW
 have HS : Hid (Sl ((w.alloc (.cells (wB A n c I H S P) 32)).alloc (.cells #[] 3)) lo hi 4 A n f) := (hs.below BW).below ((Below.refl _ _).alloc nL _)
 have HSW : Hid (Sl (w.alloc (.cells (wB A n c I H S P) 32)) lo hi 4 A n f) := hs.below BW
 clear hs
 cases hg : goodWorks f n I H S P with
 | false =>
  go_enter Tryz.func128, Tryz.ntmps128
  go_wp2_with fail
  revert HS
  refine z253 ?_
  intro w1 HS1 b0 b1 b2 b3 b4 HROW hB1 HBF
  go_wp2
  go_ret2
  exact IntsPost.mk_ (zs := []) (ownsRow_monoP HROW.out BW.size) HBF.out
 | true =>
  have h6n := good_len hg
  have HFA : Hid (∀ i, i < n → findV (pid f) (f (i * 4)) n 0 = (i : Int)) := fun i hi => find_at hg hi
  have HKA : Hid (∀ i, i < n → (mayV (f (i * 4 + 2)) (f (i * 4 + 3)) && goodWorks (setB f i (f (i * 4 + 2)) (wrap64 (f (i * 4 + 3) - 1))) n I (wrap64 (H + 1)) S P) = mayV (f (i * 4 + 2)) (f (i * 4 + 3))) := fun i hi => rake_ok hg hi
  show Calls _ _ _ _ (IntsPost 3 w (idsP f (pickN (rakeB f) n)) true)
  go_enter Tryz.func128, Tryz.ntmps128
  go_wp2_with fail
  revert HS
  refine z253 ?_
  intro w1 HS1 b0 b1 b2 b3 b4 HROW hB1 HBF
  clear hg
  go_wp2_with fail
  clear b0 b1 b2 b3 b4
  go_loopw [4, 5] (fun v iv wr => ∃ i : Nat, i ≤ n ∧ iv = .int .i64 i ∧ wr.ownsRow (w.alloc (.cells (wB A n c I H S P) 32)).heap.size 3 1 v (idsP f (pickN (rakeB f) i)).length ((idsP f (pickN (rakeB f) i)).map (Value.int .i64)) ∧ bW (w.alloc (.cells (wB A n c I H S P) 32)) wr) (fun _ iv _ => n - (intOf iv).toNat)
  case atStart => exact ⟨0, Nat.zero_le _, rfl, HROW.out, hB1⟩
  case round =>
   obtain ⟨i, hi', rfl, hown, hB⟩ := hrel
   clear HROW HBF hB1 HS1
   have HO := lh hown
   have hl : (idsP f (pickN (rakeB f) i)).length ≤ 6 := by rw [idsP, List.length_map]; have := pickN_len (rakeB f) i; omega
   obtain ⟨z0, z1, z2, z3, z4⟩ := cells5 (bx (g := w.heap.size) hB)
   clear hown
   by_cases hlt : i < n
   ·obtain ⟨b, off, rfl, hbw, HC⟩ := HSW.out.open_ hB (by omega)
    obtain ⟨c0, c1, c2, c3⟩ := cell4 HC hlt
    refine z127 ?_
    intro hi0i hini
    have HFD := lh (HFA.out i hlt)
    have HKI := lh (HKA.out i hlt)
    refine z142 ?_
    intro HPY HPN
    generalize idsP f (pickN (rakeB f) i) = P' at *
    have HF : Hid (∀ w', bW wr w' → _) := fun w' hq => And.intro (kp hq z0) (And.intro (kp hq z1) (And.intro (kp hq z2) (And.intro (kp hq z3) (And.intro (kp hq z4) (kp hq c0)))))
    clear HC HFA HKA z1 z2 z3 z4 c1 c2 c3 hbw
    cases hqi : (mayV (f (i * 4 + 2)) (f (i * 4 + 3))) with
    | true =>
     have HPB : Hid (rakeB f i = true) := hqi
     have HOK := lh (HKI.out.trans hqi)
     clear hqi HKI
     go_wp2_with fail
     refine wp_region_held_drew (S := fun w' => bW wr w') (by exact z12) ((Below.refl _ wr).drew) (fun jd => ?_)
     refine tj4 0 21 1 22 3 24 2 23 HF jd ?_
     refine tj4 4 25 5 26 6 27 7 28 HF jd ?_
     refine wpAnyH_split (fuel := 6) (i := 8) (j := 12) (di := 29) (dj := 6) (skip := [29, 6]) (Pi := (fun v w' => ∃ a0 a1 a2 a3 a4, v = .tuple #[.agg (wB a0 n a1 I a2 a3 a4), .bool true])) rfl rfl rfl rfl (by exact z12) ?jmtrue (Job.alloc (skip := [29, 6]) (nb := wr.heap.size) (obj := .cells (wB none 0 0 0 0 0 0) 32) rfl (fun _ h => h.size) (fun a' w1 => by go_simp; try rfl)) below_stays jd ?natrue ?nbtrue
     case jmtrue =>
      exact z254
     case natrue =>
      rintro v w3 ⟨a0, a1, a2, a3, a4, rfl⟩ hS3 _
      refine z15 ?_
      have jd := hS3
      refine tj3 9 20 10 30 11 31 HF jd ?_
      refine wpAnyH_job (fuel := 2) (i := 12) (d := 6) (skip := [29, 6]) rfl rfl (by exact z12) (Job.alloc (skip := [29, 6]) (nb := wr.heap.size) (obj := .cells (wB none 0 0 0 0 0 0) 32) rfl (fun _ h => h.size) (fun a' w1 => by go_simp; try rfl)) below_stays jd ?nctrue
      case nctrue =>
      rintro v w4 ⟨g6, rfl, l6, h6⟩ hS4 _
      refine z15 ?_
      refine wS0 13 g6 (wB a0 n a1 I a2 a3 a4) 32 infoWorks h6 (fun w' hg => hS4.grown hg hS4.size (fun k hk => by cases hk; exact l6)) ?struea
      case struea =>
      intro w5 h5 hg5 hS5
      have jd := hS5
      refine tj 14 7 HF rfl jd ?_
      refine z49 ?_
      exact z255
     case nbtrue =>
     rintro v w3 ⟨g6, rfl, l6, h63⟩ hS3 _
     refine z15 ?_
     refine wpAnyH_job (fuel := 5) (i := 8) (d := 29) (skip := [29, 6]) (Post := (fun v w' => ∃ a0 a1 a2 a3 a4, v = .tuple #[.agg (wB a0 n a1 I a2 a3 a4), .bool true])) rfl rfl (by exact z12) ?jntrue below_stays hS3 ?ndtrue
     case jntrue =>
      exact z254
     case ndtrue =>
     rintro v w4 ⟨a0, a1, a2, a3, a4, rfl⟩ hS4 hb4
     have h6 := (hb4.block g6 (gL h63)).trans h63
     refine z15 ?_
     have jd := hS4
     refine tj3 9 20 10 30 11 31 HF jd ?_
     refine wS0 13 g6 (wB a0 n a1 I a2 a3 a4) 32 infoWorks h6 (fun w' hg => hS4.grown hg hS4.size (fun k hk => by cases hk; exact l6)) ?strueb
     case strueb =>
     intro w5 h5 hg5 hS5
     have jd := hS5
     refine tj 14 7 HF rfl jd ?_
     refine z49 ?_
     exact z255
    | false =>
     have HPB : Hid (rakeB f i = false) := hqi
     have HOK := lh (HKI.out.trans hqi)
     clear hqi HKI
     go_wp2_with fail
     refine wp_region_held_drew (S := fun w' => bW wr w') (by exact z12) ((Below.refl _ wr).drew) (fun jd => ?_)
     refine tj4 0 21 1 22 3 24 2 23 HF jd ?_
     refine tj4 4 25 5 26 6 27 7 28 HF jd ?_
     refine wpAnyH_split (fuel := 6) (i := 8) (j := 12) (di := 29) (dj := 6) (skip := [29, 6]) (Pi := (fun v w' => ∃ a0 a1 a2 a3 a4, v = .tuple #[.agg (wB a0 n a1 I a2 a3 a4), .bool false])) rfl rfl rfl rfl (by exact z12) ?jmfalse (Job.alloc (skip := [29, 6]) (nb := wr.heap.size) (obj := .cells (wB none 0 0 0 0 0 0) 32) rfl (fun _ h => h.size) (fun a' w1 => by go_simp; try rfl)) below_stays jd ?nafalse ?nbfalse
     case jmfalse =>
      exact z254
     case nafalse =>
      rintro v w3 ⟨a0, a1, a2, a3, a4, rfl⟩ hS3 _
      refine z15 ?_
      have jd := hS3
      refine tj3 9 20 10 30 11 31 HF jd ?_
      refine wpAnyH_job (fuel := 2) (i := 12) (d := 6) (skip := [29, 6]) rfl rfl (by exact z12) (Job.alloc (skip := [29, 6]) (nb := wr.heap.size) (obj := .cells (wB none 0 0 0 0 0 0) 32) rfl (fun _ h => h.size) (fun a' w1 => by go_simp; try rfl)) below_stays jd ?ncfalse
      case ncfalse =>
      rintro v w4 ⟨g6, rfl, l6, h6⟩ hS4 _
      refine z15 ?_
      refine wS0 13 g6 (wB a0 n a1 I a2 a3 a4) 32 infoWorks h6 (fun w' hg => hS4.grown hg hS4.size (fun k hk => by cases hk; exact l6)) ?sfalsea
      case sfalsea =>
      intro w5 h5 hg5 hS5
      have jd := hS5
      refine tj 14 7 HF rfl jd ?_
      refine z49 ?_
      exact z256
     case nbfalse =>
     rintro v w3 ⟨g6, rfl, l6, h63⟩ hS3 _
     refine z15 ?_
     refine wpAnyH_job (fuel := 5) (i := 8) (d := 29) (skip := [29, 6]) (Post := (fun v w' => ∃ a0 a1 a2 a3 a4, v = .tuple #[.agg (wB a0 n a1 I a2 a3 a4), .bool false])) rfl rfl (by exact z12) ?jnfalse below_stays hS3 ?ndfalse
     case jnfalse =>
      exact z254
     case ndfalse =>
     rintro v w4 ⟨a0, a1, a2, a3, a4, rfl⟩ hS4 hb4
     have h6 := (hb4.block g6 (gL h63)).trans h63
     refine z15 ?_
     have jd := hS4
     refine tj3 9 20 10 30 11 31 HF jd ?_
     refine wS0 13 g6 (wB a0 n a1 I a2 a3 a4) 32 infoWorks h6 (fun w' hg => hS4.grown hg hS4.size (fun k hk => by cases hk; exact l6)) ?sfalseb
     case sfalseb =>
     intro w5 h5 hg5 hS5
     have jd := hS5
     refine tj 14 7 HF rfl jd ?_
     refine z49 ?_
     exact z256
   ·have hni : ¬ ((i : Int) < (n : Int)) := by omega
    have hin : i = n := by omega
    subst hin
    clear HFA HKA HSW
    generalize idsP f (pickN (rakeB f) i) = P' at *
    go_wp2
    go_ret2
    exact IntsPost.mk_ (ownsRow_monoP HO.out BW.size) (BW.trans (hB.mono BW.size))
end Go.Proofs.YtpndjhelpoenpaaGreatDoor
