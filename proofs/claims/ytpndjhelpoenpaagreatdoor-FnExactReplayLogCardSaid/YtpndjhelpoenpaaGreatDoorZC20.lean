/-
  Texts of this claim, merged.
-/
import Derived.Test.YtpndjhelpoenpaaGreatDoorZC19
set_option linter.unusedVariables false
set_option linter.unusedSimpArgs false
set_option maxRecDepth 100000
set_option maxHeartbeats 8000000
namespace Go.Proofs.YtpndjhelpoenpaaGreatDoor
open Go.RowKit Go.Sort
attribute [local go_sem ↓] Go.wp_at_zero Go.wp_at_succ
def stB (f : Nat → Int) (n : Nat) (kd id tt0 z : Int) : Bool :=
 if kd ≠ 3 ∧ tt0 ≠ 0 then false
 else if kd = 1 then decide (findV (pid f) id n 0 < 0)
 else if kd = 6 then decide (id = 0) && decide (1 ≤ z)
 else if findV (pid f) id n 0 < 0 then false
 else if kd = 7 then decide (z = 0)
 else decide (1 ≤ z) && (if kd = 3 then decide (0 ≤ findV (pid f) tt0 n 0) && (decide (findV (pid f) tt0 n 0 ≠ findV (pid f) id n 0) && leadOk f (atN f n id) z)
  else if kd = 2 ∨ kd = 4 then true else if kd = 5 then mayV (f (atN f n id * 4 + 2)) (f (atN f n id * 4 + 3)) else false)
theorem placeV_le (f : Nat → Int) (id : Int) : ∀ m k, k ≤ placeV f id m k ∧ placeV f id m k ≤ k + m
 | 0, k => ⟨Nat.le_refl _, Nat.le_refl _⟩
 | m + 1, k => by
  unfold placeV
  split
  ·have := placeV_le f id m (k + 1); omega
  ·omega
theorem build_good {f : Nat → Int} {n p : Nat} {id z I H S P : Int} (hp : p ≤ n) (h : goodWorks (lf (buildL f n p id z)) (n + 1) I H S P = true) : inR id 1 99 = true ∧ inR z 1 100000 = true := by
 have hl : ((cellsL f n).take (p * 4)).length = p * 4 := by rw [List.length_take, cellsL_len]; omega
 have hget : ∀ q, q < 4 → lf (buildL f n p id z) (p * 4 + q) = [id, z, 0, 0].getD q 0 := by
  intro q hq
  simp only [lf, buildL, List.getD]
  rw [List.append_assoc, List.getElem?_append_right (by omega), hl, show p * 4 + q - p * 4 = q by omega, List.getElem?_append_left (by simpa using hq)]
 simp only [goodWorks, pansOk, Bool.and_eq_true] at h
 have ha := allTo_at (k := p) (by omega) h.1.1.1
 simp only [panStep, okPanAt, okPan, Bool.and_eq_true] at ha
 have h0 := hget 0 (by omega)
 have h1 := hget 1 (by omega)
 rw [Nat.add_zero] at h0
 rw [h0, h1] at ha
 exact ⟨ha.1.1.1.1, ha.1.1.1.2⟩
theorem stOk_eq {f : Nat → Int} {n : Nat} {I H S P : Int} (kd id tt0 z : Int) (hg : goodWorks f n I H S P = true) :
  stOk f n I H S P kd id tt0 z = (inR z 0 1000000 && (stB f n kd id tt0 z && stG f n I H S P kd id tt0 z)) := by
 cases hG : stG f n I H S P kd id tt0 z with
 | false => simp [stOk, mkOk, hG]
 | true =>
 simp only [stOk, mkOk, hg, hG, Bool.true_and, Bool.and_true]
 by_cases k1 : kd = 1
 ·subst k1
  have hpl := placeV_le f id n 0
  have hb := build_good (f := f) (n := n) (p := placeV f id n 0) (id := id) (z := z) (by omega) (by simpa [stG, stL, stN] using hG)
  have hz := hb.2
  simp only [inR, decide_eq_true_eq] at hz
  have hz1 : z ≤ 1000000 := by omega
  have hz2 : 0 ≤ z := by omega
  have hi : 1 ≤ id ∧ id ≤ 99 := by simpa [inR] using hb.1
  by_cases ht : tt0 = 0 <;> simp [stV, stB, stM, ht, inR, hz1, hz2, hi, hz]
 by_cases k6 : kd = 6
 ·subst k6
  by_cases ht : tt0 = 0 <;> by_cases hi : id = 0 <;> by_cases h1 : 1 ≤ z <;> by_cases h2 : z ≤ 1000000 <;> (have h3 : 1 ≤ z → 0 ≤ z := by omega) <;> simp [stV, stB, stM, inR, ht, hi, h1, h2, h3]
 rcases findV_cases (pid f) id n 0 with ⟨h1, _⟩ | ⟨i, _, hi, hfd, hpi⟩
 ·have e1 : stV f n kd id tt0 z = false := by
   unfold stV
   rw [if_neg k1]
   simp [h1, k6]
  have e2 : stB f n kd id tt0 z = false := by
   unfold stB
   split
   ·rfl
   ·simp [k1, k6, h1]
  rw [e1, e2]; simp
 have hi0 : ¬ ((i : Int) < 0) := by omega
 have ha : atN f n id = i := by simp [atN, hfd]
 by_cases k7 : kd = 7
 ·subst k7
  by_cases ht : tt0 = 0 <;> by_cases hz : z = 0 <;> simp [stV, stB, stM, inR, ht, hz, hfd, hi0]
 by_cases k3 : kd = 3
 ·subst k3
  rcases findV_cases (pid f) tt0 n 0 with ⟨h1, _⟩ | ⟨j, _, hj, hfk, hpj⟩
  ·simp [stV, stB, hfd, h1]
  ·have hj0 : ¬ ((j : Int) < 0) := by omega
   have hiff : (j : Int) = (i : Int) ↔ tt0 = id := by
    constructor
    ·intro h
     have : j = i := by omega
     subst this
     rw [← hpi, ← hpj]
    ·intro h
     subst h
     rw [hfd] at hfk
     exact hfk.symm
   by_cases he : tt0 = id
   ·have he2 := hiff.2 he
    simp [stV, stB, hfd, hfk, he, he2]
   ·have he2 : ¬ ((j : Int) = (i : Int)) := fun h => he (hiff.1 h)
    by_cases h1 : 1 ≤ z <;> by_cases h2 : z ≤ 1000000 <;> (have h3 : 1 ≤ z → 0 ≤ z := by omega) <;> simp [stV, stB, stM, inR, hfd, hfk, he, he2, h1, h2, h3]
 by_cases ht : tt0 = 0
 rotate_left
 ·have e1 : stV f n kd id tt0 z = false := by
   unfold stV
   rw [if_neg k1]
   split
   ·simp [ht]
   ·simp [k3, k6, k7]
  have e2 : stB f n kd id tt0 z = false := by
   unfold stB
   rw [if_pos ⟨k3, ht⟩]
  rw [e1, e2]; simp
 by_cases k2 : kd = 2 ∨ kd = 4
 ·have k245 : kd = 2 ∨ kd = 4 ∨ kd = 5 := by omega
  have k5 : ¬ kd = 5 := by omega
  by_cases h1 : 1 ≤ z <;> by_cases h2 : z ≤ 1000000 <;> (have h3 : 1 ≤ z → 0 ≤ z := by omega) <;> simp [stV, stB, stM, inR, k1, k3, k5, k6, k7, k2, k245, ht, hfd, hi0, h1, h2, h3]
 by_cases k5 : kd = 5
 ·subst k5
  by_cases h1 : 1 ≤ z <;> by_cases h2 : z ≤ 1000000 <;> (have h3 : 1 ≤ z → 0 ≤ z := by omega) <;> simp [stV, stB, stM, inR, ht, hfd, hi0, h1, h2, h3]
 ·have k245 : ¬ (kd = 2 ∨ kd = 4 ∨ kd = 5) := by omega
  simp [stV, stB, k1, k2, k3, k5, k6, k7, k245]
section
variable {lo g : Nat} {w : World} {b : Bool}
theorem sw_no {fn : Nat} {args : Array Value} {L : List Int} {m : Nat} {I H S P : Int} (hb : b = false) (h : Calls Tryz.prog fn args w (fun e w' => e = .returned (.bool false) ∧ Below lo w w')) :
  Calls Tryz.prog fn args w (fun e w' => e = .returned (.bool b) ∧ (b = true → BoxOwn w' lo g L m I H S P) ∧ Below lo w w') := by
 subst hb
 exact h.mono fun e w' ⟨he, hw⟩ => ⟨he, (fun h => by cases h), hw⟩
theorem box_no {fn : Nat} {args : Array Value} {ga n c' : Nat} {L : List Int} {I H S P : Int} (hb : b = false) (h : Calls Tryz.prog fn args w (fun e w' => e = .returned (.bool false) ∧ Below lo w w')) :
  Calls Tryz.prog fn args w (fun e w' => e = .returned (.bool b) ∧ (b = true → BoxRow w' lo g ga n c' L I H S P) ∧ Below lo w w') := by
 subst hb
 exact h.mono fun e w' ⟨he, hw⟩ => ⟨he, (fun h => by cases h), hw⟩
end
theorem stepWorks_any (g lo n c' : Nat) (A' : Option Addr) (f : Nat → Int) (I H S P : Int) (kd id tt0 z : Int) (hn : n ≤ 1000) (w : World) (hg : w.heap[g]? = some (.cells #[.slice A' n c', .int .i64 I, .int .i64 H, .int .i64 S, .int .i64 P] 32 (0, 0))) (hO : w.ownsRow lo 97 4 (.slice A' n c') n ((cellsL f n).map (Value.int .i64))) (hlo : lo ≤ g) :
  Calls Tryz.prog 139 #[.pointer (some ⟨g, 0, none⟩), .agg #[.int .i64 kd, .int .i64 id, .int .i64 tt0, .int .i64 z]] w (fun e w' => e = .returned (.bool (stB f n kd id tt0 z)) ∧ (stB f n kd id tt0 z = true → BoxOwn w' lo g (stL f n kd id tt0 z) (stN n kd) (stI I kd z) (stH H kd z) (stS S kd z) (stP f n P kd id)) ∧ Below lo w w') := by
 by_cases ht : kd ≠ 3 ∧ tt0 ≠ 0
 ·refine sw_no (by simp only [stB, if_pos ht]) (sw_to g lo n c' A' f I H S P kd id tt0 z hn w hg hO hlo _ rfl ht.1 ht.2)
 have hto : kd = 3 ∨ tt0 = 0 := by
  by_cases h3 : kd = 3
  ·exact Or.inl h3
  ·exact Or.inr (Classical.byContradiction fun h => ht ⟨h3, h⟩)
 by_cases k1 : kd = 1
 ·subst k1
  have h0 : tt0 = 0 := hto.resolve_left (by decide)
  rcases findV_cases (pid f) id n 0 with ⟨h1, _⟩ | ⟨i, _, hi, hfd, _⟩
  ·have hb : stB f n 1 id tt0 z = true := by simp [stB, h0, h1]
   rw [hb]
   exact sw_build g lo n c' A' f I H S P id tt0 z hn w hg hO hlo h1 h0
  ·exact sw_no (by simp [stB, h0, hfd]) (sw_there g lo n c' A' f I H S P id tt0 z hn w hg hO hlo _ hfd h0 (by omega))
 by_cases k6 : kd = 6
 ·subst k6
  have h0 : tt0 = 0 := hto.resolve_left (by decide)
  have hb : stB f n 6 id tt0 z = (decide (id = 0) && decide (1 ≤ z)) := by simp [stB, h0]
  rw [hb]
  exact sw_ship g lo n c' A' f I H S P id tt0 z hn w hg hO hlo _ rfl h0
 have k1f : (kd == 1) = false := by simp [k1]
 have k6f : (kd == 6) = false := by simp [k6]
 rcases findV_cases (pid f) id n 0 with ⟨h1, _⟩ | ⟨i, _, hi, hfd, hpi⟩
 ·exact sw_no (by simp [stB, ht, k1, k6, h1]) (sw_none g lo n c' A' f I H S P kd id tt0 z hn w hg hO hlo h1 k1f k6f hto)
 have hi' : i < n := by omega
 have ha : atN f n id = i := by simp [atN, hfd]
 have hi0 : ¬ ((i : Int) < 0) := by omega
 by_cases k7 : kd = 7
 ·subst k7
  have h0 : tt0 = 0 := hto.resolve_left (by decide)
  have hb : stB f n 7 id tt0 z = decide (z = 0) := by simp [stB, h0, hfd, hi0]
  rw [hb]
  have h := sw_shut g lo n c' A' f I H S P id tt0 z hn w hg hO hlo i hi' hfd h0
  simpa [stL, stN, stI, stH, stS, stP, ha] using h
 have k7f : (kd == 7) = false := by simp [k7]
 by_cases hz : 1 ≤ z
 rotate_left
 ·exact sw_no (by simp [stB, ht, k1, k6, k7, hfd, hi0, hz]) (sw_zero g lo n c' A' f I H S P kd id tt0 z hn w hg hO hlo i hfd k1f k6f k7f hto hz)
 have hN : stN n kd = n := by simp [stN, k1, k7]
 have hS : stS S kd z = S := by simp [stS, k6]
 have hP : stP f n P kd id = P := by simp [stP, k7]
 rw [hN, hS, hP]
 refine sw_pan g lo n c' A' f I H S P kd id tt0 z hn w hg hO hlo i hi' hfd k1f k6f k7f hto hz _ _ _ _ (lh fun w2 ga hg2 hO2 => ?_)
 by_cases k2 : kd = 2
 ·subst k2
  have h0 : tt0 = 0 := hto.resolve_left (by decide)
  have hb : stB f n 2 id tt0 z = true := by simp [stB, h0, hfd, hi0, hz]
  rw [hb]
  have h := stepPan_take g ga lo n c' f I H S P id tt0 z i hi' hn w2 hg2 hO2 hlo
  simpa [stL, stI, stH, ha] using h
 by_cases k4 : kd = 4
 ·subst k4
  have h0 : tt0 = 0 := hto.resolve_left (by decide)
  have hb : stB f n 4 id tt0 z = true := by simp [stB, h0, hfd, hi0, hz]
  rw [hb]
  have h := stepPan_dry g ga lo n c' f I H S P id tt0 z i hi' hn w2 hg2 hO2 hlo
  simpa [stL, stI, stH, ha] using h
 by_cases k5 : kd = 5
 ·subst k5
  have h0 : tt0 = 0 := hto.resolve_left (by decide)
  have hb : stB f n 5 id tt0 z = mayV (f (i * 4 + 2)) (f (i * 4 + 3)) := by simp [stB, h0, hfd, hi0, hz, ha]
  rw [hb]
  have h := stepPan_rake g ga lo n c' f I H S P id tt0 z i hi' hn w2 hg2 hO2 hlo
  simpa [stL, stI, stH, ha] using h
 by_cases k3 : kd = 3
 ·subst k3
  rcases findV_cases (pid f) tt0 n 0 with ⟨h1, _⟩ | ⟨j, _, hj, hfk, hpj⟩
  ·exact box_no (by simp [stB, hfd, hi0, h1]) (stepPan_lead_none g ga lo n c' f I H S P id tt0 z i hi' hn w2 hg2 hO2 hlo h1)
  by_cases hij : j = i
  ·subst hij
   exact box_no (by simp [stB, hfd, hi0, hfk]) (stepPan_lead_same g ga lo n c' f I H S P id tt0 z j hi' hn w2 hg2 hO2 hlo hfk)
  ·have hb : stB f n 3 id tt0 z = leadOk f i z := by
    have h1 : ¬ ((j : Int) < 0) := by omega
    have h2 : ¬ ((j : Int) = (i : Int)) := by omega
    simp [stB, hfd, hi0, hfk, hz, ha, h2]
   have hc : atN f n tt0 = j := by simp [atN, hfk]
   rw [hb]
   have h := stepPan_lead g ga lo n c' f I H S P id tt0 z i hi' hn w2 hg2 hO2 hlo j (by omega) hij (by omega) hfk
   simpa [stL, stI, stH, ha, hc] using h
 ·exact box_no (by simp [stB, k1, k2, k3, k4, k5, k6, k7]) (stepPan_other g ga lo n c' f I H S P kd id tt0 z i hi' hn w2 hg2 hO2 hlo (by simp [k2]) (by simp [k3]) (by simp [k4]) (by simp [k5]))
theorem StepWorks_any (A : Option Addr) (n c lo hi : Nat) (f : Nat → Int) (I H S P : Int) (kd id tt0 z : Int) (w : World) (hs : Sl w lo hi 4 A n f) (hn : n ≤ 1048576) (hnc : n ≤ c) (hnone : A = none → n = 0 ∧ c = 0) :
  Calls Tryz.prog 95 #[.agg #[.slice A n c, .int .i64 I, .int .i64 H, .int .i64 S, .int .i64 P], .agg #[.int .i64 kd, .int .i64 id, .int .i64 tt0, .int .i64 z]] w (stepPost w f n I H S P kd id tt0 z (stOk f n I H S P kd id tt0 z)) := by
 have hX3 : Below w.heap.size w (((w.alloc (.cells #[.slice A n c, .int .i64 I, .int .i64 H, .int .i64 S, .int .i64 P] 32)).alloc (.cells #[.int .i64 kd, .int .i64 id, .int .i64 tt0, .int .i64 z] 107)).alloc (.cells #[.slice none 0 0, .int .i64 0, .int .i64 0, .int .i64 0, .int .i64 0] 32)) := (((Below.refl _ w).alloc (Nat.le_refl _) _).alloc (by simp) _).alloc (by simp; omega) _
 have HX := lh hX3
 clear hX3
 have HF : Hid (∀ w', Below (((w.alloc (.cells #[.slice A n c, .int .i64 I, .int .i64 H, .int .i64 S, .int .i64 P] 32)).alloc (.cells #[.int .i64 kd, .int .i64 id, .int .i64 tt0, .int .i64 z] 107)).alloc (.cells #[.slice none 0 0, .int .i64 0, .int .i64 0, .int .i64 0, .int .i64 0] 32)).heap.size (((w.alloc (.cells #[.slice A n c, .int .i64 I, .int .i64 H, .int .i64 S, .int .i64 P] 32)).alloc (.cells #[.int .i64 kd, .int .i64 id, .int .i64 tt0, .int .i64 z] 107)).alloc (.cells #[.slice none 0 0, .int .i64 0, .int .i64 0, .int .i64 0, .int .i64 0] 32)) w' → w'.cell? ⟨w.heap.size, 0, none⟩ = some (.slice A n c) ∧ w'.cell? ⟨w.heap.size, 1, none⟩ = some (.int .i64 I) ∧ w'.cell? ⟨w.heap.size, 2, none⟩ = some (.int .i64 H) ∧ w'.cell? ⟨w.heap.size, 3, none⟩ = some (.int .i64 S) ∧ w'.cell? ⟨w.heap.size, 4, none⟩ = some (.int .i64 P) ∧ w'.cell? ⟨w.heap.size + 1, 0, none⟩ = some (.int .i64 kd) ∧ w'.cell? ⟨w.heap.size + 1, 1, none⟩ = some (.int .i64 id) ∧ w'.cell? ⟨w.heap.size + 1, 2, none⟩ = some (.int .i64 tt0) ∧ w'.cell? ⟨w.heap.size + 1, 3, none⟩ = some (.int .i64 z)) := fun w' hq => ⟨(hq.cell (p := ⟨w.heap.size, 0, none⟩) (by simp; omega)).trans (by go_simp), (hq.cell (p := ⟨w.heap.size, 1, none⟩) (by simp; omega)).trans (by go_simp), (hq.cell (p := ⟨w.heap.size, 2, none⟩) (by simp; omega)).trans (by go_simp), (hq.cell (p := ⟨w.heap.size, 3, none⟩) (by simp; omega)).trans (by go_simp), (hq.cell (p := ⟨w.heap.size, 4, none⟩) (by simp; omega)).trans (by go_simp), cells4 (bx (g := w.heap.size + 1) hq)⟩
 have HSW : Hid (∀ w', Below (((w.alloc (.cells #[.slice A n c, .int .i64 I, .int .i64 H, .int .i64 S, .int .i64 P] 32)).alloc (.cells #[.int .i64 kd, .int .i64 id, .int .i64 tt0, .int .i64 z] 107)).alloc (.cells #[.slice none 0 0, .int .i64 0, .int .i64 0, .int .i64 0, .int .i64 0] 32)).heap.size (((w.alloc (.cells #[.slice A n c, .int .i64 I, .int .i64 H, .int .i64 S, .int .i64 P] 32)).alloc (.cells #[.int .i64 kd, .int .i64 id, .int .i64 tt0, .int .i64 z] 107)).alloc (.cells #[.slice none 0 0, .int .i64 0, .int .i64 0, .int .i64 0, .int .i64 0] 32)) w' → Sl w' lo hi 4 A n f) := fun w' hq => hs.below (HX.out.trans (hq.mono HX.out.size))
 clear hs
 have hr3 : (((w.alloc (.cells #[.slice A n c, .int .i64 I, .int .i64 H, .int .i64 S, .int .i64 P] 32)).alloc (.cells #[.int .i64 kd, .int .i64 id, .int .i64 tt0, .int .i64 z] 107)).alloc (.cells #[.slice none 0 0, .int .i64 0, .int .i64 0, .int .i64 0, .int .i64 0] 32)).heap[w.heap.size + 1 + 1]? = some (.cells #[.slice none 0 0, .int .i64 0, .int .i64 0, .int .i64 0, .int .i64 0] 32) := by have := heap_alloc_new ((w.alloc (.cells #[.slice A n c, .int .i64 I, .int .i64 H, .int .i64 S, .int .i64 P] 32)).alloc (.cells #[.int .i64 kd, .int .i64 id, .int .i64 tt0, .int .i64 z] 107)) (.cells #[.slice none 0 0, .int .i64 0, .int .i64 0, .int .i64 0, .int .i64 0] 32); simpa using this
 have HR3 := lh hr3
 clear hr3
 cases hg : goodWorks f n I H S P with
 | false =>
  have ho : stOk f n I H S P kd id tt0 z = false := by simp [stOk, hg]
  rw [ho]
  go_enter Tryz.func95, Tryz.ntmps95
  go_wp2_with fail
  refine (isWorks_any A n c lo hi f I H S P _ (HSW.out _ (Below.refl _ _)) hn hnc).mono ?_
  rw [hg]
  rintro e w1 ⟨rfl, hb1⟩
  have hr1 := (hb1.block (w.heap.size + 1 + 1) (Array.getElem?_eq_some_iff.1 HR3.out).1).trans HR3.out
  have B1 := HX.out.trans (hb1.mono HX.out.size)
  clear hb1
  obtain ⟨r0, r1, r2, r3, r4⟩ := cells5 hr1
  have rf := fz hr1
  have HBW := lh B1
  clear hr1
  go_wp2
  obtain ⟨wq, hwq⟩ : ∃ wq, wq = (((((w1.setCell ⟨w.heap.size + 1 + 1, 0, none⟩ (.slice none 0 0)).setCell ⟨w.heap.size + 1 + 1, 1, none⟩ (.int .i64 0)).setCell ⟨w.heap.size + 1 + 1, 2, none⟩ (.int .i64 0)).setCell ⟨w.heap.size + 1 + 1, 3, none⟩ (.int .i64 0)).setCell ⟨w.heap.size + 1 + 1, 4, none⟩ (.int .i64 0)) := ⟨_, rfl⟩
  rw [← hwq]
  have u0 : wq.cell? ⟨w.heap.size + 1 + 1, 0, none⟩ = some (.slice none 0 0) := by rw [hwq]; go_simp
  have u1 : wq.cell? ⟨w.heap.size + 1 + 1, 1, none⟩ = some (.int .i64 0) := by rw [hwq]; go_simp
  have u2 : wq.cell? ⟨w.heap.size + 1 + 1, 2, none⟩ = some (.int .i64 0) := by rw [hwq]; go_simp
  have u3 : wq.cell? ⟨w.heap.size + 1 + 1, 3, none⟩ = some (.int .i64 0) := by rw [hwq]; go_simp
  have u4 : wq.cell? ⟨w.heap.size + 1 + 1, 4, none⟩ = some (.int .i64 0) := by rw [hwq]; go_simp
  have hBq : Below w.heap.size w wq := by
   rw [hwq]
   exact (((((HBW.out.setCell (show w.heap.size ≤ w.heap.size + 1 + 1 by omega) _).setCell (show w.heap.size ≤ w.heap.size + 1 + 1 by omega) _).setCell (show w.heap.size ≤ w.heap.size + 1 + 1 by omega) _).setCell (show w.heap.size ≤ w.heap.size + 1 + 1 by omega) _).setCell (show w.heap.size ≤ w.heap.size + 1 + 1 by omega) _)
  clear hwq
  try simp only [Exit.inBlock, Exit.then]
  refine bodyPost_ret (by simp [results, Tryz.results95, go_sem, u0, u1, u2, u3, u4]; try rfl) rfl ?_
  first | exact stepPost_no hBq | (rw [hmk]; exact stepPost_no hBq)
 | true =>
 have hn6 := good_len hg
 have ho := stOk_eq kd id tt0 z hg
 rw [ho]
 cases hv : inR z 0 1000000 with
 | false =>
  rw [Bool.false_and]
  go_enter Tryz.func95, Tryz.ntmps95
  go_wp2_with fail
  refine (isWorks_any A n c lo hi f I H S P _ (HSW.out _ (Below.refl _ _)) hn hnc).mono ?_
  rw [hg]
  rintro e w1 ⟨rfl, hb1⟩
  obtain ⟨b0, b1, b2, b3, b4, s0, s1, s2, s3⟩ := HF.out w1 hb1
  have hr1 := (hb1.block (w.heap.size + 1 + 1) (Array.getElem?_eq_some_iff.1 HR3.out).1).trans HR3.out
  have B1 := HX.out.trans (hb1.mono HX.out.size)
  clear hb1 b0 b1 b2 b3 b4 s0 s1 s2
  go_wp2_with fail
  refine (within_any _ _ _ _).mono ?_
  rw [hv]
  rintro e w2 ⟨rfl, rfl⟩
  clear s3
  obtain ⟨r0, r1, r2, r3, r4⟩ := cells5 hr1
  have rf := fz hr1
  have HBW := lh B1
  clear hr1
  go_wp2
  obtain ⟨wq, hwq⟩ : ∃ wq, wq = (((((w1.setCell ⟨w.heap.size + 1 + 1, 0, none⟩ (.slice none 0 0)).setCell ⟨w.heap.size + 1 + 1, 1, none⟩ (.int .i64 0)).setCell ⟨w.heap.size + 1 + 1, 2, none⟩ (.int .i64 0)).setCell ⟨w.heap.size + 1 + 1, 3, none⟩ (.int .i64 0)).setCell ⟨w.heap.size + 1 + 1, 4, none⟩ (.int .i64 0)) := ⟨_, rfl⟩
  rw [← hwq]
  have u0 : wq.cell? ⟨w.heap.size + 1 + 1, 0, none⟩ = some (.slice none 0 0) := by rw [hwq]; go_simp
  have u1 : wq.cell? ⟨w.heap.size + 1 + 1, 1, none⟩ = some (.int .i64 0) := by rw [hwq]; go_simp
  have u2 : wq.cell? ⟨w.heap.size + 1 + 1, 2, none⟩ = some (.int .i64 0) := by rw [hwq]; go_simp
  have u3 : wq.cell? ⟨w.heap.size + 1 + 1, 3, none⟩ = some (.int .i64 0) := by rw [hwq]; go_simp
  have u4 : wq.cell? ⟨w.heap.size + 1 + 1, 4, none⟩ = some (.int .i64 0) := by rw [hwq]; go_simp
  have hBq : Below w.heap.size w wq := by
   rw [hwq]
   exact (((((HBW.out.setCell (show w.heap.size ≤ w.heap.size + 1 + 1 by omega) _).setCell (show w.heap.size ≤ w.heap.size + 1 + 1 by omega) _).setCell (show w.heap.size ≤ w.heap.size + 1 + 1 by omega) _).setCell (show w.heap.size ≤ w.heap.size + 1 + 1 by omega) _).setCell (show w.heap.size ≤ w.heap.size + 1 + 1 by omega) _)
  clear hwq
  try simp only [Exit.inBlock, Exit.then]
  refine bodyPost_ret (by simp [results, Tryz.results95, go_sem, u0, u1, u2, u3, u4]; try rfl) rfl ?_
  first | exact stepPost_no hBq | (rw [hmk]; exact stepPost_no hBq)
 | true =>
 rw [Bool.true_and]
 clear ho
 go_enter Tryz.func95, Tryz.ntmps95
 go_wp2_with fail
 refine (isWorks_any A n c lo hi f I H S P _ (HSW.out _ (Below.refl _ _)) hn hnc).mono ?_
 rw [hg]
 rintro e w1 ⟨rfl, hb1⟩
 obtain ⟨b0, b1, b2, b3, b4, s0, s1, s2, s3⟩ := HF.out w1 hb1
 go_wp2_with fail
 refine (within_any _ _ _ _).mono ?_
 rw [hv]
 rintro e w2 ⟨rfl, rfl⟩
 go_wp2_with fail
 refine (copyWorks_any A n c lo hi f I H S P _ (HSW.out _ hb1) hn hnc hnone).mono ?_
 rintro e w3 ⟨A', c', rfl, hmc, hcm, hown, hb3⟩
 have hb13 := hb1.trans (hb3.mono hb1.size)
 have hown := ownsRow_monoP hown hb1.size
 clear b0 b1 b2 b3 b4 s0 s1 s2 s3
 obtain ⟨b0, b1, b2, b3, b4, s0, s1, s2, s3⟩ := HF.out w3 hb13
 have hr1 := (hb13.block (w.heap.size + 1 + 1) (Array.getElem?_eq_some_iff.1 HR3.out).1).trans HR3.out
 go_upto_region 4 with fail
 refine name_wp ?_
 intro w4 hw4
 have b34 := ba hw4
 have h6 := an hw4
 have hb14 := hb13.trans (b34.mono hb13.size)
 have hO4 := ownsRow_below hown b34
 have lX : (((w.alloc (.cells #[.slice A n c, .int .i64 I, .int .i64 H, .int .i64 S, .int .i64 P] 32)).alloc (.cells #[.int .i64 kd, .int .i64 id, .int .i64 tt0, .int .i64 z] 107)).alloc (.cells #[.slice none 0 0, .int .i64 0, .int .i64 0, .int .i64 0, .int .i64 0] 32)).heap.size ≤ w3.heap.size := hb13.size
 clear hw4 hr1 hown b34 hb13 hb1 hb3 b0 b1 b2 b3 b4 s0 s1 s2 s3
 obtain ⟨b0, b1, b2, b3, b4, s0, s1, s2, s3⟩ := HF.out w4 hb14
 generalize w3.heap.size = g6 at *
 go_wp2_with fail
 refine (stepWorks_any g6 (((w.alloc (.cells #[.slice A n c, .int .i64 I, .int .i64 H, .int .i64 S, .int .i64 P] 32)).alloc (.cells #[.int .i64 kd, .int .i64 id, .int .i64 tt0, .int .i64 z] 107)).alloc (.cells #[.slice none 0 0, .int .i64 0, .int .i64 0, .int .i64 0, .int .i64 0] 32)).heap.size n c' A' f I H S P kd id tt0 z (by omega) w4 h6 hO4 lX).mono ?_
 rintro e w5 ⟨rfl, hyes, hb5⟩
 have hb15 := hb14.trans hb5
 clear b0 b1 b2 b3 b4 s0 s1 s2 s3 h6 hO4
 have hr5 := (hb15.block (w.heap.size + 1 + 1) (Array.getElem?_eq_some_iff.1 HR3.out).1).trans HR3.out
 have B5 := HX.out.trans (hb15.mono HX.out.size)
 cases hB : stB f n kd id tt0 z with
 | false =>
  clear hyes hb15 hb14 hb5
  obtain ⟨r0, r1, r2, r3, r4⟩ := cells5 hr5
  have rf := fz hr5
  have HBW := lh B5
  clear hr5
  go_wp2
  obtain ⟨wq, hwq⟩ : ∃ wq, wq = (((((w5.setCell ⟨w.heap.size + 1 + 1, 0, none⟩ (.slice none 0 0)).setCell ⟨w.heap.size + 1 + 1, 1, none⟩ (.int .i64 0)).setCell ⟨w.heap.size + 1 + 1, 2, none⟩ (.int .i64 0)).setCell ⟨w.heap.size + 1 + 1, 3, none⟩ (.int .i64 0)).setCell ⟨w.heap.size + 1 + 1, 4, none⟩ (.int .i64 0)) := ⟨_, rfl⟩
  rw [← hwq]
  have u0 : wq.cell? ⟨w.heap.size + 1 + 1, 0, none⟩ = some (.slice none 0 0) := by rw [hwq]; go_simp
  have u1 : wq.cell? ⟨w.heap.size + 1 + 1, 1, none⟩ = some (.int .i64 0) := by rw [hwq]; go_simp
  have u2 : wq.cell? ⟨w.heap.size + 1 + 1, 2, none⟩ = some (.int .i64 0) := by rw [hwq]; go_simp
  have u3 : wq.cell? ⟨w.heap.size + 1 + 1, 3, none⟩ = some (.int .i64 0) := by rw [hwq]; go_simp
  have u4 : wq.cell? ⟨w.heap.size + 1 + 1, 4, none⟩ = some (.int .i64 0) := by rw [hwq]; go_simp
  have hBq : Below w.heap.size w wq := by
   rw [hwq]
   exact (((((HBW.out.setCell (show w.heap.size ≤ w.heap.size + 1 + 1 by omega) _).setCell (show w.heap.size ≤ w.heap.size + 1 + 1 by omega) _).setCell (show w.heap.size ≤ w.heap.size + 1 + 1 by omega) _).setCell (show w.heap.size ≤ w.heap.size + 1 + 1 by omega) _).setCell (show w.heap.size ≤ w.heap.size + 1 + 1 by omega) _)
  clear hwq
  try simp only [Exit.inBlock, Exit.then]
  refine bodyPost_ret (by simp [results, Tryz.results95, go_sem, u0, u1, u2, u3, u4]; try rfl) rfl ?_
  first | exact stepPost_no hBq | (rw [hB, Bool.false_and]; exact stepPost_no hBq)
 | true =>
 obtain ⟨A2, c2, h65, h1, h2, hO5⟩ := hyes hB
 clear hyes
 have hle := (hb15.size : (((w.alloc (.cells #[.slice A n c, .int .i64 I, .int .i64 H, .int .i64 S, .int .i64 P] 32)).alloc (.cells #[.int .i64 kd, .int .i64 id, .int .i64 tt0, .int .i64 z] 107)).alloc (.cells #[.slice none 0 0, .int .i64 0, .int .i64 0, .int .i64 0, .int .i64 0] 32)).heap.size ≤ w5.heap.size)
 have HX5 : Hid (∀ w', Below w5.heap.size w5 w' → Below w.heap.size w w') := fun w' hq => B5.trans (hq.mono B5.size)
 have HSW5 : Hid (Sl w5 (((w.alloc (.cells #[.slice A n c, .int .i64 I, .int .i64 H, .int .i64 S, .int .i64 P] 32)).alloc (.cells #[.int .i64 kd, .int .i64 id, .int .i64 tt0, .int .i64 z] 107)).alloc (.cells #[.slice none 0 0, .int .i64 0, .int .i64 0, .int .i64 0, .int .i64 0] 32)).heap.size w5.heap.size 4 A2 (stN n kd) (lf (stL f n kd id tt0 z))) := by
  obtain ⟨A0, c0, e0, _, _, h0⟩ := own_of_row hO5
  cases e0
  exact h0.sl
 have hm : stN n kd ≤ 7 := by unfold stN; split <;> (try split) <;> omega
 have n1 : g6 ≠ w.heap.size + 1 + 1 := by simp only [World.size_alloc] at lX; omega
 have n2 : w.heap.size + 1 + 1 ≠ g6 := Ne.symm n1
 have lg65 : g6 < w5.heap.size := (Array.getElem?_eq_some_iff.1 h65).1
 obtain ⟨e0, e1, e2, e3, e4⟩ := cells5 h65
 have HO5 := lh hO5
 have H65 := lh h65
 have HR5 := lh hr5
 have low : ∀ k : Nat, (Value.slice A2 (stN n kd) c2).ownBlock = some k → k ≠ w.heap.size + 1 + 1 := fun k e hk => by
  subst hk
  exact row_none_ne hO5 hr5 (by decide) e
 have LOW := lh low
 clear hO5 h65 hr5 low hb15 hb14 hb5 hle B5
 go_wp2_with fail
 refine (isWorks_any A2 (stN n kd) c2 _ _ (lf (stL f n kd id tt0 z)) (stI I kd z) (stH H kd z) (stS S kd z) (stP f n P kd id) w5 HSW5.out (by omega) h1).mono ?_
 rintro e w6 ⟨rfl, hb6⟩
 have hr6 := (hb6.block (w.heap.size + 1 + 1) (Array.getElem?_eq_some_iff.1 HR5.out).1).trans HR5.out
 have h66 := (hb6.block g6 lg65).trans H65.out
 have hO6 := ownsRow_below HO5.out hb6
 have B6 := HX5.out w6 hb6
 clear e0 e1 e2 e3 e4 hb6 HO5 H65 HR5 HSW5 HX5
 cases hG : goodWorks (lf (stL f n kd id tt0 z)) (stN n kd) (stI I kd z) (stH H kd z) (stS S kd z) (stP f n P kd id) with
 | false =>
  have hG' : stG f n I H S P kd id tt0 z = false := hG
  have HGG := lh hG'
  clear hG hG' h66 hO6
  obtain ⟨r0, r1, r2, r3, r4⟩ := cells5 hr6
  have rf := fz hr6
  have HBW := lh B6
  clear hr6
  go_wp2
  obtain ⟨wq, hwq⟩ : ∃ wq, wq = (((((w6.setCell ⟨w.heap.size + 1 + 1, 0, none⟩ (.slice none 0 0)).setCell ⟨w.heap.size + 1 + 1, 1, none⟩ (.int .i64 0)).setCell ⟨w.heap.size + 1 + 1, 2, none⟩ (.int .i64 0)).setCell ⟨w.heap.size + 1 + 1, 3, none⟩ (.int .i64 0)).setCell ⟨w.heap.size + 1 + 1, 4, none⟩ (.int .i64 0)) := ⟨_, rfl⟩
  rw [← hwq]
  have u0 : wq.cell? ⟨w.heap.size + 1 + 1, 0, none⟩ = some (.slice none 0 0) := by rw [hwq]; go_simp
  have u1 : wq.cell? ⟨w.heap.size + 1 + 1, 1, none⟩ = some (.int .i64 0) := by rw [hwq]; go_simp
  have u2 : wq.cell? ⟨w.heap.size + 1 + 1, 2, none⟩ = some (.int .i64 0) := by rw [hwq]; go_simp
  have u3 : wq.cell? ⟨w.heap.size + 1 + 1, 3, none⟩ = some (.int .i64 0) := by rw [hwq]; go_simp
  have u4 : wq.cell? ⟨w.heap.size + 1 + 1, 4, none⟩ = some (.int .i64 0) := by rw [hwq]; go_simp
  have hBq : Below w.heap.size w wq := by
   rw [hwq]
   exact (((((HBW.out.setCell (show w.heap.size ≤ w.heap.size + 1 + 1 by omega) _).setCell (show w.heap.size ≤ w.heap.size + 1 + 1 by omega) _).setCell (show w.heap.size ≤ w.heap.size + 1 + 1 by omega) _).setCell (show w.heap.size ≤ w.heap.size + 1 + 1 by omega) _).setCell (show w.heap.size ≤ w.heap.size + 1 + 1 by omega) _)
  clear hwq
  try simp only [Exit.inBlock, Exit.then]
  refine bodyPost_ret (by simp [results, Tryz.results95, go_sem, u0, u1, u2, u3, u4]; try rfl) rfl ?_
  first | exact stepPost_no hBq | (rw [hB, HGG.out, Bool.true_and]; exact stepPost_no hBq)
 | true =>
  have hG' : stG f n I H S P kd id tt0 z = true := hG
  have HGG := lh hG'
  clear hG hG'
  have hO6 := ownsRow_monoP hO6 HX.out.size
  obtain ⟨e0, e1, e2, e3, e4⟩ := cells5 h66
  obtain ⟨r0, r1, r2, r3, r4⟩ := cells5 hr6
  have rf := fz hr6
  have HBW := lh B6
  have HOW := lh hO6
  clear h66 hr6 B6 hO6
  go_wp2
  obtain ⟨wq, hwq⟩ : ∃ wq, wq = (((((w6.setCell ⟨w.heap.size + 1 + 1, 0, none⟩ (.slice A2 (stN n kd) c2)).setCell ⟨w.heap.size + 1 + 1, 1, none⟩ (.int .i64 (stI I kd z))).setCell ⟨w.heap.size + 1 + 1, 2, none⟩ (.int .i64 (stH H kd z))).setCell ⟨w.heap.size + 1 + 1, 3, none⟩ (.int .i64 (stS S kd z))).setCell ⟨w.heap.size + 1 + 1, 4, none⟩ (.int .i64 (stP f n P kd id))) := ⟨_, rfl⟩
  rw [← hwq]
  have u0 : wq.cell? ⟨w.heap.size + 1 + 1, 0, none⟩ = some (.slice A2 (stN n kd) c2) := by rw [hwq]; go_simp
  have u1 : wq.cell? ⟨w.heap.size + 1 + 1, 1, none⟩ = some (.int .i64 (stI I kd z)) := by rw [hwq]; go_simp
  have u2 : wq.cell? ⟨w.heap.size + 1 + 1, 2, none⟩ = some (.int .i64 (stH H kd z)) := by rw [hwq]; go_simp
  have u3 : wq.cell? ⟨w.heap.size + 1 + 1, 3, none⟩ = some (.int .i64 (stS S kd z)) := by rw [hwq]; go_simp
  have u4 : wq.cell? ⟨w.heap.size + 1 + 1, 4, none⟩ = some (.int .i64 (stP f n P kd id)) := by rw [hwq]; go_simp
  have hBq : Below w.heap.size w wq := by
   rw [hwq]
   exact (((((HBW.out.setCell (show w.heap.size ≤ w.heap.size + 1 + 1 by omega) _).setCell (show w.heap.size ≤ w.heap.size + 1 + 1 by omega) _).setCell (show w.heap.size ≤ w.heap.size + 1 + 1 by omega) _).setCell (show w.heap.size ≤ w.heap.size + 1 + 1 by omega) _).setCell (show w.heap.size ≤ w.heap.size + 1 + 1 by omega) _)
  have no : ∀ j : Nat, (Value.slice A2 (stN n kd) c2).ownBlock ≠ some (⟨w.heap.size + 1 + 1, j, none⟩ : Addr).block := fun j e => LOW.out _ e rfl
  have hOq := ownsRow_setCell_other (ownsRow_setCell_other (ownsRow_setCell_other (ownsRow_setCell_other (ownsRow_setCell_other HOW.out (no 0) (.slice A2 (stN n kd) c2)) (no 1) (.int .i64 (stI I kd z))) (no 2) (.int .i64 (stH H kd z))) (no 3) (.int .i64 (stS S kd z))) (no 4) (.int .i64 (stP f n P kd id))
  rw [← hwq] at hOq
  clear hwq HOW HBW
  try simp only [Exit.inBlock, Exit.then]
  refine bodyPost_ret (by simp [results, Tryz.results95, go_sem, u0, u1, u2, u3, u4]; try rfl) rfl ?_
  rw [hB, HGG.out, Bool.true_and]
  exact stepPost_yes ⟨rfl, rfl, rfl, rfl, rfl, rfl⟩ h1 h2 hOq hBq
end Go.Proofs.YtpndjhelpoenpaaGreatDoor
namespace Go.Proofs.YtpndjhelpoenpaaGreatDoor
open Go.RowKit
section
variable {f : Nat → Int} {i : Nat} {wt s : Int}
theorem setB_0 (k : Nat) : setB f i wt s (k * 4) = f (k * 4) := by
 have h1 : k * 4 ≠ i * 4 + 2 := by omega
 have h2 : k * 4 ≠ i * 4 + 3 := by omega
 simp only [setB, upd]
 rw [if_neg h2, if_neg h1]
theorem setB_1 (k : Nat) : setB f i wt s (k * 4 + 1) = f (k * 4 + 1) := by
 have h1 : k * 4 + 1 ≠ i * 4 + 2 := by omega
 have h2 : k * 4 + 1 ≠ i * 4 + 3 := by omega
 simp only [setB, upd]
 rw [if_neg h2, if_neg h1]
theorem setB_2 (k : Nat) (h : k ≠ i) : setB f i wt s (k * 4 + 2) = f (k * 4 + 2) := by
 have h1 : k * 4 + 2 ≠ i * 4 + 2 := by omega
 have h2 : k * 4 + 2 ≠ i * 4 + 3 := by omega
 simp only [setB, upd]
 rw [if_neg h2, if_neg h1]
theorem setB_3 (k : Nat) (h : k ≠ i) : setB f i wt s (k * 4 + 3) = f (k * 4 + 3) := by
 have h1 : k * 4 + 3 ≠ i * 4 + 2 := by omega
 have h2 : k * 4 + 3 ≠ i * 4 + 3 := by omega
 simp only [setB, upd]
 rw [if_neg h2, if_neg h1]
theorem setB_2i : setB f i wt s (i * 4 + 2) = wt := by simp [setB, upd]
theorem setB_3i : setB f i wt s (i * 4 + 3) = s := by simp [setB, upd]
theorem setB_pred (k : Nat) : setB f i wt s ((k - 1) * 4) = f ((k - 1) * 4) := setB_0 (k - 1)
end
theorem allTo_intro {p : Nat → Bool} {n : Nat} (h : ∀ k, k < n → p k = true) : allTo p n = true := by
 induction n with
 | zero => rfl
 | succ n ih => exact allTo_succ (ih fun k hk => h k (by omega)) (h n (by omega))
theorem sumW_bounds {g : Nat → Int} (n : Nat) (hn : n ≤ 6) (h : ∀ k, k < n → 0 ≤ g k ∧ g k ≤ 1000000) : ∀ k, k ≤ n → 0 ≤ sumW g k ∧ sumW g k ≤ k * 1000000 := by
 intro k
 induction k with
 | zero => intro _; exact ⟨Int.le_refl _, by simp [sumW]⟩
 | succ k ih =>
  intro hk
  obtain ⟨h1, h2⟩ := ih (by omega)
  obtain ⟨h3, h4⟩ := h k (by omega)
  rw [sumW, IntWalk.wrap64_in _ ⟨by omega, by omega⟩]
  constructor
  ·omega
  ·push_cast; omega
theorem sumW_less {g g' : Nat → Int} {n i : Nat} (hn : n ≤ 6) (hi : i < n) (h : ∀ k, k < n → 0 ≤ g k ∧ g k ≤ 1000000) (d : Int) (hd : 0 ≤ d) (hdi : d ≤ g i) (he : ∀ k, k ≠ i → g' k = g k) (hei : g' i = g i - d) :
  ∀ k, k ≤ n → sumW g' k = (if i < k then sumW g k - d else sumW g k) ∧ (i < k → d ≤ sumW g k) := by
 intro k
 induction k with
 | zero => intro _; simp [sumW]
 | succ k ih =>
  intro hk
  obtain ⟨h1, h2⟩ := ih (by omega)
  obtain ⟨h3, h4⟩ := h k (by omega)
  obtain ⟨b1, b2⟩ := sumW_bounds n hn h k (by omega)
  have e : sumW g (k + 1) = sumW g k + g k := by rw [sumW, IntWalk.wrap64_in _ ⟨by omega, by omega⟩]
  rw [e]
  by_cases hki : k = i
  ·subst hki
   rw [if_neg (Nat.lt_irrefl _)] at h1
   rw [if_pos (Nat.lt_succ_self _)]
   refine ⟨?_, fun _ => by omega⟩
   rw [sumW, h1, hei, IntWalk.wrap64_in _ ⟨by omega, by omega⟩]
   omega
  ·by_cases hlt : i < k
   ·rw [if_pos hlt] at h1
    have := h2 hlt
    rw [if_pos (by omega)]
    refine ⟨?_, fun _ => by omega⟩
    rw [sumW, h1, he k hki, IntWalk.wrap64_in _ ⟨by omega, by omega⟩]
    omega
   ·rw [if_neg hlt] at h1
    rw [if_neg (by omega)]
    refine ⟨?_, fun hx => absurd hx (by omega)⟩
    rw [sumW, h1, he k hki, IntWalk.wrap64_in _ ⟨by omega, by omega⟩]
theorem rake_ok {f : Nat → Int} {n : Nat} {I H S P : Int} (hg : goodWorks f n I H S P = true) {i : Nat} (hi : i < n) :
  (mayV (f (i * 4 + 2)) (f (i * 4 + 3)) && goodWorks (setB f i (f (i * 4 + 2)) (wrap64 (f (i * 4 + 3) - 1))) n I (wrap64 (H + 1)) S P) = mayV (f (i * 4 + 2)) (f (i * 4 + 3)) := by
 cases hm : mayV (f (i * 4 + 2)) (f (i * 4 + 3)) with
 | false => rfl
 | true =>
  rw [Bool.true_and]
  obtain ⟨b1, b2, b3, b4, h6⟩ := good_brine hg hi
  have hq := (mayV_iff (by omega) b2 b3 b4).1 hm
  have hbr : ∀ k, k < n → 0 ≤ saltAt f k ∧ saltAt f k ≤ 1000000 := fun k hk => by
   obtain ⟨_, _, h3, h4, _⟩ := good_brine hg hk
   exact ⟨h3, h4⟩
  rw [IntWalk.wrap64_in (f (i * 4 + 3) - 1) ⟨by omega, by omega⟩]
  simp only [goodWorks, pansOk, kilosOk, inR, Bool.and_eq_true, decide_eq_true_eq] at hg ⊢
  obtain ⟨⟨⟨hall, hlen⟩, hk⟩, hI⟩ := hg
  obtain ⟨⟨⟨⟨i0, i1⟩, ⟨k0, k1⟩⟩, ⟨s0, s1⟩⟩, ⟨p0, p1⟩⟩ := hk
  obtain ⟨t1, t2⟩ := sumW_bounds n hlen hbr n (Nat.le_refl _)
  obtain ⟨u1, u2⟩ := sumW_less (g := saltAt f) (g' := saltAt (setB f i (f (i * 4 + 2)) (f (i * 4 + 3) - 1))) hlen hi hbr 1 (by omega) (by unfold saltAt; omega) (fun k hk => setB_3 k hk) setB_3i n (Nat.le_refl _)
  rw [if_pos hi] at u1
  have u3 := u2 hi
  have ht : totalV f n H S P = sumW (saltAt f) n + H + S + P := by
   unfold totalV
   rw [IntWalk.wrap64_in (sumW (saltAt f) n + H) ⟨by omega, by omega⟩, IntWalk.wrap64_in (sumW (saltAt f) n + H + S) ⟨by omega, by omega⟩, IntWalk.wrap64_in _ ⟨by omega, by omega⟩]
  rw [ht] at hI
  rw [IntWalk.wrap64_in (H + 1) ⟨by omega, by omega⟩]
  refine ⟨⟨⟨?_, hlen⟩, ⟨⟨⟨i0, i1⟩, ⟨by omega, by omega⟩⟩, ⟨s0, s1⟩⟩, ⟨p0, p1⟩⟩, ?_⟩
  ·refine allTo_intro fun k hk => ?_
   have hp := allTo_at hk hall
   simp only [panStep, okPanAt, setB_0, setB_1, setB_pred] at hp ⊢
   by_cases hki : k = i
   ·subst hki
    rw [setB_2i, setB_3i]
    have m1 : massV (f (k * 4 + 2)) (f (k * 4 + 3)) = f (k * 4 + 2) + f (k * 4 + 3) := IntWalk.wrap64_in _ ⟨by omega, by omega⟩
    have m2 : massV (f (k * 4 + 2)) (f (k * 4 + 3) - 1) = f (k * 4 + 2) + (f (k * 4 + 3) - 1) := IntWalk.wrap64_in _ ⟨by omega, by omega⟩
    simp only [okPan, okBrine, inR, m1, m2, Bool.and_eq_true, decide_eq_true_eq] at hp ⊢
    obtain ⟨⟨⟨⟨⟨q1, q2⟩, ⟨q3, q4⟩⟩, ⟨⟨q5, q6⟩, ⟨q7, q8⟩⟩⟩, q9⟩, q10⟩ := hp
    exact ⟨⟨⟨⟨⟨q1, q2⟩, ⟨q3, q4⟩⟩, ⟨⟨q5, q6⟩, ⟨by omega, by omega⟩⟩⟩, by omega⟩, q10⟩
   ·rw [setB_2 k hki, setB_3 k hki]
    exact hp
  ·unfold totalV
   rw [u1, IntWalk.wrap64_in (sumW (saltAt f) n - 1 + (H + 1)) ⟨by omega, by omega⟩, IntWalk.wrap64_in (sumW (saltAt f) n - 1 + (H + 1) + S) ⟨by omega, by omega⟩, IntWalk.wrap64_in _ ⟨by omega, by omega⟩]
   omega
attribute [local go_sem ↓] Go.wp_at_zero Go.wp_at_succ
def brineB (wt s : Int) : ByteArray := ((⟨#[119]⟩ ++ numB wt) ++ ⟨#[32, 115]⟩) ++ numB s
def panB (h wt s : Int) : ByteArray := (brineB wt s ++ ⟨#[32, 111, 102, 32]⟩) ++ numB h
theorem good_pan {f : Nat → Int} {n : Nat} {I H S P : Int} (hg : goodWorks f n I H S P = true) {j : Nat} (hj : j < n) : (1 ≤ f (j * 4 + 1) ∧ f (j * 4 + 1) ≤ 100000) ∧ (0 ≤ f (j * 4 + 2) ∧ f (j * 4 + 2) ≤ 1000000) ∧ (0 ≤ f (j * 4 + 3) ∧ f (j * 4 + 3) ≤ 1000000) ∧ okBrine (f (j * 4 + 2)) (f (j * 4 + 3)) = true ∧ n ≤ 6 := by
 simp only [goodWorks, pansOk, Bool.and_eq_true, decide_eq_true_eq] at hg
 have h := allTo_at hj hg.1.1.1
 simp only [panStep, okPanAt, okPan, Bool.and_eq_true, decide_eq_true_eq] at h
 have h2 := h.1.1.2
 simp only [okBrine, inR, Bool.and_eq_true, decide_eq_true_eq] at h2
 have h3 := h.1.1.1.2
 simp only [inR, decide_eq_true_eq] at h3
 refine ⟨h3, h2.1, h2.2, h.1.1.2, hg.1.1.2⟩
theorem brineB_size {wt s : Int} (h1 : 0 ≤ wt ∧ wt ≤ 1000000) (h2 : 0 ≤ s ∧ s ≤ 1000000) : (brineB wt s).size ≤ 50 := by
 have := numB_size (n := wt) (by omega) (by omega)
 have := numB_size (n := s) (by omega) (by omega)
 simp only [brineB, ByteArray.size_append', ByteArray.size_mk', List.size_toArray, List.length_cons, List.length_nil]
 omega
theorem BrineText_yes (wt s : Int) (hok : okBrine wt s = true) (w : World) (ht : Tab w) :
  Calls Tryz.prog 110 #[.agg #[.int .i64 wt, .int .i64 s]] w fun e w' => e = .returned (.tuple #[.string (brineB wt s), .bool true]) ∧ Below w.heap.size w w' := by
 have HAL : Below w.heap.size w (w.alloc (.cells #[.int .i64 wt, .int .i64 s] 95)) := (Below.refl _ w).alloc (Nat.le_refl _) _
 have hw : (0 ≤ wt ∧ wt ≤ 1000000) ∧ 0 ≤ s ∧ s ≤ 1000000 := by simpa [okBrine, inR] using hok
 obtain ⟨⟨hw0, hw1⟩, hs0, hs1⟩ := hw
 have hz1 := numB_size (n := wt) (by omega) (by omega)
 have hz2 := numB_size (n := s) (by omega) (by omega)
 have HT : Hid (Tab (w.alloc (.cells #[.int .i64 wt, .int .i64 s] 95))) := ht.below HAL
 have HF0 : Hid (∀ w', Below (w.alloc (.cells #[.int .i64 wt, .int .i64 s] 95)).heap.size (w.alloc (.cells #[.int .i64 wt, .int .i64 s] 95)) w' → w'.cell? ⟨w.heap.size, 0, none⟩ = some (.int .i64 wt) ∧ w'.cell? ⟨w.heap.size, 1, none⟩ = some (.int .i64 s)) := by
  intro w' hq
  exact (cells2 (bx (g := w.heap.size) hq))
 go_enter Tryz.func110, Tryz.ntmps110
 go_wp2_with fail
 refine (IsBrine_any wt s _).mono ?_
 rw [hok]
 rintro e w1 ⟨rfl, hb1⟩
 have HF : Hid (∀ w', Below w1.heap.size w1 w' → w'.cell? ⟨w.heap.size, 0, none⟩ = some (.int .i64 wt) ∧ w'.cell? ⟨w.heap.size, 1, none⟩ = some (.int .i64 s)) := fun w' hq => HF0.out w' (hb1.trans (hq.mono hb1.size))
 clear HF0
 go_wp2_with fail
 refine wp_region_class (C := fun w' => Below (w1).heap.size (w1) w') (by kernel_rfl) (by kernel_rfl) ((Below.refl _ _).drew) ?_
 refine tr 7 HF ?_
 refine tr 8 HF ?_
 refine wpQuiet_meet (d := 9) (v := ?_) ?_ ?_ (by rfl) ?_ ?_ ?_
 rotate_left
 rotate_left
 rotate_left
 ·intro wS hS
  have eF := HF.out wS hS
  go_simp
  first | with_reducible rfl | (refine ⟨?_, ?_⟩ <;> with_reducible rfl)
 ·intro wS hS
  refine (decimal_any wt (by omega) (by omega) wS (HT.out.below (hb1.trans (hS.mono hb1.size)))).mono ?_
  rintro e w2 ⟨rfl, hb2⟩
  refine ⟨?_, hS.trans (hb2.mono hS.size)⟩
  with_reducible rfl
 simp only [Act.put, p1, p2, p3]
 refine wpQuiet_take (d := 10) (v := ?_) (by rfl) ?_ ?_
 rotate_left
 ·intro wS hS
  refine run_add_strP ⟨_, _, rfl, rfl, by (try simp only [ByteArray.size_append', ByteArray.size_mk', List.size_toArray, List.length_cons, List.length_nil]); omega, ?_⟩
  with_reducible rfl
 simp only [Act.put, p1, p2, p3]
 refine wpQuiet_take (d := 11) (v := ?_) (by rfl) ?_ ?_
 rotate_left
 ·intro wS hS
  refine run_add_strP ⟨_, _, rfl, rfl, by (try simp only [ByteArray.size_append', ByteArray.size_mk', List.size_toArray, List.length_cons, List.length_nil]); omega, ?_⟩
  with_reducible rfl
 simp only [Act.put, p1, p2, p3]
 refine tr 12 HF ?_
 refine tr 13 HF ?_
 refine wpQuiet_meet (d := 14) (v := ?_) ?_ ?_ (by rfl) ?_ ?_ ?_
 rotate_left
 rotate_left
 rotate_left
 ·intro wS hS
  have eF := HF.out wS hS
  go_simp
  first | with_reducible rfl | (refine ⟨?_, ?_⟩ <;> with_reducible rfl)
 ·intro wS hS
  refine (decimal_any s (by omega) (by omega) wS (HT.out.below (hb1.trans (hS.mono hb1.size)))).mono ?_
  rintro e w2 ⟨rfl, hb2⟩
  refine ⟨?_, hS.trans (hb2.mono hS.size)⟩
  with_reducible rfl
 simp only [Act.put, p1, p2, p3]
 refine wpQuiet_take (d := 15) (v := ?_) (by rfl) ?_ ?_
 rotate_left
 ·intro wS hS
  refine run_add_strP ⟨_, _, rfl, rfl, by (try simp only [ByteArray.size_append', ByteArray.size_mk', List.size_toArray, List.length_cons, List.length_nil]); omega, ?_⟩
  with_reducible rfl
 simp only [Act.put, p1, p2, p3]
 refine tr 2 HF ?_
 refine tr 3 HF ?_
 refine wpQuiet_nil (fun wq jd => ?_)
 go_wp2_with fail
 go_ret2
 exact ⟨rfl, HAL.trans ((hb1.trans (jd.mono hb1.size)).mono (by simp))⟩
theorem l2Text_any (wt s : Int) (hw : 0 ≤ wt ∧ wt ≤ 1000000) (hs : 0 ≤ s ∧ s ≤ 1000000) (w : World) :
  Calls Tryz.prog 112 #[.agg #[.int .i64 wt, .int .i64 s]] w fun e w' => e = .returned (.string (brineB wt s)) ∧ Below w.heap.size w w' := by
 have HAL : Below w.heap.size w (w.alloc (.cells #[.int .i64 wt, .int .i64 s] 95)) := (Below.refl _ w).alloc (Nat.le_refl _) _
 obtain ⟨hw0, hw1⟩ := hw
 obtain ⟨hs0, hs1⟩ := hs
 have hz1 := numB_size (n := wt) (by omega) (by omega)
 have hz2 := numB_size (n := s) (by omega) (by omega)
 have HF : Hid (∀ w', Below (w.alloc (.cells #[.int .i64 wt, .int .i64 s] 95)).heap.size (w.alloc (.cells #[.int .i64 wt, .int .i64 s] 95)) w' → w'.cell? ⟨w.heap.size, 0, none⟩ = some (.int .i64 wt) ∧ w'.cell? ⟨w.heap.size, 1, none⟩ = some (.int .i64 s)) := by
  intro w' hq
  exact (cells2 (bx (g := w.heap.size) hq))
 go_enter Tryz.func112, Tryz.ntmps112
 go_wp2_with fail
 refine wp_region_class (C := fun w' => Below ((w.alloc (.cells #[.int .i64 wt, .int .i64 s] 95))).heap.size ((w.alloc (.cells #[.int .i64 wt, .int .i64 s] 95))) w') (by kernel_rfl) (by kernel_rfl) ((Below.refl _ _).drew) ?_
 refine tr 3 HF ?_
 refine tr 4 HF ?_
 refine wpQuiet_meet (d := 5) (v := ?_) ?_ ?_ (by rfl) ?_ ?_ ?_
 rotate_left
 rotate_left
 rotate_left
 ·intro wS hS
  have eF := HF.out wS hS
  go_simp
  first | with_reducible rfl | (refine ⟨?_, ?_⟩ <;> with_reducible rfl)
 ·intro wS hS
  refine (l1Num_any wt (by omega) (by omega) wS).mono ?_
  rintro e w2 ⟨rfl, hb2⟩
  refine ⟨?_, hS.trans (hb2.mono hS.size)⟩
  with_reducible rfl
 simp only [Act.put, p1, p2, p3]
 refine wpQuiet_take (d := 6) (v := ?_) (by rfl) ?_ ?_
 rotate_left
 ·intro wS hS
  refine run_add_strP ⟨_, _, rfl, rfl, by (try simp only [ByteArray.size_append', ByteArray.size_mk', List.size_toArray, List.length_cons, List.length_nil]); omega, ?_⟩
  with_reducible rfl
 simp only [Act.put, p1, p2, p3]
 refine wpQuiet_take (d := 7) (v := ?_) (by rfl) ?_ ?_
 rotate_left
 ·intro wS hS
  refine run_add_strP ⟨_, _, rfl, rfl, by (try simp only [ByteArray.size_append', ByteArray.size_mk', List.size_toArray, List.length_cons, List.length_nil]); omega, ?_⟩
  with_reducible rfl
 simp only [Act.put, p1, p2, p3]
 refine tr 8 HF ?_
 refine tr 9 HF ?_
 refine wpQuiet_meet (d := 10) (v := ?_) ?_ ?_ (by rfl) ?_ ?_ ?_
 rotate_left
 rotate_left
 rotate_left
 ·intro wS hS
  have eF := HF.out wS hS
  go_simp
  first | with_reducible rfl | (refine ⟨?_, ?_⟩ <;> with_reducible rfl)
 ·intro wS hS
  refine (l1Num_any s (by omega) (by omega) wS).mono ?_
  rintro e w2 ⟨rfl, hb2⟩
  refine ⟨?_, hS.trans (hb2.mono hS.size)⟩
  with_reducible rfl
 simp only [Act.put, p1, p2, p3]
 refine wpQuiet_take (d := 11) (v := ?_) (by rfl) ?_ ?_
 rotate_left
 ·intro wS hS
  refine run_add_strP ⟨_, _, rfl, rfl, by (try simp only [ByteArray.size_append', ByteArray.size_mk', List.size_toArray, List.length_cons, List.length_nil]); omega, ?_⟩
  with_reducible rfl
 simp only [Act.put, p1, p2, p3]
 refine tr 2 HF ?_
 refine wpQuiet_nil (fun wq jd => ?_)
 go_wp2_with fail
 go_ret
 exact ⟨rfl, HAL.trans (jd.mono (by simp))⟩
theorem l25Text_any (i h wt s : Int) (hh : 1 ≤ h ∧ h ≤ 100000) (hw : 0 ≤ wt ∧ wt ≤ 1000000) (hs : 0 ≤ s ∧ s ≤ 1000000) (w : World) :
  Calls Tryz.prog 67 #[.agg #[.int .i64 i, .int .i64 h, .int .i64 wt, .int .i64 s]] w fun e w' => e = .returned (.string (panB h wt s)) ∧ Below w.heap.size w w' := by
 have HAL : Below w.heap.size w (w.alloc (.cells #[.int .i64 i, .int .i64 h, .int .i64 wt, .int .i64 s] 97)) := (Below.refl _ w).alloc (Nat.le_refl _) _
 obtain ⟨hh0, hh1⟩ := hh
 have hz1 := numB_size (n := h) (by omega) (by omega)
 have hz2 := brineB_size hw hs
 have HF : Hid (∀ w', Below (w.alloc (.cells #[.int .i64 i, .int .i64 h, .int .i64 wt, .int .i64 s] 97)).heap.size (w.alloc (.cells #[.int .i64 i, .int .i64 h, .int .i64 wt, .int .i64 s] 97)) w' → w'.cell? ⟨w.heap.size, 1, none⟩ = some (.int .i64 h) ∧ w'.cell? ⟨w.heap.size, 2, none⟩ = some (.int .i64 wt) ∧ w'.cell? ⟨w.heap.size, 3, none⟩ = some (.int .i64 s)) := by
  intro w' hq
  exact ⟨(hq.cell (p := ⟨w.heap.size, 1, none⟩) (by simp)).trans (by simp), (hq.cell (p := ⟨w.heap.size, 2, none⟩) (by simp)).trans (by simp), (hq.cell (p := ⟨w.heap.size, 3, none⟩) (by simp)).trans (by simp)⟩
 go_enter Tryz.func67, Tryz.ntmps67
 go_wp2_with fail
 refine wp_region_class (C := fun w' => Below ((w.alloc (.cells #[.int .i64 i, .int .i64 h, .int .i64 wt, .int .i64 s] 97))).heap.size ((w.alloc (.cells #[.int .i64 i, .int .i64 h, .int .i64 wt, .int .i64 s] 97))) w') (by kernel_rfl) (by kernel_rfl) ((Below.refl _ _).drew) ?_
 refine tr 3 HF ?_
 refine tr 4 HF ?_
 refine wpQuiet_meet (d := 5) (v := ?_) ?_ ?_ (by rfl) ?_ ?_ ?_
 rotate_left
 rotate_left
 rotate_left
 ·intro wS hS
  have eF := HF.out wS hS
  go_simp
  first | with_reducible rfl | (refine ⟨?_, ?_⟩ <;> with_reducible rfl)
 ·intro wS hS
  refine (l2Text_any wt s hw hs wS).mono ?_
  rintro e w2 ⟨rfl, hb2⟩
  refine ⟨?_, hS.trans (hb2.mono hS.size)⟩
  with_reducible rfl
 simp only [Act.put, p1, p2, p3]
 refine wpQuiet_take (d := 6) (v := ?_) (by rfl) ?_ ?_
 rotate_left
 ·intro wS hS
  refine run_add_strP ⟨_, _, rfl, rfl, by (try simp only [ByteArray.size_append', ByteArray.size_mk', List.size_toArray, List.length_cons, List.length_nil]); omega, ?_⟩
  with_reducible rfl
 simp only [Act.put, p1, p2, p3]
 refine tr 7 HF ?_
 refine tr 8 HF ?_
 refine wpQuiet_meet (d := 9) (v := ?_) ?_ ?_ (by rfl) ?_ ?_ ?_
 rotate_left
 rotate_left
 rotate_left
 ·intro wS hS
  have eF := HF.out wS hS
  go_simp
  first | with_reducible rfl | (refine ⟨?_, ?_⟩ <;> with_reducible rfl)
 ·intro wS hS
  refine (l1Num_any h (by omega) (by omega) wS).mono ?_
  rintro e w2 ⟨rfl, hb2⟩
  refine ⟨?_, hS.trans (hb2.mono hS.size)⟩
  with_reducible rfl
 simp only [Act.put, p1, p2, p3]
 refine wpQuiet_take (d := 10) (v := ?_) (by rfl) ?_ ?_
 rotate_left
 ·intro wS hS
  refine run_add_strP ⟨_, _, rfl, rfl, by (try simp only [ByteArray.size_append', ByteArray.size_mk', List.size_toArray, List.length_cons, List.length_nil]); omega, ?_⟩
  with_reducible rfl
 simp only [Act.put, p1, p2, p3]
 refine tr 2 HF ?_
 refine wpQuiet_nil (fun wq jd => ?_)
 go_wp2_with fail
 go_ret
 exact ⟨rfl, HAL.trans (jd.mono (by simp))⟩
theorem PanText_no (A : Option Addr) (n c lo hi : Nat) (f : Nat → Int) (I H S P : Int) (z : Int) (w : World) (hs : Sl w lo hi 4 A n f) (hn : n ≤ 1048576) (hnc : n ≤ c) (ht : Tab w) (h : goodWorks f n I H S P = false ∨ findV (pid f) z n 0 = -1) :
  Calls Tryz.prog 64 #[.agg #[.slice A n c, .int .i64 I, .int .i64 H, .int .i64 S, .int .i64 P], .int .i64 z] w fun e w' => e = .returned (.tuple #[.string ⟨#[]⟩, .bool false]) ∧ Below w.heap.size w w' := by
 have HS : Hid (Sl (w.alloc (.cells #[.slice A n c, .int .i64 I, .int .i64 H, .int .i64 S, .int .i64 P] 32)) lo hi 4 A n f) := hs.below ((Below.refl _ w).alloc (Nat.le_refl _) _)
 clear hs
 cases hg : goodWorks f n I H S P with
 | false =>
  clear h
  generalize hfd : findV (pid f) z n 0 = r
  go_enter Tryz.func64, Tryz.ntmps64
  go_wp2_with fail
  refine (panAt_any A n c lo hi f I H S P z _ HS.out hn hnc).mono ?_
  rw [hfd]
  rintro e w2 ⟨rfl, hb2⟩
  obtain ⟨b0, b1, b2, b3, b4⟩ := cells5 (bx (g := w.heap.size) hb2)
  have HS2 := HS.out.below hb2
  go_wp2_with fail
  refine (isWorks_any A n c lo hi f I H S P _ HS2 hn hnc).mono ?_
  rw [hg]
  rintro e w3 ⟨rfl, hb3⟩
  have B3 := below_of hb2 hb3 hb2.size
  clear b0 b1 b2 b3 b4 HS2 hb2 hb3
  go_wp2
  go_ret2
  exact ⟨rfl, ((Below.refl _ w).alloc (Nat.le_refl _) _).trans (B3.mono (by simp))⟩
 | true =>
  have hfd : findV (pid f) z n 0 = -1 := by simpa [hg] using h
  clear h
  go_enter Tryz.func64, Tryz.ntmps64
  go_wp2_with fail
  refine (panAt_any A n c lo hi f I H S P z _ HS.out hn hnc).mono ?_
  rw [hfd]
  rintro e w2 ⟨rfl, hb2⟩
  obtain ⟨b0, b1, b2, b3, b4⟩ := cells5 (bx (g := w.heap.size) hb2)
  have HS2 := HS.out.below hb2
  go_wp2_with fail
  refine (isWorks_any A n c lo hi f I H S P _ HS2 hn hnc).mono ?_
  rw [hg]
  rintro e w3 ⟨rfl, hb3⟩
  have B3 := below_of hb2 hb3 hb2.size
  clear b0 b1 b2 b3 b4 HS2 hb2 hb3
  go_wp2
  go_ret2
  exact ⟨rfl, ((Below.refl _ w).alloc (Nat.le_refl _) _).trans (B3.mono (by simp))⟩
theorem PanText_yes (A : Option Addr) (n c lo hi : Nat) (f : Nat → Int) (I H S P : Int) (z : Int) (w : World) (hs : Sl w lo hi 4 A n f) (hn : n ≤ 1048576) (hnc : n ≤ c) (ht : Tab w) (hg : goodWorks f n I H S P = true) (j : Nat) (hj : j < n) (hfd : findV (pid f) z n 0 = (j : Int)) :
  Calls Tryz.prog 64 #[.agg #[.slice A n c, .int .i64 I, .int .i64 H, .int .i64 S, .int .i64 P], .int .i64 z] w fun e w' => e = .returned (.tuple #[.string (panB (f (j * 4 + 1)) (f (j * 4 + 2)) (f (j * 4 + 3))), .bool true]) ∧ Below w.heap.size w w' := by
 have HS : Hid (Sl (w.alloc (.cells #[.slice A n c, .int .i64 I, .int .i64 H, .int .i64 S, .int .i64 P] 32)) lo hi 4 A n f) := hs.below ((Below.refl _ w).alloc (Nat.le_refl _) _)
 clear hs
 have hj0 : ¬ ((j : Int) < 0) := by omega
 have hk0i : (0 : Int) ≤ (j : Int) := by omega
 have hkni : (j : Int) < (n : Int) := by omega
 ·skip
  go_enter Tryz.func64, Tryz.ntmps64
  go_wp2_with fail
  refine (panAt_any A n c lo hi f I H S P z _ HS.out hn hnc).mono ?_
  rw [hfd]
  rintro e w2 ⟨rfl, hb2⟩
  obtain ⟨b0, b1, b2, b3, b4⟩ := cells5 (bx (g := w.heap.size) hb2)
  have HS2 := HS.out.below hb2
  go_wp2_with fail
  refine (isWorks_any A n c lo hi f I H S P _ HS2 hn hnc).mono ?_
  rw [hg]
  rintro e w3 ⟨rfl, hb3⟩
  have B3 := below_of hb2 hb3 hb2.size
  clear b0 b1 b2 b3 b4 HS2 hb2 hb3
  have b0 : w3.cell? ⟨w.heap.size, 0, none⟩ = some (.slice A n c) := (B3.cell (p := ⟨w.heap.size, 0, none⟩) (by simp)).trans (by simp)
  obtain ⟨b, off, rfl, hbw, HC⟩ := HS.out.open_ B3 (by omega)
  obtain ⟨c0, c1, c2, c3⟩ := cell4 HC hj
  have hbz : w.heap.size < w3.heap.size := by have := B3.size; simp at this; omega
  have HF : Hid (∀ w', Below w3.heap.size w3 w' → _) := fun w' hq => And.intro (kp hq b0) (And.intro (kp hq c1) (And.intro (kp hq c2) (kp hq c3)))
  have HT3 : Hid (Tab w3) := ht.below (((Below.refl _ w).alloc (Nat.le_refl _) _).trans (B3.mono (by simp)))
  clear HC HS
  obtain ⟨_, hw, hs, hob, hn6⟩ := good_pan hg hj
  have hz1 := brineB_size hw hs
  obtain ⟨hh, _, _, _, _⟩ := good_pan hg hj
  have hz2 := numB_size (n := f (j * 4 + 1)) (by omega) (by omega)
  go_wp2_with fail
  refine (BrineText_yes _ _ hob _ HT3.out).mono ?_
  rintro e w4 ⟨rfl, hb4⟩
  obtain ⟨d0, d1, d2, d3⟩ := HF.out w4 hb4
  clear c1 c2 c3 b0 hob
  go_wp2_with fail
  refine (decimal_any _ (by omega) (by omega) _ (HT3.out.below hb4)).mono ?_
  rintro e w5 ⟨rfl, hb5⟩
  have B5 := below_of (below_of B3 hb4 B3.size) hb5 (by have := hb4.size; have := B3.size; omega)
  go_wp2_with fail
  go_ret2
  exact ⟨rfl, ((Below.refl _ w).alloc (Nat.le_refl _) _).trans (B5.mono (by simp))⟩
theorem sPanText_no (A : Option Addr) (n c lo hi : Nat) (f : Nat → Int) (I H S P : Int) (z : Int) (w : World) (hs : Sl w lo hi 4 A n f) (hn : n ≤ 1048576) (hnc : n ≤ c) (h : goodWorks f n I H S P = false ∨ findV (pid f) z n 0 = -1) :
  Calls Tryz.prog 161 #[.agg #[.slice A n c, .int .i64 I, .int .i64 H, .int .i64 S, .int .i64 P], .int .i64 z] w fun e w' => e = .returned (.tuple #[.string ⟨#[]⟩, .bool false]) ∧ Below w.heap.size w w' := by
 have HS : Hid (Sl (w.alloc (.cells #[.slice A n c, .int .i64 I, .int .i64 H, .int .i64 S, .int .i64 P] 32)) lo hi 4 A n f) := hs.below ((Below.refl _ w).alloc (Nat.le_refl _) _)
 clear hs
 cases hg : goodWorks f n I H S P with
 | false =>
  clear h
  generalize hfd : findV (pid f) z n 0 = r
  go_enter Tryz.func161, Tryz.ntmps161
  go_wp2_with fail
  refine (l25Find_any A n c lo hi f I H S P z _ HS.out hn hnc).mono ?_
  rw [hfd]
  rintro e w2 ⟨rfl, hb2⟩
  obtain ⟨b0, b1, b2, b3, b4⟩ := cells5 (bx (g := w.heap.size) hb2)
  have HS2 := HS.out.below hb2
  go_wp2_with fail
  refine (l25Good_any A n c lo hi f I H S P _ HS2 hn hnc).mono ?_
  rw [hg]
  rintro e w3 ⟨rfl, hb3⟩
  have B3 := below_of hb2 hb3 hb2.size
  clear b0 b1 b2 b3 b4 HS2 hb2 hb3
  go_wp2
  go_ret2
  exact ⟨rfl, ((Below.refl _ w).alloc (Nat.le_refl _) _).trans (B3.mono (by simp))⟩
 | true =>
  have hfd : findV (pid f) z n 0 = -1 := by simpa [hg] using h
  clear h
  go_enter Tryz.func161, Tryz.ntmps161
  go_wp2_with fail
  refine (l25Find_any A n c lo hi f I H S P z _ HS.out hn hnc).mono ?_
  rw [hfd]
  rintro e w2 ⟨rfl, hb2⟩
  obtain ⟨b0, b1, b2, b3, b4⟩ := cells5 (bx (g := w.heap.size) hb2)
  have HS2 := HS.out.below hb2
  go_wp2_with fail
  refine (l25Good_any A n c lo hi f I H S P _ HS2 hn hnc).mono ?_
  rw [hg]
  rintro e w3 ⟨rfl, hb3⟩
  have B3 := below_of hb2 hb3 hb2.size
  clear b0 b1 b2 b3 b4 HS2 hb2 hb3
  go_wp2
  go_ret2
  exact ⟨rfl, ((Below.refl _ w).alloc (Nat.le_refl _) _).trans (B3.mono (by simp))⟩
theorem sPanText_yes (A : Option Addr) (n c lo hi : Nat) (f : Nat → Int) (I H S P : Int) (z : Int) (w : World) (hs : Sl w lo hi 4 A n f) (hn : n ≤ 1048576) (hnc : n ≤ c) (hg : goodWorks f n I H S P = true) (j : Nat) (hj : j < n) (hfd : findV (pid f) z n 0 = (j : Int)) :
  Calls Tryz.prog 161 #[.agg #[.slice A n c, .int .i64 I, .int .i64 H, .int .i64 S, .int .i64 P], .int .i64 z] w fun e w' => e = .returned (.tuple #[.string (panB (f (j * 4 + 1)) (f (j * 4 + 2)) (f (j * 4 + 3))), .bool true]) ∧ Below w.heap.size w w' := by
 have HS : Hid (Sl (w.alloc (.cells #[.slice A n c, .int .i64 I, .int .i64 H, .int .i64 S, .int .i64 P] 32)) lo hi 4 A n f) := hs.below ((Below.refl _ w).alloc (Nat.le_refl _) _)
 clear hs
 have hj0 : ¬ ((j : Int) < 0) := by omega
 have hk0i : (0 : Int) ≤ (j : Int) := by omega
 have hkni : (j : Int) < (n : Int) := by omega
 ·skip
  go_enter Tryz.func161, Tryz.ntmps161
  go_wp2_with fail
  refine (l25Find_any A n c lo hi f I H S P z _ HS.out hn hnc).mono ?_
  rw [hfd]
  rintro e w2 ⟨rfl, hb2⟩
  obtain ⟨b0, b1, b2, b3, b4⟩ := cells5 (bx (g := w.heap.size) hb2)
  have HS2 := HS.out.below hb2
  go_wp2_with fail
  refine (l25Good_any A n c lo hi f I H S P _ HS2 hn hnc).mono ?_
  rw [hg]
  rintro e w3 ⟨rfl, hb3⟩
  have B3 := below_of hb2 hb3 hb2.size
  clear b0 b1 b2 b3 b4 HS2 hb2 hb3
  have b0 : w3.cell? ⟨w.heap.size, 0, none⟩ = some (.slice A n c) := (B3.cell (p := ⟨w.heap.size, 0, none⟩) (by simp)).trans (by simp)
  obtain ⟨b, off, rfl, hbw, HC⟩ := HS.out.open_ B3 (by omega)
  obtain ⟨c0, c1, c2, c3⟩ := cell4 HC hj
  have hbz : w.heap.size < w3.heap.size := by have := B3.size; simp at this; omega
  have HF : Hid (∀ w', Below w3.heap.size w3 w' → _) := fun w' hq => And.intro (kp hq b0) (And.intro (kp hq c1) (And.intro (kp hq c2) (kp hq c3)))
  clear HC HS HF
  obtain ⟨hh, hw, hs, hob, hn6⟩ := good_pan hg hj
  go_wp2_with fail
  refine (l25Text_any _ _ _ _ hh hw hs _).mono ?_
  rintro e w4 ⟨rfl, hb4⟩
  have B4 := below_of B3 hb4 B3.size
  go_wp2_with fail
  go_ret2
  exact ⟨rfl, ((Below.refl _ w).alloc (Nat.le_refl _) _).trans (B4.mono (by simp))⟩
end Go.Proofs.YtpndjhelpoenpaaGreatDoor
namespace Go.Proofs.YtpndjhelpoenpaaGreatDoor
open Go.RowKit
def lineP (f : Nat → Int) (j : Nat) : ByteArray := ((numB (f (j * 4)) ++ ⟨#[58, 32]⟩) ++ panB (f (j * 4 + 1)) (f (j * 4 + 2)) (f (j * 4 + 3))) ++ ⟨#[10]⟩
def pansB (f : Nat → Int) : Nat → ByteArray
 | 0 => ⟨#[]⟩
 | k + 1 => pansB f k ++ lineP f k
def fmtB (f : Nat → Int) (n : Nat) (I H S z : Int) : ByteArray :=
 ((((((((pansB f n ++ ⟨#[105, 110, 32]⟩) ++ numB I) ++ ⟨#[59, 32, 104, 101, 97, 112, 32]⟩) ++ numB H) ++ ⟨#[59, 32, 115, 104, 105, 112, 112, 101, 100, 32]⟩) ++ numB S) ++ ⟨#[59, 32, 114, 101, 99, 111, 114, 100, 115, 32]⟩) ++ numB z) ++ ⟨#[10]⟩
theorem con_len {f : Nat → Int} {n : Nat} {I H S P : Int} (hg : goodWorks f n I H S P = true) : n ≤ 6 := by
 simp only [goodWorks, pansOk, Bool.and_eq_true, decide_eq_true_eq] at hg
 exact hg.1.1.2
theorem pan_id {f : Nat → Int} {n : Nat} {I H S P : Int} (hg : goodWorks f n I H S P = true) {j : Nat} (hj : j < n) : 1 ≤ f (j * 4) ∧ f (j * 4) ≤ 99 := by
 simp only [goodWorks, pansOk, Bool.and_eq_true, decide_eq_true_eq] at hg
 have h := allTo_at hj hg.1.1.1
 simp only [panStep, okPanAt, okPan, inR, Bool.and_eq_true, decide_eq_true_eq] at h
 exact h.1.1.1.1
end Go.Proofs.YtpndjhelpoenpaaGreatDoor
