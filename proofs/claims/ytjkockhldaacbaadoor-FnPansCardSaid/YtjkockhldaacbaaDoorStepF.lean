/-
  The program's StepWorks: the same as the reference's.
-/
import Derived.Test.YtjkockhldaacbaaDoorPk1
import Derived.Test.YtjkockhldaacbaaDoorStepB
namespace Go.Proofs.YtjkockhldaacbaaDoor
open Go.RowKit Go.Sort
set_option linter.unusedVariables false
set_option linter.unusedSimpArgs false
attribute [local go_sem ↓] Go.wp_at_zero Go.wp_at_succ
/-- Does the program's step fit? -/
def stB (f : Nat → Int) (n : Nat) (kd id tt0 z : Int) : Bool :=
  if kd ≠ 3 ∧ tt0 ≠ 0 then false
  else if kd = 1 then decide (findV (pid f) id n 0 < 0)
  else if kd = 6 then decide (id = 0) && decide (1 ≤ z)
  else if findV (pid f) id n 0 < 0 then false
  else if kd = 7 then decide (z = 0)
  else decide (1 ≤ z) && (if kd = 3 then decide (0 ≤ findV (pid f) tt0 n 0) && (decide (findV (pid f) tt0 n 0 ≠ findV (pid f) id n 0) && leadOk f (atN f n id) z)
    else if kd = 2 ∨ kd = 4 then true else if kd = 5 then mayV (f (atN f n id * 4 + 2)) (f (atN f n id * 4 + 3)) else false)
theorem placeV_le (f : Nat → Int) (id : Int) : ∀ m k, k ≤ placeV f id m k ∧ placeV f id m k ≤ k + m
  | 0, k => ⟨Nat.le_refl _, Nat.le_refl _⟩
  | m + 1, k => by
    unfold placeV
    split
    · have := placeV_le f id m (k + 1); omega
    · omega
/-- Works with a new pan are valid only where the pan is. -/
theorem build_good {f : Nat → Int} {n p : Nat} {id z I H S P : Int} (hp : p ≤ n) (h : goodWorks (lf (buildL f n p id z)) (n + 1) I H S P = true) : inR id 1 99 = true ∧ inR z 1 100000 = true := by
  have hl : ((cellsL f n).take (p * 4)).length = p * 4 := by rw [List.length_take, cellsL_len]; omega
  have hget : ∀ q, q < 4 → lf (buildL f n p id z) (p * 4 + q) = [id, z, 0, 0].getD q 0 := by
    intro q hq
    simp only [lf, buildL, List.getD]
    rw [List.append_assoc, List.getElem?_append_right (by omega), hl, show p * 4 + q - p * 4 = q by omega, List.getElem?_append_left (by simpa using hq)]
  simp only [goodWorks, pansOk, Bool.and_eq_true] at h
  have ha := allTo_at (k := p) (by omega) h.1.1.1
  simp only [panStep, okPanAt, okPan, Bool.and_eq_true] at ha
  have h0 := hget 0 (by omega)
  have h1 := hget 1 (by omega)
  rw [Nat.add_zero] at h0
  rw [h0, h1] at ha
  exact ⟨ha.1.1.1.1, ha.1.1.1.2⟩
/-- The two sides' tests of a step come to the same. -/
theorem stOk_eq {f : Nat → Int} {n : Nat} {I H S P : Int} (kd id tt0 z : Int) (hg : goodWorks f n I H S P = true) :
    stOk f n I H S P kd id tt0 z = (inR z 0 1000000 && (stB f n kd id tt0 z && stG f n I H S P kd id tt0 z)) := by
  cases hG : stG f n I H S P kd id tt0 z with
  | false => simp [stOk, mkOk, hG]
  | true =>
  simp only [stOk, mkOk, hg, hG, Bool.true_and, Bool.and_true]
  by_cases k1 : kd = 1
  · subst k1
    have hpl := placeV_le f id n 0
    have hb := build_good (f := f) (n := n) (p := placeV f id n 0) (id := id) (z := z) (by omega) (by simpa [stG, stL, stN] using hG)
    have hz := hb.2
    simp only [inR, decide_eq_true_eq] at hz
    have hz1 : z ≤ 1000000 := by omega
    have hz2 : 0 ≤ z := by omega
    have hi : 1 ≤ id ∧ id ≤ 99 := by simpa [inR] using hb.1
    by_cases ht : tt0 = 0 <;> simp [stV, stB, stM, ht, inR, hz1, hz2, hi, hz]
  by_cases k6 : kd = 6
  · subst k6
    by_cases ht : tt0 = 0 <;> by_cases hi : id = 0 <;> by_cases h1 : 1 ≤ z <;> by_cases h2 : z ≤ 1000000 <;> (have h3 : 1 ≤ z → 0 ≤ z := by omega) <;> simp [stV, stB, stM, inR, ht, hi, h1, h2, h3]
  rcases findV_cases (pid f) id n 0 with ⟨h1, _⟩ | ⟨i, _, hi, hfd, hpi⟩
  · have e1 : stV f n kd id tt0 z = false := by
      unfold stV
      rw [if_neg k1]
      simp [h1, k6]
    have e2 : stB f n kd id tt0 z = false := by
      unfold stB
      split
      · rfl
      · simp [k1, k6, h1]
    rw [e1, e2]; simp
  have hi0 : ¬ ((i : Int) < 0) := by omega
  have ha : atN f n id = i := by simp [atN, hfd]
  by_cases k7 : kd = 7
  · subst k7
    by_cases ht : tt0 = 0 <;> by_cases hz : z = 0 <;> simp [stV, stB, stM, inR, ht, hz, hfd, hi0]
  by_cases k3 : kd = 3
  · subst k3
    rcases findV_cases (pid f) tt0 n 0 with ⟨h1, _⟩ | ⟨j, _, hj, hfk, hpj⟩
    · simp [stV, stB, hfd, h1]
    · have hj0 : ¬ ((j : Int) < 0) := by omega
      have hiff : (j : Int) = (i : Int) ↔ tt0 = id := by
        constructor
        · intro h
          have : j = i := by omega
          subst this
          rw [← hpi, ← hpj]
        · intro h
          subst h
          rw [hfd] at hfk
          exact hfk.symm
      by_cases he : tt0 = id
      · have he2 := hiff.2 he
        simp [stV, stB, hfd, hfk, he, he2]
      · have he2 : ¬ ((j : Int) = (i : Int)) := fun h => he (hiff.1 h)
        by_cases h1 : 1 ≤ z <;> by_cases h2 : z ≤ 1000000 <;> (have h3 : 1 ≤ z → 0 ≤ z := by omega) <;> simp [stV, stB, stM, inR, hfd, hfk, he, he2, h1, h2, h3]
  by_cases ht : tt0 = 0
  rotate_left
  · have e1 : stV f n kd id tt0 z = false := by
      unfold stV
      rw [if_neg k1]
      split
      · simp [ht]
      · simp [k3, k6, k7]
    have e2 : stB f n kd id tt0 z = false := by
      unfold stB
      rw [if_pos ⟨k3, ht⟩]
    rw [e1, e2]; simp
  by_cases k2 : kd = 2 ∨ kd = 4
  · have k245 : kd = 2 ∨ kd = 4 ∨ kd = 5 := by omega
    have k5 : ¬ kd = 5 := by omega
    by_cases h1 : 1 ≤ z <;> by_cases h2 : z ≤ 1000000 <;> (have h3 : 1 ≤ z → 0 ≤ z := by omega) <;> simp [stV, stB, stM, inR, k1, k3, k5, k6, k7, k2, k245, ht, hfd, hi0, h1, h2, h3]
  by_cases k5 : kd = 5
  · subst k5
    by_cases h1 : 1 ≤ z <;> by_cases h2 : z ≤ 1000000 <;> (have h3 : 1 ≤ z → 0 ≤ z := by omega) <;> simp [stV, stB, stM, inR, ht, hfd, hi0, h1, h2, h3]
  · have k245 : ¬ (kd = 2 ∨ kd = 4 ∨ kd = 5) := by omega
    simp [stV, stB, k1, k2, k3, k5, k6, k7, k245]
section
variable {lo g : Nat} {w : World} {b : Bool}
theorem sw_no {fn : Nat} {args : Array Value} {L : List Int} {m : Nat} {I H S P : Int} (hb : b = false) (h : Calls Tryd.prog fn args w (fun e w' => e = .returned (.bool false) ∧ Below lo w w')) :
    Calls Tryd.prog fn args w (fun e w' => e = .returned (.bool b) ∧ (b = true → BoxOwn w' lo g L m I H S P) ∧ Below lo w w') := by
  subst hb
  exact h.mono fun e w' ⟨he, hw⟩ => ⟨he, (fun h => by cases h), hw⟩
theorem box_no {fn : Nat} {args : Array Value} {ga n c' : Nat} {L : List Int} {I H S P : Int} (hb : b = false) (h : Calls Tryd.prog fn args w (fun e w' => e = .returned (.bool false) ∧ Below lo w w')) :
    Calls Tryd.prog fn args w (fun e w' => e = .returned (.bool b) ∧ (b = true → BoxRow w' lo g ga n c' L I H S P) ∧ Below lo w w') := by
  subst hb
  exact h.mono fun e w' ⟨he, hw⟩ => ⟨he, (fun h => by cases h), hw⟩
end
theorem stepWorks_any (g lo n c' : Nat) (A' : Option Addr) (f : Nat → Int) (I H S P : Int) (kd id tt0 z : Int) (hn : n ≤ 1000) (w : World) (hg : w.heap[g]? = some (.cells #[.slice A' n c', .int .i64 I, .int .i64 H, .int .i64 S, .int .i64 P] 26 (0, 0))) (hO : w.ownsRow lo 48 4 (.slice A' n c') n ((cellsL f n).map (Value.int .i64))) (hlo : lo ≤ g) :
    Calls Tryd.prog 31 #[.pointer (some ⟨g, 0, none⟩), .agg #[.int .i64 kd, .int .i64 id, .int .i64 tt0, .int .i64 z]] w (fun e w' => e = .returned (.bool (stB f n kd id tt0 z)) ∧ (stB f n kd id tt0 z = true → BoxOwn w' lo g (stL f n kd id tt0 z) (stN n kd) (stI I kd z) (stH H kd z) (stS S kd z) (stP f n P kd id)) ∧ Below lo w w') := by
  by_cases ht : kd ≠ 3 ∧ tt0 ≠ 0
  · refine sw_no (by simp only [stB, if_pos ht]) (sw_to g lo n c' A' f I H S P kd id tt0 z hn w hg hO hlo _ rfl ht.1 ht.2)
  have hto : kd = 3 ∨ tt0 = 0 := by
    by_cases h3 : kd = 3
    · exact Or.inl h3
    · exact Or.inr (Classical.byContradiction fun h => ht ⟨h3, h⟩)
  by_cases k1 : kd = 1
  · subst k1
    have h0 : tt0 = 0 := hto.resolve_left (by decide)
    rcases findV_cases (pid f) id n 0 with ⟨h1, _⟩ | ⟨i, _, hi, hfd, _⟩
    · have hb : stB f n 1 id tt0 z = true := by simp [stB, h0, h1]
      rw [hb]
      exact sw_build g lo n c' A' f I H S P id tt0 z hn w hg hO hlo h1 h0
    · exact sw_no (by simp [stB, h0, hfd]) (sw_there g lo n c' A' f I H S P id tt0 z hn w hg hO hlo _ hfd h0 (by omega))
  by_cases k6 : kd = 6
  · subst k6
    have h0 : tt0 = 0 := hto.resolve_left (by decide)
    have hb : stB f n 6 id tt0 z = (decide (id = 0) && decide (1 ≤ z)) := by simp [stB, h0]
    rw [hb]
    exact sw_ship g lo n c' A' f I H S P id tt0 z hn w hg hO hlo _ rfl h0
  have k1f : (kd == 1) = false := by simp [k1]
  have k6f : (kd == 6) = false := by simp [k6]
  rcases findV_cases (pid f) id n 0 with ⟨h1, _⟩ | ⟨i, _, hi, hfd, hpi⟩
  · exact sw_no (by simp [stB, ht, k1, k6, h1]) (sw_none g lo n c' A' f I H S P kd id tt0 z hn w hg hO hlo h1 k1f k6f hto)
  have hi' : i < n := by omega
  have ha : atN f n id = i := by simp [atN, hfd]
  have hi0 : ¬ ((i : Int) < 0) := by omega
  by_cases k7 : kd = 7
  · subst k7
    have h0 : tt0 = 0 := hto.resolve_left (by decide)
    have hb : stB f n 7 id tt0 z = decide (z = 0) := by simp [stB, h0, hfd, hi0]
    rw [hb]
    have h := sw_shut g lo n c' A' f I H S P id tt0 z hn w hg hO hlo i hi' hfd h0
    simpa [stL, stN, stI, stH, stS, stP, ha] using h
  have k7f : (kd == 7) = false := by simp [k7]
  by_cases hz : 1 ≤ z
  rotate_left
  · exact sw_no (by simp [stB, ht, k1, k6, k7, hfd, hi0, hz]) (sw_zero g lo n c' A' f I H S P kd id tt0 z hn w hg hO hlo i hfd k1f k6f k7f hto hz)
  have hN : stN n kd = n := by simp [stN, k1, k7]
  have hS : stS S kd z = S := by simp [stS, k6]
  have hP : stP f n P kd id = P := by simp [stP, k7]
  rw [hN, hS, hP]
  refine sw_pan g lo n c' A' f I H S P kd id tt0 z hn w hg hO hlo i hi' hfd k1f k6f k7f hto hz _ _ _ _ (Lib.hid fun w2 ga hg2 hO2 => ?_)
  by_cases k2 : kd = 2
  · subst k2
    have h0 : tt0 = 0 := hto.resolve_left (by decide)
    have hb : stB f n 2 id tt0 z = true := by simp [stB, h0, hfd, hi0, hz]
    rw [hb]
    have h := stepPan_take g ga lo n c' f I H S P id tt0 z i hi' hn w2 hg2 hO2 hlo
    simpa [stL, stI, stH, ha] using h
  by_cases k4 : kd = 4
  · subst k4
    have h0 : tt0 = 0 := hto.resolve_left (by decide)
    have hb : stB f n 4 id tt0 z = true := by simp [stB, h0, hfd, hi0, hz]
    rw [hb]
    have h := stepPan_dry g ga lo n c' f I H S P id tt0 z i hi' hn w2 hg2 hO2 hlo
    simpa [stL, stI, stH, ha] using h
  by_cases k5 : kd = 5
  · subst k5
    have h0 : tt0 = 0 := hto.resolve_left (by decide)
    have hb : stB f n 5 id tt0 z = mayV (f (i * 4 + 2)) (f (i * 4 + 3)) := by simp [stB, h0, hfd, hi0, hz, ha]
    rw [hb]
    have h := stepPan_rake g ga lo n c' f I H S P id tt0 z i hi' hn w2 hg2 hO2 hlo
    simpa [stL, stI, stH, ha] using h
  by_cases k3 : kd = 3
  · subst k3
    rcases findV_cases (pid f) tt0 n 0 with ⟨h1, _⟩ | ⟨j, _, hj, hfk, hpj⟩
    · exact box_no (by simp [stB, hfd, hi0, h1]) (stepPan_lead_none g ga lo n c' f I H S P id tt0 z i hi' hn w2 hg2 hO2 hlo h1)
    by_cases hij : j = i
    · subst hij
      exact box_no (by simp [stB, hfd, hi0, hfk]) (stepPan_lead_same g ga lo n c' f I H S P id tt0 z j hi' hn w2 hg2 hO2 hlo hfk)
    · have hb : stB f n 3 id tt0 z = leadOk f i z := by
        have h1 : ¬ ((j : Int) < 0) := by omega
        have h2 : ¬ ((j : Int) = (i : Int)) := by omega
        simp [stB, hfd, hi0, hfk, hz, ha, h2]
      have hc : atN f n tt0 = j := by simp [atN, hfk]
      rw [hb]
      have h := stepPan_lead g ga lo n c' f I H S P id tt0 z i hi' hn w2 hg2 hO2 hlo j (by omega) hij (by omega) hfk
      simpa [stL, stI, stH, ha, hc] using h
  · exact box_no (by simp [stB, k1, k2, k3, k4, k5, k6, k7]) (stepPan_other g ga lo n c' f I H S P kd id tt0 z i hi' hn w2 hg2 hO2 hlo (by simp [k2]) (by simp [k3]) (by simp [k4]) (by simp [k5]))
set_option maxRecDepth 100000 in
set_option maxHeartbeats 2000000 in
theorem StepWorks_any (A : Option Addr) (n c lo hi : Nat) (f : Nat → Int) (I H S P : Int) (kd id tt0 z : Int) (w : World) (hs : Sl w lo hi 4 A n f) (hn : n ≤ 1048576) (hnc : n ≤ c) (hnone : A = none → n = 0 ∧ c = 0) :
    Calls Tryd.prog 8 #[.agg #[.slice A n c, .int .i64 I, .int .i64 H, .int .i64 S, .int .i64 P], .agg #[.int .i64 kd, .int .i64 id, .int .i64 tt0, .int .i64 z]] w (stepPost w f n I H S P kd id tt0 z (stOk f n I H S P kd id tt0 z)) := by
  have hX3 : Below w.heap.size w (((w.alloc (.cells #[.slice A n c, .int .i64 I, .int .i64 H, .int .i64 S, .int .i64 P] 26)).alloc (.cells #[.int .i64 kd, .int .i64 id, .int .i64 tt0, .int .i64 z] 34)).alloc (.cells #[.slice none 0 0, .int .i64 0, .int .i64 0, .int .i64 0, .int .i64 0] 26)) := (((Below.refl _ w).alloc (Nat.le_refl _) _).alloc (by simp) _).alloc (by simp; omega) _
  have HX := Lib.hid hX3
  clear hX3
  have HF : Hid (∀ w', Below (((w.alloc (.cells #[.slice A n c, .int .i64 I, .int .i64 H, .int .i64 S, .int .i64 P] 26)).alloc (.cells #[.int .i64 kd, .int .i64 id, .int .i64 tt0, .int .i64 z] 34)).alloc (.cells #[.slice none 0 0, .int .i64 0, .int .i64 0, .int .i64 0, .int .i64 0] 26)).heap.size (((w.alloc (.cells #[.slice A n c, .int .i64 I, .int .i64 H, .int .i64 S, .int .i64 P] 26)).alloc (.cells #[.int .i64 kd, .int .i64 id, .int .i64 tt0, .int .i64 z] 34)).alloc (.cells #[.slice none 0 0, .int .i64 0, .int .i64 0, .int .i64 0, .int .i64 0] 26)) w' → w'.cell? ⟨w.heap.size, 0, none⟩ = some (.slice A n c) ∧ w'.cell? ⟨w.heap.size, 1, none⟩ = some (.int .i64 I) ∧ w'.cell? ⟨w.heap.size, 2, none⟩ = some (.int .i64 H) ∧ w'.cell? ⟨w.heap.size, 3, none⟩ = some (.int .i64 S) ∧ w'.cell? ⟨w.heap.size, 4, none⟩ = some (.int .i64 P) ∧ w'.cell? ⟨w.heap.size + 1, 0, none⟩ = some (.int .i64 kd) ∧ w'.cell? ⟨w.heap.size + 1, 1, none⟩ = some (.int .i64 id) ∧ w'.cell? ⟨w.heap.size + 1, 2, none⟩ = some (.int .i64 tt0) ∧ w'.cell? ⟨w.heap.size + 1, 3, none⟩ = some (.int .i64 z)) := fun w' hq => ⟨(hq.cell (p := ⟨w.heap.size, 0, none⟩) (by simp; omega)).trans (by go_simp), (hq.cell (p := ⟨w.heap.size, 1, none⟩) (by simp; omega)).trans (by go_simp), (hq.cell (p := ⟨w.heap.size, 2, none⟩) (by simp; omega)).trans (by go_simp), (hq.cell (p := ⟨w.heap.size, 3, none⟩) (by simp; omega)).trans (by go_simp), (hq.cell (p := ⟨w.heap.size, 4, none⟩) (by simp; omega)).trans (by go_simp), (hq.cell (p := ⟨w.heap.size + 1, 0, none⟩) (by simp)).trans (by go_simp), (hq.cell (p := ⟨w.heap.size + 1, 1, none⟩) (by simp)).trans (by go_simp), (hq.cell (p := ⟨w.heap.size + 1, 2, none⟩) (by simp)).trans (by go_simp), (hq.cell (p := ⟨w.heap.size + 1, 3, none⟩) (by simp)).trans (by go_simp)⟩
  have HSW : Hid (∀ w', Below (((w.alloc (.cells #[.slice A n c, .int .i64 I, .int .i64 H, .int .i64 S, .int .i64 P] 26)).alloc (.cells #[.int .i64 kd, .int .i64 id, .int .i64 tt0, .int .i64 z] 34)).alloc (.cells #[.slice none 0 0, .int .i64 0, .int .i64 0, .int .i64 0, .int .i64 0] 26)).heap.size (((w.alloc (.cells #[.slice A n c, .int .i64 I, .int .i64 H, .int .i64 S, .int .i64 P] 26)).alloc (.cells #[.int .i64 kd, .int .i64 id, .int .i64 tt0, .int .i64 z] 34)).alloc (.cells #[.slice none 0 0, .int .i64 0, .int .i64 0, .int .i64 0, .int .i64 0] 26)) w' → Sl w' lo hi 4 A n f) := fun w' hq => hs.below (HX.out.trans (hq.mono HX.out.size))
  clear hs
  have hr3 : (((w.alloc (.cells #[.slice A n c, .int .i64 I, .int .i64 H, .int .i64 S, .int .i64 P] 26)).alloc (.cells #[.int .i64 kd, .int .i64 id, .int .i64 tt0, .int .i64 z] 34)).alloc (.cells #[.slice none 0 0, .int .i64 0, .int .i64 0, .int .i64 0, .int .i64 0] 26)).heap[w.heap.size + 1 + 1]? = some (.cells #[.slice none 0 0, .int .i64 0, .int .i64 0, .int .i64 0, .int .i64 0] 26) := by have := heap_alloc_new ((w.alloc (.cells #[.slice A n c, .int .i64 I, .int .i64 H, .int .i64 S, .int .i64 P] 26)).alloc (.cells #[.int .i64 kd, .int .i64 id, .int .i64 tt0, .int .i64 z] 34)) (.cells #[.slice none 0 0, .int .i64 0, .int .i64 0, .int .i64 0, .int .i64 0] 26); simpa using this
  have HR3 := Lib.hid hr3
  clear hr3
  cases hg : goodWorks f n I H S P with
  | false =>
    have ho : stOk f n I H S P kd id tt0 z = false := by simp [stOk, hg]
    rw [ho]
    go_enter Tryd.func8, Tryd.ntmps8
    go_wp2_with fail
    refine (isWorks_any A n c lo hi f I H S P _ (HSW.out _ (Below.refl _ _)) hn hnc).mono ?_
    rw [hg]
    rintro e w1 ⟨rfl, hb1⟩
    have hr1 := (hb1.block (w.heap.size + 1 + 1) (Array.getElem?_eq_some_iff.1 HR3.out).1).trans HR3.out
    have B1 := HX.out.trans (hb1.mono HX.out.size)
    clear hb1
    obtain ⟨r0, r1, r2, r3, r4⟩ := cells5 hr1
    have rf : ∀ j, w1.frozen? ⟨w.heap.size + 1 + 1, j, none⟩ = false := fun j => frozen_of_row w1 (w.heap.size + 1 + 1) j _ _ hr1
    have HBW := Lib.hid B1
    clear hr1
    go_wp2
    obtain ⟨wq, hwq⟩ : ∃ wq, wq = (((((w1.setCell ⟨w.heap.size + 1 + 1, 0, none⟩ (.slice none 0 0)).setCell ⟨w.heap.size + 1 + 1, 1, none⟩ (.int .i64 0)).setCell ⟨w.heap.size + 1 + 1, 2, none⟩ (.int .i64 0)).setCell ⟨w.heap.size + 1 + 1, 3, none⟩ (.int .i64 0)).setCell ⟨w.heap.size + 1 + 1, 4, none⟩ (.int .i64 0)) := ⟨_, rfl⟩
    rw [← hwq]
    have u0 : wq.cell? ⟨w.heap.size + 1 + 1, 0, none⟩ = some (.slice none 0 0) := by rw [hwq]; go_simp
    have u1 : wq.cell? ⟨w.heap.size + 1 + 1, 1, none⟩ = some (.int .i64 0) := by rw [hwq]; go_simp
    have u2 : wq.cell? ⟨w.heap.size + 1 + 1, 2, none⟩ = some (.int .i64 0) := by rw [hwq]; go_simp
    have u3 : wq.cell? ⟨w.heap.size + 1 + 1, 3, none⟩ = some (.int .i64 0) := by rw [hwq]; go_simp
    have u4 : wq.cell? ⟨w.heap.size + 1 + 1, 4, none⟩ = some (.int .i64 0) := by rw [hwq]; go_simp
    have hBq : Below w.heap.size w wq := by
      rw [hwq]
      exact (((((HBW.out.setCell (show w.heap.size ≤ w.heap.size + 1 + 1 by omega) _).setCell (show w.heap.size ≤ w.heap.size + 1 + 1 by omega) _).setCell (show w.heap.size ≤ w.heap.size + 1 + 1 by omega) _).setCell (show w.heap.size ≤ w.heap.size + 1 + 1 by omega) _).setCell (show w.heap.size ≤ w.heap.size + 1 + 1 by omega) _)
    clear hwq
    try simp only [Exit.inBlock, Exit.then]
    refine bodyPost_ret (by simp [results, Tryd.results8, go_sem, u0, u1, u2, u3, u4]; try rfl) rfl ?_
    first | exact stepPost_no hBq | (rw [hmk]; exact stepPost_no hBq)
  | true =>
  have hn6 := good_len hg
  have ho := stOk_eq kd id tt0 z hg
  rw [ho]
  cases hv : inR z 0 1000000 with
  | false =>
    rw [Bool.false_and]
    go_enter Tryd.func8, Tryd.ntmps8
    go_wp2_with fail
    refine (isWorks_any A n c lo hi f I H S P _ (HSW.out _ (Below.refl _ _)) hn hnc).mono ?_
    rw [hg]
    rintro e w1 ⟨rfl, hb1⟩
    obtain ⟨b0, b1, b2, b3, b4, s0, s1, s2, s3⟩ := HF.out w1 hb1
    have hr1 := (hb1.block (w.heap.size + 1 + 1) (Array.getElem?_eq_some_iff.1 HR3.out).1).trans HR3.out
    have B1 := HX.out.trans (hb1.mono HX.out.size)
    clear hb1 b0 b1 b2 b3 b4 s0 s1 s2
    go_wp2_with fail
    refine (within_any _ _ _ _).mono ?_
    rw [hv]
    rintro e w2 ⟨rfl, rfl⟩
    clear s3
    obtain ⟨r0, r1, r2, r3, r4⟩ := cells5 hr1
    have rf : ∀ j, w1.frozen? ⟨w.heap.size + 1 + 1, j, none⟩ = false := fun j => frozen_of_row w1 (w.heap.size + 1 + 1) j _ _ hr1
    have HBW := Lib.hid B1
    clear hr1
    go_wp2
    obtain ⟨wq, hwq⟩ : ∃ wq, wq = (((((w1.setCell ⟨w.heap.size + 1 + 1, 0, none⟩ (.slice none 0 0)).setCell ⟨w.heap.size + 1 + 1, 1, none⟩ (.int .i64 0)).setCell ⟨w.heap.size + 1 + 1, 2, none⟩ (.int .i64 0)).setCell ⟨w.heap.size + 1 + 1, 3, none⟩ (.int .i64 0)).setCell ⟨w.heap.size + 1 + 1, 4, none⟩ (.int .i64 0)) := ⟨_, rfl⟩
    rw [← hwq]
    have u0 : wq.cell? ⟨w.heap.size + 1 + 1, 0, none⟩ = some (.slice none 0 0) := by rw [hwq]; go_simp
    have u1 : wq.cell? ⟨w.heap.size + 1 + 1, 1, none⟩ = some (.int .i64 0) := by rw [hwq]; go_simp
    have u2 : wq.cell? ⟨w.heap.size + 1 + 1, 2, none⟩ = some (.int .i64 0) := by rw [hwq]; go_simp
    have u3 : wq.cell? ⟨w.heap.size + 1 + 1, 3, none⟩ = some (.int .i64 0) := by rw [hwq]; go_simp
    have u4 : wq.cell? ⟨w.heap.size + 1 + 1, 4, none⟩ = some (.int .i64 0) := by rw [hwq]; go_simp
    have hBq : Below w.heap.size w wq := by
      rw [hwq]
      exact (((((HBW.out.setCell (show w.heap.size ≤ w.heap.size + 1 + 1 by omega) _).setCell (show w.heap.size ≤ w.heap.size + 1 + 1 by omega) _).setCell (show w.heap.size ≤ w.heap.size + 1 + 1 by omega) _).setCell (show w.heap.size ≤ w.heap.size + 1 + 1 by omega) _).setCell (show w.heap.size ≤ w.heap.size + 1 + 1 by omega) _)
    clear hwq
    try simp only [Exit.inBlock, Exit.then]
    refine bodyPost_ret (by simp [results, Tryd.results8, go_sem, u0, u1, u2, u3, u4]; try rfl) rfl ?_
    first | exact stepPost_no hBq | (rw [hmk]; exact stepPost_no hBq)
  | true =>
  rw [Bool.true_and]
  clear ho
  go_enter Tryd.func8, Tryd.ntmps8
  go_wp2_with fail
  refine (isWorks_any A n c lo hi f I H S P _ (HSW.out _ (Below.refl _ _)) hn hnc).mono ?_
  rw [hg]
  rintro e w1 ⟨rfl, hb1⟩
  obtain ⟨b0, b1, b2, b3, b4, s0, s1, s2, s3⟩ := HF.out w1 hb1
  go_wp2_with fail
  refine (within_any _ _ _ _).mono ?_
  rw [hv]
  rintro e w2 ⟨rfl, rfl⟩
  go_wp2_with fail
  refine (copyWorks_any A n c lo hi f I H S P _ (HSW.out _ hb1) hn hnc hnone).mono ?_
  rintro e w3 ⟨A', c', rfl, hmc, hcm, hown, hb3⟩
  have hb13 := hb1.trans (hb3.mono hb1.size)
  have hown := ownsRow_monoP hown hb1.size
  clear b0 b1 b2 b3 b4 s0 s1 s2 s3
  obtain ⟨b0, b1, b2, b3, b4, s0, s1, s2, s3⟩ := HF.out w3 hb13
  have hr1 := (hb13.block (w.heap.size + 1 + 1) (Array.getElem?_eq_some_iff.1 HR3.out).1).trans HR3.out
  go_upto_region 4 with fail
  refine name_wp ?_
  intro w4 hw4
  have b34 : Below w3.heap.size w3 w4 := by rw [hw4]; exact (Below.refl _ _).alloc (Nat.le_refl _) _
  have h6 : w4.heap[w3.heap.size]? = some (.cells #[.slice A' n c', .int .i64 I, .int .i64 H, .int .i64 S, .int .i64 P] 26) := by rw [hw4]; exact heap_alloc_new w3 _
  have hb14 := hb13.trans (b34.mono hb13.size)
  have hO4 := ownsRow_below hown b34
  have lX : (((w.alloc (.cells #[.slice A n c, .int .i64 I, .int .i64 H, .int .i64 S, .int .i64 P] 26)).alloc (.cells #[.int .i64 kd, .int .i64 id, .int .i64 tt0, .int .i64 z] 34)).alloc (.cells #[.slice none 0 0, .int .i64 0, .int .i64 0, .int .i64 0, .int .i64 0] 26)).heap.size ≤ w3.heap.size := hb13.size
  clear hw4 hr1 hown b34 hb13 hb1 hb3 b0 b1 b2 b3 b4 s0 s1 s2 s3
  obtain ⟨b0, b1, b2, b3, b4, s0, s1, s2, s3⟩ := HF.out w4 hb14
  generalize w3.heap.size = g6 at *
  go_wp2_with fail
  refine (stepWorks_any g6 (((w.alloc (.cells #[.slice A n c, .int .i64 I, .int .i64 H, .int .i64 S, .int .i64 P] 26)).alloc (.cells #[.int .i64 kd, .int .i64 id, .int .i64 tt0, .int .i64 z] 34)).alloc (.cells #[.slice none 0 0, .int .i64 0, .int .i64 0, .int .i64 0, .int .i64 0] 26)).heap.size n c' A' f I H S P kd id tt0 z (by omega) w4 h6 hO4 lX).mono ?_
  rintro e w5 ⟨rfl, hyes, hb5⟩
  have hb15 := hb14.trans hb5
  clear b0 b1 b2 b3 b4 s0 s1 s2 s3 h6 hO4
  have hr5 := (hb15.block (w.heap.size + 1 + 1) (Array.getElem?_eq_some_iff.1 HR3.out).1).trans HR3.out
  have B5 := HX.out.trans (hb15.mono HX.out.size)
  cases hB : stB f n kd id tt0 z with
  | false =>
    clear hyes hb15 hb14 hb5
    obtain ⟨r0, r1, r2, r3, r4⟩ := cells5 hr5
    have rf : ∀ j, w5.frozen? ⟨w.heap.size + 1 + 1, j, none⟩ = false := fun j => frozen_of_row w5 (w.heap.size + 1 + 1) j _ _ hr5
    have HBW := Lib.hid B5
    clear hr5
    go_wp2
    obtain ⟨wq, hwq⟩ : ∃ wq, wq = (((((w5.setCell ⟨w.heap.size + 1 + 1, 0, none⟩ (.slice none 0 0)).setCell ⟨w.heap.size + 1 + 1, 1, none⟩ (.int .i64 0)).setCell ⟨w.heap.size + 1 + 1, 2, none⟩ (.int .i64 0)).setCell ⟨w.heap.size + 1 + 1, 3, none⟩ (.int .i64 0)).setCell ⟨w.heap.size + 1 + 1, 4, none⟩ (.int .i64 0)) := ⟨_, rfl⟩
    rw [← hwq]
    have u0 : wq.cell? ⟨w.heap.size + 1 + 1, 0, none⟩ = some (.slice none 0 0) := by rw [hwq]; go_simp
    have u1 : wq.cell? ⟨w.heap.size + 1 + 1, 1, none⟩ = some (.int .i64 0) := by rw [hwq]; go_simp
    have u2 : wq.cell? ⟨w.heap.size + 1 + 1, 2, none⟩ = some (.int .i64 0) := by rw [hwq]; go_simp
    have u3 : wq.cell? ⟨w.heap.size + 1 + 1, 3, none⟩ = some (.int .i64 0) := by rw [hwq]; go_simp
    have u4 : wq.cell? ⟨w.heap.size + 1 + 1, 4, none⟩ = some (.int .i64 0) := by rw [hwq]; go_simp
    have hBq : Below w.heap.size w wq := by
      rw [hwq]
      exact (((((HBW.out.setCell (show w.heap.size ≤ w.heap.size + 1 + 1 by omega) _).setCell (show w.heap.size ≤ w.heap.size + 1 + 1 by omega) _).setCell (show w.heap.size ≤ w.heap.size + 1 + 1 by omega) _).setCell (show w.heap.size ≤ w.heap.size + 1 + 1 by omega) _).setCell (show w.heap.size ≤ w.heap.size + 1 + 1 by omega) _)
    clear hwq
    try simp only [Exit.inBlock, Exit.then]
    refine bodyPost_ret (by simp [results, Tryd.results8, go_sem, u0, u1, u2, u3, u4]; try rfl) rfl ?_
    first | exact stepPost_no hBq | (rw [hB, Bool.false_and]; exact stepPost_no hBq)
  | true =>
  obtain ⟨A2, c2, h65, h1, h2, hO5⟩ := hyes hB
  clear hyes
  have hle := (hb15.size : (((w.alloc (.cells #[.slice A n c, .int .i64 I, .int .i64 H, .int .i64 S, .int .i64 P] 26)).alloc (.cells #[.int .i64 kd, .int .i64 id, .int .i64 tt0, .int .i64 z] 34)).alloc (.cells #[.slice none 0 0, .int .i64 0, .int .i64 0, .int .i64 0, .int .i64 0] 26)).heap.size ≤ w5.heap.size)
  have HX5 : Hid (∀ w', Below w5.heap.size w5 w' → Below w.heap.size w w') := fun w' hq => B5.trans (hq.mono B5.size)
  have HSW5 : Hid (Sl w5 (((w.alloc (.cells #[.slice A n c, .int .i64 I, .int .i64 H, .int .i64 S, .int .i64 P] 26)).alloc (.cells #[.int .i64 kd, .int .i64 id, .int .i64 tt0, .int .i64 z] 34)).alloc (.cells #[.slice none 0 0, .int .i64 0, .int .i64 0, .int .i64 0, .int .i64 0] 26)).heap.size w5.heap.size 4 A2 (stN n kd) (lf (stL f n kd id tt0 z))) := by
    obtain ⟨A0, c0, e0, _, _, h0⟩ := own_of_row hO5
    cases e0
    exact h0.sl
  have hm : stN n kd ≤ 7 := by unfold stN; split <;> (try split) <;> omega
  have n1 : g6 ≠ w.heap.size + 1 + 1 := by simp only [World.size_alloc] at lX; omega
  have n2 : w.heap.size + 1 + 1 ≠ g6 := Ne.symm n1
  have lg65 : g6 < w5.heap.size := (Array.getElem?_eq_some_iff.1 h65).1
  obtain ⟨e0, e1, e2, e3, e4⟩ := cells5 h65
  have HO5 := Lib.hid hO5
  have H65 := Lib.hid h65
  have HR5 := Lib.hid hr5
  have low : ∀ k : Nat, (Value.slice A2 (stN n kd) c2).ownBlock = some k → k ≠ w.heap.size + 1 + 1 := fun k e hk => by
    subst hk
    exact row_none_ne hO5 hr5 (by decide) e
  have LOW := Lib.hid low
  clear hO5 h65 hr5 low hb15 hb14 hb5 hle B5
  go_wp2_with fail
  refine (isWorks_any A2 (stN n kd) c2 _ _ (lf (stL f n kd id tt0 z)) (stI I kd z) (stH H kd z) (stS S kd z) (stP f n P kd id) w5 HSW5.out (by omega) h1).mono ?_
  rintro e w6 ⟨rfl, hb6⟩
  have hr6 := (hb6.block (w.heap.size + 1 + 1) (Array.getElem?_eq_some_iff.1 HR5.out).1).trans HR5.out
  have h66 := (hb6.block g6 lg65).trans H65.out
  have hO6 := ownsRow_below HO5.out hb6
  have B6 := HX5.out w6 hb6
  clear e0 e1 e2 e3 e4 hb6 HO5 H65 HR5 HSW5 HX5
  cases hG : goodWorks (lf (stL f n kd id tt0 z)) (stN n kd) (stI I kd z) (stH H kd z) (stS S kd z) (stP f n P kd id) with
  | false =>
    have hG' : stG f n I H S P kd id tt0 z = false := hG
    have HGG := Lib.hid hG'
    clear hG hG' h66 hO6
    obtain ⟨r0, r1, r2, r3, r4⟩ := cells5 hr6
    have rf : ∀ j, w6.frozen? ⟨w.heap.size + 1 + 1, j, none⟩ = false := fun j => frozen_of_row w6 (w.heap.size + 1 + 1) j _ _ hr6
    have HBW := Lib.hid B6
    clear hr6
    go_wp2
    obtain ⟨wq, hwq⟩ : ∃ wq, wq = (((((w6.setCell ⟨w.heap.size + 1 + 1, 0, none⟩ (.slice none 0 0)).setCell ⟨w.heap.size + 1 + 1, 1, none⟩ (.int .i64 0)).setCell ⟨w.heap.size + 1 + 1, 2, none⟩ (.int .i64 0)).setCell ⟨w.heap.size + 1 + 1, 3, none⟩ (.int .i64 0)).setCell ⟨w.heap.size + 1 + 1, 4, none⟩ (.int .i64 0)) := ⟨_, rfl⟩
    rw [← hwq]
    have u0 : wq.cell? ⟨w.heap.size + 1 + 1, 0, none⟩ = some (.slice none 0 0) := by rw [hwq]; go_simp
    have u1 : wq.cell? ⟨w.heap.size + 1 + 1, 1, none⟩ = some (.int .i64 0) := by rw [hwq]; go_simp
    have u2 : wq.cell? ⟨w.heap.size + 1 + 1, 2, none⟩ = some (.int .i64 0) := by rw [hwq]; go_simp
    have u3 : wq.cell? ⟨w.heap.size + 1 + 1, 3, none⟩ = some (.int .i64 0) := by rw [hwq]; go_simp
    have u4 : wq.cell? ⟨w.heap.size + 1 + 1, 4, none⟩ = some (.int .i64 0) := by rw [hwq]; go_simp
    have hBq : Below w.heap.size w wq := by
      rw [hwq]
      exact (((((HBW.out.setCell (show w.heap.size ≤ w.heap.size + 1 + 1 by omega) _).setCell (show w.heap.size ≤ w.heap.size + 1 + 1 by omega) _).setCell (show w.heap.size ≤ w.heap.size + 1 + 1 by omega) _).setCell (show w.heap.size ≤ w.heap.size + 1 + 1 by omega) _).setCell (show w.heap.size ≤ w.heap.size + 1 + 1 by omega) _)
    clear hwq
    try simp only [Exit.inBlock, Exit.then]
    refine bodyPost_ret (by simp [results, Tryd.results8, go_sem, u0, u1, u2, u3, u4]; try rfl) rfl ?_
    first | exact stepPost_no hBq | (rw [hB, HGG.out, Bool.true_and]; exact stepPost_no hBq)
  | true =>
    have hG' : stG f n I H S P kd id tt0 z = true := hG
    have HGG := Lib.hid hG'
    clear hG hG'
    have hO6 := ownsRow_monoP hO6 HX.out.size
    obtain ⟨e0, e1, e2, e3, e4⟩ := cells5 h66
    obtain ⟨r0, r1, r2, r3, r4⟩ := cells5 hr6
    have rf : ∀ j, w6.frozen? ⟨w.heap.size + 1 + 1, j, none⟩ = false := fun j => frozen_of_row w6 (w.heap.size + 1 + 1) j _ _ hr6
    have HBW := Lib.hid B6
    have HOW := Lib.hid hO6
    clear h66 hr6 B6 hO6
    go_wp2
    obtain ⟨wq, hwq⟩ : ∃ wq, wq = (((((w6.setCell ⟨w.heap.size + 1 + 1, 0, none⟩ (.slice A2 (stN n kd) c2)).setCell ⟨w.heap.size + 1 + 1, 1, none⟩ (.int .i64 (stI I kd z))).setCell ⟨w.heap.size + 1 + 1, 2, none⟩ (.int .i64 (stH H kd z))).setCell ⟨w.heap.size + 1 + 1, 3, none⟩ (.int .i64 (stS S kd z))).setCell ⟨w.heap.size + 1 + 1, 4, none⟩ (.int .i64 (stP f n P kd id))) := ⟨_, rfl⟩
    rw [← hwq]
    have u0 : wq.cell? ⟨w.heap.size + 1 + 1, 0, none⟩ = some (.slice A2 (stN n kd) c2) := by rw [hwq]; go_simp
    have u1 : wq.cell? ⟨w.heap.size + 1 + 1, 1, none⟩ = some (.int .i64 (stI I kd z)) := by rw [hwq]; go_simp
    have u2 : wq.cell? ⟨w.heap.size + 1 + 1, 2, none⟩ = some (.int .i64 (stH H kd z)) := by rw [hwq]; go_simp
    have u3 : wq.cell? ⟨w.heap.size + 1 + 1, 3, none⟩ = some (.int .i64 (stS S kd z)) := by rw [hwq]; go_simp
    have u4 : wq.cell? ⟨w.heap.size + 1 + 1, 4, none⟩ = some (.int .i64 (stP f n P kd id)) := by rw [hwq]; go_simp
    have hBq : Below w.heap.size w wq := by
      rw [hwq]
      exact (((((HBW.out.setCell (show w.heap.size ≤ w.heap.size + 1 + 1 by omega) _).setCell (show w.heap.size ≤ w.heap.size + 1 + 1 by omega) _).setCell (show w.heap.size ≤ w.heap.size + 1 + 1 by omega) _).setCell (show w.heap.size ≤ w.heap.size + 1 + 1 by omega) _).setCell (show w.heap.size ≤ w.heap.size + 1 + 1 by omega) _)
    have no : ∀ j : Nat, (Value.slice A2 (stN n kd) c2).ownBlock ≠ some (⟨w.heap.size + 1 + 1, j, none⟩ : Addr).block := fun j e => LOW.out _ e rfl
    have hOq := ownsRow_setCell_other (ownsRow_setCell_other (ownsRow_setCell_other (ownsRow_setCell_other (ownsRow_setCell_other HOW.out (no 0) (.slice A2 (stN n kd) c2)) (no 1) (.int .i64 (stI I kd z))) (no 2) (.int .i64 (stH H kd z))) (no 3) (.int .i64 (stS S kd z))) (no 4) (.int .i64 (stP f n P kd id))
    rw [← hwq] at hOq
    clear hwq HOW HBW
    try simp only [Exit.inBlock, Exit.then]
    refine bodyPost_ret (by simp [results, Tryd.results8, go_sem, u0, u1, u2, u3, u4]; try rfl) rfl ?_
    rw [hB, HGG.out, Bool.true_and]
    exact stepPost_yes ⟨rfl, rfl, rfl, rfl, rfl, rfl⟩ h1 h2 hOq hBq
end Go.Proofs.YtjkockhldaacbaaDoor
