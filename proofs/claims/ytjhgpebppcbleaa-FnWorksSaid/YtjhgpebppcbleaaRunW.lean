/-
  RunWorks, the program's.
-/
import Derived.Test.YtjhgpebppcbleaaPk1
import Derived.Test.YtjhgpebppcbleaaPk4
namespace Go.Proofs.Ytjhgpebppcbleaa
open Go.RowKit
set_option linter.unusedVariables false
set_option linter.unusedSimpArgs false
/-- Works on their way, with the number of steps that were made. -/
structure WkS where
  L : List Int
  m : Nat
  I : Int
  H : Int
  S : Int
  P : Int
  cnt : Nat
def runStep (s : WkS) (kd id t0 z : Int) : WkS :=
  if stOk (lf s.L) s.m s.I s.H s.S s.P kd id t0 z then ⟨stL (lf s.L) s.m kd id t0 z, stN s.m kd, stI s.I kd z, stH s.H kd z, stS s.S kd z, stP (lf s.L) s.m s.P kd id, s.cnt + 1⟩ else s
def runS (s : WkS) (g : Nat → Int) : Nat → WkS
  | 0 => s
  | k + 1 => runStep (runS s g k) (g (k * 4)) (g (k * 4 + 1)) (g (k * 4 + 2)) (g (k * 4 + 3))
def goodS (s : WkS) : Bool := goodWorks (lf s.L) s.m s.I s.H s.S s.P
theorem runCnt (s : WkS) (g : Nat → Int) : ∀ k, (runS s g k).cnt ≤ s.cnt + k
  | 0 => Nat.le_refl _
  | k + 1 => by
    have h := runCnt s g k
    show (runStep _ _ _ _ _).cnt ≤ _
    unfold runStep
    split
    · show (runS s g k).cnt + 1 ≤ _; omega
    · omega
theorem runGood {s0 : WkS} {g : Nat → Int} (h : goodWorks (lf s0.L) s0.m s0.I s0.H s0.S s0.P = true) : ∀ k, goodWorks (lf (runS s0 g k).L) (runS s0 g k).m (runS s0 g k).I (runS s0 g k).H (runS s0 g k).S (runS s0 g k).P = true
  | 0 => h
  | k + 1 => by
    have i := runGood (g := g) h k
    show goodS (runStep _ _ _ _ _) = true
    unfold runStep
    split
    · rename_i hk
      simp only [stOk, mkOk, Bool.and_eq_true] at hk
      exact hk.2.2.2.2
    · exact i
theorem allTo_congr {p q : Nat → Bool} : ∀ {n : Nat}, (∀ k, k < n → p k = q k) → allTo p n = allTo q n
  | 0, _ => rfl
  | n + 1, h => by
    unfold allTo
    rw [allTo_congr (n := n) (fun k hk => h k (by omega)), h n (by omega)]
theorem goodWorks_congr {f g : Nat → Int} {n : Nat} {I H S P : Int} (h : ∀ j, j < n * 4 → f j = g j) : goodWorks f n I H S P = goodWorks g n I H S P := by
  have h1 : pansOk f n = pansOk g n := by
    unfold pansOk
    congr 1
    refine allTo_congr fun k hk => ?_
    simp only [panStep, okPanAt]
    rw [h (k * 4) (by omega), h (k * 4 + 1) (by omega), h (k * 4 + 2) (by omega), h (k * 4 + 3) (by omega), h ((k - 1) * 4) (by omega)]
  have h2 : ∀ m, m ≤ n → sumW (saltAt f) m = sumW (saltAt g) m := by
    intro m
    induction m with
    | zero => intro _; rfl
    | succ m ih =>
      intro hm
      simp only [sumW, saltAt]
      rw [ih (by omega)]
      have := h (m * 4 + 3) (by omega)
      simp only [this]
  unfold goodWorks totalV
  rw [h1, h2 n (Nat.le_refl _)]
theorem frS {a w : World} {b : Nat} (h : Fr b (b + 1) a w) (j : Nat) (v : Value) : Fr b (b + 1) a (w.setCell ⟨b, j, none⟩ v) := h.setCell (Nat.le_refl _) (Nat.lt_succ_self _) v
def BoxS (w : World) (base bx : Nat) (s : WkS) : Prop :=
  ∃ A' c', w.heap[bx]? = some (.cells #[.slice A' s.m c', .int .i64 s.I, .int .i64 s.H, .int .i64 s.S, .int .i64 s.P] 26 (0, 0)) ∧ s.m ≤ c' ∧ c' ≤ maxLen ∧ w.ownsRow base 87 4 (.slice A' s.m c') s.m (s.L.map (Value.int .i64))
/-- What RunWorks leaves: the works, and whether it ran. -/
def runL (f : Nat → Int) (n : Nat) (I H S P : Int) (g : Nat → Int) (n1 : Nat) : WkS × Bool :=
  if goodWorks f n I H S P && decide (n1 ≤ 40) then (runS (⟨cellsL f n, n, I, H, S, P, 0⟩ : WkS) g n1, true) else (⟨[], 0, 0, 0, 0, 0, 0⟩, false)
theorem runL_no {f : Nat → Int} {n : Nat} {I H S P : Int} {g : Nat → Int} {n1 : Nat} (h : (goodWorks f n I H S P && decide (n1 ≤ 40)) = false) : runL f n I H S P g n1 = (⟨[], 0, 0, 0, 0, 0, 0⟩, false) := by
  unfold runL; rw [h]; rfl
theorem runL_yes {f : Nat → Int} {n : Nat} {I H S P : Int} {g : Nat → Int} {n1 : Nat} (h : (goodWorks f n I H S P && decide (n1 ≤ 40)) = true) : runL f n I H S P g n1 = (runS (⟨cellsL f n, n, I, H, S, P, 0⟩ : WkS) g n1, true) := by
  unfold runL; rw [if_pos h]
def runPost (w : World) (r : WkS × Bool) (e : Ending) (w' : World) : Prop :=
  ∃ A' c', e = .returned (.tuple #[.agg #[.slice A' r.1.m c', .int .i64 r.1.I, .int .i64 r.1.H, .int .i64 r.1.S, .int .i64 r.1.P], .int .i64 r.1.cnt, .bool r.2]) ∧ r.1.m ≤ c' ∧ c' ≤ maxLen ∧ w'.ownsRow w.heap.size 87 4 (.slice A' r.1.m c') r.1.m (r.1.L.map (Value.int .i64)) ∧ Below w.heap.size w w'
theorem runPost_no {w w' : World} (hb : Below w.heap.size w w') : runPost w (⟨[], 0, 0, 0, 0, 0, 0⟩, false) (.returned (.tuple #[.agg #[.slice none 0 0, .int .i64 0, .int .i64 0, .int .i64 0, .int .i64 0], .int .i64 0, .bool false])) w' :=
  ⟨none, 0, rfl, Nat.le_refl _, by unfold maxLen; omega, by simpa using World.ownsRow_nil w' w.heap.size 87 4, hb⟩
theorem own_nil {w : World} {base n c : Nat} {A' : Option Addr} {xs : List Value} (h : w.ownsRow base 87 4 (.slice A' n c) n xs) (e : A' = none) : n = 0 ∧ c = 0 := by
  subst e
  rcases h.2 with ⟨hv, hn⟩ | ⟨g, cap, cur, hv, _⟩
  · cases hv
    exact ⟨rfl, rfl⟩
  · cases hv
set_option maxRecDepth 100000 in
set_option maxHeartbeats 4000000 in
theorem RunWorks_any (A : Option Addr) (n c lo hi : Nat) (f : Nat → Int) (I H S P : Int) (A1 : Option Addr) (n1 c1 lo1 hi1 : Nat) (g : Nat → Int) (w : World) (hs : Sl w lo hi 4 A n f) (hn : n ≤ 1048576) (hnc : n ≤ c) (hnone : A = none → n = 0 ∧ c = 0) (hform : ∀ ad, A = some ad → ∃ b off, ad = ⟨b, off, none⟩) (hs1 : Sl w lo1 hi1 4 A1 n1 g) (hnc1 : n1 ≤ c1) (hn1 : n1 ≤ 1048576) :
    Calls Try.prog 19 #[.agg #[.slice A n c, .int .i64 I, .int .i64 H, .int .i64 S, .int .i64 P], .slice A1 n1 c1] w (runPost w (runL f n I H S P g n1)) := by
  have hX : Below w.heap.size w ((w.alloc (.cells #[.slice A n c, .int .i64 I, .int .i64 H, .int .i64 S, .int .i64 P] 26)).alloc (.cells #[.slice none 0 0, .int .i64 0, .int .i64 0, .int .i64 0, .int .i64 0] 26)) := ((Below.refl _ w).alloc (Nat.le_refl _) _).alloc (by simp) _
  have h0 : ((w.alloc (.cells #[.slice A n c, .int .i64 I, .int .i64 H, .int .i64 S, .int .i64 P] 26)).alloc (.cells #[.slice none 0 0, .int .i64 0, .int .i64 0, .int .i64 0, .int .i64 0] 26)).heap[w.heap.size]? = some (.cells #[.slice A n c, .int .i64 I, .int .i64 H, .int .i64 S, .int .i64 P] 26 (0, 0)) := by
    rw [heap_alloc_old _ _ (by simp)]
    exact heap_alloc_new w _
  have hR : ((w.alloc (.cells #[.slice A n c, .int .i64 I, .int .i64 H, .int .i64 S, .int .i64 P] 26)).alloc (.cells #[.slice none 0 0, .int .i64 0, .int .i64 0, .int .i64 0, .int .i64 0] 26)).heap[w.heap.size + 1]? = some (.cells #[.slice none 0 0, .int .i64 0, .int .i64 0, .int .i64 0, .int .i64 0] 26 (0, 0)) := by
    have h := heap_alloc_new (w.alloc (.cells #[.slice A n c, .int .i64 I, .int .i64 H, .int .i64 S, .int .i64 P] 26)) (.cells #[.slice none 0 0, .int .i64 0, .int .i64 0, .int .i64 0, .int .i64 0] 26)
    simpa using h
  have hSX := hs.below hX
  have hS1 := hs1.below hX
  have hi1w : hi1 ≤ w.heap.size := hs1.hi_le
  clear hs hs1
  cases hg : goodWorks f n I H S P with
  | false =>
    have HK := Lib.hid (show (goodWorks f n I H S P && decide (n1 ≤ 40)) = false by rw [hg]; rfl)
    go_enter Try.func19, Try.ntmps19
    go_upto_region 1 with fail
    refine name_wp ?_
    intro w1 hw1
    rw [← hw1] at hX h0 hR hSX hS1
    have hzX : w1.heap.size = w.heap.size + 2 := by rw [hw1]; simp
    clear hw1
    obtain ⟨e0, e1, e2, e3, e4⟩ := cells5 h0
    go_wp2_with fail
    refine (isWorks_any A n c lo hi f I H S P w1 hSX hn hnc).mono ?_
    rw [hg]
    rintro e w2 ⟨rfl, hb⟩
    have h0 := rowB h0 hb
    have hR := rowB hR hb
    have hX := below_of hX hb hX.size
    have hSX := hSX.below hb
    have hS1 := hS1.below hb
    have hz2 : w.heap.size + 2 ≤ w2.heap.size := by have := hb.size; omega
    clear hb e0 e1 e2 e3 e4 hzX
    obtain ⟨r0, r1, r2, r3, r4⟩ := cells5 hR
    have rf : ∀ j, w2.frozen? ⟨w.heap.size + 1, j, none⟩ = false := fun j => frozen_of_row w2 (w.heap.size + 1) j _ _ hR
    have HBW := Lib.hid hX
    clear hR
    go_wp2
    obtain ⟨wq, hwq⟩ : ∃ wq, wq = (((((w2.setCell ⟨w.heap.size + 1, 0, none⟩ (.slice none 0 0)).setCell ⟨w.heap.size + 1, 1, none⟩ (.int .i64 0)).setCell ⟨w.heap.size + 1, 2, none⟩ (.int .i64 0)).setCell ⟨w.heap.size + 1, 3, none⟩ (.int .i64 0)).setCell ⟨w.heap.size + 1, 4, none⟩ (.int .i64 0)) := ⟨_, rfl⟩
    rw [← hwq]
    have u0 : wq.cell? ⟨w.heap.size + 1, 0, none⟩ = some (.slice none 0 0) := by rw [hwq]; go_simp
    have u1 : wq.cell? ⟨w.heap.size + 1, 1, none⟩ = some (.int .i64 0) := by rw [hwq]; go_simp
    have u2 : wq.cell? ⟨w.heap.size + 1, 2, none⟩ = some (.int .i64 0) := by rw [hwq]; go_simp
    have u3 : wq.cell? ⟨w.heap.size + 1, 3, none⟩ = some (.int .i64 0) := by rw [hwq]; go_simp
    have u4 : wq.cell? ⟨w.heap.size + 1, 4, none⟩ = some (.int .i64 0) := by rw [hwq]; go_simp
    have hBq : Below w.heap.size w wq := by
      rw [hwq]
      exact (((((HBW.out.setCell (show w.heap.size ≤ w.heap.size + 1 by omega) _).setCell (show w.heap.size ≤ w.heap.size + 1 by omega) _).setCell (show w.heap.size ≤ w.heap.size + 1 by omega) _).setCell (show w.heap.size ≤ w.heap.size + 1 by omega) _).setCell (show w.heap.size ≤ w.heap.size + 1 by omega) _)
    clear hwq
    try simp only [Exit.inBlock, Exit.then]
    refine bodyPost_ret (by simp [results, Try.results19, go_sem, u0, u1, u2, u3, u4]; try rfl) rfl ?_
    rw [runL_no HK.out]
    exact runPost_no hBq
  | true =>
  by_cases h40 : n1 ≤ 40
  rotate_left
  · have h40i : (40 : Int) < (n1 : Int) := by omega
    have HK := Lib.hid (show (goodWorks f n I H S P && decide (n1 ≤ 40)) = false by simp [h40])
    go_enter Try.func19, Try.ntmps19
    go_upto_region 1 with fail
    refine name_wp ?_
    intro w1 hw1
    rw [← hw1] at hX h0 hR hSX hS1
    have hzX : w1.heap.size = w.heap.size + 2 := by rw [hw1]; simp
    clear hw1
    obtain ⟨e0, e1, e2, e3, e4⟩ := cells5 h0
    go_wp2_with fail
    refine (isWorks_any A n c lo hi f I H S P w1 hSX hn hnc).mono ?_
    rw [hg]
    rintro e w2 ⟨rfl, hb⟩
    have h0 := rowB h0 hb
    have hR := rowB hR hb
    have hX := below_of hX hb hX.size
    have hSX := hSX.below hb
    have hS1 := hS1.below hb
    have hz2 : w.heap.size + 2 ≤ w2.heap.size := by have := hb.size; omega
    clear hb e0 e1 e2 e3 e4 hzX
    obtain ⟨r0, r1, r2, r3, r4⟩ := cells5 hR
    have rf : ∀ j, w2.frozen? ⟨w.heap.size + 1, j, none⟩ = false := fun j => frozen_of_row w2 (w.heap.size + 1) j _ _ hR
    have HBW := Lib.hid hX
    clear hR
    go_wp2
    obtain ⟨wq, hwq⟩ : ∃ wq, wq = (((((w2.setCell ⟨w.heap.size + 1, 0, none⟩ (.slice none 0 0)).setCell ⟨w.heap.size + 1, 1, none⟩ (.int .i64 0)).setCell ⟨w.heap.size + 1, 2, none⟩ (.int .i64 0)).setCell ⟨w.heap.size + 1, 3, none⟩ (.int .i64 0)).setCell ⟨w.heap.size + 1, 4, none⟩ (.int .i64 0)) := ⟨_, rfl⟩
    rw [← hwq]
    have u0 : wq.cell? ⟨w.heap.size + 1, 0, none⟩ = some (.slice none 0 0) := by rw [hwq]; go_simp
    have u1 : wq.cell? ⟨w.heap.size + 1, 1, none⟩ = some (.int .i64 0) := by rw [hwq]; go_simp
    have u2 : wq.cell? ⟨w.heap.size + 1, 2, none⟩ = some (.int .i64 0) := by rw [hwq]; go_simp
    have u3 : wq.cell? ⟨w.heap.size + 1, 3, none⟩ = some (.int .i64 0) := by rw [hwq]; go_simp
    have u4 : wq.cell? ⟨w.heap.size + 1, 4, none⟩ = some (.int .i64 0) := by rw [hwq]; go_simp
    have hBq : Below w.heap.size w wq := by
      rw [hwq]
      exact (((((HBW.out.setCell (show w.heap.size ≤ w.heap.size + 1 by omega) _).setCell (show w.heap.size ≤ w.heap.size + 1 by omega) _).setCell (show w.heap.size ≤ w.heap.size + 1 by omega) _).setCell (show w.heap.size ≤ w.heap.size + 1 by omega) _).setCell (show w.heap.size ≤ w.heap.size + 1 by omega) _)
    clear hwq
    try simp only [Exit.inBlock, Exit.then]
    refine bodyPost_ret (by simp [results, Try.results19, go_sem, u0, u1, u2, u3, u4]; try rfl) rfl ?_
    rw [runL_no HK.out]
    exact runPost_no hBq
  have h40i : ¬ ((40 : Int) < (n1 : Int)) := by omega
  have HK := Lib.hid (show (goodWorks f n I H S P && decide (n1 ≤ 40)) = true by simp [hg, h40])
  have hn6 := good_len hg
  go_enter Try.func19, Try.ntmps19
  go_upto_region 1 with fail
  refine name_wp ?_
  intro w1 hw1
  rw [← hw1] at hX h0 hR hSX hS1
  have hzX : w1.heap.size = w.heap.size + 2 := by rw [hw1]; simp
  clear hw1
  obtain ⟨e0, e1, e2, e3, e4⟩ := cells5 h0
  go_wp2_with fail
  refine (isWorks_any A n c lo hi f I H S P w1 hSX hn hnc).mono ?_
  rw [hg]
  rintro e w2 ⟨rfl, hb⟩
  have h0 := rowB h0 hb
  have hR := rowB hR hb
  have hX := below_of hX hb hX.size
  have hSX := hSX.below hb
  have hS1 := hS1.below hb
  have hz2 : w.heap.size + 2 ≤ w2.heap.size := by have := hb.size; omega
  clear hb e0 e1 e2 e3 e4 hzX
  obtain ⟨e0, e1, e2, e3, e4⟩ := cells5 h0
  go_wp2_with fail
  refine (copyWorks_any A n c lo hi f I H S P w2 hSX hn hnc hnone).mono ?_
  rintro e w3 ⟨A', c', rfl, hmc, hcm, hown, hb⟩
  have h0 := rowB h0 hb
  have hR := rowB hR hb
  have hX := below_of hX hb hX.size
  have hS1 := hS1.below hb
  have hown := ownsRow_monoP hown hz2
  have hz3 : w.heap.size + 2 ≤ w3.heap.size := Nat.le_trans hz2 hb.size
  clear hb e0 e1 e2 e3 e4 hSX
  obtain ⟨e0, e1, e2, e3, e4⟩ := cells5 h0
  have ef : ∀ j, w3.frozen? ⟨w.heap.size, j, none⟩ = false := fun j => frozen_of_row w3 (w.heap.size) j _ _ h0
  go_upto_region 4 with fail
  refine name_wp ?_
  intro w4 hw4'
  have hw4 : w4 = (((((w3.setCell ⟨w.heap.size, 0, none⟩ (.slice A' n c')).setCell ⟨w.heap.size, 1, none⟩ (.int .i64 I)).setCell ⟨w.heap.size, 2, none⟩ (.int .i64 H)).setCell ⟨w.heap.size, 3, none⟩ (.int .i64 S)).setCell ⟨w.heap.size, 4, none⟩ (.int .i64 P)) := hw4'
  clear hw4' e0 e1 e2 e3 e4 ef
  have h04 : w4.heap[w.heap.size]? = some (.cells #[.slice A' n c', .int .i64 I, .int .i64 H, .int .i64 S, .int .i64 P] 26 (0, 0)) := by
    rw [hw4]
    exact (heap_setCell_same _ (w.heap.size) 4 #[.slice A' n c', .int .i64 I, .int .i64 H, .int .i64 S, .int .i64 P] 26 (.int .i64 P) (heap_setCell_same _ (w.heap.size) 3 #[.slice A' n c', .int .i64 I, .int .i64 H, .int .i64 S, .int .i64 P] 26 (.int .i64 S) (heap_setCell_same _ (w.heap.size) 2 #[.slice A' n c', .int .i64 I, .int .i64 H, .int .i64 S, .int .i64 P] 26 (.int .i64 H) (heap_setCell_same _ (w.heap.size) 1 #[.slice A' n c', .int .i64 I, .int .i64 H, .int .i64 S, .int .i64 P] 26 (.int .i64 I) (heap_setCell_same _ (w.heap.size) 0 #[.slice A n c, .int .i64 I, .int .i64 H, .int .i64 S, .int .i64 P] 26 (.slice A' n c') h0)))))
  have hR4 : w4.heap[w.heap.size + 1]? = some (.cells #[.slice none 0 0, .int .i64 0, .int .i64 0, .int .i64 0, .int .i64 0] 26 (0, 0)) := by
    rw [hw4]
    iterate 5 rw [heap_setCell_other _ _ _ _ (by simp)]
    exact hR
  have no0 : ∀ j : Nat, (Value.slice A' n c').ownBlock ≠ some (⟨w.heap.size, j, none⟩ : Addr).block := fun j e => by have h := (World.ownsRow.lt hown _ e).1; have h2 : w.heap.size + 2 ≤ w.heap.size := h; omega
  have hown4 := (ownsRow_setCell_other (ownsRow_setCell_other (ownsRow_setCell_other (ownsRow_setCell_other (ownsRow_setCell_other hown (no0 0) (.slice A' n c')) (no0 1) (.int .i64 I)) (no0 2) (.int .i64 H)) (no0 3) (.int .i64 S)) (no0 4) (.int .i64 P))
  rw [← hw4] at hown4
  have hF4 : Fr w.heap.size (w.heap.size + 1) w3 w4 := by
    rw [hw4]
    exact frS (frS (frS (frS (frS (Fr.refl _ _ _) 0 _) 1 _) 2 _) 3 _) 4 _
  have hB4 : Below w.heap.size w w4 := hX.trans (hF4.below (Nat.le_refl _) hX.size)
  have hS4 := hS1.fr hF4 (Or.inl hi1w)
  have hz4 : w.heap.size + 2 ≤ w4.heap.size := Nat.le_trans hz3 hF4.size
  have hbs : BoxS w4 (w.heap.size + 2) w.heap.size (⟨cellsL f n, n, I, H, S, P, 0⟩ : WkS) := ⟨A', c', h04, hmc, hcm, hown4⟩
  have HG := Lib.hid (runGood (s0 := (⟨cellsL f n, n, I, H, S, P, 0⟩ : WkS)) (g := g) (by rw [← hg]; exact goodWorks_congr (fun j hj => cellsL_getD f n j hj)))
  have HS4 := Lib.hid hS4
  have HB4 := Lib.hid hB4
  have HR4 := Lib.hid hR4
  have HBS := Lib.hid hbs
  clear hw4 h04 hR4 hown hown4 hF4 hB4 hS4 h0 hR hX hS1 no0 hmc hcm hg hbs
  go_wp2_with fail
  go_loopw [7, 25] (fun cv kv wr => (∃ k : Nat, k ≤ n1 ∧ kv = .int .i64 k ∧ cv = .int .i64 ((runS (⟨cellsL f n, n, I, H, S, P, 0⟩ : WkS) g k).cnt : Nat) ∧ BoxS wr (w.heap.size + 2) w.heap.size (runS (⟨cellsL f n, n, I, H, S, P, 0⟩ : WkS) g k)) ∧ Fr w.heap.size (w.heap.size + 1) w4 wr) (fun _ kv _ => n1 - (intOf kv).toNat)
  case atStart => exact ⟨⟨0, Nat.zero_le _, rfl, rfl, HBS.out⟩, Fr.refl _ _ _⟩
  case round =>
    obtain ⟨⟨k, hk, rfl, rfl, hbs⟩, hfr⟩ := hrel
    have hRr := rowF HR4.out hfr (Or.inr (by omega))
    have hBr := HB4.out.trans (hfr.below (Nat.le_refl _) HB4.out.size)
    have hcnt := runCnt (⟨cellsL f n, n, I, H, S, P, 0⟩ : WkS) g k
    by_cases hlt : k < n1
    · have hki : (k : Int) < (n1 : Int) := by omega
      have hk0 : (0 : Int) ≤ (k : Int) := by omega
      obtain ⟨b1, o1, eA, _, _, hc⟩ := (HS4.out.fr hfr (Or.inl hi1w)).here (by omega)
      have d0 := hc (k * 4) (by omega)
      have d1 := hc (k * 4 + 1) (by omega)
      have d2 := hc (k * 4 + 2) (by omega)
      have d3 := hc (k * 4 + 3) (by omega)
      rw [← Nat.add_assoc] at d1 d2 d3
      have hgs := HG.out k
      have hrs : runS (⟨cellsL f n, n, I, H, S, P, 0⟩ : WkS) g (k + 1) = runStep (runS (⟨cellsL f n, n, I, H, S, P, 0⟩ : WkS) g k) (g (k * 4)) (g (k * 4 + 1)) (g (k * 4 + 2)) (g (k * 4 + 3)) := rfl
      have HRS := Lib.hid hrs
      clear hc hrs
      obtain ⟨A', c', hbx, hmc, hcm, hown⟩ := hbs
      have hcnt' : (runS (⟨cellsL f n, n, I, H, S, P, 0⟩ : WkS) g k).cnt ≤ 40 := by have : ((⟨cellsL f n, n, I, H, S, P, 0⟩ : WkS)).cnt = 0 := rfl; omega
      generalize runS (⟨cellsL f n, n, I, H, S, P, 0⟩ : WkS) g k = s at *
      have hm6 := good_len hgs
      subst eA
      obtain ⟨e0, e1, e2, e3, e4⟩ := cells5 hbx
      have hci : ((s.cnt : Nat) : Int) ≤ 40 := by omega
      have hcw : IntKind.i64.wrap ((s.cnt : Int) + 1) = ((s.cnt + 1 : Nat) : Int) := by rw [IntWalk.i64_in _ (by omega)]; omega
      go_upto_region 8 with fail
      refine name_wp ?_
      intro w5 hw5
      have hb5 : Below wr.heap.size wr w5 := by rw [hw5]; exact (Below.refl _ _).alloc (Nat.le_refl _) _
      have h9 : w5.heap[wr.heap.size]? = some (.cells #[.int .i64 (g (k * 4)), .int .i64 (g (k * 4 + 1)), .int .i64 (g (k * 4 + 2)), .int .i64 (g (k * 4 + 3))] 28 (0, 0)) := by rw [hw5]; exact heap_alloc_new wr _
      have hbx5 := rowB hbx hb5
      have hown5 := ownsRow_below hown hb5
      have lw : w.heap.size + 1 ≤ wr.heap.size := by have := rowLt hRr; omega
      clear hw5 e0 e1 e2 e3 e4 d0 d1 d2 d3 hbx hown
      generalize wr.heap.size = g9 at h9 ⊢
      obtain ⟨e0, e1, e2, e3, e4⟩ := cells5 hbx5
      obtain ⟨d0, d1, d2, d3⟩ := cells4 h9
      have hSl5 : Sl w5 (w.heap.size + 2) w5.heap.size 4 A' s.m (lf s.L) := by
        obtain ⟨A0, c0, e0', _, _, h0'⟩ := own_of_row hown5
        cases e0'
        exact h0'.sl
      have hno5 : A' = none → s.m = 0 ∧ c' = 0 := fun e => own_nil hown5 e
      have hSz5 : w.heap.size + 2 ≤ w5.heap.size := by have := hb5.size; have := hfr.size; omega
      go_wp2_with fail
      refine (StepWorks_any A' s.m c' _ _ (lf s.L) s.I s.H s.S s.P (g (k * 4)) (g (k * 4 + 1)) (g (k * 4 + 2)) (g (k * 4 + 3)) w5 hSl5 (by omega) hmc hno5).mono ?_
      intro e w6 hp
      cases hok : stOk (lf s.L) s.m s.I s.H s.S s.P (g (k * 4)) (g (k * 4 + 1)) (g (k * 4 + 2)) (g (k * 4 + 3)) with
      | false =>
        simp only [stepPost, panPostL, hok, Bool.false_eq_true, if_false] at hp
        obtain ⟨A2, c2, rfl, h1, h2, hown6, hb6⟩ := hp
        have hbx6 := rowB hbx5 hb6
        have hb6r := hb5.trans (hb6.mono hb5.size)
        have hown6' := ownsRow_below hown5 hb6
        have hst : runStep s (g (k * 4)) (g (k * 4 + 1)) (g (k * 4 + 2)) (g (k * 4 + 3)) = s := by simp [runStep, hok]
        have HST := Lib.hid hst
        clear hok hown6 hbx5 hown5 hSl5 e0 e1 e2 e3 e4 d0 d1 d2 d3 h9 hb5 hb6 hst
        have HBX := Lib.hid hbx6
        have HOX := Lib.hid hown6'
        clear hbx6 hown6'
        go_upto_region 9 with fail
        refine name_wp ?_
        intro w7 hw7
        have hb7 : Below w6.heap.size w6 w7 := by rw [hw7]; exact (Below.refl _ _).alloc (Nat.le_refl _) _
        clear hw7
        go_wp2
        go_roundw
        case rel =>
          refine ⟨⟨k + 1, by omega, by go_num, ?_, ?_⟩, (hfr.trans (Fr.of_below _ _ hb6r)).trans (Fr.of_below _ _ hb7)⟩
          · rw [HRS.out, HST.out]
          · rw [HRS.out, HST.out]
            exact ⟨A', c', rowB HBX.out hb7, hmc, hcm, ownsRow_below HOX.out hb7⟩
        case measure => simp [intOf]; omega
      | true =>
        simp only [stepPost, panPostL, hok, if_true] at hp
        obtain ⟨A2, c2, rfl, h1, h2, hown6, hb6⟩ := hp
        have hbx6 := rowB hbx5 hb6
        have hb6r := hb5.trans (hb6.mono hb5.size)
        have hst : runStep s (g (k * 4)) (g (k * 4 + 1)) (g (k * 4 + 2)) (g (k * 4 + 3)) = ⟨stL (lf s.L) s.m (g (k * 4)) (g (k * 4 + 1)) (g (k * 4 + 2)) (g (k * 4 + 3)), stN s.m (g (k * 4)), stI s.I (g (k * 4)) (g (k * 4 + 3)), stH s.H (g (k * 4)) (g (k * 4 + 3)), stS s.S (g (k * 4)) (g (k * 4 + 3)), stP (lf s.L) s.m s.P (g (k * 4)) (g (k * 4 + 1)), s.cnt + 1⟩ := by simp [runStep, hok]
        have HST := Lib.hid hst
        clear hok hbx5 hown5 hSl5 e0 e1 e2 e3 e4 d0 d1 d2 d3 h9 hb5 hb6 hst
        go_upto_region 9 with fail
        refine name_wp ?_
        intro w7 hw7
        have hb7 : Below w6.heap.size w6 w7 := by rw [hw7]; exact (Below.refl _ _).alloc (Nat.le_refl _) _
        have h10 : w7.heap[w6.heap.size]? = some (.cells #[.slice A2 (stN s.m (g (k * 4))) c2, .int .i64 (stI s.I (g (k * 4)) (g (k * 4 + 3))), .int .i64 (stH s.H (g (k * 4)) (g (k * 4 + 3))), .int .i64 (stS s.S (g (k * 4)) (g (k * 4 + 3))), .int .i64 (stP (lf s.L) s.m s.P (g (k * 4)) (g (k * 4 + 1)))] 26 (0, 0)) := by rw [hw7]; exact heap_alloc_new w6 _
        have hbx7 := rowB hbx6 hb7
        have hown7 := ownsRow_monoP (ownsRow_below hown6 hb7) hSz5
        have hb7r := hb6r.trans (hb7.mono hb6r.size)
        have n10 : w6.heap.size ≠ w.heap.size := by have := hb6r.size; omega
        clear hw7 hbx6 hown6 hb7 hb6r
        generalize w6.heap.size = g10 at *
        obtain ⟨y0, y1, y2, y3, y4⟩ := cells5 h10
        obtain ⟨e0, e1, e2, e3, e4⟩ := cells5 hbx7
        have ef : ∀ j, w7.frozen? ⟨w.heap.size, j, none⟩ = false := fun j => frozen_of_row w7 (w.heap.size) j _ _ hbx7
        have HO7 := Lib.hid hown7
        have HX7 := Lib.hid hbx7
        have n10' : w.heap.size ≠ g10 := Ne.symm n10
        clear hown7 hbx7 h10
        go_upto_region 11 with fail
        refine name_wp ?_
        intro w8 hw8'
        have hw8 : w8 = (((((w7.setCell ⟨w.heap.size, 0, none⟩ (.slice A2 (stN s.m (g (k * 4))) c2)).setCell ⟨w.heap.size, 1, none⟩ (.int .i64 (stI s.I (g (k * 4)) (g (k * 4 + 3))))).setCell ⟨w.heap.size, 2, none⟩ (.int .i64 (stH s.H (g (k * 4)) (g (k * 4 + 3))))).setCell ⟨w.heap.size, 3, none⟩ (.int .i64 (stS s.S (g (k * 4)) (g (k * 4 + 3))))).setCell ⟨w.heap.size, 4, none⟩ (.int .i64 (stP (lf s.L) s.m s.P (g (k * 4)) (g (k * 4 + 1))))) := hw8'
        clear hw8' e0 e1 e2 e3 e4 ef y0 y1 y2 y3 y4
        have hbx8 : w8.heap[w.heap.size]? = some (.cells #[.slice A2 (stN s.m (g (k * 4))) c2, .int .i64 (stI s.I (g (k * 4)) (g (k * 4 + 3))), .int .i64 (stH s.H (g (k * 4)) (g (k * 4 + 3))), .int .i64 (stS s.S (g (k * 4)) (g (k * 4 + 3))), .int .i64 (stP (lf s.L) s.m s.P (g (k * 4)) (g (k * 4 + 1)))] 26 (0, 0)) := by
          rw [hw8]
          exact (heap_setCell_same _ (w.heap.size) 4 #[.slice A2 (stN s.m (g (k * 4))) c2, .int .i64 (stI s.I (g (k * 4)) (g (k * 4 + 3))), .int .i64 (stH s.H (g (k * 4)) (g (k * 4 + 3))), .int .i64 (stS s.S (g (k * 4)) (g (k * 4 + 3))), .int .i64 s.P] 26 (.int .i64 (stP (lf s.L) s.m s.P (g (k * 4)) (g (k * 4 + 1)))) (heap_setCell_same _ (w.heap.size) 3 #[.slice A2 (stN s.m (g (k * 4))) c2, .int .i64 (stI s.I (g (k * 4)) (g (k * 4 + 3))), .int .i64 (stH s.H (g (k * 4)) (g (k * 4 + 3))), .int .i64 s.S, .int .i64 s.P] 26 (.int .i64 (stS s.S (g (k * 4)) (g (k * 4 + 3)))) (heap_setCell_same _ (w.heap.size) 2 #[.slice A2 (stN s.m (g (k * 4))) c2, .int .i64 (stI s.I (g (k * 4)) (g (k * 4 + 3))), .int .i64 s.H, .int .i64 s.S, .int .i64 s.P] 26 (.int .i64 (stH s.H (g (k * 4)) (g (k * 4 + 3)))) (heap_setCell_same _ (w.heap.size) 1 #[.slice A2 (stN s.m (g (k * 4))) c2, .int .i64 s.I, .int .i64 s.H, .int .i64 s.S, .int .i64 s.P] 26 (.int .i64 (stI s.I (g (k * 4)) (g (k * 4 + 3)))) (heap_setCell_same _ (w.heap.size) 0 #[.slice A' s.m c', .int .i64 s.I, .int .i64 s.H, .int .i64 s.S, .int .i64 s.P] 26 (.slice A2 (stN s.m (g (k * 4))) c2) HX7.out)))))
        have no0 : ∀ j : Nat, (Value.slice A2 (stN s.m (g (k * 4))) c2).ownBlock ≠ some (⟨w.heap.size, j, none⟩ : Addr).block := fun j e => by have h := (World.ownsRow.lt HO7.out _ e).1; have h2 : w.heap.size + 2 ≤ w.heap.size := h; omega
        have hown8 := (ownsRow_setCell_other (ownsRow_setCell_other (ownsRow_setCell_other (ownsRow_setCell_other (ownsRow_setCell_other HO7.out (no0 0) (.slice A2 (stN s.m (g (k * 4))) c2)) (no0 1) (.int .i64 (stI s.I (g (k * 4)) (g (k * 4 + 3))))) (no0 2) (.int .i64 (stH s.H (g (k * 4)) (g (k * 4 + 3))))) (no0 3) (.int .i64 (stS s.S (g (k * 4)) (g (k * 4 + 3))))) (no0 4) (.int .i64 (stP (lf s.L) s.m s.P (g (k * 4)) (g (k * 4 + 1)))))
        rw [← hw8] at hown8
        have hF8 : Fr w.heap.size (w.heap.size + 1) w7 w8 := by
          rw [hw8]
          exact frS (frS (frS (frS (frS (Fr.refl _ _ _) 0 _) 1 _) 2 _) 3 _) 4 _
        have HF8 := Lib.hid ((hfr.trans (Fr.of_below _ _ hb7r)).trans hF8)
        have HO8 := Lib.hid hown8
        have HX8 := Lib.hid hbx8
        clear hw8 hbx8 hown8 hF8 hb7r HO7 HX7 hfr hRr hBr
        go_wp2
        go_roundw
        case rel =>
          refine ⟨⟨k + 1, by omega, by go_num, ?_, ?_⟩, HF8.out⟩
          · rw [HRS.out, HST.out]; simp
          · rw [HRS.out, HST.out]
            exact ⟨A2, c2, HX8.out, h1, h2, HO8.out⟩
        case measure => simp [intOf]; omega
    · obtain rfl : k = n1 := by omega
      have hki : ¬ ((k : Int) < (k : Int)) := by omega
      clear HS4 HR4 HB4 HG HBS
      go_upto_region 13 with fail
      have hfin := runL_yes (g := g) HK.out
      have HFIN := Lib.hid hfin
      clear hfin
      obtain ⟨A', c', hbx, hmc, hcm, hown⟩ := hbs
      generalize (runS (⟨cellsL f n, n, I, H, S, P, 0⟩ : WkS) g k) = s at *
      obtain ⟨e0, e1, e2, e3, e4⟩ := cells5 hbx
      obtain ⟨r0, r1, r2, r3, r4⟩ := cells5 hRr
      have rf : ∀ j, wr.frozen? ⟨w.heap.size + 1, j, none⟩ = false := fun j => frozen_of_row wr (w.heap.size + 1) j _ _ hRr
      have nor : ∀ k : Nat, (Value.slice A' s.m c').ownBlock = some k → k ≠ w.heap.size + 1 := fun k e hk => by
        subst hk
        exact row_none_ne hown hRr (by decide) e
      have HBW := Lib.hid hBr
      have HOW := Lib.hid hown
      have NOR := Lib.hid nor
      clear hbx hRr hBr hown nor hfr
      go_wp2
      obtain ⟨wq, hwq⟩ : ∃ wq, wq = (((((wr.setCell ⟨w.heap.size + 1, 0, none⟩ (.slice A' s.m c')).setCell ⟨w.heap.size + 1, 1, none⟩ (.int .i64 s.I)).setCell ⟨w.heap.size + 1, 2, none⟩ (.int .i64 s.H)).setCell ⟨w.heap.size + 1, 3, none⟩ (.int .i64 s.S)).setCell ⟨w.heap.size + 1, 4, none⟩ (.int .i64 s.P)) := ⟨_, rfl⟩
      rw [← hwq]
      have u0 : wq.cell? ⟨w.heap.size + 1, 0, none⟩ = some (.slice A' s.m c') := by rw [hwq]; go_simp
      have u1 : wq.cell? ⟨w.heap.size + 1, 1, none⟩ = some (.int .i64 s.I) := by rw [hwq]; go_simp
      have u2 : wq.cell? ⟨w.heap.size + 1, 2, none⟩ = some (.int .i64 s.H) := by rw [hwq]; go_simp
      have u3 : wq.cell? ⟨w.heap.size + 1, 3, none⟩ = some (.int .i64 s.S) := by rw [hwq]; go_simp
      have u4 : wq.cell? ⟨w.heap.size + 1, 4, none⟩ = some (.int .i64 s.P) := by rw [hwq]; go_simp
      have hBq : Below w.heap.size w wq := by
        rw [hwq]
        exact (((((HBW.out.setCell (show w.heap.size ≤ w.heap.size + 1 by omega) _).setCell (show w.heap.size ≤ w.heap.size + 1 by omega) _).setCell (show w.heap.size ≤ w.heap.size + 1 by omega) _).setCell (show w.heap.size ≤ w.heap.size + 1 by omega) _).setCell (show w.heap.size ≤ w.heap.size + 1 by omega) _)
      have no : ∀ j : Nat, (Value.slice A' s.m c').ownBlock ≠ some (⟨w.heap.size + 1, j, none⟩ : Addr).block := fun j e => NOR.out _ e rfl
      have hOq := (ownsRow_setCell_other (ownsRow_setCell_other (ownsRow_setCell_other (ownsRow_setCell_other (ownsRow_setCell_other HOW.out (no 0) (.slice A' s.m c')) (no 1) (.int .i64 s.I)) (no 2) (.int .i64 s.H)) (no 3) (.int .i64 s.S)) (no 4) (.int .i64 s.P))
      rw [← hwq] at hOq
      clear hwq HOW HBW
      try simp only [Exit.inBlock, Exit.then]
      refine bodyPost_ret (by simp [results, Try.results19, go_sem, u0, u1, u2, u3, u4]; try rfl) rfl ?_
      rw [HFIN.out]
      exact ⟨A', c', rfl, hmc, hcm, ownsRow_monoP hOq (by omega), hBq⟩
end Go.Proofs.Ytjhgpebppcbleaa
