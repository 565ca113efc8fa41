/-
  PriceRuns: the first and the last year of each longest run of rows with the same price.
-/
import Derived.Test.YtfejgoohefhjoaaCropB
import Derived.Test.YtfejgoohefhjoaaPairs
import Derived.Test.YtfejgoohefhjoaaRegionQ
namespace Go.Proofs.Ytfejgoohefhjoaa
open Go.RowKit
set_option linter.unusedVariables false
set_option linter.unusedSimpArgs false
attribute [local go_sem ↓] Go.wp_at_zero Go.wp_at_succ
/-- One more pair, or the last one made longer. -/
def runAdd (L : List (Int × Int)) (y y' : Int) : List (Int × Int) :=
  match L.getLast? with
  | some (p, q) => if q = y then L.dropLast ++ [(p, y')] else L ++ [(y, y')]
  | none => L ++ [(y, y')]
theorem runAdd_nil (y y' : Int) : runAdd [] y y' = [(y, y')] := rfl
theorem runAdd_yes (M : List (Int × Int)) (p q y y' : Int) (h : q = y) : runAdd (M ++ [(p, q)]) y y' = M ++ [(p, y')] := by simp [runAdd, h]
theorem runAdd_no (M : List (Int × Int)) (p q y y' : Int) (h : q ≠ y) : runAdd (M ++ [(p, q)]) y y' = (M ++ [(p, q)]) ++ [(y, y')] := by simp [runAdd, h]
/-- The runs behind m rounds (the rows 0 to m). -/
def runsTo (f : Nat → Int) : Nat → List (Int × Int)
  | 0 => []
  | m + 1 => if f ((m + 1) * 5 + 4) = f (m * 5 + 4) then runAdd (runsTo f m) (f (m * 5)) (f ((m + 1) * 5)) else runsTo f m
theorem runsTo_len (f : Nat → Int) : ∀ m, (runsTo f m).length ≤ m := by
  intro m
  induction m with
  | zero => simp [runsTo]
  | succ m ih =>
    unfold runsTo
    split
    · unfold runAdd
      split
      · split
        · simp; omega
        · simp; omega
      · simp; omega
    · omega
def runsRes (f : Nat → Int) (n : Nat) : List (Int × Int) := if goodRows f n then runsTo f (n - 1) else []
theorem runsRes_len (f : Nat → Int) (n : Nat) (hn : n ≤ 1048576) : (runsRes f n).length ≤ 1048576 := by
  unfold runsRes
  split
  · have := runsTo_len f (n - 1); omega
  · simp
theorem eq_or_last (L : List (Int × Int)) : L = [] ∨ ∃ M p q, L = M ++ [(p, q)] := by
  rcases List.eq_nil_or_concat L with h | ⟨M, ⟨p, q⟩, h⟩
  · exact .inl h
  · exact .inr ⟨M, p, q, by simpa using h⟩
set_option maxRecDepth 100000 in
set_option maxHeartbeats 1000000 in
theorem PriceRuns_any (A : Option Addr) (n c lo hi : Nat) (f : Nat → Int) (w : World) (hs : Sl w lo hi 5 A n f) (hn : n ≤ 1048576) (hnc : n ≤ c) :
    Calls Try.prog 17 #[.slice A n c] w (PairsPost w (runsRes f n) (goodRows f n)) := by
  have HS : Hid (Sl w lo hi 5 A n f) := hs
  clear hs
  cases hg : goodRows f n with
  | false =>
    have hr : runsRes f n = [] := by simp [runsRes, hg]
    rw [hr]
    clear hr
    go_enter Try.func17, Try.ntmps17
    go_wp2_with fail
    refine (AreCropRows_any A n c lo hi f w HS.out hn hnc).mono ?_
    rw [hg]
    rintro e w1 ⟨rfl, hb1⟩
    go_wp2
    go_ret2
    exact PairsPost.mk_ (PRs.nil _ _ 0) hb1
  | true =>
    have hr : runsRes f n = runsTo f (n - 1) := by simp [runsRes, hg]
    rw [hr]
    clear hr
    go_enter Try.func17, Try.ntmps17
    go_wp2_with fail
    refine (AreCropRows_any A n c lo hi f w HS.out hn hnc).mono ?_
    rw [hg]
    rintro e w1 ⟨rfl, hb1⟩
    go_wp2
    go_loopw [4, 5] (fun v i wr => ∃ m : Nat, (m = 0 ∨ m + 1 ≤ n) ∧ i = .int .i64 (m + 1 : Nat) ∧ PRs wr w.heap.size wr.heap.size v (runsTo f m) ∧ Below w.heap.size w wr) (fun _ i _ => n - (intOf i).toNat)
    case atStart => exact ⟨0, .inl rfl, rfl, PRs.nil _ _ _, hb1⟩
    case round =>
      obtain ⟨m, hm, rfl, hown, hB⟩ := hrel
      clear hb1
      have hl : (runsTo f m).length ≤ 100000000 := by have := runsTo_len f m; omega
      have hsz := hB.size
      by_cases hlt : m + 1 < n
      · obtain ⟨b, off, rfl, hbw, HC⟩ := HS.out.open_ hB (by omega)
        have hr : Hid (runsTo f (m + 1) = if f ((m + 1) * 5 + 4) = f (m * 5 + 4) then runAdd (runsTo f m) (f (m * 5)) (f ((m + 1) * 5)) else runsTo f m) := rfl
        obtain ⟨a0, a1, a2, a3, a4⟩ := cell5 HC hlt
        obtain ⟨e0, e1, e2, e3, e4⟩ := cell5 HC (show m < n by omega)
        clear HC a1 a2 a3 e1 e2 e3
        generalize hP : runsTo f m = P at hown hl hr
        have HO : Hid (PRs wr w.heap.size wr.heap.size u4 P) := hown
        clear hown hP HS
        have hkm : IntKind.i64.wrap (((m + 1 : Nat) : Int) - 1) = (m : Int) := by rw [IntWalk.i64_in _ (by omega)]; omega
        have hkw : IntKind.i64.wrap (((m + 1 : Nat) : Int) + 1) = ((m + 1 + 1 : Nat) : Int) := by rw [IntWalk.i64_in _ (by omega)]; omega
        have hk0 : (0 : Int) ≤ ((m + 1 : Nat) : Int) := by omega
        have hk1 : ((m + 1 : Nat) : Int) < (n : Int) := by omega
        have hm0 : (0 : Int) ≤ (m : Int) := by omega
        have hm1 : (m : Int) < (n : Int) := by omega
        have hm2 : m + 1 + 1 ≤ n := hlt
        generalize hk : m + 1 = k at *
        have HF : Hid (∀ w', Below wr.heap.size wr w' → w'.cell? ⟨b, off + k * 5 + 4, none⟩ = some (.int .i64 (f (k * 5 + 4))) ∧ w'.cell? ⟨b, off + m * 5 + 4, none⟩ = some (.int .i64 (f (m * 5 + 4))) ∧ w'.cell? ⟨b, off + k * 5, none⟩ = some (.int .i64 (f (k * 5))) ∧ w'.cell? ⟨b, off + m * 5, none⟩ = some (.int .i64 (f (m * 5)))) := fun w' hq => ⟨(hq.cell (p := ⟨b, off + k * 5 + 4, none⟩) hbw).trans a4, (hq.cell (p := ⟨b, off + m * 5 + 4, none⟩) hbw).trans e4, (hq.cell (p := ⟨b, off + k * 5, none⟩) hbw).trans a0, (hq.cell (p := ⟨b, off + m * 5, none⟩) hbw).trans e0⟩
        clear a0 a4 e0 e4 hlt
        go_wp2
        refine wp_region_class (C := fun w' => Below (wr).heap.size (wr) w') (by kernel_rfl) (by kernel_rfl) ((Below.refl _ _).drew) ?_
        refine wpQuiet_take (d := 16) (v := ?_) (by rfl) ?_ ?_
        rotate_left
        · intro wS hS
          have eF := HF.out wS hS
          go_simp
          try with_reducible rfl
        simp only [Act.put, List.setIfInBounds_toArray, List.set_cons_zero, List.set_cons_succ]
        refine wpQuiet_take (d := 17) (v := ?_) (by rfl) ?_ ?_
        rotate_left
        · intro wS hS
          have eF := HF.out wS hS
          go_simp
          try with_reducible rfl
        simp only [Act.put, List.setIfInBounds_toArray, List.set_cons_zero, List.set_cons_succ]
        refine wpQuiet_take (d := 18) (v := ?_) (by rfl) ?_ ?_
        rotate_left
        · intro wS hS
          have eF := HF.out wS hS
          go_simp
          try with_reducible rfl
        simp only [Act.put, List.setIfInBounds_toArray, List.set_cons_zero, List.set_cons_succ]
        refine wpQuiet_take (d := 19) (v := ?_) (by rfl) ?_ ?_
        rotate_left
        · intro wS hS
          have eF := HF.out wS hS
          go_simp
          try with_reducible rfl
        simp only [Act.put, List.setIfInBounds_toArray, List.set_cons_zero, List.set_cons_succ]
        refine wpQuiet_take (d := 20) (v := ?_) (by rfl) ?_ ?_
        rotate_left
        · intro wS hS
          have eF := HF.out wS hS
          go_simp
          try with_reducible rfl
        simp only [Act.put, List.setIfInBounds_toArray, List.set_cons_zero, List.set_cons_succ]
        refine wpQuiet_take (d := 21) (v := ?_) (by rfl) ?_ ?_
        rotate_left
        · intro wS hS
          have eF := HF.out wS hS
          go_simp
          try with_reducible rfl
        simp only [Act.put, List.setIfInBounds_toArray, List.set_cons_zero, List.set_cons_succ]
        refine wpQuiet_take (d := 22) (v := ?_) (by rfl) ?_ ?_
        rotate_left
        · intro wS hS
          have eF := HF.out wS hS
          go_simp
          try with_reducible rfl
        simp only [Act.put, List.setIfInBounds_toArray, List.set_cons_zero, List.set_cons_succ]
        refine wpQuiet_take (d := 23) (v := ?_) (by rfl) ?_ ?_
        rotate_left
        · intro wS hS
          have eF := HF.out wS hS
          go_simp
          try with_reducible rfl
        simp only [Act.put, List.setIfInBounds_toArray, List.set_cons_zero, List.set_cons_succ]
        refine wpQuiet_take (d := 24) (v := ?_) (by rfl) ?_ ?_
        rotate_left
        · intro wS hS
          have eF := HF.out wS hS
          go_simp
          try with_reducible rfl
        simp only [Act.put, List.setIfInBounds_toArray, List.set_cons_zero, List.set_cons_succ]
        refine wpQuiet_take (d := 25) (v := ?_) (by rfl) ?_ ?_
        rotate_left
        · intro wS hS
          have eF := HF.out wS hS
          go_simp
          try with_reducible rfl
        simp only [Act.put, List.setIfInBounds_toArray, List.set_cons_zero, List.set_cons_succ]
        refine wpQuiet_take (d := 26) (v := ?_) (by rfl) ?_ ?_
        rotate_left
        · intro wS hS
          have eF := HF.out wS hS
          go_simp
          try with_reducible rfl
        simp only [Act.put, List.setIfInBounds_toArray, List.set_cons_zero, List.set_cons_succ]
        refine wpQuiet_take (d := 27) (v := ?_) (by rfl) ?_ ?_
        rotate_left
        · intro wS hS
          have eF := HF.out wS hS
          go_simp
          try with_reducible rfl
        simp only [Act.put, List.setIfInBounds_toArray, List.set_cons_zero, List.set_cons_succ]
        refine wpQuiet_nil (fun wq hHeld => ?_)
        by_cases hpr : f (k * 5 + 4) = f (m * 5 + 4)
        · have hr2 : Hid (runsTo f k = runAdd P (f (m * 5)) (f (k * 5))) := by have := hr.out; rwa [if_pos hpr] at this
          clear hr
          have HO2 : Hid (PRs wq w.heap.size wq.heap.size u4 P) := (HO.out.below hHeld).hi hHeld.size
          have hB2 : Below w.heap.size w wq := below_of hB hHeld hB.size
          have hsq := hHeld.size
          have HF2 : Hid (∀ w', Below wq.heap.size wq w' → w'.cell? ⟨b, off + k * 5 + 4, none⟩ = some (.int .i64 (f (k * 5 + 4))) ∧ w'.cell? ⟨b, off + m * 5 + 4, none⟩ = some (.int .i64 (f (m * 5 + 4))) ∧ w'.cell? ⟨b, off + k * 5, none⟩ = some (.int .i64 (f (k * 5))) ∧ w'.cell? ⟨b, off + m * 5, none⟩ = some (.int .i64 (f (m * 5)))) := fun w' hq => HF.out w' (below_of hHeld hq hsq)
          clear HF HO hB hHeld
          obtain ⟨wb, hwb⟩ : ∃ x, x = wq := ⟨_, rfl⟩
          subst hwb
          rcases eq_or_last P with hPe | ⟨M, p, q, hPe⟩
          · subst hPe
            obtain ⟨A', c', hv, _, _⟩ := HO2.out.val
            generalize hn0 : ([] : List (Int × Int)).length = n0 at hv
            have hz : decide (0 < n0) = false := by rw [← hn0]; rfl
            clear hn0
            subst hv
            have HF : Hid (∀ w', Below wb.heap.size wb w' → w'.cell? ⟨b, off + k * 5 + 4, none⟩ = some (.int .i64 (f (k * 5 + 4))) ∧ w'.cell? ⟨b, off + m * 5 + 4, none⟩ = some (.int .i64 (f (m * 5 + 4))) ∧ w'.cell? ⟨b, off + k * 5, none⟩ = some (.int .i64 (f (k * 5))) ∧ w'.cell? ⟨b, off + m * 5, none⟩ = some (.int .i64 (f (m * 5)))) := HF2.out
            go_wp2
            refine wp_region_held_drew (S := fun w' => Below (wb).heap.size (wb) w') (by kernel_rfl) ((Below.refl _ _).drew) (fun hHeld => ?_)
            refine wpAnyH_takeD (i := 0) (d := 30) (v := ?_) rfl (by kernel_rfl) (by kernel_rfl) (by kernel_rfl) (fun _ _ _ h => h) (by rfl) ?_ hHeld ?_
            rotate_left
            · intro wS hS
              have eF := HF.out wS hS
              go_simp
              try with_reducible rfl
            simp only [Act.put, List.setIfInBounds_toArray, List.set_cons_zero, List.set_cons_succ]
            refine wpAnyH_takeD (i := 1) (d := 31) (v := ?_) rfl (by kernel_rfl) (by kernel_rfl) (by kernel_rfl) (fun _ _ _ h => h) (by rfl) ?_ hHeld ?_
            rotate_left
            · intro wS hS
              have eF := HF.out wS hS
              go_simp
              try with_reducible rfl
            simp only [Act.put, List.setIfInBounds_toArray, List.set_cons_zero, List.set_cons_succ]
            refine wpAnyH_takeD (i := 2) (d := 32) (v := ?_) rfl (by kernel_rfl) (by kernel_rfl) (by kernel_rfl) (fun _ _ _ h => h) (by rfl) ?_ hHeld ?_
            rotate_left
            · intro wS hS
              have eF := HF.out wS hS
              go_simp
              try with_reducible rfl
            simp only [Act.put, List.setIfInBounds_toArray, List.set_cons_zero, List.set_cons_succ]
            refine wpAnyH_skips (by kernel_rfl) (fun _ _ _ _ _ h => h) hHeld [(3, 33), (4, 34), (5, 35), (6, 36), (7, 37), (8, 38), (9, 39), (10, 40), (11, 41), (12, 42), (13, 43), (14, 44), (15, 45), (16, 46)] 1 14 _ _ rfl (by kernel_rfl) ?_
            simp only [skipL, skipA, Act.put, List.setIfInBounds_toArray, List.set_cons_zero, List.set_cons_succ]
            refine wpAnyH_takeD (i := 17) (d := 47) (v := ?_) rfl (by kernel_rfl) (by kernel_rfl) (by kernel_rfl) (fun _ _ _ h => h) (by rfl) ?_ hHeld ?_
            rotate_left
            · intro wS hS
              have eF := HF.out wS hS
              go_simp
              try with_reducible rfl
            simp only [Act.put, List.setIfInBounds_toArray, List.set_cons_zero, List.set_cons_succ]
            refine wpAnyH_done (by kernel_rfl) ?_ _
            generalize hwq : wb.drew = wq at hHeld ⊢
            clear hwq
            have hB3 : Below w.heap.size w wq := below_of hB2 hHeld hB2.size
            have HO3 : Hid (PRs wq w.heap.size wq.heap.size (.slice A' n0 c') []) := (HO2.out.below hHeld).hi hHeld.size
            obtain ⟨_, _, a0, e0⟩ := HF.out wq hHeld
            have hs3 := hB3.size
            clear HO2 hB2 hHeld HF HF2
            go_wp2
            go_region_law (refine step_append_pair _ rfl _ _ 41 rfl w.heap.size wq.heap.size Try.underlying41 (.slice A' n0 c') [] rfl (HO3.out.below (by go_grown)) wq.heap.size (f (m * 5)) (f (k * 5)) (Nat.le_refl _) hs3 (by first | exact heap_alloc2 wq _ _ | exact heap_alloc2 wq.drew _ _) (wq.heap.size + 1) rfl (by simp) hl (by simp; omega) ?_; intro v' w3 hown3 hgrow3)
            all_goals
              go_wp2
              go_roundw
              case rel => exact ⟨k, .inr (by omega), by go_num, by rw [hr2.out, runAdd_nil]; exact hown3, PRs.app (hB3.trans (by go_grown)) (HO3.out.below (by go_grown)) hgrow3⟩
              case measure => simp [intOf]; omega
          · subst hPe
            obtain ⟨gG, c', gl, hv, hG0, hG1, hl0, hl1, cG, fG, c0, c1, f1, HW1, HW2⟩ := HO2.out.last
            simp only [List.length_append, List.length_cons, List.length_nil, Nat.zero_add] at hl
            generalize hml : M.length = ml at *
            have hml1 : IntKind.i64.wrap (((ml + 1 : Nat) : Int) - 1) = (ml : Int) := by rw [IntWalk.i64_in _ (by omega)]; omega
            have hml2 : decide (0 < ml + 1) = true := by simp
            have hml3 : (0 : Int) ≤ (ml : Int) := by omega
            have hml4 : (ml : Int) < ((ml + 1 : Nat) : Int) := by omega
            generalize hmn1 : ml + 1 = mn at *
            subst hv
            have HF : Hid (∀ w', Below wb.heap.size wb w' → (w'.cell? ⟨b, off + k * 5 + 4, none⟩ = some (.int .i64 (f (k * 5 + 4))) ∧ w'.cell? ⟨b, off + m * 5 + 4, none⟩ = some (.int .i64 (f (m * 5 + 4))) ∧ w'.cell? ⟨b, off + k * 5, none⟩ = some (.int .i64 (f (k * 5))) ∧ w'.cell? ⟨b, off + m * 5, none⟩ = some (.int .i64 (f (m * 5)))) ∧ w'.cell? ⟨gG, ml, none⟩ = some (.slice (some ⟨gl, 0, none⟩) 2 2) ∧ w'.cell? ⟨gl, 1, none⟩ = some (.int .i64 q)) :=
              fun w' hq => ⟨HF2.out w' hq, (hq.cell (p := ⟨gG, ml, none⟩) hG1).trans cG, (hq.cell (p := ⟨gl, 1, none⟩) hl1).trans c1⟩
            go_wp2
            refine wp_region_class (C := fun w' => Below (wb).heap.size (wb) w') (by kernel_rfl) (by kernel_rfl) ((Below.refl _ _).drew) ?_
            refine wpQuiet_take (d := 30) (v := ?_) (by rfl) ?_ ?_
            rotate_left
            · intro wS hS
              have eF := HF.out wS hS
              go_simp
              try with_reducible rfl
            simp only [Act.put, List.setIfInBounds_toArray, List.set_cons_zero, List.set_cons_succ]
            refine wpQuiet_take (d := 31) (v := ?_) (by rfl) ?_ ?_
            rotate_left
            · intro wS hS
              have eF := HF.out wS hS
              go_simp
              try with_reducible rfl
            simp only [Act.put, List.setIfInBounds_toArray, List.set_cons_zero, List.set_cons_succ]
            refine wpQuiet_take (d := 32) (v := ?_) (by rfl) ?_ ?_
            rotate_left
            · intro wS hS
              have eF := HF.out wS hS
              go_simp
              try with_reducible rfl
            simp only [Act.put, List.setIfInBounds_toArray, List.set_cons_zero, List.set_cons_succ]
            refine wpQuiet_take (d := 33) (v := ?_) (by rfl) ?_ ?_
            rotate_left
            · intro wS hS
              have eF := HF.out wS hS
              go_simp
              try with_reducible rfl
            simp only [Act.put, List.setIfInBounds_toArray, List.set_cons_zero, List.set_cons_succ]
            refine wpQuiet_take (d := 34) (v := ?_) (by rfl) ?_ ?_
            rotate_left
            · intro wS hS
              have eF := HF.out wS hS
              go_simp
              try with_reducible rfl
            simp only [Act.put, List.setIfInBounds_toArray, List.set_cons_zero, List.set_cons_succ]
            refine wpQuiet_take (d := 35) (v := ?_) (by rfl) ?_ ?_
            rotate_left
            · intro wS hS
              have eF := HF.out wS hS
              go_simp
              try with_reducible rfl
            simp only [Act.put, List.setIfInBounds_toArray, List.set_cons_zero, List.set_cons_succ]
            refine wpQuiet_take (d := 36) (v := ?_) (by rfl) ?_ ?_
            rotate_left
            · intro wS hS
              have eF := HF.out wS hS
              go_simp
              try with_reducible rfl
            simp only [Act.put, List.setIfInBounds_toArray, List.set_cons_zero, List.set_cons_succ]
            refine wpQuiet_take (d := 37) (v := ?_) (by rfl) ?_ ?_
            rotate_left
            · intro wS hS
              have eF := HF.out wS hS
              go_simp
              try with_reducible rfl
            simp only [Act.put, List.setIfInBounds_toArray, List.set_cons_zero, List.set_cons_succ]
            refine wpQuiet_take (d := 38) (v := ?_) (by rfl) ?_ ?_
            rotate_left
            · intro wS hS
              have eF := HF.out wS hS
              go_simp
              try with_reducible rfl
            simp only [Act.put, List.setIfInBounds_toArray, List.set_cons_zero, List.set_cons_succ]
            refine wpQuiet_take (d := 39) (v := ?_) (by rfl) ?_ ?_
            rotate_left
            · intro wS hS
              have eF := HF.out wS hS
              go_simp
              try with_reducible rfl
            simp only [Act.put, List.setIfInBounds_toArray, List.set_cons_zero, List.set_cons_succ]
            refine wpQuiet_take (d := 40) (v := ?_) (by rfl) ?_ ?_
            rotate_left
            · intro wS hS
              have eF := HF.out wS hS
              go_simp
              try with_reducible rfl
            simp only [Act.put, List.setIfInBounds_toArray, List.set_cons_zero, List.set_cons_succ]
            refine wpQuiet_take (d := 41) (v := ?_) (by rfl) ?_ ?_
            rotate_left
            · intro wS hS
              have eF := HF.out wS hS
              go_simp
              try with_reducible rfl
            simp only [Act.put, List.setIfInBounds_toArray, List.set_cons_zero, List.set_cons_succ]
            refine wpQuiet_take (d := 42) (v := ?_) (by rfl) ?_ ?_
            rotate_left
            · intro wS hS
              have eF := HF.out wS hS
              go_simp
              try with_reducible rfl
            simp only [Act.put, List.setIfInBounds_toArray, List.set_cons_zero, List.set_cons_succ]
            refine wpQuiet_take (d := 43) (v := ?_) (by rfl) ?_ ?_
            rotate_left
            · intro wS hS
              have eF := HF.out wS hS
              go_simp
              try with_reducible rfl
            simp only [Act.put, List.setIfInBounds_toArray, List.set_cons_zero, List.set_cons_succ]
            refine wpQuiet_take (d := 44) (v := ?_) (by rfl) ?_ ?_
            rotate_left
            · intro wS hS
              have eF := HF.out wS hS
              go_simp
              try with_reducible rfl
            simp only [Act.put, List.setIfInBounds_toArray, List.set_cons_zero, List.set_cons_succ]
            refine wpQuiet_take (d := 45) (v := ?_) (by rfl) ?_ ?_
            rotate_left
            · intro wS hS
              have eF := HF.out wS hS
              go_simp
              try with_reducible rfl
            simp only [Act.put, List.setIfInBounds_toArray, List.set_cons_zero, List.set_cons_succ]
            refine wpQuiet_take (d := 46) (v := ?_) (by rfl) ?_ ?_
            rotate_left
            · intro wS hS
              have eF := HF.out wS hS
              go_simp
              try with_reducible rfl
            simp only [Act.put, List.setIfInBounds_toArray, List.set_cons_zero, List.set_cons_succ]
            refine wpQuiet_take (d := 47) (v := ?_) (by rfl) ?_ ?_
            rotate_left
            · intro wS hS
              have eF := HF.out wS hS
              go_simp
              try with_reducible rfl
            simp only [Act.put, List.setIfInBounds_toArray, List.set_cons_zero, List.set_cons_succ]
            refine wpQuiet_nil (fun wq hHeld => ?_)
            by_cases hq : q = f (m * 5)
            · have hB3 : Below w.heap.size w wq := below_of hB2 hHeld hB2.size
              obtain ⟨⟨_, _, a0, e0⟩, cG', c1'⟩ := HF.out wq hHeld
              have fG' : wq.frozen? ⟨gG, ml, none⟩ = false := (World.frozen?_of_block (a := ⟨gG, ml, none⟩) (hHeld.block _ hG1)).trans fG
              have f1' : wq.frozen? ⟨gl, 1, none⟩ = false := (World.frozen?_of_block (a := ⟨gl, 1, none⟩) (hHeld.block _ hl1)).trans f1
              have c0' : wq.cell? ⟨gl, 0, none⟩ = some (.int .i64 p) := (hHeld.cell (p := ⟨gl, 0, none⟩) hl1).trans c0
              have HP1 : Hid (PRs (wq.setCell ⟨gl, 1, none⟩ (.int .i64 (f (k * 5)))) w.heap.size wb.heap.size (.slice (some ⟨gG, 0, none⟩) mn c') (M ++ [(p, (f (k * 5)))])) := HW1.out wq _ hHeld
              have HB4 : Hid (Below w.heap.size w (wq.setCell ⟨gl, 1, none⟩ (.int .i64 (f (k * 5))))) := hB3.setCell hl0 _
              have hs4 : wb.heap.size ≤ (wq.setCell ⟨gl, 1, none⟩ (.int .i64 (f (k * 5)))).heap.size := by simpa [World.setCell] using hHeld.size
              clear HF HF2 HO2 HW1 HW2 hHeld cG c0 c1 f1 fG
              go_wp2
              go_region
              all_goals
                go_wp2
                go_roundw
                case rel =>
                  have hP4 := HP1.out; have hB4 := HB4.out; exact ⟨k, .inr (by omega), by go_num, by rw [hr2.out, runAdd_yes _ _ _ _ _ hq]; exact hP4.hi hs4, by first | exact hB4 | exact hB4.drew⟩
                case measure => simp [intOf]; omega
            · have hHO : PRs wb w.heap.size wb.heap.size (.slice (some ⟨gG, 0, none⟩) mn c') (M ++ [(p, q)]) := HO2.out
              have hl : (M ++ [(p, q)]).length ≤ 100000000 := by simp; omega
              clear HW1 HW2 HO2 cG fG c0 c1 f1
              have HO2 : Hid (PRs wb w.heap.size wb.heap.size (.slice (some ⟨gG, 0, none⟩) mn c') (M ++ [(p, q)])) := hHO
              clear hHO
              have hB3 : Below w.heap.size w wq := below_of hB2 hHeld hB2.size
              have HO3 : Hid (PRs wq w.heap.size wq.heap.size (.slice (some ⟨gG, 0, none⟩) mn c') (M ++ [(p, q)])) := (HO2.out.below hHeld).hi hHeld.size
              obtain ⟨⟨_, _, a0, e0⟩, _, _⟩ := HF.out wq hHeld
              have hs3 := hB3.size
              clear HO2 hB2 hHeld HF HF2
              go_wp2
              go_region_law (refine step_append_pair _ rfl _ _ 41 rfl w.heap.size wq.heap.size Try.underlying41 (.slice (some ⟨gG, 0, none⟩) mn c') (M ++ [(p, q)]) rfl (HO3.out.below (by go_grown)) wq.heap.size (f (m * 5)) (f (k * 5)) (Nat.le_refl _) hs3 (by first | exact heap_alloc2 wq _ _ | exact heap_alloc2 wq.drew _ _) (wq.heap.size + 1) rfl (by simp) hl (by simp; omega) ?_; intro v' w3 hown3 hgrow3)
              all_goals
                go_wp2
                go_roundw
                case rel => exact ⟨k, .inr (by omega), by go_num, by rw [hr2.out, (runAdd_no _ _ _ _ _ hq)]; exact hown3, PRs.app (hB3.trans (by go_grown)) (HO3.out.below (by go_grown)) hgrow3⟩
                case measure => simp [intOf]; omega
        · have hr2 : Hid (runsTo f k = P) := by have := hr.out; rwa [if_neg hpr] at this
          clear hr
          go_wp2
          go_roundw
          case rel => exact ⟨k, .inr (by omega), by go_num, by rw [hr2.out]; exact (HO.out.below hHeld).hi hHeld.size, below_of hB hHeld hB.size⟩
          case measure => simp [intOf]; omega
      · have hmn : Hid (m = n - 1) := by show m = n - 1; omega
        clear HS
        generalize hP : runsTo f m = P at hown
        have HP : Hid (runsTo f m = P) := hP
        have HO : Hid (PRs wr w.heap.size wr.heap.size u4 P) := hown
        clear hP hown
        have hk1 : ¬ (((m + 1 : Nat) : Int) < (n : Int)) := by omega
        generalize hk : m + 1 = k at *
        go_wp2
        go_ret2
        rw [← hmn.out, HP.out]
        exact PairsPost.mk_ HO.out hB
end Go.Proofs.Ytfejgoohefhjoaa
