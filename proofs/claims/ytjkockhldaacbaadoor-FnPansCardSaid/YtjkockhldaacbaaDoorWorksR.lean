/-
  The reference's copy of works.
-/
import Derived.Test.YtjkockhldaacbaaDoorPk1
import Derived.Test.YtjkockhldaacbaaDoorPk6
namespace Go.Proofs.YtjkockhldaacbaaDoor
open Go.RowKit Go.Sort
set_option linter.unusedVariables false
set_option linter.unusedSimpArgs false
attribute [local go_sem ↓] Go.wp_at_zero Go.wp_at_succ
theorem infoWorks : (Tryd.prog.info? 26).map (·.size) = some 5 := by kernel_rfl
theorem infoPanSize : (Tryd.prog.info? 48).map (·.size) = some 4 := by kernel_rfl
/-- The cells of a row of pans. -/
def cellsL (f : Nat → Int) (n : Nat) : List Int := (List.range (n * 4)).map f
theorem cellsL_len (f : Nat → Int) (n : Nat) : (cellsL f n).length = n * 4 := by simp [cellsL]
theorem cellsL_get (f : Nat → Int) (n j : Nat) (u : Int) (h : (cellsL f n)[j]? = some u) : j < n * 4 ∧ u = f j := by
  have hl := (List.getElem?_eq_some_iff.1 h).1
  rw [cellsL_len] at hl
  refine ⟨hl, ?_⟩
  simp [cellsL, hl] at h
  exact h.symm
theorem cellsL_getD (f : Nat → Int) (n j : Nat) (h : j < n * 4) : (cellsL f n).getD j 0 = f j := by
  simp [cellsL, List.getD_eq_getElem?_getD, h]
theorem Sl.src {w : World} {lo hi n c : Nat} {A : Option Addr} {f : Nat → Int} (h : Sl w lo hi 4 A n f) (hz : A = none → n = 0 ∧ c = 0) : Src w 4 A n c (cellsL f n) := by
  refine ⟨cellsL_len f n, hz, fun ad had j u hu => ?_⟩
  obtain ⟨hj, rfl⟩ := cellsL_get f n j u hu
  obtain ⟨b, off, e, _, _, h3⟩ := h.here (by omega)
  subst e
  cases had
  have := h3 j hj
  rw [Addr.add_lit]
  exact this
def ownPost (w : World) (f : Nat → Int) (n : Nat) (I H S P : Int) (e : Ending) (w' : World) : Prop :=
  ∃ A' c', e = .returned (.agg #[.slice A' n c', .int .i64 I, .int .i64 H, .int .i64 S, .int .i64 P]) ∧ n ≤ c' ∧ c' ≤ maxLen ∧ w'.ownsRow w.heap.size 48 4 (.slice A' n c') n ((cellsL f n).map (Value.int .i64)) ∧ Below w.heap.size w w'
theorem row_slice {w : World} {lo k : Nat} {e : TypeId} {v : Value} {n : Nat} {xs : List Value} (h : w.ownsRow lo e k v n xs) : ∃ A c, v = .slice A n c ∧ n ≤ c ∧ c ≤ maxLen := by
  rcases h.2 with ⟨rfl, rfl⟩ | ⟨g, c, cur, rfl, _, _, h1, h2, _⟩
  · exact ⟨none, 0, rfl, Nat.le_refl _, by unfold maxLen; omega⟩
  · exact ⟨_, c, rfl, h1, h2⟩
theorem own_other {w w' : World} {base k n b : Nat} {e T0 : TypeId} {v : Value} {xs : List Value} {cur : Array Value} (h : w.ownsRow base e k v n xs) (hb : w.heap[b]? = some (.cells cur T0 (0, 0))) (hne : e ≠ T0) (hg : w.grownBy w' (some b)) : w'.ownsRow base e k v n xs := by
  rcases h.2 with h2 | ⟨g, cap, cu, hv, h3, hG, r⟩
  · exact ⟨h.1, Or.inl h2⟩
  · have hlt := (Array.getElem?_eq_some_iff.1 hG).1
    refine ⟨h.1, Or.inr ⟨g, cap, cu, hv, h3, ?_, r⟩⟩
    rw [hg.block g hlt (by
      intro he
      simp at he
      subst he
      rw [hb] at hG
      simp at hG
      exact hne hG.2.symm)]
    exact hG
set_option maxRecDepth 100000 in
set_option maxHeartbeats 2000000 in
theorem l25Own_any (A : Option Addr) (n c lo hi : Nat) (f : Nat → Int) (I H S P : Int) (w : World) (hs : Sl w lo hi 4 A n f) (hn : n ≤ 1048576) (hnc : n ≤ c) (hz : A = none → n = 0 ∧ c = 0) :
    Calls Tryd.prog 62 #[.agg #[.slice A n c, .int .i64 I, .int .i64 H, .int .i64 S, .int .i64 P]] w (ownPost w f n I H S P) := by
  have HF : Hid (∀ w', Below (w.alloc (.cells #[.slice A n c, .int .i64 I, .int .i64 H, .int .i64 S, .int .i64 P] 26)).heap.size (w.alloc (.cells #[.slice A n c, .int .i64 I, .int .i64 H, .int .i64 S, .int .i64 P] 26)) w' → w'.cell? ⟨w.heap.size, 0, none⟩ = some (.slice A n c) ∧ w'.cell? ⟨w.heap.size, 1, none⟩ = some (.int .i64 I) ∧ w'.cell? ⟨w.heap.size, 2, none⟩ = some (.int .i64 H) ∧ w'.cell? ⟨w.heap.size, 3, none⟩ = some (.int .i64 S) ∧ w'.cell? ⟨w.heap.size, 4, none⟩ = some (.int .i64 P)) := fun w' hq => ⟨(hq.cell (p := ⟨w.heap.size, 0, none⟩) (by simp)).trans (by simp), (hq.cell (p := ⟨w.heap.size, 1, none⟩) (by simp)).trans (by simp), (hq.cell (p := ⟨w.heap.size, 2, none⟩) (by simp)).trans (by simp), (hq.cell (p := ⟨w.heap.size, 3, none⟩) (by simp)).trans (by simp), (hq.cell (p := ⟨w.heap.size, 4, none⟩) (by simp)).trans (by simp)⟩
  have HS : Hid (Sl (w.alloc (.cells #[.slice A n c, .int .i64 I, .int .i64 H, .int .i64 S, .int .i64 P] 26)) lo hi 4 A n f) := hs.below ((Below.refl _ w).alloc (Nat.le_refl _) _)
  have HBW : Hid (Below w.heap.size w (w.alloc (.cells #[.slice A n c, .int .i64 I, .int .i64 H, .int .i64 S, .int .i64 P] 26))) := (Below.refl _ w).alloc (Nat.le_refl _) _
  clear hs
  go_enter Tryd.func62, Tryd.ntmps62
  go_wp2_with fail
  refine wp_region_held_drew (S := fun w' => Below (w.alloc (.cells #[.slice A n c, .int .i64 I, .int .i64 H, .int .i64 S, .int .i64 P] 26)).heap.size (w.alloc (.cells #[.slice A n c, .int .i64 I, .int .i64 H, .int .i64 S, .int .i64 P] 26)) w') (by kernel_rfl) (((Below.refl _ (w.alloc (.cells #[.slice A n c, .int .i64 I, .int .i64 H, .int .i64 S, .int .i64 P] 26))).alloc (Nat.le_refl _) _).drew) (fun hHeld => ?_)
  have HR : Hid (((w.alloc (.cells #[.slice A n c, .int .i64 I, .int .i64 H, .int .i64 S, .int .i64 P] 26)).alloc (.cells #[.slice none 0 0, .int .i64 0, .int .i64 0, .int .i64 0, .int .i64 0] 26)).drew.heap[w.heap.size + 1]? = some (.cells #[.slice none 0 0, .int .i64 0, .int .i64 0, .int .i64 0, .int .i64 0] 26)) := by
    show ((w.alloc (.cells #[.slice A n c, .int .i64 I, .int .i64 H, .int .i64 S, .int .i64 P] 26)).alloc (.cells #[.slice none 0 0, .int .i64 0, .int .i64 0, .int .i64 0, .int .i64 0] 26)).heap[w.heap.size + 1]? = _
    rw [show w.heap.size + 1 = (w.alloc (.cells #[.slice A n c, .int .i64 I, .int .i64 H, .int .i64 S, .int .i64 P] 26)).heap.size by simp]
    exact heap_alloc_new (w.alloc (.cells #[.slice A n c, .int .i64 I, .int .i64 H, .int .i64 S, .int .i64 P] 26)) _
  have hsz : ((w.alloc (.cells #[.slice A n c, .int .i64 I, .int .i64 H, .int .i64 S, .int .i64 P] 26)).alloc (.cells #[.slice none 0 0, .int .i64 0, .int .i64 0, .int .i64 0, .int .i64 0] 26)).drew.heap.size = w.heap.size + 2 := by simp [World.drew]
  generalize ((w.alloc (.cells #[.slice A n c, .int .i64 I, .int .i64 H, .int .i64 S, .int .i64 P] 26)).alloc (.cells #[.slice none 0 0, .int .i64 0, .int .i64 0, .int .i64 0, .int .i64 0] 26)).drew = wz at *
  refine tk (v := ?_) 1 4 HF rfl ?_ hHeld ?_
  rotate_left; · (intro _ _ _; go_simp; try with_reducible rfl)
  simp only [Act.put, p1, p2, p3]
  refine tk (v := ?_) 2 5 HF rfl ?_ hHeld ?_
  rotate_left; · (intro _ _ _; go_simp; try with_reducible rfl)
  simp only [Act.put, p1, p2, p3]
  refine tk (v := ?_) 4 7 HF rfl ?_ hHeld ?_
  rotate_left; · (intro _ _ _; go_simp; try with_reducible rfl)
  simp only [Act.put, p1, p2, p3]
  refine tk (v := ?_) 5 8 HF rfl ?_ hHeld ?_
  rotate_left; · (intro _ _ _; go_simp; try with_reducible rfl)
  simp only [Act.put, p1, p2, p3]
  refine tk (v := ?_) 6 9 HF rfl ?_ hHeld ?_
  rotate_left; · (intro _ _ _; go_simp; try with_reducible rfl)
  simp only [Act.put, p1, p2, p3]
  refine tk (v := ?_) 7 10 HF rfl ?_ hHeld ?_
  rotate_left; · (intro _ _ _; go_simp; try with_reducible rfl)
  simp only [Act.put, p1, p2, p3]
  refine tk (v := ?_) 8 11 HF rfl ?_ hHeld ?_
  rotate_left; · (intro _ _ _; go_simp; try with_reducible rfl)
  simp only [Act.put, p1, p2, p3]
  refine tk (v := ?_) 9 12 HF rfl ?_ hHeld ?_
  rotate_left; · (intro _ _ _; go_simp; try with_reducible rfl)
  simp only [Act.put, p1, p2, p3]
  refine tk (v := ?_) 10 13 HF rfl ?_ hHeld ?_
  rotate_left; · (intro _ _ _; go_simp; try with_reducible rfl)
  simp only [Act.put, p1, p2, p3]
  refine tk (v := ?_) 11 14 HF rfl ?_ hHeld ?_
  rotate_left; · (intro _ _ _; go_simp; try with_reducible rfl)
  simp only [Act.put, p1, p2, p3]
  refine wpAnyH_new (fuel := 3) (i := 0) (d := 3) (obj := .cells #[] 48) (v := .slice (some ⟨wz.heap.size, 0, none⟩) 0 0) rfl ⟨rfl, rfl⟩ (by kernel_rfl) hHeld (by go_simp; try rfl) ?_
  intro hHeld2
  have hro := World.ownsRow_made (base := (w.alloc (.cells #[.slice A n c, .int .i64 I, .int .i64 H, .int .i64 S, .int .i64 P] 26)).heap.size) (e := 48) (size := 4) wz #[] 0 hHeld.size (Nat.zero_le _) (by simp)
  refine wpAnyH_app (fuel := 2) (i := 3) (ds := 3) (d := 6) (j := 5) rfl (by kernel_rfl) 48 4 32 (.agg #[.int .i64 0, .int .i64 0, .int .i64 0, .int .i64 0]) Tryd.underlying24 infoPan rfl (by decide) (by decide) [] (cellsL f n) 0 n c _ A rfl rfl hHeld2 hro (Sl.src (HS.out.below hHeld2) hz) (by omega) ?n1
  case n1 =>
    intro v' w3 hown3 hB3 hgrow3
    replace hgrow3 : (wz.alloc (.cells #[] 48)).grownBy w3 (some wz.heap.size) := hgrow3
    rw [Nat.zero_add, List.nil_append] at hown3
    obtain ⟨A', c', rfl, hnc', hcm'⟩ := row_slice hown3
    have HO3 := Lib.hid hown3
    clear hown3 hro hHeld2
    have hHeld := hB3
    have hr3 : w3.heap[w.heap.size + 1]? = some (.cells #[.slice none 0 0, .int .i64 0, .int .i64 0, .int .i64 0, .int .i64 0] 26) := (hgrow3.block _ (by simp; omega) (by intro he; simp at he; omega)).trans (by rw [heap_alloc_old _ _ (by omega)]; exact HR.out)
    simp only [Act.put, p1, p2, p3]
    refine tk (v := ?_) 12 15 HF rfl ?_ hHeld ?_
    rotate_left; · (intro _ _ _; go_simp; try with_reducible rfl)
    simp only [Act.put, p1, p2, p3]
    refine wpAnyH_store (fuel := 0) (i := 13) rfl (by kernel_rfl) (w.heap.size + 1) 0 (.agg #[.slice A' n c', .int .i64 I, .int .i64 H, .int .i64 S, .int .i64 P]) 26 #[.slice none 0 0, .int .i64 0, .int .i64 0, .int .i64 0, .int .i64 0] rfl rfl ?i1 hr3 ?f1 ?a1 (fun w' hg => hHeld.grown hg hHeld.size (fun k hk => by cases hk; simp)) ?k1
    case i1 => exact infoWorks
    case f1 => exact Nat.le_refl 5
    case a1 => simp [Value.cells, Value.oneCell']
    case k1 =>
      intro w4 h4 hg4 hHeld4
      refine wpAnyH_done (by kernel_rfl) ?_ _
      have h4' : w4.heap[w.heap.size + 1]? = some (.cells #[.slice A' n c', .int .i64 I, .int .i64 H, .int .i64 S, .int .i64 P] 26) := h4
      have r0 : w4.cell? ⟨w.heap.size + 1, 0, none⟩ = some (.slice A' n c') := by rw [cell_of_row w4 (w.heap.size + 1) 0 _ _ (0, 0) h4']; rfl
      have r1 : w4.cell? ⟨w.heap.size + 1, 1, none⟩ = some (.int .i64 I) := by rw [cell_of_row w4 (w.heap.size + 1) 1 _ _ (0, 0) h4']; rfl
      have r2 : w4.cell? ⟨w.heap.size + 1, 2, none⟩ = some (.int .i64 H) := by rw [cell_of_row w4 (w.heap.size + 1) 2 _ _ (0, 0) h4']; rfl
      have r3 : w4.cell? ⟨w.heap.size + 1, 3, none⟩ = some (.int .i64 S) := by rw [cell_of_row w4 (w.heap.size + 1) 3 _ _ (0, 0) h4']; rfl
      have r4 : w4.cell? ⟨w.heap.size + 1, 4, none⟩ = some (.int .i64 P) := by rw [cell_of_row w4 (w.heap.size + 1) 4 _ _ (0, 0) h4']; rfl
      have hX4 : Below w.heap.size w w4 := HBW.out.trans (hHeld4.mono HBW.out.size)
      have hO4 := ownsRow_monoP (own_other HO3.out hr3 (by decide) hg4) HBW.out.size
      clear h4 h4' hg4 hHeld4 HO3 hr3 hHeld hB3 hgrow3 HF HS HR hsz
      go_wp2
      try simp only [Exit.inBlock, Exit.then]
      refine bodyPost_ret (by simp [results, Tryd.results62, go_sem, r0, r1, r2, r3, r4]; try rfl) rfl ?_
      exact ⟨A', c', rfl, hnc', hcm', hO4, hX4⟩
end Go.Proofs.YtjkockhldaacbaaDoor
