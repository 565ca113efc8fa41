/-
  The reference's step of one pan, where it takes brine.
-/
import Derived.Test.YtjkockhldaacbaaDoorPk1
import Derived.Test.YtjkockhldaacbaaDoorPutRow
import Derived.Test.YtjkockhldaacbaaDoorBrineW
namespace Go.Proofs.YtjkockhldaacbaaDoor
open Go.RowKit Go.Sort
set_option linter.unusedVariables false
set_option linter.unusedSimpArgs false
attribute [local go_sem ↓] Go.wp_at_zero Go.wp_at_succ
def takeV (z : Int) : Int := wrap64 ((wrap64 (z * 35)).tdiv 1000)
set_option maxRecDepth 100000 in
set_option maxHeartbeats 2000000 in
theorem l25Pan_take (A : Option Addr) (n c lo hi : Nat) (f : Nat → Int) (I H S P : Int) (id tt0 z : Int) (i : Nat) (hi' : i < n) (w : World) (hs : Sl w lo hi 4 A n f) (hn : n ≤ 1048576) (hnc : n ≤ c) :
    Calls Tryd.prog 64 #[.agg #[.slice A n c, .int .i64 I, .int .i64 H, .int .i64 S, .int .i64 P], .agg #[.int .i64 2, .int .i64 id, .int .i64 tt0, .int .i64 z], .int .i64 i] w (panPost w (setB f i (wrap64 (f (i * 4 + 2) + wrap64 (z - (takeV z)))) (wrap64 (f (i * 4 + 3) + (takeV z)))) n (wrap64 (I + (takeV z))) H S P true) := by
  unfold takeV
  have hX : Below w.heap.size w (((w.alloc (.cells #[.slice A n c, .int .i64 I, .int .i64 H, .int .i64 S, .int .i64 P] 26)).alloc (.cells #[.int .i64 2, .int .i64 id, .int .i64 tt0, .int .i64 z] 34)).alloc (.cells #[.slice none 0 0, .int .i64 0, .int .i64 0, .int .i64 0, .int .i64 0] 26)) := (((Below.refl _ w).alloc (Nat.le_refl _) _).alloc (by simp) _).alloc (by simp; omega) _
  have HS : Hid (Sl (((w.alloc (.cells #[.slice A n c, .int .i64 I, .int .i64 H, .int .i64 S, .int .i64 P] 26)).alloc (.cells #[.int .i64 2, .int .i64 id, .int .i64 tt0, .int .i64 z] 34)).alloc (.cells #[.slice none 0 0, .int .i64 0, .int .i64 0, .int .i64 0, .int .i64 0] 26)) lo hi 4 A n f) := hs.below hX
  have HX := Lib.hid hX
  clear hs hX
  obtain ⟨b, off, rfl, hbw, _⟩ := HS.out.open_ (Below.refl _ _) (by omega)
  have HC : ∀ w', Below (((w.alloc (.cells #[.slice (some ⟨b, off, none⟩) n c, .int .i64 I, .int .i64 H, .int .i64 S, .int .i64 P] 26)).alloc (.cells #[.int .i64 2, .int .i64 id, .int .i64 tt0, .int .i64 z] 34)).alloc (.cells #[.slice none 0 0, .int .i64 0, .int .i64 0, .int .i64 0, .int .i64 0] 26)).heap.size (((w.alloc (.cells #[.slice (some ⟨b, off, none⟩) n c, .int .i64 I, .int .i64 H, .int .i64 S, .int .i64 P] 26)).alloc (.cells #[.int .i64 2, .int .i64 id, .int .i64 tt0, .int .i64 z] 34)).alloc (.cells #[.slice none 0 0, .int .i64 0, .int .i64 0, .int .i64 0, .int .i64 0] 26)) w' → w'.cell? ⟨b, off + i * 4 + 2, none⟩ = some (.int .i64 (f (i * 4 + 2))) ∧ w'.cell? ⟨b, off + i * 4 + 3, none⟩ = some (.int .i64 (f (i * 4 + 3))) := by
    intro w' hq
    obtain ⟨_, HC⟩ := HS.out.open_at hq (by omega)
    obtain ⟨c0, c1, c2, c3⟩ := cell4 HC hi'
    exact ⟨c2, c3⟩
  have HF : Hid (∀ w', Below (((w.alloc (.cells #[.slice (some ⟨b, off, none⟩) n c, .int .i64 I, .int .i64 H, .int .i64 S, .int .i64 P] 26)).alloc (.cells #[.int .i64 2, .int .i64 id, .int .i64 tt0, .int .i64 z] 34)).alloc (.cells #[.slice none 0 0, .int .i64 0, .int .i64 0, .int .i64 0, .int .i64 0] 26)).heap.size (((w.alloc (.cells #[.slice (some ⟨b, off, none⟩) n c, .int .i64 I, .int .i64 H, .int .i64 S, .int .i64 P] 26)).alloc (.cells #[.int .i64 2, .int .i64 id, .int .i64 tt0, .int .i64 z] 34)).alloc (.cells #[.slice none 0 0, .int .i64 0, .int .i64 0, .int .i64 0, .int .i64 0] 26)) w' → w'.cell? ⟨w.heap.size, 0, none⟩ = some (.slice (some ⟨b, off, none⟩) n c) ∧ w'.cell? ⟨w.heap.size, 1, none⟩ = some (.int .i64 I) ∧ w'.cell? ⟨w.heap.size, 2, none⟩ = some (.int .i64 H) ∧ w'.cell? ⟨w.heap.size, 3, none⟩ = some (.int .i64 S) ∧ w'.cell? ⟨w.heap.size, 4, none⟩ = some (.int .i64 P) ∧ w'.cell? ⟨b, off + i * 4 + 2, none⟩ = some (.int .i64 (f (i * 4 + 2))) ∧ w'.cell? ⟨b, off + i * 4 + 3, none⟩ = some (.int .i64 (f (i * 4 + 3)))) := fun w' hq => ⟨(hq.cell (p := ⟨w.heap.size, 0, none⟩) (by simp; omega)).trans (by go_simp), (hq.cell (p := ⟨w.heap.size, 1, none⟩) (by simp; omega)).trans (by go_simp), (hq.cell (p := ⟨w.heap.size, 2, none⟩) (by simp; omega)).trans (by go_simp), (hq.cell (p := ⟨w.heap.size, 3, none⟩) (by simp; omega)).trans (by go_simp), (hq.cell (p := ⟨w.heap.size, 4, none⟩) (by simp; omega)).trans (by go_simp), (HC w' hq).1, (HC w' hq).2⟩
  have hi0 : (0 : Int) ≤ (i : Int) := by omega
  have hin : (i : Int) < (n : Int) := by omega
  clear HC
  go_enter Tryd.func64, Tryd.ntmps64
  go_wp2_with fail
  refine wp_region_held_drew (S := fun w' => Below (((w.alloc (.cells #[.slice (some ⟨b, off, none⟩) n c, .int .i64 I, .int .i64 H, .int .i64 S, .int .i64 P] 26)).alloc (.cells #[.int .i64 2, .int .i64 id, .int .i64 tt0, .int .i64 z] 34)).alloc (.cells #[.slice none 0 0, .int .i64 0, .int .i64 0, .int .i64 0, .int .i64 0] 26)).heap.size (((w.alloc (.cells #[.slice (some ⟨b, off, none⟩) n c, .int .i64 I, .int .i64 H, .int .i64 S, .int .i64 P] 26)).alloc (.cells #[.int .i64 2, .int .i64 id, .int .i64 tt0, .int .i64 z] 34)).alloc (.cells #[.slice none 0 0, .int .i64 0, .int .i64 0, .int .i64 0, .int .i64 0] 26)) w') (by kernel_rfl) ((Below.refl _ (((w.alloc (.cells #[.slice (some ⟨b, off, none⟩) n c, .int .i64 I, .int .i64 H, .int .i64 S, .int .i64 P] 26)).alloc (.cells #[.int .i64 2, .int .i64 id, .int .i64 tt0, .int .i64 z] 34)).alloc (.cells #[.slice none 0 0, .int .i64 0, .int .i64 0, .int .i64 0, .int .i64 0] 26))).drew) (fun hHeld => ?_)
  refine tk (v := ?_) 0 13 HF rfl ?_ hHeld ?_
  rotate_left; · (intro _ _ _; go_simp; try with_reducible rfl)
  simp only [Act.put, p1, p2, p3]
  refine tk (v := ?_) 2 15 HF rfl ?_ hHeld ?_
  rotate_left; · (intro _ _ _; go_simp; try with_reducible rfl)
  simp only [Act.put, p1, p2, p3]
  refine tk (v := ?_) 4 17 HF rfl ?_ hHeld ?_
  rotate_left; · (intro _ _ _; go_simp; try with_reducible rfl)
  simp only [Act.put, p1, p2, p3]
  refine tk (v := ?_) 3 16 HF rfl ?_ hHeld ?_
  rotate_left; · (intro _ _ _; go_simp; try with_reducible rfl)
  simp only [Act.put, p1, p2, p3]
  refine tk (v := ?_) 5 18 HF rfl ?_ hHeld ?_
  rotate_left; · (intro _ _ _; go_simp; try with_reducible rfl)
  simp only [Act.put, p1, p2, p3]
  refine tk (v := ?_) 6 19 HF rfl ?_ hHeld ?_
  rotate_left; · (intro _ _ _; go_simp; try with_reducible rfl)
  simp only [Act.put, p1, p2, p3]
  refine tk (v := ?_) 7 20 HF rfl ?_ hHeld ?_
  rotate_left; · (intro _ _ _; go_simp; try with_reducible rfl)
  simp only [Act.put, p1, p2, p3]
  refine wpAnyH_three (fuel := 2) (i := 1) (j := 8) (k := 9) (di := 14) (dj := 8) (dk := 9) (skip := [14, 8, 9]) (Pi := (fun v w' => ∃ A' c', v = .agg #[.slice A' n c', .int .i64 I, .int .i64 H, .int .i64 S, .int .i64 P] ∧ n ≤ c' ∧ c' ≤ maxLen ∧ w'.ownsRow (((w.alloc (.cells #[.slice (some ⟨b, off, none⟩) n c, .int .i64 I, .int .i64 H, .int .i64 S, .int .i64 P] 26)).alloc (.cells #[.int .i64 2, .int .i64 id, .int .i64 tt0, .int .i64 z] 34)).alloc (.cells #[.slice none 0 0, .int .i64 0, .int .i64 0, .int .i64 0, .int .i64 0] 26)).heap.size 48 4 (.slice A' n c') n ((cellsL f n).map (Value.int .i64)))) rfl rfl rfl rfl rfl rfl (by decide) (by decide) (by decide) (by kernel_rfl) (by kernel_rfl) (by kernel_rfl) (by kernel_rfl) (by kernel_rfl) (by kernel_rfl) (by kernel_rfl) ?jc (Job.alloc (nb := (((w.alloc (.cells #[.slice (some ⟨b, off, none⟩) n c, .int .i64 I, .int .i64 H, .int .i64 S, .int .i64 P] 26)).alloc (.cells #[.int .i64 2, .int .i64 id, .int .i64 tt0, .int .i64 z] 34)).alloc (.cells #[.slice none 0 0, .int .i64 0, .int .i64 0, .int .i64 0, .int .i64 0] 26)).heap.size) (obj := .cells #[.slice none 0 0, .int .i64 0, .int .i64 0, .int .i64 0, .int .i64 0] 26) rfl (fun _ h => h.size) (fun a' w1 => by go_simp; try rfl)) (Job.alloc (nb := (((w.alloc (.cells #[.slice (some ⟨b, off, none⟩) n c, .int .i64 I, .int .i64 H, .int .i64 S, .int .i64 P] 26)).alloc (.cells #[.int .i64 2, .int .i64 id, .int .i64 tt0, .int .i64 z] 34)).alloc (.cells #[.slice none 0 0, .int .i64 0, .int .i64 0, .int .i64 0, .int .i64 0] 26)).heap.size) (obj := .cells #[.int .i64 0, .int .i64 0] 46) rfl (fun _ h => h.size) (fun a' w1 => by go_simp; try rfl)) ?stc stays_alloc stays_alloc below_stays hHeld ?nx
  case stc =>
    rintro v w1 w2 ⟨A', c', e, h1, h2, h⟩ hb
    exact ⟨A', c', e, h1, h2, ownsRow_below h hb⟩
  case jc =>
    intro a' w1 K hev hb hK
    have h1 : a'.eval (.tmp 13) = .agg #[.slice (some ⟨b, off, none⟩) n c, .int .i64 I, .int .i64 H, .int .i64 S, .int .i64 P] := (hev 13 (by decide)).trans rfl
    have h2 : a'.tmps[13]?.getD undef = .agg #[.slice (some ⟨b, off, none⟩) n c, .int .i64 I, .int .i64 H, .int .i64 S, .int .i64 P] := by simpa [Act.eval] using h1
    have HK := Lib.hid hK
    have HSL := Lib.hid (HS.out.below hb)
    have hbs := hb.size
    clear hev h1 hK HF
    go_simp
    go_at_call 62
    refine (l25Own_any _ n c lo hi f I H S P w1 HSL.out hn hnc (by simp)).mono ?_
    rintro e w2 ⟨A', c', rfl, h3, h4, ho, hb2⟩
    exact HK.out _ w2 ⟨A', c', rfl, h3, h4, ownsRow_monoP ho hbs⟩ hb2
  case nx =>
  rintro vi vj vk w4 ⟨A', c', rfl, hnc', hcm', hO⟩ ⟨g8, rfl, l8, h8⟩ ⟨g9, rfl, l9, h9⟩ hB4 _
  obtain ⟨ga, rfl⟩ : ∃ ga, A' = some ⟨ga, 0, none⟩ := by
    rcases form_ofP hO with ⟨h0, _⟩ | ⟨g, gc, hv⟩
    · omega
    · cases hv; exact ⟨g, rfl⟩
  simp only [Act.put, p1, p2, p3]
  refine wpAnyH_store (fuel := 1) (i := 10) rfl (by kernel_rfl) g8 0 (.agg #[.slice (some ⟨ga, 0, none⟩) n c', .int .i64 I, .int .i64 H, .int .i64 S, .int .i64 P]) 26 #[.slice none 0 0, .int .i64 0, .int .i64 0, .int .i64 0, .int .i64 0] rfl rfl infoWorks h8 (Nat.le_refl 5) (by simp [Value.cells, Value.oneCell']) (fun w' hg => hB4.grown hg hB4.size (fun k hk => by cases hk; exact l8)) ?k8
  case k8 =>
  intro w5 h85 hg5 hB5
  have ne89 : g9 ≠ g8 := by
    intro e
    subst e
    rw [h8] at h9
    simp at h9
  have h95 := (hg5.block g9 (Array.getElem?_eq_some_iff.1 h9).1 (by simp [ne89])).trans h9
  have hO5 := own_other hO h8 (by decide) hg5
  refine wpAnyH_store (fuel := 0) (i := 11) rfl (by kernel_rfl) g9 0 (.agg #[.int .i64 (f (i * 4 + 2)), .int .i64 (f (i * 4 + 3))]) 46 #[.int .i64 0, .int .i64 0] rfl rfl infoBrine h95 (Nat.le_refl 2) (by simp [Value.cells, Value.oneCell']) (fun w' hg => hB5.grown hg hB5.size (fun k hk => by cases hk; exact l9)) ?k9
  case k9 =>
  intro w6 h96 hg6 hB6
  have h86 := (hg6.block g8 (Array.getElem?_eq_some_iff.1 h85).1 (by simp [Ne.symm ne89])).trans h85
  have hO6 := own_other hO5 h95 (by decide) hg6
  refine wpAnyH_done (by kernel_rfl) ?_ _
  obtain ⟨b0, b1, b2, b3, b4, c2, c3⟩ := HF.out w6 hB6
  have s0 : w6.cell? ⟨w.heap.size + 1, 0, none⟩ = some (.int .i64 2) := (hB6.cell (p := ⟨w.heap.size + 1, 0, none⟩) (by simp)).trans (by go_simp)
  have s1 : w6.cell? ⟨w.heap.size + 1, 1, none⟩ = some (.int .i64 id) := (hB6.cell (p := ⟨w.heap.size + 1, 1, none⟩) (by simp)).trans (by go_simp)
  have s2 : w6.cell? ⟨w.heap.size + 1, 2, none⟩ = some (.int .i64 tt0) := (hB6.cell (p := ⟨w.heap.size + 1, 2, none⟩) (by simp)).trans (by go_simp)
  have s3 : w6.cell? ⟨w.heap.size + 1, 3, none⟩ = some (.int .i64 z) := (hB6.cell (p := ⟨w.heap.size + 1, 3, none⟩) (by simp)).trans (by go_simp)
  have hr6 : w6.heap[w.heap.size + 1 + 1]? = some (.cells #[.slice none 0 0, .int .i64 0, .int .i64 0, .int .i64 0, .int .i64 0] 26) := (hB6.block (w.heap.size + 1 + 1) (by simp)).trans (by have := heap_alloc_new ((w.alloc (.cells #[.slice (some ⟨b, off, none⟩) n c, .int .i64 I, .int .i64 H, .int .i64 S, .int .i64 P] 26)).alloc (.cells #[.int .i64 2, .int .i64 id, .int .i64 tt0, .int .i64 z] 34)) (.cells #[.slice none 0 0, .int .i64 0, .int .i64 0, .int .i64 0, .int .i64 0] 26); simpa using this)
  have h86' : w6.heap[g8]? = some (.cells #[.slice (some ⟨ga, 0, none⟩) n c', .int .i64 I, .int .i64 H, .int .i64 S, .int .i64 P] 26) := h86
  have h96' : w6.heap[g9]? = some (.cells #[.int .i64 (f (i * 4 + 2)), .int .i64 (f (i * 4 + 3))] 46) := h96
  have e0 : w6.cell? ⟨g8, 0, none⟩ = some (.slice (some ⟨ga, 0, none⟩) n c') := by rw [cell_of_row w6 g8 0 _ _ (0, 0) h86']; rfl
  have e1 : w6.cell? ⟨g8, 1, none⟩ = some (.int .i64 I) := by rw [cell_of_row w6 g8 1 _ _ (0, 0) h86']; rfl
  have e2 : w6.cell? ⟨g8, 2, none⟩ = some (.int .i64 H) := by rw [cell_of_row w6 g8 2 _ _ (0, 0) h86']; rfl
  have e3 : w6.cell? ⟨g8, 3, none⟩ = some (.int .i64 S) := by rw [cell_of_row w6 g8 3 _ _ (0, 0) h86']; rfl
  have e4 : w6.cell? ⟨g8, 4, none⟩ = some (.int .i64 P) := by rw [cell_of_row w6 g8 4 _ _ (0, 0) h86']; rfl
  have ef : ∀ j, w6.frozen? ⟨g8, j, none⟩ = false := fun j => frozen_of_row w6 g8 j _ _ h86'
  have d0 : w6.cell? ⟨g9, 0, none⟩ = some (.int .i64 (f (i * 4 + 2))) := by rw [cell_of_row w6 g9 0 _ _ (0, 0) h96']; rfl
  have d1 : w6.cell? ⟨g9, 1, none⟩ = some (.int .i64 (f (i * 4 + 3))) := by rw [cell_of_row w6 g9 1 _ _ (0, 0) h96']; rfl
  have a2 : w6.cell? ⟨ga, i * 4 + 2, none⟩ = some (.int .i64 (f (i * 4 + 2))) := by rw [World.ownsRow.cellAt hO6 (i * 4 + 2) (by omega), List.getElem?_map, cellsL_at f n _ (by omega)]; rfl
  have a3 : w6.cell? ⟨ga, i * 4 + 3, none⟩ = some (.int .i64 (f (i * 4 + 3))) := by rw [World.ownsRow.cellAt hO6 (i * 4 + 3) (by omega), List.getElem?_map, cellsL_at f n _ (by omega)]; rfl
  have af : ∀ j, w6.frozen? ⟨ga, j, none⟩ = false := fun j => World.ownsRow.frozenAt hO6 j
  have nga : ga ≠ g8 := by
    intro e
    subst e
    exact row_ne hO6 h86' (by decide)
  have lga : (((w.alloc (.cells #[.slice (some ⟨b, off, none⟩) n c, .int .i64 I, .int .i64 H, .int .i64 S, .int .i64 P] 26)).alloc (.cells #[.int .i64 2, .int .i64 id, .int .i64 tt0, .int .i64 z] 34)).alloc (.cells #[.slice none 0 0, .int .i64 0, .int .i64 0, .int .i64 0, .int .i64 0] 26)).heap.size ≤ ga := (World.ownsRow.lt hO6 ga rfl).1
  have nga9 : ga ≠ g9 := by
    intro e
    subst e
    exact row_ne hO6 h96' (by decide)
  simp only [World.size_alloc] at lga l8 l9
  have nga0 : ga ≠ w.heap.size := by omega
  have mga0 : w.heap.size ≠ ga := by omega
  have nga1 : ga ≠ w.heap.size + 1 := by omega
  have mga1 : w.heap.size + 1 ≠ ga := by omega
  have nga2 : ga ≠ w.heap.size + 1 + 1 := by omega
  have mga2 : w.heap.size + 1 + 1 ≠ ga := by omega
  have ng80 : g8 ≠ w.heap.size := by omega
  have mg80 : w.heap.size ≠ g8 := by omega
  have ng81 : g8 ≠ w.heap.size + 1 := by omega
  have mg81 : w.heap.size + 1 ≠ g8 := by omega
  have ng82 : g8 ≠ w.heap.size + 1 + 1 := by omega
  have mg82 : w.heap.size + 1 + 1 ≠ g8 := by omega
  have ng90 : g9 ≠ w.heap.size := by omega
  have mg90 : w.heap.size ≠ g9 := by omega
  have ng91 : g9 ≠ w.heap.size + 1 := by omega
  have mg91 : w.heap.size + 1 ≠ g9 := by omega
  have ng92 : g9 ≠ w.heap.size + 1 + 1 := by omega
  have mg92 : w.heap.size + 1 + 1 ≠ g9 := by omega
  have nn1 : g8 ≠ ga := Ne.symm nga
  have nn2 : g9 ≠ ga := Ne.symm nga9
  have nn3 : g8 ≠ g9 := Ne.symm ne89
  have HO6 := Lib.hid hO6
  have HB6 := Lib.hid hB6
  have H86 := Lib.hid h86'
  have HR6 := Lib.hid hr6
  clear hO6 hB6 h86 h86' h96 h96' hg6 hg5 hB5 hB4 hO hO5 h8 h9 h85 h95 HF HS hr6 hHeld
  go_wp2_with fail
  generalize wrap64 ((wrap64 (z * 35)).tdiv 1000) = sv at *
  obtain ⟨cur, hcur, hcs, hput⟩ := row_open HO6.out
  have hfit : i * 4 + 2 + 2 ≤ cur.size := by omega
  have HF : Hid (∀ w', w6.grownBy w' (some ga) → w'.cell? ⟨g8, 0, none⟩ = some (.slice (some ⟨ga, 0, none⟩) n c') ∧ w'.cell? ⟨g9, 0, none⟩ = some (.int .i64 (f (i * 4 + 2))) ∧ w'.cell? ⟨g9, 1, none⟩ = some (.int .i64 (f (i * 4 + 3))) ∧ w'.cell? ⟨w.heap.size + 1, 3, none⟩ = some (.int .i64 z)) := by
    intro w' hq
    have y8 := hq.block g8 (World.block_lt_of_cell? _ _ e0) (by simp; omega)
    have y9 := hq.block g9 (World.block_lt_of_cell? _ _ d0) (by simp; omega)
    have ys := hq.block (w.heap.size + 1) (World.block_lt_of_cell? _ _ s3) (by simp; omega)
    exact ⟨(World.cell?_of_block (a := ⟨g8, 0, none⟩) y8).trans e0, (World.cell?_of_block (a := ⟨g9, 0, none⟩) y9).trans d0, (World.cell?_of_block (a := ⟨g9, 1, none⟩) y9).trans d1, (World.cell?_of_block (a := ⟨w.heap.size + 1, 3, none⟩) ys).trans s3⟩
  refine wp_region_held_drew (S := fun w' => w6.grownBy w' (some ga)) (by kernel_rfl) ⟨rfl, rfl, rfl, Nat.le_refl _, fun _ _ _ => rfl⟩ (fun hHeld => ?_)
  refine tk (v := ?_) 0 29 HF rfl ?_ hHeld ?_
  rotate_left; · (intro _ _ _; go_simp; try with_reducible rfl)
  simp only [Act.put, p1, p2, p3]
  refine tk (v := ?_) 2 31 HF rfl ?_ hHeld ?_
  rotate_left; · (intro _ _ _; go_simp; try with_reducible rfl)
  simp only [Act.put, p1, p2, p3]
  refine tk (v := ?_) 3 32 HF rfl ?_ hHeld ?_
  rotate_left; · (intro _ _ _; go_simp; try with_reducible rfl)
  simp only [Act.put, p1, p2, p3]
  refine tk (v := ?_) 4 33 HF rfl ?_ hHeld ?_
  rotate_left; · (intro _ _ _; go_simp; try with_reducible rfl)
  simp only [Act.put, p1, p2, p3]
  refine tk (v := ?_) 6 35 HF rfl ?_ hHeld ?_
  rotate_left; · (intro _ _ _; go_simp; try with_reducible rfl)
  simp only [Act.put, p1, p2, p3]
  refine tk (v := ?_) 8 37 HF rfl ?_ hHeld ?_
  rotate_left; · (intro _ _ _; go_simp; try with_reducible rfl)
  simp only [Act.put, p1, p2, p3]
  refine tk (v := ?_) 1 30 HF rfl ?_ hHeld ?_
  rotate_left; · (intro _ _ _; go_simp; try with_reducible rfl)
  simp only [Act.put, p1, p2, p3]
  refine tk (v := ?_) 5 34 HF rfl ?_ hHeld ?_
  rotate_left; · (intro _ _ _; go_simp; try with_reducible rfl)
  simp only [Act.put, p1, p2, p3]
  refine tk (v := ?_) 7 36 HF rfl ?_ hHeld ?_
  rotate_left; · (intro _ _ _; go_simp; try with_reducible rfl)
  simp only [Act.put, p1, p2, p3]
  refine tk (v := ?_) 9 38 HF rfl ?_ hHeld ?_
  rotate_left; · (intro _ _ _; go_simp; try with_reducible rfl)
  simp only [Act.put, p1, p2, p3]
  refine wpAnyH_job (fuel := 3) (i := 10) (d := 39) (skip := []) (Post := fun v _ => v = (.agg #[.int .i64 (wrap64 (f (i * 4 + 2) + wrap64 (z - sv))), .int .i64 (wrap64 (f (i * 4 + 3) + sv))])) rfl rfl (by kernel_rfl) ?jm but_stays hHeld ?nm
  case jm =>
    intro a' w1 K hev hb hK
    have h1 : a'.eval (.tmp 32) = .agg #[.int .i64 (f (i * 4 + 2)), .int .i64 (f (i * 4 + 3))] := (hev 32 (by decide)).trans rfl
    have h2 : a'.tmps[32]?.getD undef = .agg #[.int .i64 (f (i * 4 + 2)), .int .i64 (f (i * 4 + 3))] := by simpa [Act.eval] using h1
    have h3 : a'.eval (.tmp 38) = .agg #[.int .i64 (IntKind.i64.wrap (z - sv)), .int .i64 sv] := (hev 38 (by decide)).trans rfl
    rw [IntWalk.i64_left] at h3
    have h4 : a'.tmps[38]?.getD undef = .agg #[.int .i64 (wrap64 (z - sv)), .int .i64 sv] := by simpa [Act.eval] using h3
    have HK := Lib.hid hK
    clear hev h1 h3 hK HF
    go_simp
    go_at_call 80
    refine (l2Sum_any _ _ _ _ w1).mono ?_
    rintro e w2 ⟨rfl, hb2⟩
    exact HK.out _ w2 rfl hb2
  case nm =>
  rintro v w8 rfl hS8 hb8
  simp only [Act.put, p1, p2, p3]
  have hHeld := hS8
  refine tk (v := ?_) 11 40 HF rfl ?_ hHeld ?_
  rotate_left; · (intro _ _ _; go_simp; try with_reducible rfl)
  simp only [Act.put, p1, p2, p3]
  refine tk (v := ?_) 12 41 HF rfl ?_ hHeld ?_
  rotate_left; · (intro _ _ _; go_simp; try with_reducible rfl)
  simp only [Act.put, p1, p2, p3]
  have hcur8 : w8.heap[ga]? = some (.cells cur 48) := (hb8.block ga (Array.getElem?_eq_some_iff.1 hcur).1).trans hcur
  refine wpAnyH_store (fuel := 0) (i := 13) rfl (by kernel_rfl) ga (i * 4 + 2) (.agg #[.int .i64 (wrap64 (f (i * 4 + 2) + wrap64 (z - sv))), .int .i64 (wrap64 (f (i * 4 + 3) + sv))]) 48 cur rfl rfl infoBrine hcur8 hfit (by simp [Value.cells, Value.oneCell']) (fun w' hg => grown_trans hS8 hg) ?kt
  case kt =>
  intro w9 h9 hg9 hS9
  refine wpAnyH_done (by kernel_rfl) ?_ _
  rw [show putRow cur (i * 4 + 2) ((.agg #[.int .i64 (wrap64 (f (i * 4 + 2) + wrap64 (z - sv))), .int .i64 (wrap64 (f (i * 4 + 3) + sv))]) : Value).cells = _ from putRow_two cur _ _ _ hfit] at h9
  have t2 := hput w9 (i * 4 + 2) _ _ h9
  rw [cellsL_set, cellsL_set] at t2
  have h89 := (hS9.block g8 (Array.getElem?_eq_some_iff.1 H86.out).1 (by simp; omega)).trans H86.out
  have xr9 := (hS9.block (w.heap.size + 1 + 1) (Array.getElem?_eq_some_iff.1 HR6.out).1 (by simp; omega)).trans HR6.out
  have bx1 := (World.cell?_of_block (a := ⟨w.heap.size, 1, none⟩) (hS9.block w.heap.size (World.block_lt_of_cell? _ _ b1) (by simp; omega))).trans b1
  have B9 : Below w.heap.size w w9 := (HX.out.trans (HB6.out.mono HX.out.size)).grown hS9 (HX.out.trans (HB6.out.mono HX.out.size)).size (fun k hk => by cases hk; omega)
  clear e0 e1 e2 e3 e4 b0 b1 b2 b3 b4 s0 s1 s2 s3 c2 c3 d0 d1 a2 a3 af ef
  obtain ⟨e0, e1, e2, e3, e4⟩ := cells5 h89
  have ef : ∀ j, w9.frozen? ⟨g8, j, none⟩ = false := fun j => frozen_of_row w9 g8 j _ _ h89
  have T2 := Lib.hid t2
  have H89 := Lib.hid h89
  have XR9 := Lib.hid xr9
  have BB9 := Lib.hid B9
  clear t2 h89 xr9 B9 h9 hg9 hS9 hS8 hb8 hHeld HF hcur hcur8 hput hcs hfit HO6 H86 HR6 HB6
  go_upto_region 7 with fail
  refine name_wp ?_
  intro w7 hw7'
  have hw7 : w7 = w9.setCell ⟨g8, 1, none⟩ (.int .i64 (wrap64 (I + sv))) := hw7'
  clear hw7' e0 e1 e2 e3 e4 ef bx1
  have x8 : w7.heap[g8]? = some (.cells #[.slice (some ⟨ga, 0, none⟩) n c', .int .i64 (wrap64 (I + sv)), .int .i64 H, .int .i64 S, .int .i64 P] 26) := by
    rw [hw7]
    exact heap_setCell_same _ g8 1 #[.slice (some ⟨ga, 0, none⟩) n c', .int .i64 I, .int .i64 H, .int .i64 S, .int .i64 P] 26 _ H89.out
  have xr : w7.heap[w.heap.size + 1 + 1]? = some (.cells #[.slice none 0 0, .int .i64 0, .int .i64 0, .int .i64 0, .int .i64 0] 26) := by
    rw [hw7, heap_setCell_other _ _ _ _ mg82]
    exact XR9.out
  have B7 : Below w.heap.size w w7 := by
    rw [hw7]
    exact BB9.out.setCell (show w.heap.size ≤ g8 by omega) _
  have t3 := ownsRow_setCell_other (a := ⟨g8, 1, none⟩) T2.out (by simp [Value.ownBlock, nga]) (.int .i64 (wrap64 (I + sv)))
  rw [← hw7] at t3
  clear hw7 T2 H89 XR9 BB9
  have HO7 := Lib.hid t3
  have BB := Lib.hid B7
  clear t3 B7
  obtain ⟨e0, e1, e2, e3, e4⟩ := cells5 x8
  obtain ⟨r0, r1, r2, r3, r4⟩ := cells5 xr
  have rf : ∀ j, w7.frozen? ⟨w.heap.size + 1 + 1, j, none⟩ = false := fun j => frozen_of_row w7 (w.heap.size + 1 + 1) j _ _ xr
  clear x8 xr
  go_wp2
  obtain ⟨wq, hwq⟩ : ∃ wq, wq = (((((w7.setCell ⟨w.heap.size + 1 + 1, 0, none⟩ (.slice (some ⟨ga, 0, none⟩) n c')).setCell ⟨w.heap.size + 1 + 1, 1, none⟩ (.int .i64 (wrap64 (I + sv)))).setCell ⟨w.heap.size + 1 + 1, 2, none⟩ (.int .i64 H)).setCell ⟨w.heap.size + 1 + 1, 3, none⟩ (.int .i64 S)).setCell ⟨w.heap.size + 1 + 1, 4, none⟩ (.int .i64 P)) := ⟨_, rfl⟩
  rw [← hwq]
  have q0 : wq.cell? ⟨w.heap.size + 1 + 1, 0, none⟩ = some (.slice (some ⟨ga, 0, none⟩) n c') := by rw [hwq]; go_simp
  have q1 : wq.cell? ⟨w.heap.size + 1 + 1, 1, none⟩ = some (.int .i64 (wrap64 (I + sv))) := by rw [hwq]; go_simp
  have q2 : wq.cell? ⟨w.heap.size + 1 + 1, 2, none⟩ = some (.int .i64 H) := by rw [hwq]; go_simp
  have q3 : wq.cell? ⟨w.heap.size + 1 + 1, 3, none⟩ = some (.int .i64 S) := by rw [hwq]; go_simp
  have q4 : wq.cell? ⟨w.heap.size + 1 + 1, 4, none⟩ = some (.int .i64 P) := by rw [hwq]; go_simp
  have hBq : Below w.heap.size w wq := by
    rw [hwq]
    exact (((((BB.out.setCell (show w.heap.size ≤ w.heap.size + 1 + 1 by omega) _).setCell (show w.heap.size ≤ w.heap.size + 1 + 1 by omega) _).setCell (show w.heap.size ≤ w.heap.size + 1 + 1 by omega) _).setCell (show w.heap.size ≤ w.heap.size + 1 + 1 by omega) _).setCell (show w.heap.size ≤ w.heap.size + 1 + 1 by omega) _)
  have no : ∀ j : Nat, (.slice (some ⟨ga, 0, none⟩) n c' : Value).ownBlock ≠ some (⟨w.heap.size + 1 + 1, j, none⟩ : Addr).block := fun j => by simp [Value.ownBlock, nga2]
  have hOq := (ownsRow_setCell_other (ownsRow_setCell_other (ownsRow_setCell_other (ownsRow_setCell_other (ownsRow_setCell_other HO7.out (no 0) (.slice (some ⟨ga, 0, none⟩) n c')) (no 1) (.int .i64 (wrap64 (I + sv)))) (no 2) (.int .i64 H)) (no 3) (.int .i64 S)) (no 4) (.int .i64 P))
  rw [← hwq] at hOq
  clear hwq HO7 BB
  try simp only [Exit.inBlock, Exit.then]
  refine bodyPost_ret (by simp [results, Tryd.results64, go_sem, q0, q1, q2, q3, q4]; try rfl) rfl ?_
  exact ⟨_, c', rfl, hnc', hcm', ownsRow_monoP hOq HX.out.size, hBq⟩
end Go.Proofs.YtjkockhldaacbaaDoor
