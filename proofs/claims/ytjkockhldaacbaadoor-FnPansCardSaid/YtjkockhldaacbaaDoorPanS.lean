/-
  The reference's step of one pan, where it shuts the pan.
-/
import Derived.Test.YtjkockhldaacbaaDoorPk1
import Derived.Test.YtjkockhldaacbaaDoorPutRow
import Derived.Test.YtjkockhldaacbaaDoorBuildW
namespace Go.Proofs.YtjkockhldaacbaaDoor
open Go.RowKit Go.Sort
set_option linter.unusedVariables false
set_option linter.unusedSimpArgs false
attribute [local go_sem ↓] Go.wp_at_zero Go.wp_at_succ
def shutL (f : Nat → Int) (n i : Nat) : List Int := (cellsL f n).take (i * 4) ++ (cellsL f n).drop ((i + 1) * 4)
def panPostL (w : World) (L : List Int) (n : Nat) (I H S P : Int) (ok : Bool) (e : Ending) (w' : World) : Prop :=
  ∃ A' c', e = .returned (.tuple #[.agg #[.slice A' n c', .int .i64 I, .int .i64 H, .int .i64 S, .int .i64 P], .bool ok]) ∧ n ≤ c' ∧ c' ≤ maxLen ∧ w'.ownsRow w.heap.size 48 4 (.slice A' n c') n (L.map (Value.int .i64)) ∧ Below w.heap.size w w'
section
variable {P : Program} {md : Region.Mode} {ops : Array Oper} {Q : Exit → Act → World → Prop} {S : World → Prop} {nb : Nat}
theorem wpAnyH_newS {i d : Nat} {fuel : Nat} {listed : Array Bool} {a : Act} {w : World} {o : Oper} {obj : Obj} {v : Value} (ho : ops[i]? = some o) (hgd : o.guard = none ∧ o.dst = some d) (hr : Region.ready md ops listed = [i])
    (hC : Cls S nb) (hS : S w) (run : (execOp a.eval o).run P w = .ok (.value v) (w.alloc obj))
    (h : S (w.alloc obj) → wpAnyH P md ops Q S fuel (listed.setIfInBounds i true) (a.put (some d) v) (w.alloc obj)) :
    wpAnyH P md ops Q S (fuel + 1) listed a w := by
  refine wpAnyH_ready hr (by simp) (AllReadyH.cons ho (fun K hK => ?_) AllReadyH.nil)
  rw [if_pos (wanted_plain hgd.1)]
  refine oper_wp_value run ?_
  rw [hgd.2]
  have hB := hC.alloc _ obj hS
  exact hK.out _ _ hB (fun _ => h hB)
end
set_option maxRecDepth 100000 in
set_option maxHeartbeats 2000000 in
theorem l25Pan_shut (A : Option Addr) (n c lo hi : Nat) (f : Nat → Int) (I H S P : Int) (id tt0 z : Int) (i : Nat) (hi' : i < n) (w : World) (hs : Sl w lo hi 4 A n f) (hn : n ≤ 1048576) (hnc : n ≤ c) :
    Calls Tryd.prog 64 #[.agg #[.slice A n c, .int .i64 I, .int .i64 H, .int .i64 S, .int .i64 P], .agg #[.int .i64 7, .int .i64 id, .int .i64 tt0, .int .i64 z], .int .i64 i] w (panPostL w (shutL f n i) (n - 1) I H S (wrap64 (P + f (i * 4 + 3))) true) := by
  have hX : Below w.heap.size w (((w.alloc (.cells #[.slice A n c, .int .i64 I, .int .i64 H, .int .i64 S, .int .i64 P] 26)).alloc (.cells #[.int .i64 7, .int .i64 id, .int .i64 tt0, .int .i64 z] 34)).alloc (.cells #[.slice none 0 0, .int .i64 0, .int .i64 0, .int .i64 0, .int .i64 0] 26)) := (((Below.refl _ w).alloc (Nat.le_refl _) _).alloc (by simp) _).alloc (by simp; omega) _
  have HS : Hid (Sl (((w.alloc (.cells #[.slice A n c, .int .i64 I, .int .i64 H, .int .i64 S, .int .i64 P] 26)).alloc (.cells #[.int .i64 7, .int .i64 id, .int .i64 tt0, .int .i64 z] 34)).alloc (.cells #[.slice none 0 0, .int .i64 0, .int .i64 0, .int .i64 0, .int .i64 0] 26)) lo hi 4 A n f) := hs.below hX
  have HX := Lib.hid hX
  clear hs hX
  have HSK := HS
  obtain ⟨b, off, rfl, hbw, _⟩ := HS.out.open_ (Below.refl _ _) (by omega)
  have HC : ∀ w', Below (((w.alloc (.cells #[.slice (some ⟨b, off, none⟩) n c, .int .i64 I, .int .i64 H, .int .i64 S, .int .i64 P] 26)).alloc (.cells #[.int .i64 7, .int .i64 id, .int .i64 tt0, .int .i64 z] 34)).alloc (.cells #[.slice none 0 0, .int .i64 0, .int .i64 0, .int .i64 0, .int .i64 0] 26)).heap.size (((w.alloc (.cells #[.slice (some ⟨b, off, none⟩) n c, .int .i64 I, .int .i64 H, .int .i64 S, .int .i64 P] 26)).alloc (.cells #[.int .i64 7, .int .i64 id, .int .i64 tt0, .int .i64 z] 34)).alloc (.cells #[.slice none 0 0, .int .i64 0, .int .i64 0, .int .i64 0, .int .i64 0] 26)) w' → w'.cell? ⟨b, off + i * 4 + 2, none⟩ = some (.int .i64 (f (i * 4 + 2))) ∧ w'.cell? ⟨b, off + i * 4 + 3, none⟩ = some (.int .i64 (f (i * 4 + 3))) := by
    intro w' hq
    obtain ⟨_, HC⟩ := HS.out.open_at hq (by omega)
    obtain ⟨c0, c1, c2, c3⟩ := cell4 HC hi'
    exact ⟨c2, c3⟩
  have HF : Hid (∀ w', Below (((w.alloc (.cells #[.slice (some ⟨b, off, none⟩) n c, .int .i64 I, .int .i64 H, .int .i64 S, .int .i64 P] 26)).alloc (.cells #[.int .i64 7, .int .i64 id, .int .i64 tt0, .int .i64 z] 34)).alloc (.cells #[.slice none 0 0, .int .i64 0, .int .i64 0, .int .i64 0, .int .i64 0] 26)).heap.size (((w.alloc (.cells #[.slice (some ⟨b, off, none⟩) n c, .int .i64 I, .int .i64 H, .int .i64 S, .int .i64 P] 26)).alloc (.cells #[.int .i64 7, .int .i64 id, .int .i64 tt0, .int .i64 z] 34)).alloc (.cells #[.slice none 0 0, .int .i64 0, .int .i64 0, .int .i64 0, .int .i64 0] 26)) w' → w'.cell? ⟨w.heap.size, 0, none⟩ = some (.slice (some ⟨b, off, none⟩) n c) ∧ w'.cell? ⟨w.heap.size, 1, none⟩ = some (.int .i64 I) ∧ w'.cell? ⟨w.heap.size, 2, none⟩ = some (.int .i64 H) ∧ w'.cell? ⟨w.heap.size, 3, none⟩ = some (.int .i64 S) ∧ w'.cell? ⟨w.heap.size, 4, none⟩ = some (.int .i64 P) ∧ w'.cell? ⟨b, off + i * 4 + 2, none⟩ = some (.int .i64 (f (i * 4 + 2))) ∧ w'.cell? ⟨b, off + i * 4 + 3, none⟩ = some (.int .i64 (f (i * 4 + 3)))) := fun w' hq => ⟨(hq.cell (p := ⟨w.heap.size, 0, none⟩) (by simp; omega)).trans (by go_simp), (hq.cell (p := ⟨w.heap.size, 1, none⟩) (by simp; omega)).trans (by go_simp), (hq.cell (p := ⟨w.heap.size, 2, none⟩) (by simp; omega)).trans (by go_simp), (hq.cell (p := ⟨w.heap.size, 3, none⟩) (by simp; omega)).trans (by go_simp), (hq.cell (p := ⟨w.heap.size, 4, none⟩) (by simp; omega)).trans (by go_simp), (HC w' hq).1, (HC w' hq).2⟩
  have hi0 : (0 : Int) ≤ (i : Int) := by omega
  have hin : (i : Int) < (n : Int) := by omega
  clear HC
  go_enter Tryd.func64, Tryd.ntmps64
  go_wp2_with fail
  refine wp_region_held_drew (S := fun w' => Below (((w.alloc (.cells #[.slice (some ⟨b, off, none⟩) n c, .int .i64 I, .int .i64 H, .int .i64 S, .int .i64 P] 26)).alloc (.cells #[.int .i64 7, .int .i64 id, .int .i64 tt0, .int .i64 z] 34)).alloc (.cells #[.slice none 0 0, .int .i64 0, .int .i64 0, .int .i64 0, .int .i64 0] 26)).heap.size (((w.alloc (.cells #[.slice (some ⟨b, off, none⟩) n c, .int .i64 I, .int .i64 H, .int .i64 S, .int .i64 P] 26)).alloc (.cells #[.int .i64 7, .int .i64 id, .int .i64 tt0, .int .i64 z] 34)).alloc (.cells #[.slice none 0 0, .int .i64 0, .int .i64 0, .int .i64 0, .int .i64 0] 26)) w') (by kernel_rfl) ((Below.refl _ (((w.alloc (.cells #[.slice (some ⟨b, off, none⟩) n c, .int .i64 I, .int .i64 H, .int .i64 S, .int .i64 P] 26)).alloc (.cells #[.int .i64 7, .int .i64 id, .int .i64 tt0, .int .i64 z] 34)).alloc (.cells #[.slice none 0 0, .int .i64 0, .int .i64 0, .int .i64 0, .int .i64 0] 26))).drew) (fun hHeld => ?_)
  refine tk (v := ?_) 0 13 HF rfl ?_ hHeld ?_
  rotate_left; · (intro _ _ _; go_simp; try with_reducible rfl)
  simp only [Act.put, p1, p2, p3]
  refine tk (v := ?_) 2 15 HF rfl ?_ hHeld ?_
  rotate_left; · (intro _ _ _; go_simp; try with_reducible rfl)
  simp only [Act.put, p1, p2, p3]
  refine tk (v := ?_) 4 17 HF rfl ?_ hHeld ?_
  rotate_left; · (intro _ _ _; go_simp; try with_reducible rfl)
  simp only [Act.put, p1, p2, p3]
  refine tk (v := ?_) 3 16 HF rfl ?_ hHeld ?_
  rotate_left; · (intro _ _ _; go_simp; try with_reducible rfl)
  simp only [Act.put, p1, p2, p3]
  refine tk (v := ?_) 5 18 HF rfl ?_ hHeld ?_
  rotate_left; · (intro _ _ _; go_simp; try with_reducible rfl)
  simp only [Act.put, p1, p2, p3]
  refine tk (v := ?_) 6 19 HF rfl ?_ hHeld ?_
  rotate_left; · (intro _ _ _; go_simp; try with_reducible rfl)
  simp only [Act.put, p1, p2, p3]
  refine tk (v := ?_) 7 20 HF rfl ?_ hHeld ?_
  rotate_left; · (intro _ _ _; go_simp; try with_reducible rfl)
  simp only [Act.put, p1, p2, p3]
  refine wpAnyH_three (fuel := 2) (i := 1) (j := 8) (k := 9) (di := 14) (dj := 8) (dk := 9) (skip := [14, 8, 9]) (Pi := (fun v w' => ∃ A' c', v = .agg #[.slice A' n c', .int .i64 I, .int .i64 H, .int .i64 S, .int .i64 P] ∧ n ≤ c' ∧ c' ≤ maxLen ∧ w'.ownsRow (((w.alloc (.cells #[.slice (some ⟨b, off, none⟩) n c, .int .i64 I, .int .i64 H, .int .i64 S, .int .i64 P] 26)).alloc (.cells #[.int .i64 7, .int .i64 id, .int .i64 tt0, .int .i64 z] 34)).alloc (.cells #[.slice none 0 0, .int .i64 0, .int .i64 0, .int .i64 0, .int .i64 0] 26)).heap.size 48 4 (.slice A' n c') n ((cellsL f n).map (Value.int .i64)))) rfl rfl rfl rfl rfl rfl (by decide) (by decide) (by decide) (by kernel_rfl) (by kernel_rfl) (by kernel_rfl) (by kernel_rfl) (by kernel_rfl) (by kernel_rfl) (by kernel_rfl) ?jc (Job.alloc (nb := (((w.alloc (.cells #[.slice (some ⟨b, off, none⟩) n c, .int .i64 I, .int .i64 H, .int .i64 S, .int .i64 P] 26)).alloc (.cells #[.int .i64 7, .int .i64 id, .int .i64 tt0, .int .i64 z] 34)).alloc (.cells #[.slice none 0 0, .int .i64 0, .int .i64 0, .int .i64 0, .int .i64 0] 26)).heap.size) (obj := .cells #[.slice none 0 0, .int .i64 0, .int .i64 0, .int .i64 0, .int .i64 0] 26) rfl (fun _ h => h.size) (fun a' w1 => by go_simp; try rfl)) (Job.alloc (nb := (((w.alloc (.cells #[.slice (some ⟨b, off, none⟩) n c, .int .i64 I, .int .i64 H, .int .i64 S, .int .i64 P] 26)).alloc (.cells #[.int .i64 7, .int .i64 id, .int .i64 tt0, .int .i64 z] 34)).alloc (.cells #[.slice none 0 0, .int .i64 0, .int .i64 0, .int .i64 0, .int .i64 0] 26)).heap.size) (obj := .cells #[.int .i64 0, .int .i64 0] 46) rfl (fun _ h => h.size) (fun a' w1 => by go_simp; try rfl)) ?stc stays_alloc stays_alloc below_stays hHeld ?nx
  case stc =>
    rintro v w1 w2 ⟨A', c', e, h1, h2, h⟩ hb
    exact ⟨A', c', e, h1, h2, ownsRow_below h hb⟩
  case jc =>
    intro a' w1 K hev hb hK
    have h1 : a'.eval (.tmp 13) = .agg #[.slice (some ⟨b, off, none⟩) n c, .int .i64 I, .int .i64 H, .int .i64 S, .int .i64 P] := (hev 13 (by decide)).trans rfl
    have h2 : a'.tmps[13]?.getD undef = .agg #[.slice (some ⟨b, off, none⟩) n c, .int .i64 I, .int .i64 H, .int .i64 S, .int .i64 P] := by simpa [Act.eval] using h1
    have HK := Lib.hid hK
    have HSL := Lib.hid (HS.out.below hb)
    have hbs := hb.size
    clear hev h1 hK HF
    go_simp
    go_at_call 62
    refine (l25Own_any _ n c lo hi f I H S P w1 HSL.out hn hnc (by simp)).mono ?_
    rintro e w2 ⟨A', c', rfl, h3, h4, ho, hb2⟩
    exact HK.out _ w2 ⟨A', c', rfl, h3, h4, ownsRow_monoP ho hbs⟩ hb2
  case nx =>
  rintro vi vj vk w4 ⟨A', c', rfl, hnc', hcm', hO⟩ ⟨g8, rfl, l8, h8⟩ ⟨g9, rfl, l9, h9⟩ hB4 _
  obtain ⟨ga, rfl⟩ : ∃ ga, A' = some ⟨ga, 0, none⟩ := by
    rcases form_ofP hO with ⟨h0, _⟩ | ⟨g, gc, hv⟩
    · omega
    · cases hv; exact ⟨g, rfl⟩
  simp only [Act.put, p1, p2, p3]
  refine wpAnyH_store (fuel := 1) (i := 10) rfl (by kernel_rfl) g8 0 (.agg #[.slice (some ⟨ga, 0, none⟩) n c', .int .i64 I, .int .i64 H, .int .i64 S, .int .i64 P]) 26 #[.slice none 0 0, .int .i64 0, .int .i64 0, .int .i64 0, .int .i64 0] rfl rfl infoWorks h8 (Nat.le_refl 5) (by simp [Value.cells, Value.oneCell']) (fun w' hg => hB4.grown hg hB4.size (fun k hk => by cases hk; exact l8)) ?k8
  case k8 =>
  intro w5 h85 hg5 hB5
  have ne89 : g9 ≠ g8 := by
    intro e
    subst e
    rw [h8] at h9
    simp at h9
  have h95 := (hg5.block g9 (Array.getElem?_eq_some_iff.1 h9).1 (by simp [ne89])).trans h9
  have hO5 := own_other hO h8 (by decide) hg5
  refine wpAnyH_store (fuel := 0) (i := 11) rfl (by kernel_rfl) g9 0 (.agg #[.int .i64 (f (i * 4 + 2)), .int .i64 (f (i * 4 + 3))]) 46 #[.int .i64 0, .int .i64 0] rfl rfl infoBrine h95 (Nat.le_refl 2) (by simp [Value.cells, Value.oneCell']) (fun w' hg => hB5.grown hg hB5.size (fun k hk => by cases hk; exact l9)) ?k9
  case k9 =>
  intro w6 h96 hg6 hB6
  have h86 := (hg6.block g8 (Array.getElem?_eq_some_iff.1 h85).1 (by simp [Ne.symm ne89])).trans h85
  have hO6 := own_other hO5 h95 (by decide) hg6
  refine wpAnyH_done (by kernel_rfl) ?_ _
  obtain ⟨b0, b1, b2, b3, b4, c2, c3⟩ := HF.out w6 hB6
  have s0 : w6.cell? ⟨w.heap.size + 1, 0, none⟩ = some (.int .i64 7) := (hB6.cell (p := ⟨w.heap.size + 1, 0, none⟩) (by simp)).trans (by go_simp)
  have s1 : w6.cell? ⟨w.heap.size + 1, 1, none⟩ = some (.int .i64 id) := (hB6.cell (p := ⟨w.heap.size + 1, 1, none⟩) (by simp)).trans (by go_simp)
  have s2 : w6.cell? ⟨w.heap.size + 1, 2, none⟩ = some (.int .i64 tt0) := (hB6.cell (p := ⟨w.heap.size + 1, 2, none⟩) (by simp)).trans (by go_simp)
  have s3 : w6.cell? ⟨w.heap.size + 1, 3, none⟩ = some (.int .i64 z) := (hB6.cell (p := ⟨w.heap.size + 1, 3, none⟩) (by simp)).trans (by go_simp)
  have hr6 : w6.heap[w.heap.size + 1 + 1]? = some (.cells #[.slice none 0 0, .int .i64 0, .int .i64 0, .int .i64 0, .int .i64 0] 26) := (hB6.block (w.heap.size + 1 + 1) (by simp)).trans (by have := heap_alloc_new ((w.alloc (.cells #[.slice (some ⟨b, off, none⟩) n c, .int .i64 I, .int .i64 H, .int .i64 S, .int .i64 P] 26)).alloc (.cells #[.int .i64 7, .int .i64 id, .int .i64 tt0, .int .i64 z] 34)) (.cells #[.slice none 0 0, .int .i64 0, .int .i64 0, .int .i64 0, .int .i64 0] 26); simpa using this)
  have h86' : w6.heap[g8]? = some (.cells #[.slice (some ⟨ga, 0, none⟩) n c', .int .i64 I, .int .i64 H, .int .i64 S, .int .i64 P] 26) := h86
  have h96' : w6.heap[g9]? = some (.cells #[.int .i64 (f (i * 4 + 2)), .int .i64 (f (i * 4 + 3))] 46) := h96
  have e0 : w6.cell? ⟨g8, 0, none⟩ = some (.slice (some ⟨ga, 0, none⟩) n c') := by rw [cell_of_row w6 g8 0 _ _ (0, 0) h86']; rfl
  have e1 : w6.cell? ⟨g8, 1, none⟩ = some (.int .i64 I) := by rw [cell_of_row w6 g8 1 _ _ (0, 0) h86']; rfl
  have e2 : w6.cell? ⟨g8, 2, none⟩ = some (.int .i64 H) := by rw [cell_of_row w6 g8 2 _ _ (0, 0) h86']; rfl
  have e3 : w6.cell? ⟨g8, 3, none⟩ = some (.int .i64 S) := by rw [cell_of_row w6 g8 3 _ _ (0, 0) h86']; rfl
  have e4 : w6.cell? ⟨g8, 4, none⟩ = some (.int .i64 P) := by rw [cell_of_row w6 g8 4 _ _ (0, 0) h86']; rfl
  have ef : ∀ j, w6.frozen? ⟨g8, j, none⟩ = false := fun j => frozen_of_row w6 g8 j _ _ h86'
  have d0 : w6.cell? ⟨g9, 0, none⟩ = some (.int .i64 (f (i * 4 + 2))) := by rw [cell_of_row w6 g9 0 _ _ (0, 0) h96']; rfl
  have d1 : w6.cell? ⟨g9, 1, none⟩ = some (.int .i64 (f (i * 4 + 3))) := by rw [cell_of_row w6 g9 1 _ _ (0, 0) h96']; rfl
  have a2 : w6.cell? ⟨ga, i * 4 + 2, none⟩ = some (.int .i64 (f (i * 4 + 2))) := by rw [World.ownsRow.cellAt hO6 (i * 4 + 2) (by omega), List.getElem?_map, cellsL_at f n _ (by omega)]; rfl
  have a3 : w6.cell? ⟨ga, i * 4 + 3, none⟩ = some (.int .i64 (f (i * 4 + 3))) := by rw [World.ownsRow.cellAt hO6 (i * 4 + 3) (by omega), List.getElem?_map, cellsL_at f n _ (by omega)]; rfl
  have af : ∀ j, w6.frozen? ⟨ga, j, none⟩ = false := fun j => World.ownsRow.frozenAt hO6 j
  have nga : ga ≠ g8 := by
    intro e
    subst e
    exact row_ne hO6 h86' (by decide)
  have lga : (((w.alloc (.cells #[.slice (some ⟨b, off, none⟩) n c, .int .i64 I, .int .i64 H, .int .i64 S, .int .i64 P] 26)).alloc (.cells #[.int .i64 7, .int .i64 id, .int .i64 tt0, .int .i64 z] 34)).alloc (.cells #[.slice none 0 0, .int .i64 0, .int .i64 0, .int .i64 0, .int .i64 0] 26)).heap.size ≤ ga := (World.ownsRow.lt hO6 ga rfl).1
  have nga9 : ga ≠ g9 := by
    intro e
    subst e
    exact row_ne hO6 h96' (by decide)
  simp only [World.size_alloc] at lga l8 l9
  have nga0 : ga ≠ w.heap.size := by omega
  have mga0 : w.heap.size ≠ ga := by omega
  have nga1 : ga ≠ w.heap.size + 1 := by omega
  have mga1 : w.heap.size + 1 ≠ ga := by omega
  have nga2 : ga ≠ w.heap.size + 1 + 1 := by omega
  have mga2 : w.heap.size + 1 + 1 ≠ ga := by omega
  have ng80 : g8 ≠ w.heap.size := by omega
  have mg80 : w.heap.size ≠ g8 := by omega
  have ng81 : g8 ≠ w.heap.size + 1 := by omega
  have mg81 : w.heap.size + 1 ≠ g8 := by omega
  have ng82 : g8 ≠ w.heap.size + 1 + 1 := by omega
  have mg82 : w.heap.size + 1 + 1 ≠ g8 := by omega
  have ng90 : g9 ≠ w.heap.size := by omega
  have mg90 : w.heap.size ≠ g9 := by omega
  have ng91 : g9 ≠ w.heap.size + 1 := by omega
  have mg91 : w.heap.size + 1 ≠ g9 := by omega
  have ng92 : g9 ≠ w.heap.size + 1 + 1 := by omega
  have mg92 : w.heap.size + 1 + 1 ≠ g9 := by omega
  have nn1 : g8 ≠ ga := Ne.symm nga
  have nn2 : g9 ≠ ga := Ne.symm nga9
  have nn3 : g8 ≠ g9 := Ne.symm ne89
  have HO6 := Lib.hid hO6
  have HB6 := Lib.hid hB6
  have H86 := Lib.hid h86'
  have HR6 := Lib.hid hr6
  clear hO6 hB6 h86 h86' h96 h96' hg6 hg5 hB5 hB4 hO hO5 h8 h9 h85 h95 HF HS hr6 hHeld
  go_wp2_with fail
  have hg8 : g8 < w6.heap.size := (Array.getElem?_eq_some_iff.1 H86.out).1
  have hr6lt : w.heap.size + 1 + 1 < w6.heap.size := (Array.getElem?_eq_some_iff.1 HR6.out).1
  have HBw : Hid (∀ w', w6.grownBy w' (some g8) → Below (((w.alloc (.cells #[.slice (some ⟨b, off, none⟩) n c, .int .i64 I, .int .i64 H, .int .i64 S, .int .i64 P] 26)).alloc (.cells #[.int .i64 7, .int .i64 id, .int .i64 tt0, .int .i64 z] 34)).alloc (.cells #[.slice none 0 0, .int .i64 0, .int .i64 0, .int .i64 0, .int .i64 0] 26)).heap.size (((w.alloc (.cells #[.slice (some ⟨b, off, none⟩) n c, .int .i64 I, .int .i64 H, .int .i64 S, .int .i64 P] 26)).alloc (.cells #[.int .i64 7, .int .i64 id, .int .i64 tt0, .int .i64 z] 34)).alloc (.cells #[.slice none 0 0, .int .i64 0, .int .i64 0, .int .i64 0, .int .i64 0] 26)) w') := fun w' hq => HB6.out.grown hq HB6.out.size (fun k hk => by cases hk; simp only [World.size_alloc]; exact l8)
  have HF : Hid (∀ w', w6.grownBy w' (some g8) ∧ (∃ V, w'.heap[g8]? = some (.cells #[V, .int .i64 I, .int .i64 H, .int .i64 S, .int .i64 P] 26)) → w'.cell? ⟨w.heap.size, 0, none⟩ = some (.slice (some ⟨b, off, none⟩) n c)) := by
    rintro w' ⟨hq, _⟩
    exact (World.cell?_of_block (a := ⟨w.heap.size, 0, none⟩) (hq.block _ (World.block_lt_of_cell? _ _ b0) (by simp; omega))).trans b0
  clear a2 a3 af c2 c3 HO6 HB6
  obtain ⟨q, hq⟩ : ∃ q, q = i + 1 := ⟨_, rfl⟩
  have hqw : IntKind.i64.wrap ((i : Int) + 1) = (q : Int) := by rw [IntWalk.i64_in _ (by omega)]; omega
  have hq0 : (0 : Int) ≤ (q : Int) := by omega
  have hqn : (q : Int) ≤ (n : Int) := by omega
  have hqc : (q : Int) ≤ (c : Int) := by omega
  have hqnn : q ≤ n := by omega
  have hqcn : q ≤ c := by omega
  have hic : (i : Int) ≤ (c : Int) := by omega
  have hicn : i ≤ c := by omega
  have hq1 : q ≤ i + 1 := by omega
  have hq2 : i + 1 ≤ q := by omega
  have HL := Lib.hid (show (cellsL f n).take (i * 4) ++ (cellsL f n).drop (q * 4) = shutL f n i by rw [hq]; rfl)
  clear hq
  by_cases hck : c = q
  · subst hck
    refine wp_region_held_drew (S := (fun w' => w6.grownBy w' (some g8) ∧ ∃ V, w'.heap[g8]? = some (.cells #[V, .int .i64 I, .int .i64 H, .int .i64 S, .int .i64 P] 26))) (by kernel_rfl) ⟨⟨rfl, rfl, rfl, Nat.le_refl _, fun _ _ _ => rfl⟩, _, H86.out⟩ (fun hHeld => ?_)
    refine tk (v := ?_) 1 127 HF rfl ?_ hHeld ?_
    rotate_left; · (intro _ _ _; go_simp; try with_reducible rfl)
    simp only [Act.put, p1, p2, p3]
    refine tk (v := ?_) 3 129 HF rfl ?_ hHeld ?_
    rotate_left; · (intro _ _ _; go_simp; try with_reducible rfl)
    simp only [Act.put, p1, p2, p3]
    refine tk (v := ?_) 6 132 HF rfl ?_ hHeld ?_
    rotate_left; · (intro _ _ _; go_simp; try with_reducible rfl)
    simp only [Act.put, p1, p2, p3]
    refine tk (v := ?_) 8 134 HF rfl ?_ hHeld ?_
    rotate_left; · (intro _ _ _; go_simp; try with_reducible rfl)
    simp only [Act.put, p1, p2, p3]
    refine tk (v := ?_) 2 128 HF rfl ?_ hHeld ?_
    rotate_left; · (intro _ _ _; go_simp; try with_reducible rfl)
    simp only [Act.put, p1, p2, p3]
    refine tk (v := ?_) 7 133 HF rfl ?_ hHeld ?_
    rotate_left; · (intro _ _ _; go_simp; try with_reducible rfl)
    simp only [Act.put, p1, p2, p3]
    refine tk (v := ?_) 9 135 HF rfl ?_ hHeld ?_
    rotate_left; · (intro _ _ _; go_simp; try with_reducible rfl)
    simp only [Act.put, p1, p2, p3]
    refine tk (v := ?_) 4 130 HF rfl ?_ hHeld ?_
    rotate_left; · (intro _ _ _; go_simp; try with_reducible rfl)
    simp only [Act.put, p1, p2, p3]
    refine tk (v := ?_) 10 136 HF rfl ?_ hHeld ?_
    rotate_left; · (intro _ _ _; go_simp; try with_reducible rfl)
    simp only [Act.put, p1, p2, p3]
    refine wpAnyH_newS (fuel := 4) (i := 0) (d := 126) (obj := .cells #[] 48) (v := .slice (some ⟨w6.drew.heap.size, 0, none⟩) 0 0) rfl ⟨rfl, rfl⟩ (by kernel_rfl) (cls_but.box (r := g8) hg8 (fun o => ∃ V, o = some (.cells #[V, .int .i64 I, .int .i64 H, .int .i64 S, .int .i64 P] 26))) hHeld (by go_simp; try rfl) ?_
    intro hHeld2
    have hro := World.ownsRow_made (base := w6.heap.size) (e := 48) (size := 4) w6.drew #[] 0 (Nat.le_refl _) (Nat.zero_le _) (by simp)
    refine wpAnyH_appS (fuel := 3) (i := 5) (ds := 126) (d := 131) (j := 130) rfl (by kernel_rfl) 48 4 32 (.agg #[.int .i64 0, .int .i64 0, .int .i64 0, .int .i64 0]) Tryd.underlying24 infoPan rfl (by decide) (by decide) [] ((cellsL f n).take (i * 4)) 0 i c _ (some ⟨b, off, none⟩) rfl rfl (cls_but.box (r := g8) hg8 (fun o => ∃ V, o = some (.cells #[V, .int .i64 I, .int .i64 H, .int .i64 S, .int .i64 P] 26))) hHeld2 hro (Sl.srcTake (HSK.out.below (HBw.out _ hHeld2.1)) (by simp) (by omega)) (by omega) ?a1a
    case a1a =>
    intro v1 w1 hown1 hS1 hgr1
    rw [Nat.zero_add, List.nil_append] at hown1
    clear hro hHeld hHeld2 hgr1
    simp only [Act.put, p1, p2, p3]
    refine wpAnyH_appS (fuel := 2) (i := 11) (ds := 131) (d := 137) (j := 136) rfl (by kernel_rfl) 48 4 32 (.agg #[.int .i64 0, .int .i64 0, .int .i64 0, .int .i64 0]) Tryd.underlying24 infoPan rfl (by decide) (by decide) ((cellsL f n).take (i * 4)) ((cellsL f n).drop (c * 4)) i (0) (0) v1 (some ⟨b, off, none⟩) rfl rfl (cls_but.box (r := g8) hg8 (fun o => ∃ V, o = some (.cells #[V, .int .i64 I, .int .i64 H, .int .i64 S, .int .i64 P] 26))) hS1 hown1 (Src.none_of (by rw [List.drop_of_length_le (by rw [cellsL_len]; omega)]) (by simp)) (by omega) ?a2a
    case a2a =>
    intro v2 w2 hown2 hS2 hgr2
    clear hgr2 hown1 hS1
    rw [show i + (0) = n - 1 by omega] at hown2
    obtain ⟨A', c2, rfl, hc1, hc2⟩ := row_slice hown2
    simp only [Act.put, p1, p2, p3]
    have hHeld := hS2
    refine tk (v := ?_) 12 138 HF rfl ?_ hHeld ?_
    rotate_left; · (intro _ _ _; go_simp; try with_reducible rfl)
    simp only [Act.put, p1, p2, p3]
    obtain ⟨hS21, V, hV⟩ := hS2
    refine wpAnyH_store2 (fuel := 0) (i := 13) rfl (by kernel_rfl) g8 0 (.slice A' (n - 1) c2) 26 #[V, .int .i64 I, .int .i64 H, .int .i64 S, .int .i64 P] rfl rfl infoPans hV (Nat.le_add_left 1 4) (by simp [Value.cells, Value.oneCell']) (fun w' h1 hg => ⟨grown_trans hS21 hg, _, h1⟩) ?sta
    case sta =>
    intro w7 h7 hg7 hS7
    refine wpAnyH_done (by kernel_rfl) ?_ _
    have h87 : w7.heap[g8]? = some (.cells #[.slice A' (n - 1) c2, .int .i64 I, .int .i64 H, .int .i64 S, .int .i64 P] 26) := h7
    have hO7 := own_other hown2 hV (by decide) hg7
    have hB7 := HX.out.trans ((HBw.out w7 hS7.1).mono HX.out.size)
    have xr7 := (hS7.1.block (w.heap.size + 1 + 1) (Array.getElem?_eq_some_iff.1 HR6.out).1 (by simp; omega)).trans HR6.out
    have b47 := (World.cell?_of_block (a := ⟨w.heap.size, 4, none⟩) (hS7.1.block _ (World.block_lt_of_cell? _ _ b4) (by simp; omega))).trans b4
    have d17 := (World.cell?_of_block (a := ⟨g9, 1, none⟩) (hS7.1.block _ (World.block_lt_of_cell? _ _ d1) (by simp; omega))).trans d1
    have h6le : w.heap.size ≤ w6.heap.size := by omega
    have nw6 : ∀ k : Nat, (Value.slice A' (n - 1) c2).ownBlock = some k → w6.heap.size ≤ k := fun k e => (World.ownsRow.lt hO7 k e).1
    clear hHeld hV hS7 hg7 h7 hS21 hown2 HF e0 e1 e2 e3 e4 ef b0 b1 b2 b3 b4 s0 s1 s2 s3 d0 d1
    obtain ⟨e0, e1, e2, e3, e4⟩ := cells5 h87
    have ef : ∀ j, w7.frozen? ⟨g8, j, none⟩ = false := fun j => frozen_of_row w7 g8 j _ _ h87
    have T2 := Lib.hid hO7
    have H89 := Lib.hid h87
    have XR9 := Lib.hid xr7
    have BB9 := Lib.hid hB7
    have NW := Lib.hid nw6
    clear hO7 h87 xr7 hB7 nw6
    go_upto_region 24 with fail
    refine name_wp ?_
    intro w8 hw8'
    have hw8 : w8 = w7.setCell ⟨g8, 4, none⟩ (.int .i64 (wrap64 (P + f (i * 4 + 3)))) := hw8'
    clear hw8' e0 e1 e2 e3 e4 ef b47 d17
    have x8 : w8.heap[g8]? = some (.cells #[.slice A' (n - 1) c2, .int .i64 I, .int .i64 H, .int .i64 S, .int .i64 (wrap64 (P + f (i * 4 + 3)))] 26) := by
      rw [hw8]
      exact heap_setCell_same _ g8 4 #[.slice A' (n - 1) c2, .int .i64 I, .int .i64 H, .int .i64 S, .int .i64 P] 26 _ H89.out
    have xr : w8.heap[w.heap.size + 1 + 1]? = some (.cells #[.slice none 0 0, .int .i64 0, .int .i64 0, .int .i64 0, .int .i64 0] 26) := by
      rw [hw8, heap_setCell_other _ _ _ _ mg82]
      exact XR9.out
    have B7 : Below w.heap.size w w8 := by
      rw [hw8]
      exact BB9.out.setCell (show w.heap.size ≤ g8 by omega) _
    have t3 := ownsRow_setCell_other (a := ⟨g8, 4, none⟩) T2.out (fun e => by have h : w6.heap.size ≤ g8 := NW.out _ e; omega) (.int .i64 (wrap64 (P + f (i * 4 + 3))))
    rw [← hw8] at t3
    clear hw8 T2 H89 XR9 BB9
    have HO7 := Lib.hid t3
    have BB := Lib.hid B7
    clear t3 B7
    obtain ⟨e0, e1, e2, e3, e4⟩ := cells5 x8
    obtain ⟨r0, r1, r2, r3, r4⟩ := cells5 xr
    have rf : ∀ j, w8.frozen? ⟨w.heap.size + 1 + 1, j, none⟩ = false := fun j => frozen_of_row w8 (w.heap.size + 1 + 1) j _ _ xr
    clear x8 xr
    go_wp2
    obtain ⟨wq, hwq⟩ : ∃ wq, wq = (((((w8.setCell ⟨w.heap.size + 1 + 1, 0, none⟩ (.slice A' (n - 1) c2)).setCell ⟨w.heap.size + 1 + 1, 1, none⟩ (.int .i64 I)).setCell ⟨w.heap.size + 1 + 1, 2, none⟩ (.int .i64 H)).setCell ⟨w.heap.size + 1 + 1, 3, none⟩ (.int .i64 S)).setCell ⟨w.heap.size + 1 + 1, 4, none⟩ (.int .i64 (wrap64 (P + f (i * 4 + 3))))) := ⟨_, rfl⟩
    rw [← hwq]
    have q0 : wq.cell? ⟨w.heap.size + 1 + 1, 0, none⟩ = some (.slice A' (n - 1) c2) := by rw [hwq]; go_simp
    have q1 : wq.cell? ⟨w.heap.size + 1 + 1, 1, none⟩ = some (.int .i64 I) := by rw [hwq]; go_simp
    have q2 : wq.cell? ⟨w.heap.size + 1 + 1, 2, none⟩ = some (.int .i64 H) := by rw [hwq]; go_simp
    have q3 : wq.cell? ⟨w.heap.size + 1 + 1, 3, none⟩ = some (.int .i64 S) := by rw [hwq]; go_simp
    have q4 : wq.cell? ⟨w.heap.size + 1 + 1, 4, none⟩ = some (.int .i64 (wrap64 (P + f (i * 4 + 3)))) := by rw [hwq]; go_simp
    have hBq : Below w.heap.size w wq := by
      rw [hwq]
      exact (((((BB.out.setCell (show w.heap.size ≤ w.heap.size + 1 + 1 by omega) _).setCell (show w.heap.size ≤ w.heap.size + 1 + 1 by omega) _).setCell (show w.heap.size ≤ w.heap.size + 1 + 1 by omega) _).setCell (show w.heap.size ≤ w.heap.size + 1 + 1 by omega) _).setCell (show w.heap.size ≤ w.heap.size + 1 + 1 by omega) _)
    have no : ∀ j : Nat, (Value.slice A' (n - 1) c2).ownBlock ≠ some (⟨w.heap.size + 1 + 1, j, none⟩ : Addr).block := fun j e => by have h := NW.out _ e; have h2 : w6.heap.size ≤ w.heap.size + 1 + 1 := h; omega
    have hOq := (ownsRow_setCell_other (ownsRow_setCell_other (ownsRow_setCell_other (ownsRow_setCell_other (ownsRow_setCell_other HO7.out (no 0) (.slice A' (n - 1) c2)) (no 1) (.int .i64 I)) (no 2) (.int .i64 H)) (no 3) (.int .i64 S)) (no 4) (.int .i64 (wrap64 (P + f (i * 4 + 3)))))
    rw [← hwq] at hOq
    clear hwq HO7 BB
    try simp only [Exit.inBlock, Exit.then]
    refine bodyPost_ret (by simp [results, Tryd.results64, go_sem, q0, q1, q2, q3, q4]; try rfl) rfl ?_
    rw [← HL.out]
    exact ⟨_, c2, rfl, hc1, hc2, ownsRow_monoP hOq h6le, hBq⟩
  · refine wp_region_held_drew (S := (fun w' => w6.grownBy w' (some g8) ∧ ∃ V, w'.heap[g8]? = some (.cells #[V, .int .i64 I, .int .i64 H, .int .i64 S, .int .i64 P] 26))) (by kernel_rfl) ⟨⟨rfl, rfl, rfl, Nat.le_refl _, fun _ _ _ => rfl⟩, _, H86.out⟩ (fun hHeld => ?_)
    refine tk (v := ?_) 1 127 HF rfl ?_ hHeld ?_
    rotate_left; · (intro _ _ _; go_simp; try with_reducible rfl)
    simp only [Act.put, p1, p2, p3]
    refine tk (v := ?_) 3 129 HF rfl ?_ hHeld ?_
    rotate_left; · (intro _ _ _; go_simp; try with_reducible rfl)
    simp only [Act.put, p1, p2, p3]
    refine tk (v := ?_) 6 132 HF rfl ?_ hHeld ?_
    rotate_left; · (intro _ _ _; go_simp; try with_reducible rfl)
    simp only [Act.put, p1, p2, p3]
    refine tk (v := ?_) 8 134 HF rfl ?_ hHeld ?_
    rotate_left; · (intro _ _ _; go_simp; try with_reducible rfl)
    simp only [Act.put, p1, p2, p3]
    refine tk (v := ?_) 2 128 HF rfl ?_ hHeld ?_
    rotate_left; · (intro _ _ _; go_simp; try with_reducible rfl)
    simp only [Act.put, p1, p2, p3]
    refine tk (v := ?_) 7 133 HF rfl ?_ hHeld ?_
    rotate_left; · (intro _ _ _; go_simp; try with_reducible rfl)
    simp only [Act.put, p1, p2, p3]
    refine tk (v := ?_) 9 135 HF rfl ?_ hHeld ?_
    rotate_left; · (intro _ _ _; go_simp; try with_reducible rfl)
    simp only [Act.put, p1, p2, p3]
    refine tk (v := ?_) 4 130 HF rfl ?_ hHeld ?_
    rotate_left; · (intro _ _ _; go_simp; try with_reducible rfl)
    simp only [Act.put, p1, p2, p3]
    refine tk (v := ?_) 10 136 HF rfl ?_ hHeld ?_
    rotate_left; · (intro _ _ _; go_simp; try with_reducible rfl)
    simp only [Act.put, p1, p2, p3]
    refine wpAnyH_newS (fuel := 4) (i := 0) (d := 126) (obj := .cells #[] 48) (v := .slice (some ⟨w6.drew.heap.size, 0, none⟩) 0 0) rfl ⟨rfl, rfl⟩ (by kernel_rfl) (cls_but.box (r := g8) hg8 (fun o => ∃ V, o = some (.cells #[V, .int .i64 I, .int .i64 H, .int .i64 S, .int .i64 P] 26))) hHeld (by go_simp; try rfl) ?_
    intro hHeld2
    have hro := World.ownsRow_made (base := w6.heap.size) (e := 48) (size := 4) w6.drew #[] 0 (Nat.le_refl _) (Nat.zero_le _) (by simp)
    refine wpAnyH_appS (fuel := 3) (i := 5) (ds := 126) (d := 131) (j := 130) rfl (by kernel_rfl) 48 4 32 (.agg #[.int .i64 0, .int .i64 0, .int .i64 0, .int .i64 0]) Tryd.underlying24 infoPan rfl (by decide) (by decide) [] ((cellsL f n).take (i * 4)) 0 i c _ (some ⟨b, off, none⟩) rfl rfl (cls_but.box (r := g8) hg8 (fun o => ∃ V, o = some (.cells #[V, .int .i64 I, .int .i64 H, .int .i64 S, .int .i64 P] 26))) hHeld2 hro (Sl.srcTake (HSK.out.below (HBw.out _ hHeld2.1)) (by simp) (by omega)) (by omega) ?a1b
    case a1b =>
    intro v1 w1 hown1 hS1 hgr1
    rw [Nat.zero_add, List.nil_append] at hown1
    clear hro hHeld hHeld2 hgr1
    simp only [Act.put, p1, p2, p3]
    refine wpAnyH_appS (fuel := 2) (i := 11) (ds := 131) (d := 137) (j := 136) rfl (by kernel_rfl) 48 4 32 (.agg #[.int .i64 0, .int .i64 0, .int .i64 0, .int .i64 0]) Tryd.underlying24 infoPan rfl (by decide) (by decide) ((cellsL f n).take (i * 4)) ((cellsL f n).drop (q * 4)) i (n - q) (c - q) v1 (some ⟨b, off + q * 4, none⟩) rfl rfl (cls_but.box (r := g8) hg8 (fun o => ∃ V, o = some (.cells #[V, .int .i64 I, .int .i64 H, .int .i64 S, .int .i64 P] 26))) hS1 hown1 (Sl.srcDrop (HSK.out.below (HBw.out _ hS1.1)) (by omega)) (by omega) ?a2b
    case a2b =>
    intro v2 w2 hown2 hS2 hgr2
    clear hgr2 hown1 hS1
    rw [show i + (n - q) = n - 1 by omega] at hown2
    obtain ⟨A', c2, rfl, hc1, hc2⟩ := row_slice hown2
    simp only [Act.put, p1, p2, p3]
    have hHeld := hS2
    refine tk (v := ?_) 12 138 HF rfl ?_ hHeld ?_
    rotate_left; · (intro _ _ _; go_simp; try with_reducible rfl)
    simp only [Act.put, p1, p2, p3]
    obtain ⟨hS21, V, hV⟩ := hS2
    refine wpAnyH_store2 (fuel := 0) (i := 13) rfl (by kernel_rfl) g8 0 (.slice A' (n - 1) c2) 26 #[V, .int .i64 I, .int .i64 H, .int .i64 S, .int .i64 P] rfl rfl infoPans hV (Nat.le_add_left 1 4) (by simp [Value.cells, Value.oneCell']) (fun w' h1 hg => ⟨grown_trans hS21 hg, _, h1⟩) ?stb
    case stb =>
    intro w7 h7 hg7 hS7
    refine wpAnyH_done (by kernel_rfl) ?_ _
    have h87 : w7.heap[g8]? = some (.cells #[.slice A' (n - 1) c2, .int .i64 I, .int .i64 H, .int .i64 S, .int .i64 P] 26) := h7
    have hO7 := own_other hown2 hV (by decide) hg7
    have hB7 := HX.out.trans ((HBw.out w7 hS7.1).mono HX.out.size)
    have xr7 := (hS7.1.block (w.heap.size + 1 + 1) (Array.getElem?_eq_some_iff.1 HR6.out).1 (by simp; omega)).trans HR6.out
    have b47 := (World.cell?_of_block (a := ⟨w.heap.size, 4, none⟩) (hS7.1.block _ (World.block_lt_of_cell? _ _ b4) (by simp; omega))).trans b4
    have d17 := (World.cell?_of_block (a := ⟨g9, 1, none⟩) (hS7.1.block _ (World.block_lt_of_cell? _ _ d1) (by simp; omega))).trans d1
    have h6le : w.heap.size ≤ w6.heap.size := by omega
    have nw6 : ∀ k : Nat, (Value.slice A' (n - 1) c2).ownBlock = some k → w6.heap.size ≤ k := fun k e => (World.ownsRow.lt hO7 k e).1
    clear hHeld hV hS7 hg7 h7 hS21 hown2 HF e0 e1 e2 e3 e4 ef b0 b1 b2 b3 b4 s0 s1 s2 s3 d0 d1
    obtain ⟨e0, e1, e2, e3, e4⟩ := cells5 h87
    have ef : ∀ j, w7.frozen? ⟨g8, j, none⟩ = false := fun j => frozen_of_row w7 g8 j _ _ h87
    have T2 := Lib.hid hO7
    have H89 := Lib.hid h87
    have XR9 := Lib.hid xr7
    have BB9 := Lib.hid hB7
    have NW := Lib.hid nw6
    clear hO7 h87 xr7 hB7 nw6
    go_upto_region 24 with fail
    refine name_wp ?_
    intro w8 hw8'
    have hw8 : w8 = w7.setCell ⟨g8, 4, none⟩ (.int .i64 (wrap64 (P + f (i * 4 + 3)))) := hw8'
    clear hw8' e0 e1 e2 e3 e4 ef b47 d17
    have x8 : w8.heap[g8]? = some (.cells #[.slice A' (n - 1) c2, .int .i64 I, .int .i64 H, .int .i64 S, .int .i64 (wrap64 (P + f (i * 4 + 3)))] 26) := by
      rw [hw8]
      exact heap_setCell_same _ g8 4 #[.slice A' (n - 1) c2, .int .i64 I, .int .i64 H, .int .i64 S, .int .i64 P] 26 _ H89.out
    have xr : w8.heap[w.heap.size + 1 + 1]? = some (.cells #[.slice none 0 0, .int .i64 0, .int .i64 0, .int .i64 0, .int .i64 0] 26) := by
      rw [hw8, heap_setCell_other _ _ _ _ mg82]
      exact XR9.out
    have B7 : Below w.heap.size w w8 := by
      rw [hw8]
      exact BB9.out.setCell (show w.heap.size ≤ g8 by omega) _
    have t3 := ownsRow_setCell_other (a := ⟨g8, 4, none⟩) T2.out (fun e => by have h : w6.heap.size ≤ g8 := NW.out _ e; omega) (.int .i64 (wrap64 (P + f (i * 4 + 3))))
    rw [← hw8] at t3
    clear hw8 T2 H89 XR9 BB9
    have HO7 := Lib.hid t3
    have BB := Lib.hid B7
    clear t3 B7
    obtain ⟨e0, e1, e2, e3, e4⟩ := cells5 x8
    obtain ⟨r0, r1, r2, r3, r4⟩ := cells5 xr
    have rf : ∀ j, w8.frozen? ⟨w.heap.size + 1 + 1, j, none⟩ = false := fun j => frozen_of_row w8 (w.heap.size + 1 + 1) j _ _ xr
    clear x8 xr
    go_wp2
    obtain ⟨wq, hwq⟩ : ∃ wq, wq = (((((w8.setCell ⟨w.heap.size + 1 + 1, 0, none⟩ (.slice A' (n - 1) c2)).setCell ⟨w.heap.size + 1 + 1, 1, none⟩ (.int .i64 I)).setCell ⟨w.heap.size + 1 + 1, 2, none⟩ (.int .i64 H)).setCell ⟨w.heap.size + 1 + 1, 3, none⟩ (.int .i64 S)).setCell ⟨w.heap.size + 1 + 1, 4, none⟩ (.int .i64 (wrap64 (P + f (i * 4 + 3))))) := ⟨_, rfl⟩
    rw [← hwq]
    have q0 : wq.cell? ⟨w.heap.size + 1 + 1, 0, none⟩ = some (.slice A' (n - 1) c2) := by rw [hwq]; go_simp
    have q1 : wq.cell? ⟨w.heap.size + 1 + 1, 1, none⟩ = some (.int .i64 I) := by rw [hwq]; go_simp
    have q2 : wq.cell? ⟨w.heap.size + 1 + 1, 2, none⟩ = some (.int .i64 H) := by rw [hwq]; go_simp
    have q3 : wq.cell? ⟨w.heap.size + 1 + 1, 3, none⟩ = some (.int .i64 S) := by rw [hwq]; go_simp
    have q4 : wq.cell? ⟨w.heap.size + 1 + 1, 4, none⟩ = some (.int .i64 (wrap64 (P + f (i * 4 + 3)))) := by rw [hwq]; go_simp
    have hBq : Below w.heap.size w wq := by
      rw [hwq]
      exact (((((BB.out.setCell (show w.heap.size ≤ w.heap.size + 1 + 1 by omega) _).setCell (show w.heap.size ≤ w.heap.size + 1 + 1 by omega) _).setCell (show w.heap.size ≤ w.heap.size + 1 + 1 by omega) _).setCell (show w.heap.size ≤ w.heap.size + 1 + 1 by omega) _).setCell (show w.heap.size ≤ w.heap.size + 1 + 1 by omega) _)
    have no : ∀ j : Nat, (Value.slice A' (n - 1) c2).ownBlock ≠ some (⟨w.heap.size + 1 + 1, j, none⟩ : Addr).block := fun j e => by have h := NW.out _ e; have h2 : w6.heap.size ≤ w.heap.size + 1 + 1 := h; omega
    have hOq := (ownsRow_setCell_other (ownsRow_setCell_other (ownsRow_setCell_other (ownsRow_setCell_other (ownsRow_setCell_other HO7.out (no 0) (.slice A' (n - 1) c2)) (no 1) (.int .i64 I)) (no 2) (.int .i64 H)) (no 3) (.int .i64 S)) (no 4) (.int .i64 (wrap64 (P + f (i * 4 + 3)))))
    rw [← hwq] at hOq
    clear hwq HO7 BB
    try simp only [Exit.inBlock, Exit.then]
    refine bodyPost_ret (by simp [results, Tryd.results64, go_sem, q0, q1, q2, q3, q4]; try rfl) rfl ?_
    rw [← HL.out]
    exact ⟨_, c2, rfl, hc1, hc2, ownsRow_monoP hOq h6le, hBq⟩
end Go.Proofs.YtjkockhldaacbaaDoor
