/-
  DrawRoomInPan and the draws that are the same: some works of at most 7 pans and some number, whatever the bytes.
-/
import Derived.Test.YtjkockhldaacbaaDoorPk1
import Derived.Test.YtjkockhldaacbaaDoorDrawIW
namespace Go.Proofs.YtjkockhldaacbaaDoor
open Go.RowKit
set_option linter.unusedVariables false
set_option linter.unusedSimpArgs false
theorem Sl.grownLo {W W' : World} {lo hi k m r : Nat} {B : Option Addr} {f : Nat → Int} (h : Sl W lo hi k B m f) (hg : W.grownBy W' (some r)) (hr : r < lo) : Sl W' lo hi k B m f :=
  ⟨Nat.le_trans h.hi_le hg.size, fun hn => by
    obtain ⟨b, off, e, h1, h2, h3⟩ := h.here hn
    exact ⟨b, off, e, h1, h2, fun j hj => (World.cell?_of_block (a := ⟨b, off + j, none⟩) (hg.block b (Nat.lt_of_lt_of_le h2 h.hi_le) (fun e => by have := Option.some.inj e; omega))).trans (h3 j hj)⟩⟩
set_option maxRecDepth 100000 in
set_option maxHeartbeats 4000000 in
theorem DrawRoomInPan_any (A : Option Addr) (n c : Nat) (w : World) (hc : Code w A n) (hn : n ≤ 65536) :
    Calls Tryd.prog 16 #[.slice A n c] w fun e w' => ∃ (B : Option Addr) (m cm : Nat) (L : List Int) (I H S P z : Int), e = .returned (.tuple #[.agg #[.slice B m cm, .int .i64 I, .int .i64 H, .int .i64 S, .int .i64 P], .int .i64 z]) ∧ m ≤ 7 ∧ Drawn w' w.heap.size 48 4 B m cm (lf L) ∧ Below w.heap.size w w' := by
  go_enter Tryd.func16, Tryd.ntmps16
  go_wp2_with fail
  refine nameC ?_
  intro w1 hw1
  have hB2 : Below w.heap.size w (w.alloc (.cells #[.slice none 0 0, .int .i64 0, .int .i64 0, .int .i64 0, .int .i64 0] 26)) := (Below.refl _ w).alloc (Nat.le_refl _) _
  have hB : Below w.heap.size w w1 := by rw [hw1]; exact hB2.alloc (by simp) _
  have h2 : w1.heap[w.heap.size]? = some (.cells #[.slice none 0 0, .int .i64 0, .int .i64 0, .int .i64 0, .int .i64 0] 26 (0, 0)) := by
    rw [hw1, heap_alloc_old _ _ (by simp)]
    exact heap_alloc_new w _
  have hC : Cur w1 (w.heap.size + 1) A n c 0 := by rw [hw1]; have h := (hc.below hB2).cur (c := c) (T := 64); simpa using h
  obtain ⟨g, hg⟩ : ∃ q, w.heap.size + 1 = q := ⟨_, rfl⟩
  rw [hg] at hC
  try rw [hg]
  have hgl := hC.lt
  clear hw1 hc hB2
  refine (works_any g n c 0 A w1 hC hn (by omega)).mono ?_
  rintro e w2 ⟨B, m, cm, L, I, H, S, P, rfl, hm7, hmc, hcm, hown, hC, hf⟩
  have hz1 := hB.size
  have hzf := hf.size
  have h2 := (hf.block _ (Array.getElem?_eq_some_iff.1 h2).1 (Or.inl (by omega))).trans h2
  have hB := hB.trans (hf.below (by omega) hB.size)
  have hown := ownsRow_monoP hown (show w.heap.size + 2 ≤ w1.heap.size by omega)
  clear hf
  go_upto_region 3 with fail
  refine nameWS ?_
  intro w3 hw3
  have hn2 : Below w2.heap.size w2 w3 := by rw [hw3]; exact (Below.refl _ w2).alloc (Nat.le_refl _) _
  have h5 : w3.heap[w2.heap.size]? = some (.cells #[.slice B m cm, .int .i64 I, .int .i64 H, .int .i64 S, .int .i64 P] 26 (0, 0)) := by rw [hw3]; exact heap_alloc_new w2 _
  have h2 := rowB h2 hn2
  have hown := ownsRow_below hown hn2
  have hC := hC.below hn2
  have hz2 := hB.size
  have hgz : g < w2.heap.size := by omega
  have hB := below_of hB hn2 hB.size
  obtain ⟨b5, hb5⟩ : ∃ q, w2.heap.size = q := ⟨_, rfl⟩
  rw [hb5] at h5 hgz hz2
  try rw [hb5]
  clear hw3 hn2 hb5
  by_cases hm0 : 1 ≤ m
  · obtain ⟨b, off, rfl, _, _, _⟩ := (own_sl hown).here hm0
    obtain ⟨e0, e1, e2, e3, e4⟩ := cells5 h5
    have hmi : (0 : Int) < (m : Int) := by omega
    have hmd : decide ((0 : Int) < (m : Int)) = true := decide_eq_true hmi
    go_wp2_with fail
    refine (one_any g n c _ 6 A _ hC hn (by omega) (by omega) (by omega)).mono ?_
    rintro e w4 ⟨bb, rfl, hC, hf⟩
    have h5 := (hf.block _ (Array.getElem?_eq_some_iff.1 h5).1 (Or.inr (by omega))).trans h5
    have h2 := (hf.block _ (Array.getElem?_eq_some_iff.1 h2).1 (Or.inl (by omega))).trans h2
    have hown := own_step hown (by omega) hf
    have hB := hB.trans (hf.below (by omega) hB.size)
    clear hf e0 e1 e2 e3 e4
    cases bb with
    | true =>
      go_upto_region 5 with fail
      refine wp_region_held_drew (S := fun w' => (w'.heap[b5]? = some (.cells #[.slice (some ⟨b, off, none⟩) m cm, .int .i64 I, .int .i64 H, .int .i64 S, .int .i64 P] 26 (0, 0)) ∧ Below w.heap.size w w')) (by kernel_rfl) ⟨h5, below_drewN hB 1⟩ (fun hHeld => ?_)
      have hC := hC.drewN 1
      have h2 : (w4.drewN 1).heap[w.heap.size]? = some (.cells #[.slice none 0 0, .int .i64 0, .int .i64 0, .int .i64 0, .int .i64 0] 26 (0, 0)) := h2
      have hown := ownsRow_below hown (below_drewN (Below.refl _ w4) 1)
      obtain ⟨v0, hv⟩ : ∃ v, w4.drewN 1 = v := ⟨_, rfl⟩
      have hv' : w4.drew = v0 := hv
      rw [hv] at hC h2 hown
      rw [hv'] at hHeld ⊢
      clear hv hv' h5 hB
      have HF : Hid (∀ w', (w'.heap[b5]? = some (.cells #[.slice (some ⟨b, off, none⟩) m cm, .int .i64 I, .int .i64 H, .int .i64 S, .int .i64 P] 26 (0, 0)) ∧ Below w.heap.size w w') → w'.cell? ⟨b5, 0, none⟩ = some (.slice (some ⟨b, off, none⟩) m cm) ∧ w'.cell? ⟨b5, 1, none⟩ = some (.int .i64 I) ∧ w'.cell? ⟨b5, 2, none⟩ = some (.int .i64 H) ∧ w'.cell? ⟨b5, 3, none⟩ = some (.int .i64 S) ∧ w'.cell? ⟨b5, 4, none⟩ = some (.int .i64 P)) := fun w' hS => ⟨by rw [cell_of_row w' b5 0 _ _ (0, 0) hS.1]; rfl, by rw [cell_of_row w' b5 1 _ _ (0, 0) hS.1]; rfl, by rw [cell_of_row w' b5 2 _ _ (0, 0) hS.1]; rfl, by rw [cell_of_row w' b5 3 _ _ (0, 0) hS.1]; rfl, by rw [cell_of_row w' b5 4 _ _ (0, 0) hS.1]; rfl⟩
      refine tk (v := ?_) 0 31 HF rfl ?_ hHeld ?_
      rotate_left; · (intro _ _ _; go_simp; try with_reducible rfl)
      simp only [Act.put, p1, p2, p3]
      refine tk (v := ?_) 1 32 HF rfl ?_ hHeld ?_
      rotate_left; · (intro _ _ _; go_simp; try with_reducible rfl)
      simp only [Act.put, p1, p2, p3]
      refine wpAnyH_ready (rs := [2]) (by kernel_rfl) (by simp) ?_
      refine (AllReadyH.cons rfl (fun K hK => ?_) AllReadyH.nil)
      go_simp
      have hS1 := hHeld
      have hS1' := hHeld
      clear hHeld
      refine hK.out _ _ ⟨rowB hS1.1 ((Below.refl _ v0).alloc (Nat.le_refl _) _), below_of hS1.2 ((Below.refl _ v0).alloc (Nat.le_refl _) _) hS1.2.size⟩ (fun hHeld => ?_)
      clear hK K
      refine wpAnyH_ready (rs := [3]) (by kernel_rfl) (by simp) ?_
      refine (AllReadyH.cons rfl (fun K hK => ?_) AllReadyH.nil)
      go_simp
      refine (among_lit g n c _ _ A v0 [0, 1, 7] _ _ _ rfl rfl (by simp) (by simp) hC hn (by omega)).mono ?_
      rintro e v1 ⟨zz, rfl, hC, hf⟩
      have hHeld := hS1
      clear hS1 hS1'
      have hS2 : (v1.heap[b5]? = some (.cells #[.slice (some ⟨b, off, none⟩) m cm, .int .i64 I, .int .i64 H, .int .i64 S, .int .i64 P] 26 (0, 0)) ∧ Below w.heap.size w v1) := ⟨(hf.block _ (Array.getElem?_eq_some_iff.1 hHeld.1).1 (Or.inr (by omega))).trans hHeld.1, hHeld.2.trans (hf.below (by omega) hHeld.2.size)⟩
      have h2 := (hf.block _ (Array.getElem?_eq_some_iff.1 h2).1 (Or.inl (by omega))).trans h2
      have hown := own_step hown (by omega) hf
      clear hf hHeld
      refine hK.out _ _ hS2 (fun hHeld => ?_)
      clear hK K hS2
      refine wpAnyH_store (fuel := 1) (i := 4) rfl (by kernel_rfl) (w.heap.size) 0 (.agg #[.slice (some ⟨b, off, none⟩) m cm, .int .i64 I, .int .i64 H, .int .i64 S, .int .i64 P]) 26 #[.slice none 0 0, .int .i64 0, .int .i64 0, .int .i64 0, .int .i64 0] rfl rfl infoWorksK h2 (Nat.le_refl 5) (by simp [Value.cells, Value.oneCell']) (fun w' hg' => ⟨(hg'.block _ (Array.getElem?_eq_some_iff.1 hHeld.1).1 (fun e => by have := Option.some.inj e; omega)).trans hHeld.1, hHeld.2.grown hg' hHeld.2.size (fun k hk => by cases hk; omega)⟩) ?ksc
      case ksc =>
        intro v2 hh hgw hS3
        clear hHeld
        have hHeld := hS3
        clear hS3
        have hh : v2.heap[w.heap.size]? = some (.cells #[.slice (some ⟨b, off, none⟩) m cm, .int .i64 I, .int .i64 H, .int .i64 S, .int .i64 P] 26 (0, 0)) := hh
        have hown := own_other hown h2 (by decide) hgw
        clear h2 hgw
        refine tk (v := ?_) 5 3 HF rfl ?_ hHeld ?_
        rotate_left; · (intro _ _ _; go_simp; try with_reducible rfl)
        simp only [Act.put, p1, p2, p3]
        have hB := hHeld.2
        clear hHeld hC HF
        refine wpAnyH_done (by kernel_rfl) ?_ _
        obtain ⟨q0, q1, q2, q3, q4⟩ := cells5 hh
        obtain ⟨B9, c9, e9, hd⟩ := drawnRow_of 4 hown (show w.heap.size ≤ w.heap.size + 2 by omega)
        cases e9
        have HD := Lib.hid hd
        have HB := Lib.hid hB
        clear hh hown hd hB
        go_wp2
        try simp only [Exit.inBlock, Exit.then]
        refine bodyPost_ret (by simp [results, Tryd.results16, go_sem, q0, q1, q2, q3, q4]; try rfl) rfl ?_
        exact ⟨_, _, _, _, _, _, _, _, _, rfl, hm7, HD.out, HB.out⟩
    | false =>
      go_upto_region 4 with fail
      have hsl := own_sl hown
      obtain ⟨hi4, hi4e⟩ : ∃ q, w4.heap.size = q := ⟨_, rfl⟩
      rw [hi4e] at hsl
      clear hi4e
      refine wp_region_held_drew (S := fun w' => (w'.heap[b5]? = some (.cells #[.slice (some ⟨b, off, none⟩) m cm, .int .i64 I, .int .i64 H, .int .i64 S, .int .i64 P] 26 (0, 0)) ∧ Below w.heap.size w w' ∧ Sl w' (w.heap.size + 2) hi4 4 (some ⟨b, off, none⟩) m (lf L))) (by kernel_rfl) ⟨h5, below_drewN hB 1, hsl.below (below_drewN (Below.refl _ _) 1)⟩ (fun hHeld => ?_)
      have hC := hC.drewN 1
      have h2 : (w4.drewN 1).heap[w.heap.size]? = some (.cells #[.slice none 0 0, .int .i64 0, .int .i64 0, .int .i64 0, .int .i64 0] 26 (0, 0)) := h2
      have hown := ownsRow_below hown (below_drewN (Below.refl _ w4) 1)
      obtain ⟨v0, hv⟩ : ∃ v, w4.drewN 1 = v := ⟨_, rfl⟩
      have hv' : w4.drew = v0 := hv
      rw [hv] at hC h2 hown
      rw [hv'] at hHeld ⊢
      clear hv hv' h5 hB hsl
      have HF : Hid (∀ w', (w'.heap[b5]? = some (.cells #[.slice (some ⟨b, off, none⟩) m cm, .int .i64 I, .int .i64 H, .int .i64 S, .int .i64 P] 26 (0, 0)) ∧ Below w.heap.size w w' ∧ Sl w' (w.heap.size + 2) hi4 4 (some ⟨b, off, none⟩) m (lf L)) → w'.cell? ⟨b5, 0, none⟩ = some (.slice (some ⟨b, off, none⟩) m cm) ∧ w'.cell? ⟨b5, 1, none⟩ = some (.int .i64 I) ∧ w'.cell? ⟨b5, 2, none⟩ = some (.int .i64 H) ∧ w'.cell? ⟨b5, 3, none⟩ = some (.int .i64 S) ∧ w'.cell? ⟨b5, 4, none⟩ = some (.int .i64 P)) := fun w' hS => ⟨by rw [cell_of_row w' b5 0 _ _ (0, 0) hS.1]; rfl, by rw [cell_of_row w' b5 1 _ _ (0, 0) hS.1]; rfl, by rw [cell_of_row w' b5 2 _ _ (0, 0) hS.1]; rfl, by rw [cell_of_row w' b5 3 _ _ (0, 0) hS.1]; rfl, by rw [cell_of_row w' b5 4 _ _ (0, 0) hS.1]; rfl⟩
      refine tk (v := ?_) 0 20 HF rfl ?_ hHeld ?_
      rotate_left; · (intro _ _ _; go_simp; try with_reducible rfl)
      simp only [Act.put, p1, p2, p3]
      refine tk (v := ?_) 1 21 HF rfl ?_ hHeld ?_
      rotate_left; · (intro _ _ _; go_simp; try with_reducible rfl)
      simp only [Act.put, p1, p2, p3]
      refine tk (v := ?_) 2 22 HF rfl ?_ hHeld ?_
      rotate_left; · (intro _ _ _; go_simp; try with_reducible rfl)
      simp only [Act.put, p1, p2, p3]
      refine tk (v := ?_) 3 23 HF rfl ?_ hHeld ?_
      rotate_left; · (intro _ _ _; go_simp; try with_reducible rfl)
      simp only [Act.put, p1, p2, p3]
      refine tk (v := ?_) 4 24 HF rfl ?_ hHeld ?_
      rotate_left; · (intro _ _ _; go_simp; try with_reducible rfl)
      simp only [Act.put, p1, p2, p3]
      refine tk (v := ?_) 5 25 HF rfl ?_ hHeld ?_
      rotate_left; · (intro _ _ _; go_simp; try with_reducible rfl)
      simp only [Act.put, p1, p2, p3]
      refine wpAnyH_ready (rs := [6]) (by kernel_rfl) (by simp) ?_
      refine (AllReadyH.cons rfl (fun K hK => ?_) AllReadyH.nil)
      go_simp
      have hS2 := hHeld
      clear hHeld
      refine hK.out _ _ hS2 (fun hHeld => ?_)
      clear hK K hS2
      refine wpAnyH_ready (rs := [7]) (by kernel_rfl) (by simp) ?_
      refine (AllReadyH.cons rfl (fun K hK => ?_) AllReadyH.nil)
      go_simp
      refine (pick_any g n c _ m A _ hC hn (by omega) hm0 (by omega)).mono ?_
      rintro e v1 ⟨z, rfl, hz, hC, hf⟩
      have hS2 : (v1.heap[b5]? = some (.cells #[.slice (some ⟨b, off, none⟩) m cm, .int .i64 I, .int .i64 H, .int .i64 S, .int .i64 P] 26 (0, 0)) ∧ Below w.heap.size w v1 ∧ Sl v1 (w.heap.size + 2) hi4 4 (some ⟨b, off, none⟩) m (lf L)) := ⟨(hf.block _ (Array.getElem?_eq_some_iff.1 hHeld.1).1 (Or.inr (by omega))).trans hHeld.1, hHeld.2.1.trans (hf.below (by omega) hHeld.2.1.size), hHeld.2.2.fr hf (Or.inr (by omega))⟩
      have h2 := (hf.block _ (Array.getElem?_eq_some_iff.1 h2).1 (Or.inl (by omega))).trans h2
      have hown := own_step hown (by omega) hf
      clear hf hHeld
      refine hK.out _ _ hS2 (fun hHeld => ?_)
      clear hK K hS2
      have hzi : (z : Int) < (m : Int) := by omega
      have hz0 : (0 : Int) ≤ (z : Int) := by omega
      have HF2 : Hid (∀ w', (w'.heap[b5]? = some (.cells #[.slice (some ⟨b, off, none⟩) m cm, .int .i64 I, .int .i64 H, .int .i64 S, .int .i64 P] 26 (0, 0)) ∧ Below w.heap.size w w' ∧ Sl w' (w.heap.size + 2) hi4 4 (some ⟨b, off, none⟩) m (lf L)) → w'.cell? ⟨b5, 0, none⟩ = some (.slice (some ⟨b, off, none⟩) m cm) ∧ w'.cell? ⟨b5, 1, none⟩ = some (.int .i64 I) ∧ w'.cell? ⟨b5, 2, none⟩ = some (.int .i64 H) ∧ w'.cell? ⟨b5, 3, none⟩ = some (.int .i64 S) ∧ w'.cell? ⟨b5, 4, none⟩ = some (.int .i64 P) ∧ w'.cell? ⟨b, off + z * 4, none⟩ = some (.int .i64 (lf L (z * 4)))) := fun w' hS => by
        obtain ⟨b', off', eb, _, _, h3⟩ := hS.2.2.here (by omega)
        cases eb
        exact ⟨by rw [cell_of_row w' b5 0 _ _ (0, 0) hS.1]; rfl, by rw [cell_of_row w' b5 1 _ _ (0, 0) hS.1]; rfl, by rw [cell_of_row w' b5 2 _ _ (0, 0) hS.1]; rfl, by rw [cell_of_row w' b5 3 _ _ (0, 0) hS.1]; rfl, by rw [cell_of_row w' b5 4 _ _ (0, 0) hS.1]; rfl, h3 (z * 4) (by omega)⟩
      clear HF
      have HF := HF2
      clear HF2
      refine tk (v := ?_) 8 28 HF rfl ?_ hHeld ?_
      rotate_left; · (intro _ _ _; go_simp; try with_reducible rfl)
      simp only [Act.put, p1, p2, p3]
      refine tk (v := ?_) 9 29 HF rfl ?_ hHeld ?_
      rotate_left; · (intro _ _ _; go_simp; try with_reducible rfl)
      simp only [Act.put, p1, p2, p3]
      refine tk (v := ?_) 10 30 HF rfl ?_ hHeld ?_
      rotate_left; · (intro _ _ _; go_simp; try with_reducible rfl)
      simp only [Act.put, p1, p2, p3]
      refine wpAnyH_store (fuel := 1) (i := 11) rfl (by kernel_rfl) (w.heap.size) 0 (.agg #[.slice (some ⟨b, off, none⟩) m cm, .int .i64 I, .int .i64 H, .int .i64 S, .int .i64 P]) 26 #[.slice none 0 0, .int .i64 0, .int .i64 0, .int .i64 0, .int .i64 0] rfl rfl infoWorksK h2 (Nat.le_refl 5) (by simp [Value.cells, Value.oneCell']) (fun w' hg' => ⟨(hg'.block _ (Array.getElem?_eq_some_iff.1 hHeld.1).1 (fun e => by have := Option.some.inj e; omega)).trans hHeld.1, hHeld.2.1.grown hg' hHeld.2.1.size (fun k hk => by cases hk; omega), hHeld.2.2.grownLo hg' (by omega)⟩) ?ksa
      case ksa =>
        intro v2 hh hgw hS3
        clear hHeld
        have hHeld := hS3
        clear hS3
        have hh : v2.heap[w.heap.size]? = some (.cells #[.slice (some ⟨b, off, none⟩) m cm, .int .i64 I, .int .i64 H, .int .i64 S, .int .i64 P] 26 (0, 0)) := hh
        have hown := own_other hown h2 (by decide) hgw
        clear h2 hgw
        refine tk (v := ?_) 12 3 HF rfl ?_ hHeld ?_
        rotate_left; · (intro _ _ _; go_simp; try with_reducible rfl)
        simp only [Act.put, p1, p2, p3]
        have hB := hHeld.2.1
        clear hHeld hC HF
        refine wpAnyH_done (by kernel_rfl) ?_ _
        obtain ⟨q0, q1, q2, q3, q4⟩ := cells5 hh
        obtain ⟨B9, c9, e9, hd⟩ := drawnRow_of 4 hown (show w.heap.size ≤ w.heap.size + 2 by omega)
        cases e9
        have HD := Lib.hid hd
        have HB := Lib.hid hB
        clear hh hown hd hB
        go_wp2
        try simp only [Exit.inBlock, Exit.then]
        refine bodyPost_ret (by simp [results, Tryd.results16, go_sem, q0, q1, q2, q3, q4]; try rfl) rfl ?_
        exact ⟨_, _, _, _, _, _, _, _, _, rfl, hm7, HD.out, HB.out⟩
  · obtain rfl : m = 0 := by omega
    obtain ⟨e0, e1, e2, e3, e4⟩ := cells5 h5
    go_upto_region 5 with fail
    clear e0 e1 e2 e3 e4
    refine wp_region_held_drew (S := fun w' => (w'.heap[b5]? = some (.cells #[.slice B 0 cm, .int .i64 I, .int .i64 H, .int .i64 S, .int .i64 P] 26 (0, 0)) ∧ Below w.heap.size w w')) (by kernel_rfl) ⟨h5, below_drewN hB 1⟩ (fun hHeld => ?_)
    have hC := hC.drewN 1
    have h2 : (w3.drewN 1).heap[w.heap.size]? = some (.cells #[.slice none 0 0, .int .i64 0, .int .i64 0, .int .i64 0, .int .i64 0] 26 (0, 0)) := h2
    have hown := ownsRow_below hown (below_drewN (Below.refl _ w3) 1)
    obtain ⟨v0, hv⟩ : ∃ v, w3.drewN 1 = v := ⟨_, rfl⟩
    have hv' : w3.drew = v0 := hv
    rw [hv] at hC h2 hown
    rw [hv'] at hHeld ⊢
    clear hv hv' h5 hB
    have HF : Hid (∀ w', (w'.heap[b5]? = some (.cells #[.slice B 0 cm, .int .i64 I, .int .i64 H, .int .i64 S, .int .i64 P] 26 (0, 0)) ∧ Below w.heap.size w w') → w'.cell? ⟨b5, 0, none⟩ = some (.slice B 0 cm) ∧ w'.cell? ⟨b5, 1, none⟩ = some (.int .i64 I) ∧ w'.cell? ⟨b5, 2, none⟩ = some (.int .i64 H) ∧ w'.cell? ⟨b5, 3, none⟩ = some (.int .i64 S) ∧ w'.cell? ⟨b5, 4, none⟩ = some (.int .i64 P)) := fun w' hS => ⟨by rw [cell_of_row w' b5 0 _ _ (0, 0) hS.1]; rfl, by rw [cell_of_row w' b5 1 _ _ (0, 0) hS.1]; rfl, by rw [cell_of_row w' b5 2 _ _ (0, 0) hS.1]; rfl, by rw [cell_of_row w' b5 3 _ _ (0, 0) hS.1]; rfl, by rw [cell_of_row w' b5 4 _ _ (0, 0) hS.1]; rfl⟩
    refine tk (v := ?_) 0 31 HF rfl ?_ hHeld ?_
    rotate_left; · (intro _ _ _; go_simp; try with_reducible rfl)
    simp only [Act.put, p1, p2, p3]
    refine tk (v := ?_) 1 32 HF rfl ?_ hHeld ?_
    rotate_left; · (intro _ _ _; go_simp; try with_reducible rfl)
    simp only [Act.put, p1, p2, p3]
    refine wpAnyH_ready (rs := [2]) (by kernel_rfl) (by simp) ?_
    refine (AllReadyH.cons rfl (fun K hK => ?_) AllReadyH.nil)
    go_simp
    have hS1 := hHeld
    have hS1' := hHeld
    clear hHeld
    refine hK.out _ _ ⟨rowB hS1.1 ((Below.refl _ v0).alloc (Nat.le_refl _) _), below_of hS1.2 ((Below.refl _ v0).alloc (Nat.le_refl _) _) hS1.2.size⟩ (fun hHeld => ?_)
    clear hK K
    refine wpAnyH_ready (rs := [3]) (by kernel_rfl) (by simp) ?_
    refine (AllReadyH.cons rfl (fun K hK => ?_) AllReadyH.nil)
    go_simp
    refine (among_lit g n c _ _ A v0 [0, 1, 7] _ _ _ rfl rfl (by simp) (by simp) hC hn (by omega)).mono ?_
    rintro e v1 ⟨zz, rfl, hC, hf⟩
    have hHeld := hS1
    clear hS1 hS1'
    have hS2 : (v1.heap[b5]? = some (.cells #[.slice B 0 cm, .int .i64 I, .int .i64 H, .int .i64 S, .int .i64 P] 26 (0, 0)) ∧ Below w.heap.size w v1) := ⟨(hf.block _ (Array.getElem?_eq_some_iff.1 hHeld.1).1 (Or.inr (by omega))).trans hHeld.1, hHeld.2.trans (hf.below (by omega) hHeld.2.size)⟩
    have h2 := (hf.block _ (Array.getElem?_eq_some_iff.1 h2).1 (Or.inl (by omega))).trans h2
    have hown := own_step hown (by omega) hf
    clear hf hHeld
    refine hK.out _ _ hS2 (fun hHeld => ?_)
    clear hK K hS2
    refine wpAnyH_store (fuel := 1) (i := 4) rfl (by kernel_rfl) (w.heap.size) 0 (.agg #[.slice B 0 cm, .int .i64 I, .int .i64 H, .int .i64 S, .int .i64 P]) 26 #[.slice none 0 0, .int .i64 0, .int .i64 0, .int .i64 0, .int .i64 0] rfl rfl infoWorksK h2 (Nat.le_refl 5) (by simp [Value.cells, Value.oneCell']) (fun w' hg' => ⟨(hg'.block _ (Array.getElem?_eq_some_iff.1 hHeld.1).1 (fun e => by have := Option.some.inj e; omega)).trans hHeld.1, hHeld.2.grown hg' hHeld.2.size (fun k hk => by cases hk; omega)⟩) ?ksb
    case ksb =>
      intro v2 hh hgw hS3
      clear hHeld
      have hHeld := hS3
      clear hS3
      have hh : v2.heap[w.heap.size]? = some (.cells #[.slice B 0 cm, .int .i64 I, .int .i64 H, .int .i64 S, .int .i64 P] 26 (0, 0)) := hh
      have hown := own_other hown h2 (by decide) hgw
      clear h2 hgw
      refine tk (v := ?_) 5 3 HF rfl ?_ hHeld ?_
      rotate_left; · (intro _ _ _; go_simp; try with_reducible rfl)
      simp only [Act.put, p1, p2, p3]
      have hB := hHeld.2
      clear hHeld hC HF
      refine wpAnyH_done (by kernel_rfl) ?_ _
      obtain ⟨q0, q1, q2, q3, q4⟩ := cells5 hh
      obtain ⟨B9, c9, e9, hd⟩ := drawnRow_of 4 hown (show w.heap.size ≤ w.heap.size + 2 by omega)
      cases e9
      have HD := Lib.hid hd
      have HB := Lib.hid hB
      clear hh hown hd hB
      go_wp2
      try simp only [Exit.inBlock, Exit.then]
      refine bodyPost_ret (by simp [results, Tryd.results16, go_sem, q0, q1, q2, q3, q4]; try rfl) rfl ?_
      exact ⟨_, _, _, _, _, _, _, _, _, rfl, hm7, HD.out, HB.out⟩
set_option maxHeartbeats 1000000 in
theorem DrawDryToRake_any (A : Option Addr) (n c : Nat) (w : World) (hc : Code w A n) (hn : n ≤ 65536) :
    Calls Tryd.prog 5 #[.slice A n c] w fun e w' => ∃ (B : Option Addr) (m cm : Nat) (L : List Int) (I H S P z : Int), e = .returned (.tuple #[.agg #[.slice B m cm, .int .i64 I, .int .i64 H, .int .i64 S, .int .i64 P], .int .i64 z]) ∧ m ≤ 7 ∧ Drawn w' w.heap.size 48 4 B m cm (lf L) ∧ Below w.heap.size w w' := by
  go_enter Tryd.func5, Tryd.ntmps5
  go_wp2_with fail
  refine nameC ?_
  intro w1 hw1
  have hB : Below w.heap.size w w1 := by rw [hw1]; exact (Below.refl _ w).alloc (Nat.le_refl _) _
  have h2 : w1.heap[w.heap.size]? = some (.cells #[.slice none 0 0, .int .i64 0, .int .i64 0, .int .i64 0, .int .i64 0] 26 (0, 0)) := by rw [hw1]; exact heap_alloc_new w _
  have hc := hc.below hB
  clear hw1
  have hgl := (Array.getElem?_eq_some_iff.1 h2).1
  refine (DrawRoomInPan_any A n c w1 hc hn).mono ?_
  rintro e w2 ⟨B, m, cm, L, I, H, S, P, z, rfl, hm7, hd, hb⟩
  have h2 := rowB h2 hb
  have hB := below_of hB hb hB.size
  clear hb
  obtain ⟨r0, r1, r2, r3, r4⟩ := cells5 h2
  have rf : ∀ j, w2.frozen? ⟨w.heap.size, j, none⟩ = false := fun j => frozen_of_row w2 (w.heap.size) j _ _ h2
  have HB := Lib.hid hB
  have HD := Lib.hid hd
  clear h2 hB hd
  go_wp2
  obtain ⟨wq, hwq⟩ : ∃ wq, wq = (((((w2.setCell ⟨w.heap.size, 0, none⟩ (.slice B m cm)).setCell ⟨w.heap.size, 1, none⟩ (.int .i64 I)).setCell ⟨w.heap.size, 2, none⟩ (.int .i64 H)).setCell ⟨w.heap.size, 3, none⟩ (.int .i64 S)).setCell ⟨w.heap.size, 4, none⟩ (.int .i64 P)) := ⟨_, rfl⟩
  rw [← hwq]
  have q0 : wq.cell? ⟨w.heap.size, 0, none⟩ = some (.slice B m cm) := by rw [hwq]; go_simp
  have q1 : wq.cell? ⟨w.heap.size, 1, none⟩ = some (.int .i64 I) := by rw [hwq]; go_simp
  have q2 : wq.cell? ⟨w.heap.size, 2, none⟩ = some (.int .i64 H) := by rw [hwq]; go_simp
  have q3 : wq.cell? ⟨w.heap.size, 3, none⟩ = some (.int .i64 S) := by rw [hwq]; go_simp
  have q4 : wq.cell? ⟨w.heap.size, 4, none⟩ = some (.int .i64 P) := by rw [hwq]; go_simp
  have hq := (((((HD.out.setRes (p := ⟨w.heap.size, 0, none⟩) (by show w.heap.size < w1.heap.size; omega) (.slice B m cm)).setRes (p := ⟨w.heap.size, 1, none⟩) (by show w.heap.size < w1.heap.size; omega) (.int .i64 I)).setRes (p := ⟨w.heap.size, 2, none⟩) (by show w.heap.size < w1.heap.size; omega) (.int .i64 H)).setRes (p := ⟨w.heap.size, 3, none⟩) (by show w.heap.size < w1.heap.size; omega) (.int .i64 S)).setRes (p := ⟨w.heap.size, 4, none⟩) (by show w.heap.size < w1.heap.size; omega) (.int .i64 P)).lo_le (show w.heap.size ≤ w1.heap.size by omega)
  have hBq := (((((HB.out.setCell (p := ⟨w.heap.size, 0, none⟩) (Nat.le_refl _) (.slice B m cm)).setCell (p := ⟨w.heap.size, 1, none⟩) (Nat.le_refl _) (.int .i64 I)).setCell (p := ⟨w.heap.size, 2, none⟩) (Nat.le_refl _) (.int .i64 H)).setCell (p := ⟨w.heap.size, 3, none⟩) (Nat.le_refl _) (.int .i64 S)).setCell (p := ⟨w.heap.size, 4, none⟩) (Nat.le_refl _) (.int .i64 P))
  rw [← hwq] at hq hBq
  clear hwq HD HB
  try simp only [Exit.inBlock, Exit.then]
  refine bodyPost_ret (by simp [results, Tryd.results5, go_sem, q0, q1, q2, q3, q4]; try rfl) rfl ?_
  exact ⟨_, _, _, _, _, _, _, _, _, rfl, hm7, hq, hBq⟩
set_option maxHeartbeats 1000000 in
theorem DrawPanText_any (A : Option Addr) (n c : Nat) (w : World) (hc : Code w A n) (hn : n ≤ 65536) :
    Calls Tryd.prog 19 #[.slice A n c] w fun e w' => ∃ (B : Option Addr) (m cm : Nat) (L : List Int) (I H S P z : Int), e = .returned (.tuple #[.agg #[.slice B m cm, .int .i64 I, .int .i64 H, .int .i64 S, .int .i64 P], .int .i64 z]) ∧ m ≤ 7 ∧ Drawn w' w.heap.size 48 4 B m cm (lf L) ∧ Below w.heap.size w w' := by
  go_enter Tryd.func19, Tryd.ntmps19
  go_wp2_with fail
  refine nameC ?_
  intro w1 hw1
  have hB : Below w.heap.size w w1 := by rw [hw1]; exact (Below.refl _ w).alloc (Nat.le_refl _) _
  have h2 : w1.heap[w.heap.size]? = some (.cells #[.slice none 0 0, .int .i64 0, .int .i64 0, .int .i64 0, .int .i64 0] 26 (0, 0)) := by rw [hw1]; exact heap_alloc_new w _
  have hc := hc.below hB
  clear hw1
  have hgl := (Array.getElem?_eq_some_iff.1 h2).1
  refine (DrawRoomInPan_any A n c w1 hc hn).mono ?_
  rintro e w2 ⟨B, m, cm, L, I, H, S, P, z, rfl, hm7, hd, hb⟩
  have h2 := rowB h2 hb
  have hB := below_of hB hb hB.size
  clear hb
  obtain ⟨r0, r1, r2, r3, r4⟩ := cells5 h2
  have rf : ∀ j, w2.frozen? ⟨w.heap.size, j, none⟩ = false := fun j => frozen_of_row w2 (w.heap.size) j _ _ h2
  have HB := Lib.hid hB
  have HD := Lib.hid hd
  clear h2 hB hd
  go_wp2
  obtain ⟨wq, hwq⟩ : ∃ wq, wq = (((((w2.setCell ⟨w.heap.size, 0, none⟩ (.slice B m cm)).setCell ⟨w.heap.size, 1, none⟩ (.int .i64 I)).setCell ⟨w.heap.size, 2, none⟩ (.int .i64 H)).setCell ⟨w.heap.size, 3, none⟩ (.int .i64 S)).setCell ⟨w.heap.size, 4, none⟩ (.int .i64 P)) := ⟨_, rfl⟩
  rw [← hwq]
  have q0 : wq.cell? ⟨w.heap.size, 0, none⟩ = some (.slice B m cm) := by rw [hwq]; go_simp
  have q1 : wq.cell? ⟨w.heap.size, 1, none⟩ = some (.int .i64 I) := by rw [hwq]; go_simp
  have q2 : wq.cell? ⟨w.heap.size, 2, none⟩ = some (.int .i64 H) := by rw [hwq]; go_simp
  have q3 : wq.cell? ⟨w.heap.size, 3, none⟩ = some (.int .i64 S) := by rw [hwq]; go_simp
  have q4 : wq.cell? ⟨w.heap.size, 4, none⟩ = some (.int .i64 P) := by rw [hwq]; go_simp
  have hq := (((((HD.out.setRes (p := ⟨w.heap.size, 0, none⟩) (by show w.heap.size < w1.heap.size; omega) (.slice B m cm)).setRes (p := ⟨w.heap.size, 1, none⟩) (by show w.heap.size < w1.heap.size; omega) (.int .i64 I)).setRes (p := ⟨w.heap.size, 2, none⟩) (by show w.heap.size < w1.heap.size; omega) (.int .i64 H)).setRes (p := ⟨w.heap.size, 3, none⟩) (by show w.heap.size < w1.heap.size; omega) (.int .i64 S)).setRes (p := ⟨w.heap.size, 4, none⟩) (by show w.heap.size < w1.heap.size; omega) (.int .i64 P)).lo_le (show w.heap.size ≤ w1.heap.size by omega)
  have hBq := (((((HB.out.setCell (p := ⟨w.heap.size, 0, none⟩) (Nat.le_refl _) (.slice B m cm)).setCell (p := ⟨w.heap.size, 1, none⟩) (Nat.le_refl _) (.int .i64 I)).setCell (p := ⟨w.heap.size, 2, none⟩) (Nat.le_refl _) (.int .i64 H)).setCell (p := ⟨w.heap.size, 3, none⟩) (Nat.le_refl _) (.int .i64 S)).setCell (p := ⟨w.heap.size, 4, none⟩) (Nat.le_refl _) (.int .i64 P))
  rw [← hwq] at hq hBq
  clear hwq HD HB
  try simp only [Exit.inBlock, Exit.then]
  refine bodyPost_ret (by simp [results, Tryd.results19, go_sem, q0, q1, q2, q3, q4]; try rfl) rfl ?_
  exact ⟨_, _, _, _, _, _, _, _, _, rfl, hm7, hq, hBq⟩
end Go.Proofs.YtjkockhldaacbaaDoor
