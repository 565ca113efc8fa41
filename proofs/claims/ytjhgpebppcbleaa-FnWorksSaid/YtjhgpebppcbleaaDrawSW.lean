/-
  DrawStepWorks: some works of at most 7 pans and some step, whatever the bytes.
-/
import Derived.Test.YtjhgpebppcbleaaPk1
import Derived.Test.YtjhgpebppcbleaaDrawWK
import Derived.Test.YtjhgpebppcbleaaDrawR
namespace Go.Proofs.Ytjhgpebppcbleaa
open Go.RowKit
set_option linter.unusedVariables false
set_option linter.unusedSimpArgs false
set_option maxRecDepth 100000 in
set_option maxHeartbeats 4000000 in
theorem DrawStepWorks_any (A : Option Addr) (n c : Nat) (w : World) (hc : Code w A n) (hn : n ≤ 65536) :
    Calls Try.prog 8 #[.slice A n c] w fun e w' => ∃ (B : Option Addr) (m cm : Nat) (L : List Int) (I H S P a0 a1 a2 a3 : Int), e = .returned (.tuple #[.agg #[.slice B m cm, .int .i64 I, .int .i64 H, .int .i64 S, .int .i64 P], .agg #[.int .i64 a0, .int .i64 a1, .int .i64 a2, .int .i64 a3]]) ∧ m ≤ 7 ∧ Drawn w' w.heap.size 87 4 B m cm (lf L) ∧ Below w.heap.size w w' := by
  go_enter Try.func8, Try.ntmps8
  go_wp2_with fail
  refine nameC ?_
  intro w1 hw1
  have h2 : w1.heap[w.heap.size]? = some (.cells #[.slice none 0 0, .int .i64 0, .int .i64 0, .int .i64 0, .int .i64 0] 26 (0, 0)) := by
    rw [hw1, heap_alloc_old _ _ (by simp; omega), heap_alloc_old _ _ (by simp)]
    exact heap_alloc_new w _
  have h3 : w1.heap[w.heap.size + 1]? = some (.cells #[.int .i64 0, .int .i64 0, .int .i64 0, .int .i64 0] 28 (0, 0)) := by
    rw [hw1, heap_alloc_old _ _ (by simp)]
    have h := heap_alloc_new (w.alloc (.cells #[.slice none 0 0, .int .i64 0, .int .i64 0, .int .i64 0, .int .i64 0] 26)) (.cells #[.int .i64 0, .int .i64 0, .int .i64 0, .int .i64 0] 28)
    simpa using h
  have hB2 : Below w.heap.size w ((w.alloc (.cells #[.slice none 0 0, .int .i64 0, .int .i64 0, .int .i64 0, .int .i64 0] 26)).alloc (.cells #[.int .i64 0, .int .i64 0, .int .i64 0, .int .i64 0] 28)) := ((Below.refl _ w).alloc (Nat.le_refl _) _).alloc (by simp) _
  have hB : Below w.heap.size w w1 := by rw [hw1]; exact hB2.alloc (by simp; omega) _
  have hC : Cur w1 (w.heap.size + 1 + 1) A n c 0 := by rw [hw1]; have h := (hc.below hB2).cur (c := c) (T := 75); simpa using h
  clear hw1 hB2 hc
  obtain ⟨g, hg⟩ : ∃ q, w.heap.size + 1 + 1 = q := ⟨_, rfl⟩
  rw [hg] at hC
  try rw [hg]
  have hgl := hC.lt
  refine (works_any g n c 0 A w1 hC hn (by omega)).mono ?_
  rintro e w2 ⟨B, m, cm, L, I, H, S, P, rfl, hm7, hmc, hcm, hown, hC, hf⟩
  have hz1 := hB.size
  have hzf := hf.size
  have h2 := (hf.block _ (Array.getElem?_eq_some_iff.1 h2).1 (Or.inl (by omega))).trans h2
  have h3 := (hf.block _ (Array.getElem?_eq_some_iff.1 h3).1 (Or.inl (by omega))).trans h3
  have hB := hB.trans (hf.below (by omega) hB.size)
  have hown := ownsRow_monoP hown (show w.heap.size + 3 ≤ w1.heap.size by omega)
  clear hf
  go_upto_region 3 with fail
  refine nameWS ?_
  intro w3 hw3
  have hn2 : Below w2.heap.size w2 w3 := by rw [hw3]; exact (Below.refl _ w2).alloc (Nat.le_refl _) _
  have h5 : w3.heap[w2.heap.size]? = some (.cells #[.slice B m cm, .int .i64 I, .int .i64 H, .int .i64 S, .int .i64 P] 26 (0, 0)) := by rw [hw3]; exact heap_alloc_new w2 _
  have h2 := rowB h2 hn2
  have h3 := rowB h3 hn2
  have hown := ownsRow_below hown hn2
  have hC := hC.below hn2
  have hz2 := hB.size
  have hgz : g < w2.heap.size := by omega
  have hB := below_of hB hn2 hB.size
  obtain ⟨b5, hb5⟩ : ∃ q, w2.heap.size = q := ⟨_, rfl⟩
  rw [hb5] at h5 hgz hz2
  try rw [hb5]
  clear hw3 hn2 hb5
  refine wp_region_held_drew (S := fun w' => (w'.heap[b5]? = some (.cells #[.slice B m cm, .int .i64 I, .int .i64 H, .int .i64 S, .int .i64 P] 26 (0, 0)) ∧ Below w.heap.size w w')) (by kernel_rfl) ⟨h5, below_drewN hB 1⟩ (fun hHeld => ?_)
  have hC := hC.drewN 1
  have h2 : (w3.drewN 1).heap[w.heap.size]? = some (.cells #[.slice none 0 0, .int .i64 0, .int .i64 0, .int .i64 0, .int .i64 0] 26 (0, 0)) := h2
  have h3 : (w3.drewN 1).heap[w.heap.size + 1]? = some (.cells #[.int .i64 0, .int .i64 0, .int .i64 0, .int .i64 0] 28 (0, 0)) := h3
  have hown := ownsRow_below hown (below_drewN (Below.refl _ w3) 1)
  obtain ⟨v0, hv⟩ : ∃ v, w3.drewN 1 = v := ⟨_, rfl⟩
  have hv' : w3.drew = v0 := hv
  rw [hv] at hC h2 h3 hown
  rw [hv'] at hHeld ⊢
  clear hv hv' h5 hB
  have HF : Hid (∀ w', (w'.heap[b5]? = some (.cells #[.slice B m cm, .int .i64 I, .int .i64 H, .int .i64 S, .int .i64 P] 26 (0, 0)) ∧ Below w.heap.size w w') → w'.cell? ⟨b5, 0, none⟩ = some (.slice B m cm) ∧ w'.cell? ⟨b5, 1, none⟩ = some (.int .i64 I) ∧ w'.cell? ⟨b5, 2, none⟩ = some (.int .i64 H) ∧ w'.cell? ⟨b5, 3, none⟩ = some (.int .i64 S) ∧ w'.cell? ⟨b5, 4, none⟩ = some (.int .i64 P)) := fun w' hS => ⟨by rw [cell_of_row w' b5 0 _ _ (0, 0) hS.1]; rfl, by rw [cell_of_row w' b5 1 _ _ (0, 0) hS.1]; rfl, by rw [cell_of_row w' b5 2 _ _ (0, 0) hS.1]; rfl, by rw [cell_of_row w' b5 3 _ _ (0, 0) hS.1]; rfl, by rw [cell_of_row w' b5 4 _ _ (0, 0) hS.1]; rfl⟩
  refine tk (v := ?_) 0 11 HF rfl ?_ hHeld ?_
  rotate_left; · (intro _ _ _; go_simp; try with_reducible rfl)
  simp only [Act.put, p1, p2, p3]
  refine tk (v := ?_) 1 12 HF rfl ?_ hHeld ?_
  rotate_left; · (intro _ _ _; go_simp; try with_reducible rfl)
  simp only [Act.put, p1, p2, p3]
  refine tk (v := ?_) 2 13 HF rfl ?_ hHeld ?_
  rotate_left; · (intro _ _ _; go_simp; try with_reducible rfl)
  simp only [Act.put, p1, p2, p3]
  refine wpAnyH_ready (rs := [3]) (by kernel_rfl) (by simp) ?_
  refine (AllReadyH.cons rfl (fun K hK => ?_) AllReadyH.nil)
  go_simp
  refine (worksStep_any g n c _ A B m cm (w.heap.size + 3) v0.heap.size (lf L) I H S P v0 hC hn (by omega) (own_sl hown) (by omega) (by omega) hmc).mono ?_
  rintro e v1 ⟨a0, a1, a2, a3, rfl, hC, hf⟩
  have hS2 : (v1.heap[b5]? = some (.cells #[.slice B m cm, .int .i64 I, .int .i64 H, .int .i64 S, .int .i64 P] 26 (0, 0)) ∧ Below w.heap.size w v1) := ⟨(hf.block _ (Array.getElem?_eq_some_iff.1 hHeld.1).1 (Or.inr (by omega))).trans hHeld.1, hHeld.2.trans (hf.below (by omega) hHeld.2.size)⟩
  have h2 := (hf.block _ (Array.getElem?_eq_some_iff.1 h2).1 (Or.inl (by omega))).trans h2
  have h3 := (hf.block _ (Array.getElem?_eq_some_iff.1 h3).1 (Or.inl (by omega))).trans h3
  have hown := own_step hown (by omega) hf
  clear hf hHeld HF
  refine hK.out _ _ hS2 (fun hHeld => ?_)
  clear hK K hS2
  refine wpAnyH_store (fuel := 1) (i := 4) rfl (by kernel_rfl) (w.heap.size) 0 (.agg #[.slice B m cm, .int .i64 I, .int .i64 H, .int .i64 S, .int .i64 P]) 26 #[.slice none 0 0, .int .i64 0, .int .i64 0, .int .i64 0, .int .i64 0] rfl rfl infoWorksK h2 (Nat.le_refl 5) (by simp [Value.cells, Value.oneCell']) (fun w' hg' => ⟨(hg'.block _ (Array.getElem?_eq_some_iff.1 hHeld.1).1 (fun e => by have := Option.some.inj e; omega)).trans hHeld.1, hHeld.2.grown hg' hHeld.2.size (fun k hk => by cases hk; omega)⟩) ?ksa
  case ksa =>
    intro v2 hh hgw hS3
    clear hHeld
    have hHeld := hS3
    clear hS3
    have hh : v2.heap[w.heap.size]? = some (.cells #[.slice B m cm, .int .i64 I, .int .i64 H, .int .i64 S, .int .i64 P] 26 (0, 0)) := hh
    have hown := own_other hown h2 (by decide) hgw
    have h3 := (hgw.block _ (Array.getElem?_eq_some_iff.1 h3).1 (fun e => by have := Option.some.inj e; omega)).trans h3
    clear h2 hgw
    refine wpAnyH_store (fuel := 0) (i := 5) rfl (by kernel_rfl) (w.heap.size + 1) 0 (.agg #[.int .i64 a0, .int .i64 a1, .int .i64 a2, .int .i64 a3]) 28 #[.int .i64 0, .int .i64 0, .int .i64 0, .int .i64 0] rfl rfl infoStepD h3 (Nat.le_refl 4) (by simp [Value.cells, Value.oneCell']) (fun w' hg' => ⟨(hg'.block _ (Array.getElem?_eq_some_iff.1 hHeld.1).1 (fun e => by have := Option.some.inj e; omega)).trans hHeld.1, hHeld.2.grown hg' hHeld.2.size (fun k hk => by cases hk; omega)⟩) ?ksb
    case ksb =>
      intro v3 hh3 hgw hS3
      clear hHeld
      have hh3 : v3.heap[w.heap.size + 1]? = some (.cells #[.int .i64 a0, .int .i64 a1, .int .i64 a2, .int .i64 a3] 28 (0, 0)) := hh3
      have hown := own_other hown h3 (by decide) hgw
      have hh := (hgw.block _ (Array.getElem?_eq_some_iff.1 hh).1 (fun e => by have := Option.some.inj e; omega)).trans hh
      clear h3 hgw
      have hB := hS3.2
      clear hS3 hC
      refine wpAnyH_done (by kernel_rfl) ?_ _
      obtain ⟨q0, q1, q2, q3, q4⟩ := cells5 hh
      obtain ⟨u0, u1, u2, u3⟩ := cells4 hh3
      obtain ⟨B9, c9, e9, hd⟩ := drawnRow_of 4 hown (show w.heap.size ≤ w.heap.size + 3 by omega)
      cases e9
      have HD := Lib.hid hd
      have HB := Lib.hid hB
      clear hh hh3 hown hd hB
      go_wp2
      try simp only [Exit.inBlock, Exit.then]
      refine bodyPost_ret (by simp [results, Try.results8, go_sem, q0, q1, q2, q3, q4, u0, u1, u2, u3]; try rfl) rfl ?_
      exact ⟨_, _, _, _, _, _, _, _, _, _, _, _, rfl, hm7, HD.out, HB.out⟩
end Go.Proofs.Ytjhgpebppcbleaa
