/-
  The cursor's worksStep: some step, whatever the bytes and the works.
-/
import Derived.Test.YtjkockhldaacbaaDoorPk1
import Derived.Test.YtjkockhldaacbaaDoorPk8
import Derived.Test.YtjkockhldaacbaaDoorPk6
import Derived.Test.YtjkockhldaacbaaDoorWorksE
import Derived.Deep.DeepCutAuto
namespace Go.Proofs.YtjkockhldaacbaaDoor
open Go.RowKit
set_option linter.unusedVariables false
set_option linter.unusedSimpArgs false
theorem nameWS {P : Program} {c : Go.Code} {Q : Exit → Act → World → Prop} {a : Act} {W : World} (h : ∀ w2, w2 = W → c.wp P Q a w2) : c.wp P Q a W := h W rfl
theorem infoStepD : (Tryd.prog.info? 34).map (·.size) = some 4 := by kernel_rfl
theorem infoPanD : (Tryd.prog.info? 48).map (·.size) = some 4 := by kernel_rfl
/-- What stands while a step is drawn: the works in their box, the pans, the brine. -/
structure WS (w W : World) (g : Nat) (B : Option Addr) (m cm : Nat) (f : Nat → Int) (I H S P : Int) (lo hi bq : Nat) (x y : Int) : Prop where
  fr : Fr g (g + 1) w W
  box : W.heap[w.heap.size]? = some (.cells #[.slice B m cm, .int .i64 I, .int .i64 H, .int .i64 S, .int .i64 P] 26 (0, 0))
  sl : Sl W lo hi 4 B m f
  br : Blk W bq 46 [x, y]
theorem WS.step {w W W' : World} {g : Nat} {B : Option Addr} {m cm : Nat} {f : Nat → Int} {I H S P : Int} {lo hi bq : Nat} {x y : Int} (h : WS w W g B m cm f I H S P lo hi bq x y) (hf : Fr g (g + 1) W W') (hg : g < w.heap.size) (hlo : g < lo) (hbq : w.heap.size + 1 < bq) : WS w W' g B m cm f I H S P lo hi bq x y :=
  ⟨h.fr.trans hf, (hf.block _ (Array.getElem?_eq_some_iff.1 h.box).1 (Or.inr hg)).trans h.box, h.sl.fr hf (Or.inr hlo), h.br.fr hf (by omega)⟩
theorem WS.below {w W W' : World} {g : Nat} {B : Option Addr} {m cm : Nat} {f : Nat → Int} {I H S P : Int} {lo hi bq : Nat} {x y : Int} (h : WS w W g B m cm f I H S P lo hi bq x y) (hb : Below W.heap.size W W') : WS w W' g B m cm f I H S P lo hi bq x y :=
  ⟨h.fr.trans (Fr.of_below _ _ hb), (hb.block _ (Array.getElem?_eq_some_iff.1 h.box).1).trans h.box, h.sl.below hb, (hb.block _ h.br.lt).trans h.br⟩
theorem WS.grown {w W W' : World} {g : Nat} {B : Option Addr} {m cm : Nat} {f : Nat → Int} {I H S P : Int} {lo hi bq : Nat} {x y : Int} {r : Nat} (h : WS w W g B m cm f I H S P lo hi bq x y) (hg : W.grownBy W' (some r)) (hr : w.heap.size < r) (hrb : r ≠ bq) (hhi : hi ≤ w.heap.size) : WS w W' g B m cm f I H S P lo hi bq x y := by
  refine ⟨⟨hg.os.trans h.fr.os, hg.tape.trans h.fr.tape, hg.output.trans h.fr.output, Nat.le_trans h.fr.size hg.size, fun k hk hx => (hg.block k (Nat.lt_of_lt_of_le hk h.fr.size) (fun e => by have := Option.some.inj e; omega)).trans (h.fr.block k hk hx)⟩,
    (hg.block _ (Array.getElem?_eq_some_iff.1 h.box).1 (fun e => by have := Option.some.inj e; omega)).trans h.box, ⟨Nat.le_trans h.sl.hi_le hg.size, fun hn => ?_⟩, (hg.block _ h.br.lt (fun e => by have := Option.some.inj e; omega)).trans h.br⟩
  obtain ⟨b, off, e, h1, h2, h3⟩ := h.sl.here hn
  exact ⟨b, off, e, h1, h2, fun j hj => (World.cell?_of_block (a := ⟨b, off + j, none⟩) (hg.block b (Nat.lt_of_lt_of_le h2 h.sl.hi_le) (fun e => by have := Option.some.inj e; omega))).trans (h3 j hj)⟩
theorem Cur.grown {W W' : World} {g n c p r : Nat} {A : Option Addr} (h : Cur W g A n c p) (hg : W.grownBy W' (some r)) (hr : g < r) : Cur W' g A n c p :=
  h.keep hg.size (fun k hk => hg.block k (Nat.lt_of_le_of_lt hk h.lt) (fun e => by have := Option.some.inj e; omega))
theorem Blk.grown {W W' : World} {b r : Nat} {T : TypeId} {L : List Int} (h : Blk W b T L) (hg : W.grownBy W' (some r)) (hr : b ≠ r) : Blk W' b T L :=
  (hg.block _ h.lt (fun e => by have := Option.some.inj e; omega)).trans h
theorem Sl.setC {W : World} {lo hi k m b j : Nat} {B : Option Addr} {f : Nat → Int} (h : Sl W lo hi k B m f) (hb : hi ≤ b) (v : Value) : Sl (W.setCell ⟨b, j, none⟩ v) lo hi k B m f :=
  ⟨by simpa [World.setCell] using h.hi_le, fun hn => by
    obtain ⟨a, off, e, h1, h2, h3⟩ := h.here hn
    refine ⟨a, off, e, h1, h2, fun i hi' => ?_⟩
    rw [World.cell?_setCell_other _ _ _ _ (by intro e; have := congrArg Addr.block e; simp at this; omega)]
    exact h3 i hi'⟩
theorem WS.set0 {w W : World} {g : Nat} {B : Option Addr} {m cm : Nat} {f : Nat → Int} {I H S P : Int} {lo hi bq : Nat} {x y : Int} (h : WS w W g B m cm f I H S P lo hi bq x y) (hbq : w.heap.size + 1 < bq) (hhi : hi ≤ w.heap.size) (v : Int) : WS w (W.setCell ⟨bq, 0, none⟩ (.int .i64 v)) g B m cm f I H S P lo hi bq v y :=
  ⟨h.fr.setOwn (j := 0) (p := ⟨bq, 0, none⟩) (by show w.heap.size ≤ bq; omega) _, (Below.heap_setCell _ _ _ _ (by show w.heap.size ≠ bq; omega)).trans h.box, h.sl.setC (by omega) _, h.br.set 0 v⟩
theorem WS.set1 {w W : World} {g : Nat} {B : Option Addr} {m cm : Nat} {f : Nat → Int} {I H S P : Int} {lo hi bq : Nat} {x y : Int} (h : WS w W g B m cm f I H S P lo hi bq x y) (hbq : w.heap.size + 1 < bq) (hhi : hi ≤ w.heap.size) (v : Int) : WS w (W.setCell ⟨bq, 1, none⟩ (.int .i64 v)) g B m cm f I H S P lo hi bq x v :=
  ⟨h.fr.setOwn (j := 0) (p := ⟨bq, 1, none⟩) (by show w.heap.size ≤ bq; omega) _, (Below.heap_setCell _ _ _ _ (by show w.heap.size ≠ bq; omega)).trans h.box, h.sl.setC (by omega) _, h.br.set 1 v⟩
set_option maxRecDepth 100000 in
set_option maxHeartbeats 8000000 in
theorem worksStep_any (g n c p : Nat) (A : Option Addr) (B : Option Addr) (m cm lo hi : Nat) (f : Nat → Int) (I H S P : Int) (w : World) (hC0 : Cur w g A n c p) (hn : n ≤ 65536) (hp : p ≤ 800000000) (hs : Sl w lo hi 4 B m f) (hlo : g < lo) (hm : m ≤ 1000000) (hmc : m ≤ cm) :
    Calls Tryd.prog 66 #[.pointer (some ⟨g, 0, none⟩), .agg #[.slice B m cm, .int .i64 I, .int .i64 H, .int .i64 S, .int .i64 P]] w fun e w' => ∃ a0 a1 a2 a3 : Int, e = .returned (.agg #[.int .i64 a0, .int .i64 a1, .int .i64 a2, .int .i64 a3]) ∧ Cur w' g A n c (p + 20) ∧ Fr g (g + 1) w w' := by
  go_enter Tryd.func66, Tryd.ntmps66
  have hg : g < w.heap.size := hC0.lt
  go_upto_region 1 with fail
  refine nameWS ?_
  intro w1 hw1
  have hB1 : w1.heap[w.heap.size]? = some (.cells #[.slice B m cm, .int .i64 I, .int .i64 H, .int .i64 S, .int .i64 P] 26 (0, 0)) := by rw [hw1, heap_alloc_old _ _ (by simp)]; exact heap_alloc_new w _
  have hR : Blk w1 (w.heap.size + 1) 34 [0, 0, 0, 0] := by
    rw [hw1]
    have h := heap_alloc_new (w.alloc (.cells #[.slice B m cm, .int .i64 I, .int .i64 H, .int .i64 S, .int .i64 P] 26)) (.cells #[.int .i64 0, .int .i64 0, .int .i64 0, .int .i64 0] 34)
    simpa [Blk] using h
  have hF1 : Fr g (g + 1) w w1 := by rw [hw1]; exact ((Fr.refl _ _ w).alloc' _).alloc' _
  have hC : Cur w1 g A n c (p + 0) := by rw [hw1]; exact (hC0.alloc _).alloc _
  have hS1 : Sl w1 lo hi 4 B m f := by rw [hw1]; exact (hs.below ((Below.refl _ w).alloc (Nat.le_refl _) _)).below ((Below.refl _ _).alloc (Nat.le_refl _) _)
  have hhi : hi ≤ w.heap.size := hs.hi_le
  clear hw1 hC0 hs
  go_wp2_with fail
  refine (among_lit g n c _ _ A _ [1, 7, 20] _ _ _ rfl rfl (by simp) (by simp) hC hn (by omega)).mono ?_
  rintro e w2 ⟨z5, rfl, hC, hf⟩
  have hB1 := (hf.block _ (Array.getElem?_eq_some_iff.1 hB1).1 (Or.inr (by omega))).trans hB1
  have hR := hR.fr hf (by omega)
  have hF1 := hF1.trans hf
  have hS1 := hS1.fr hf (Or.inr hlo)
  clear hf
  go_wp2_with fail
  refine (among_lit g n c _ _ A _ [1, 7, 20] _ _ _ rfl rfl (by simp) (by simp) hC hn (by omega)).mono ?_
  rintro e w3 ⟨z6, rfl, hC, hf⟩
  have hB1 := (hf.block _ (Array.getElem?_eq_some_iff.1 hB1).1 (Or.inr (by omega))).trans hB1
  have hR := hR.fr hf (by omega)
  have hF1 := hF1.trans hf
  have hS1 := hS1.fr hf (Or.inr hlo)
  clear hf
  have hbz : w.heap.size + 1 < w3.heap.size := hR.lt
  go_upto_region 2 with fail
  refine nameWS ?_
  intro w4 hw4
  have hbr : Blk w4 w3.heap.size 46 [10, 10] := by rw [hw4]; exact Blk.new [10, 10] rfl
  have hb4 : Below w3.heap.size w3 w4 := by rw [hw4]; exact (Below.refl _ _).alloc (Nat.le_refl _) _
  have hC := hC.below hb4
  have hR : Blk w4 (w.heap.size + 1) 34 [0, 0, 0, 0] := (hb4.block _ hR.lt).trans hR
  clear hw4
  obtain ⟨bq, hbqe⟩ : ∃ q, w3.heap.size = q := ⟨_, rfl⟩
  have hW : WS w w4 g B m cm f I H S P lo hi w3.heap.size 10 10 := ⟨hF1.trans (Fr.of_below _ _ hb4), (hb4.block _ (Array.getElem?_eq_some_iff.1 hB1).1).trans hB1, hS1.below hb4, hbr⟩
  clear hb4 hbr hB1 hF1 hS1
  rw [hbqe] at hW hbz
  try rw [hbqe]
  have hbq := hbz
  clear hbz hbqe
  have c0 : w4.cell? ⟨w.heap.size, 0, none⟩ = some (.slice B m cm) := by rw [cell_of_row w4 (w.heap.size) 0 _ _ (0, 0) hW.box]; rfl
  go_upto_if 19 with fail
  go_cut [5, 6] (fun s5 s6 wx => ∃ z5 z6 x y : Int, s5 = .int .i64 z5 ∧ s6 = .int .i64 z6 ∧ Cur wx g A n c (p + 8) ∧ WS w wx g B m cm f I H S P lo hi bq x y ∧ Blk wx (w.heap.size + 1) 34 [0, 0, 0, 0])
  case first =>
    clear c0
    by_cases hm0 : 0 < m
    · have hm0i : (0 : Int) < (m : Int) := by omega
      obtain ⟨b, off, eB, _, _, _⟩ := hW.sl.here hm0
      subst eB
      go_upto_region 3 with fail
      go_cut [8] (fun s8 wx => ∃ g8 z : Nat, s8 = .pointer (some ⟨g8, 0, none⟩) ∧ z < m ∧ bq < g8 ∧ wx.heap[g8]? = some (.cells #[.int .i64 (f (z * 4)), .int .i64 (f (z * 4 + 1)), .int .i64 (f (z * 4 + 2)), .int .i64 (f (z * 4 + 3))] 48 (0, 0)) ∧ Cur wx g A n c (p + 6) ∧ WS w wx g (some ⟨b, off, none⟩) m cm f I H S P lo hi bq 10 10 ∧ Blk wx (w.heap.size + 1) 34 [0, 0, 0, 0])
      case first =>
        have HF : Hid (∀ w', WS w w' g (some ⟨b, off, none⟩) m cm f I H S P lo hi bq 10 10 → w'.cell? ⟨w.heap.size, 0, none⟩ = some (.slice (some ⟨b, off, none⟩) m cm) ∧ w'.cell? ⟨w.heap.size, 1, none⟩ = some (.int .i64 I) ∧ w'.cell? ⟨w.heap.size, 2, none⟩ = some (.int .i64 H) ∧ w'.cell? ⟨w.heap.size, 3, none⟩ = some (.int .i64 S) ∧ w'.cell? ⟨w.heap.size, 4, none⟩ = some (.int .i64 P) ∧ w'.cell? ⟨bq, 0, none⟩ = some (.int .i64 (10)) ∧ w'.cell? ⟨bq, 1, none⟩ = some (.int .i64 (10))) := fun w' hS => ⟨by rw [cell_of_row w' w.heap.size 0 _ _ (0, 0) hS.box]; rfl, by rw [cell_of_row w' w.heap.size 1 _ _ (0, 0) hS.box]; rfl, by rw [cell_of_row w' w.heap.size 2 _ _ (0, 0) hS.box]; rfl, by rw [cell_of_row w' w.heap.size 3 _ _ (0, 0) hS.box]; rfl, by rw [cell_of_row w' w.heap.size 4 _ _ (0, 0) hS.box]; rfl, hS.br.cell (j := 0) (by simp), hS.br.cell (j := 1) (by simp)⟩
        have hWd : WS w w4.drew g (some ⟨b, off, none⟩) m cm f I H S P lo hi bq 10 10 := hW.below (below_drewN (Below.refl _ w4) 1)
        have hCd : Cur w4.drew g A n c (p + 4) := hC.drewN 1
        have hRd : Blk w4.drew (w.heap.size + 1) 34 [0, 0, 0, 0] := hR
        clear hC hW hR
        refine wp_region_held_drew (S := fun w' => WS w w' g (some ⟨b, off, none⟩) m cm f I H S P lo hi bq 10 10) (by kernel_rfl) hWd (fun hHeld => ?_)
        clear hWd
        have hC := hCd
        have hR := hRd
        clear hCd hRd
        obtain ⟨v1, hv⟩ : ∃ v, w4.drew = v := ⟨_, rfl⟩
        rw [hv] at hHeld hC hR ⊢
        clear hv
        refine tk (v := ?_) 0 20 HF rfl ?_ hHeld ?_
        rotate_left; · (intro _ _ _; go_simp; try with_reducible rfl)
        simp only [Act.put, p1, p2, p3]
        refine tk (v := ?_) 2 22 HF rfl ?_ hHeld ?_
        rotate_left; · (intro _ _ _; go_simp; try with_reducible rfl)
        simp only [Act.put, p1, p2, p3]
        refine tk (v := ?_) 3 23 HF rfl ?_ hHeld ?_
        rotate_left; · (intro _ _ _; go_simp; try with_reducible rfl)
        simp only [Act.put, p1, p2, p3]
        refine tk (v := ?_) 1 21 HF rfl ?_ hHeld ?_
        rotate_left; · (intro _ _ _; go_simp; try with_reducible rfl)
        simp only [Act.put, p1, p2, p3]
        refine tk (v := ?_) 4 24 HF rfl ?_ hHeld ?_
        rotate_left; · (intro _ _ _; go_simp; try with_reducible rfl)
        simp only [Act.put, p1, p2, p3]
        refine wpAnyH_ready (rs := [5, 9]) (by kernel_rfl) (by simp) ?_
        refine (AllReadyH.cons rfl (fun K hK => ?_) (AllReadyH.cons rfl (fun K hK => ?_) AllReadyH.nil))
        · go_simp
          have hS2 := hHeld
          clear hHeld
          refine hK.out _ _ hS2 (fun hHeld => ?_)
          clear hK K hS2
          refine wpAnyH_ready (rs := [6, 9]) (by kernel_rfl) (by simp) ?_
          refine (AllReadyH.cons rfl (fun K hK => ?_) (AllReadyH.cons rfl (fun K hK => ?_) AllReadyH.nil))
          · go_simp
            refine (pick_any g n c _ m A _ hC hn (by omega) hm0 (by omega)).mono ?_
            rintro e v2 ⟨z, rfl, hz, hC, hf⟩
            have hS2 := hHeld.step hf hg hlo hbq
            have hR := hR.fr hf (by omega)
            clear hf hHeld
            refine hK.out _ _ hS2 (fun hHeld => ?_)
            clear hK K hS2
            have hzi : (z : Int) < (m : Int) := by omega
            have hz0 : (0 : Int) ≤ (z : Int) := by omega
            have HF2 : Hid (∀ w', WS w w' g (some ⟨b, off, none⟩) m cm f I H S P lo hi bq 10 10 → w'.cell? ⟨w.heap.size, 0, none⟩ = some (.slice (some ⟨b, off, none⟩) m cm) ∧ w'.cell? ⟨w.heap.size, 1, none⟩ = some (.int .i64 I) ∧ w'.cell? ⟨w.heap.size, 2, none⟩ = some (.int .i64 H) ∧ w'.cell? ⟨w.heap.size, 3, none⟩ = some (.int .i64 S) ∧ w'.cell? ⟨w.heap.size, 4, none⟩ = some (.int .i64 P) ∧ w'.cell? ⟨bq, 0, none⟩ = some (.int .i64 (10)) ∧ w'.cell? ⟨bq, 1, none⟩ = some (.int .i64 (10)) ∧ w'.cell? ⟨b, off + z * 4, none⟩ = some (.int .i64 (f (z * 4))) ∧ w'.cell? ⟨b, off + z * 4 + 1, none⟩ = some (.int .i64 (f (z * 4 + 1))) ∧ w'.cell? ⟨b, off + z * 4 + 2, none⟩ = some (.int .i64 (f (z * 4 + 2))) ∧ w'.cell? ⟨b, off + z * 4 + 3, none⟩ = some (.int .i64 (f (z * 4 + 3)))) := fun w' hS => by
              obtain ⟨e0, e1, e2, e3, e4, e5, e6⟩ := HF.out w' hS
              obtain ⟨b', off', eb, _, _, h3⟩ := hS.sl.here hm0
              cases eb
              have p0 := h3 (z * 4) (by omega)
              have p1 := h3 (z * 4 + 1) (by omega)
              have p2 := h3 (z * 4 + 2) (by omega)
              have p3 := h3 (z * 4 + 3) (by omega)
              rw [← Nat.add_assoc] at p1 p2 p3
              exact ⟨e0, e1, e2, e3, e4, e5, e6, p0, p1, p2, p3⟩
            clear HF
            have HF := HF2
            clear HF2
            refine tk (v := ?_) 7 27 HF rfl ?_ hHeld ?_
            rotate_left; · (intro _ _ _; go_simp; try with_reducible rfl)
            simp only [Act.put, p1, p2, p3]
            refine tk (v := ?_) 8 28 HF rfl ?_ hHeld ?_
            rotate_left; · (intro _ _ _; go_simp; try with_reducible rfl)
            simp only [Act.put, p1, p2, p3]
            refine wpAnyH_ready (rs := [9]) (by kernel_rfl) (by simp) ?_
            refine (AllReadyH.cons rfl (fun K hK => ?_) AllReadyH.nil)
            go_simp
            have h8 := heap_alloc_new v2 (.cells #[.int .i64 0, .int .i64 0, .int .i64 0, .int .i64 0] 48)
            have hS2 := hHeld.below ((Below.refl _ v2).alloc (Nat.le_refl _) (.cells #[.int .i64 0, .int .i64 0, .int .i64 0, .int .i64 0] 48))
            have hC := hC.alloc (.cells #[.int .i64 0, .int .i64 0, .int .i64 0, .int .i64 0] 48)
            have hR := hR.alloc (.cells #[.int .i64 0, .int .i64 0, .int .i64 0, .int .i64 0] 48)
            have hz8 : v2.heap.size > bq := hHeld.br.lt
            obtain ⟨g8, hge⟩ : ∃ q, v2.heap.size = q := ⟨_, rfl⟩
            rw [hge] at h8 hz8
            try rw [hge]
            obtain ⟨v3, hve⟩ : ∃ v, v2.alloc (.cells #[.int .i64 0, .int .i64 0, .int .i64 0, .int .i64 0] 48) = v := ⟨_, rfl⟩
            rw [hve] at h8 hS2 hC hR
            rw [hve]
            clear hve hge hHeld
            refine hK.out _ _ hS2 (fun hHeld => ?_)
            clear hK K hS2
            refine wpAnyH_store (fuel := 0) (i := 10) rfl (by kernel_rfl) g8 0 (.agg #[.int .i64 (f (z * 4)), .int .i64 (f (z * 4 + 1)), .int .i64 (f (z * 4 + 2)), .int .i64 (f (z * 4 + 3))]) 48 #[.int .i64 0, .int .i64 0, .int .i64 0, .int .i64 0] rfl rfl infoPanD h8 (Nat.le_refl 4) (by simp [Value.cells, Value.oneCell']) (fun w' hg' => hHeld.grown hg' (by omega) (by omega) hhi) ?ks4
            case ks4 =>
              intro v5 hh hgw hW
              clear hHeld
              have h8 : v5.heap[g8]? = some (.cells #[.int .i64 (f (z * 4)), .int .i64 (f (z * 4 + 1)), .int .i64 (f (z * 4 + 2)), .int .i64 (f (z * 4 + 3))] 48 (0, 0)) := hh
              have hC := hC.grown hgw (by omega)
              have hR := Blk.grown hR hgw (by omega)
              clear hgw hh HF
              refine wpAnyH_done (by kernel_rfl) ?_ _
              go_wp2_with fail
              go_meet
              case rel => exact ⟨_, _, rfl, hz, hz8, h8, hC.weaken (by omega), hW, hR⟩
          · go_simp
            have h8 := heap_alloc_new v1 (.cells #[.int .i64 0, .int .i64 0, .int .i64 0, .int .i64 0] 48)
            have hS2 := hHeld.below ((Below.refl _ v1).alloc (Nat.le_refl _) (.cells #[.int .i64 0, .int .i64 0, .int .i64 0, .int .i64 0] 48))
            have hC := hC.alloc (.cells #[.int .i64 0, .int .i64 0, .int .i64 0, .int .i64 0] 48)
            have hR := hR.alloc (.cells #[.int .i64 0, .int .i64 0, .int .i64 0, .int .i64 0] 48)
            have hz8 : v1.heap.size > bq := hHeld.br.lt
            obtain ⟨g8, hge⟩ : ∃ q, v1.heap.size = q := ⟨_, rfl⟩
            rw [hge] at h8 hz8
            try rw [hge]
            obtain ⟨v6, hve⟩ : ∃ v, v1.alloc (.cells #[.int .i64 0, .int .i64 0, .int .i64 0, .int .i64 0] 48) = v := ⟨_, rfl⟩
            rw [hve] at h8 hS2 hC hR
            rw [hve]
            clear hve hge hHeld
            refine hK.out _ _ hS2 (fun hHeld => ?_)
            clear hK K hS2
            refine wpAnyH_ready (rs := [6]) (by kernel_rfl) (by simp) ?_
            refine (AllReadyH.cons rfl (fun K hK => ?_) AllReadyH.nil)
            go_simp
            refine (pick_any g n c _ m A _ hC hn (by omega) hm0 (by omega)).mono ?_
            rintro e v7 ⟨z, rfl, hz, hC, hf⟩
            have hS2 := hHeld.step hf hg hlo hbq
            have hR := hR.fr hf (by omega)
            have h8 := (hf.block _ (Array.getElem?_eq_some_iff.1 h8).1 (Or.inr (by omega))).trans h8
            clear hf hHeld
            refine hK.out _ _ hS2 (fun hHeld => ?_)
            clear hK K hS2
            have hzi : (z : Int) < (m : Int) := by omega
            have hz0 : (0 : Int) ≤ (z : Int) := by omega
            have HF2 : Hid (∀ w', WS w w' g (some ⟨b, off, none⟩) m cm f I H S P lo hi bq 10 10 → w'.cell? ⟨w.heap.size, 0, none⟩ = some (.slice (some ⟨b, off, none⟩) m cm) ∧ w'.cell? ⟨w.heap.size, 1, none⟩ = some (.int .i64 I) ∧ w'.cell? ⟨w.heap.size, 2, none⟩ = some (.int .i64 H) ∧ w'.cell? ⟨w.heap.size, 3, none⟩ = some (.int .i64 S) ∧ w'.cell? ⟨w.heap.size, 4, none⟩ = some (.int .i64 P) ∧ w'.cell? ⟨bq, 0, none⟩ = some (.int .i64 (10)) ∧ w'.cell? ⟨bq, 1, none⟩ = some (.int .i64 (10)) ∧ w'.cell? ⟨b, off + z * 4, none⟩ = some (.int .i64 (f (z * 4))) ∧ w'.cell? ⟨b, off + z * 4 + 1, none⟩ = some (.int .i64 (f (z * 4 + 1))) ∧ w'.cell? ⟨b, off + z * 4 + 2, none⟩ = some (.int .i64 (f (z * 4 + 2))) ∧ w'.cell? ⟨b, off + z * 4 + 3, none⟩ = some (.int .i64 (f (z * 4 + 3)))) := fun w' hS => by
              obtain ⟨e0, e1, e2, e3, e4, e5, e6⟩ := HF.out w' hS
              obtain ⟨b', off', eb, _, _, h3⟩ := hS.sl.here hm0
              cases eb
              have p0 := h3 (z * 4) (by omega)
              have p1 := h3 (z * 4 + 1) (by omega)
              have p2 := h3 (z * 4 + 2) (by omega)
              have p3 := h3 (z * 4 + 3) (by omega)
              rw [← Nat.add_assoc] at p1 p2 p3
              exact ⟨e0, e1, e2, e3, e4, e5, e6, p0, p1, p2, p3⟩
            clear HF
            have HF := HF2
            clear HF2
            refine tk (v := ?_) 7 27 HF rfl ?_ hHeld ?_
            rotate_left; · (intro _ _ _; go_simp; try with_reducible rfl)
            simp only [Act.put, p1, p2, p3]
            refine tk (v := ?_) 8 28 HF rfl ?_ hHeld ?_
            rotate_left; · (intro _ _ _; go_simp; try with_reducible rfl)
            simp only [Act.put, p1, p2, p3]
            refine wpAnyH_store (fuel := 0) (i := 10) rfl (by kernel_rfl) g8 0 (.agg #[.int .i64 (f (z * 4)), .int .i64 (f (z * 4 + 1)), .int .i64 (f (z * 4 + 2)), .int .i64 (f (z * 4 + 3))]) 48 #[.int .i64 0, .int .i64 0, .int .i64 0, .int .i64 0] rfl rfl infoPanD h8 (Nat.le_refl 4) (by simp [Value.cells, Value.oneCell']) (fun w' hg' => hHeld.grown hg' (by omega) (by omega) hhi) ?ks8
            case ks8 =>
              intro v9 hh hgw hW
              clear hHeld
              have h8 : v9.heap[g8]? = some (.cells #[.int .i64 (f (z * 4)), .int .i64 (f (z * 4 + 1)), .int .i64 (f (z * 4 + 2)), .int .i64 (f (z * 4 + 3))] 48 (0, 0)) := hh
              have hC := hC.grown hgw (by omega)
              have hR := Blk.grown hR hgw (by omega)
              clear hgw hh HF
              refine wpAnyH_done (by kernel_rfl) ?_ _
              go_wp2_with fail
              go_meet
              case rel => exact ⟨_, _, rfl, hz, hz8, h8, hC.weaken (by omega), hW, hR⟩
        · go_simp
          have h8 := heap_alloc_new v1 (.cells #[.int .i64 0, .int .i64 0, .int .i64 0, .int .i64 0] 48)
          have hS2 := hHeld.below ((Below.refl _ v1).alloc (Nat.le_refl _) (.cells #[.int .i64 0, .int .i64 0, .int .i64 0, .int .i64 0] 48))
          have hC := hC.alloc (.cells #[.int .i64 0, .int .i64 0, .int .i64 0, .int .i64 0] 48)
          have hR := hR.alloc (.cells #[.int .i64 0, .int .i64 0, .int .i64 0, .int .i64 0] 48)
          have hz8 : v1.heap.size > bq := hHeld.br.lt
          obtain ⟨g8, hge⟩ : ∃ q, v1.heap.size = q := ⟨_, rfl⟩
          rw [hge] at h8 hz8
          try rw [hge]
          obtain ⟨v10, hve⟩ : ∃ v, v1.alloc (.cells #[.int .i64 0, .int .i64 0, .int .i64 0, .int .i64 0] 48) = v := ⟨_, rfl⟩
          rw [hve] at h8 hS2 hC hR
          rw [hve]
          clear hve hge hHeld
          refine hK.out _ _ hS2 (fun hHeld => ?_)
          clear hK K hS2
          refine wpAnyH_ready (rs := [5]) (by kernel_rfl) (by simp) ?_
          refine (AllReadyH.cons rfl (fun K hK => ?_) AllReadyH.nil)
          go_simp
          have hS2 := hHeld
          clear hHeld
          refine hK.out _ _ hS2 (fun hHeld => ?_)
          clear hK K hS2
          refine wpAnyH_ready (rs := [6]) (by kernel_rfl) (by simp) ?_
          refine (AllReadyH.cons rfl (fun K hK => ?_) AllReadyH.nil)
          go_simp
          refine (pick_any g n c _ m A _ hC hn (by omega) hm0 (by omega)).mono ?_
          rintro e v11 ⟨z, rfl, hz, hC, hf⟩
          have hS2 := hHeld.step hf hg hlo hbq
          have hR := hR.fr hf (by omega)
          have h8 := (hf.block _ (Array.getElem?_eq_some_iff.1 h8).1 (Or.inr (by omega))).trans h8
          clear hf hHeld
          refine hK.out _ _ hS2 (fun hHeld => ?_)
          clear hK K hS2
          have hzi : (z : Int) < (m : Int) := by omega
          have hz0 : (0 : Int) ≤ (z : Int) := by omega
          have HF2 : Hid (∀ w', WS w w' g (some ⟨b, off, none⟩) m cm f I H S P lo hi bq 10 10 → w'.cell? ⟨w.heap.size, 0, none⟩ = some (.slice (some ⟨b, off, none⟩) m cm) ∧ w'.cell? ⟨w.heap.size, 1, none⟩ = some (.int .i64 I) ∧ w'.cell? ⟨w.heap.size, 2, none⟩ = some (.int .i64 H) ∧ w'.cell? ⟨w.heap.size, 3, none⟩ = some (.int .i64 S) ∧ w'.cell? ⟨w.heap.size, 4, none⟩ = some (.int .i64 P) ∧ w'.cell? ⟨bq, 0, none⟩ = some (.int .i64 (10)) ∧ w'.cell? ⟨bq, 1, none⟩ = some (.int .i64 (10)) ∧ w'.cell? ⟨b, off + z * 4, none⟩ = some (.int .i64 (f (z * 4))) ∧ w'.cell? ⟨b, off + z * 4 + 1, none⟩ = some (.int .i64 (f (z * 4 + 1))) ∧ w'.cell? ⟨b, off + z * 4 + 2, none⟩ = some (.int .i64 (f (z * 4 + 2))) ∧ w'.cell? ⟨b, off + z * 4 + 3, none⟩ = some (.int .i64 (f (z * 4 + 3)))) := fun w' hS => by
            obtain ⟨e0, e1, e2, e3, e4, e5, e6⟩ := HF.out w' hS
            obtain ⟨b', off', eb, _, _, h3⟩ := hS.sl.here hm0
            cases eb
            have p0 := h3 (z * 4) (by omega)
            have p1 := h3 (z * 4 + 1) (by omega)
            have p2 := h3 (z * 4 + 2) (by omega)
            have p3 := h3 (z * 4 + 3) (by omega)
            rw [← Nat.add_assoc] at p1 p2 p3
            exact ⟨e0, e1, e2, e3, e4, e5, e6, p0, p1, p2, p3⟩
          clear HF
          have HF := HF2
          clear HF2
          refine tk (v := ?_) 7 27 HF rfl ?_ hHeld ?_
          rotate_left; · (intro _ _ _; go_simp; try with_reducible rfl)
          simp only [Act.put, p1, p2, p3]
          refine tk (v := ?_) 8 28 HF rfl ?_ hHeld ?_
          rotate_left; · (intro _ _ _; go_simp; try with_reducible rfl)
          simp only [Act.put, p1, p2, p3]
          refine wpAnyH_store (fuel := 0) (i := 10) rfl (by kernel_rfl) g8 0 (.agg #[.int .i64 (f (z * 4)), .int .i64 (f (z * 4 + 1)), .int .i64 (f (z * 4 + 2)), .int .i64 (f (z * 4 + 3))]) 48 #[.int .i64 0, .int .i64 0, .int .i64 0, .int .i64 0] rfl rfl infoPanD h8 (Nat.le_refl 4) (by simp [Value.cells, Value.oneCell']) (fun w' hg' => hHeld.grown hg' (by omega) (by omega) hhi) ?ks12
          case ks12 =>
            intro v13 hh hgw hW
            clear hHeld
            have h8 : v13.heap[g8]? = some (.cells #[.int .i64 (f (z * 4)), .int .i64 (f (z * 4 + 1)), .int .i64 (f (z * 4 + 2)), .int .i64 (f (z * 4 + 3))] 48 (0, 0)) := hh
            have hC := hC.grown hgw (by omega)
            have hR := Blk.grown hR hgw (by omega)
            clear hgw hh HF
            refine wpAnyH_done (by kernel_rfl) ?_ _
            go_wp2_with fail
            go_meet
            case rel => exact ⟨_, _, rfl, hz, hz8, h8, hC.weaken (by omega), hW, hR⟩
      case rest =>
        obtain ⟨g8, z, rfl, hz, hz8, h8, hC, hW, hR⟩ := hcut
        obtain ⟨wy, hwy⟩ : ∃ v, wc = v := ⟨_, rfl⟩
        rw [hwy] at h8 hC hW hR
        try rw [hwy]
        clear hwy wc
        have hzi : (z : Int) < (m : Int) := by omega
        have hz0 : (0 : Int) ≤ (z : Int) := by omega
        obtain ⟨d0, d1, d2, d3⟩ := cells4 h8
        have a0 : wy.cell? ⟨bq, 0, none⟩ = some (.int .i64 10) := hW.br.cell (j := 0) (by simp)
        have a1 : wy.cell? ⟨bq, 1, none⟩ = some (.int .i64 10) := hW.br.cell (j := 1) (by simp)
        have af : ∀ j, wy.frozen? ⟨bq, j, none⟩ = false := hW.br.fz
        have hg8b : g8 ≠ bq := by omega
        have hg8c : bq ≠ g8 := by omega
        clear h8
        go_upto_region 6 with fail
        refine nameWS ?_
        intro v14 hw3'
        have hw3 : v14 = ((wy.setCell ⟨bq, 0, none⟩ (.int .i64 (f (z * 4 + 2)))).setCell ⟨bq, 1, none⟩ (.int .i64 (f (z * 4 + 3)))) := hw3'
        have hW : WS w v14 g (some ⟨b, off, none⟩) m cm f I H S P lo hi bq (f (z * 4 + 2)) (f (z * 4 + 3)) := by rw [hw3]; exact (hW.set0 hbq hhi _).set1 hbq hhi _
        have hC : Cur v14 g A n c (p + 6) := by rw [hw3]; exact (hC.setOwn (q := ⟨bq, 0, none⟩) (by show g < bq; omega) _).setOwn (q := ⟨bq, 1, none⟩) (by show g < bq; omega) _
        have hR : Blk v14 (w.heap.size + 1) 34 [0, 0, 0, 0] := by rw [hw3]; exact (hR.other (q := ⟨bq, 0, none⟩) (by show w.heap.size + 1 ≠ bq; omega) _).other (q := ⟨bq, 1, none⟩) (by show w.heap.size + 1 ≠ bq; omega) _
        clear hw3' hw3 d0 d1 d2 d3 a0 a1 af
        have HF : Hid (∀ w', WS w w' g (some ⟨b, off, none⟩) m cm f I H S P lo hi bq (f (z * 4 + 2)) (f (z * 4 + 3)) → w'.cell? ⟨w.heap.size, 0, none⟩ = some (.slice (some ⟨b, off, none⟩) m cm) ∧ w'.cell? ⟨w.heap.size, 1, none⟩ = some (.int .i64 I) ∧ w'.cell? ⟨w.heap.size, 2, none⟩ = some (.int .i64 H) ∧ w'.cell? ⟨w.heap.size, 3, none⟩ = some (.int .i64 S) ∧ w'.cell? ⟨w.heap.size, 4, none⟩ = some (.int .i64 P) ∧ w'.cell? ⟨bq, 0, none⟩ = some (.int .i64 ((f (z * 4 + 2)))) ∧ w'.cell? ⟨bq, 1, none⟩ = some (.int .i64 ((f (z * 4 + 3))))) := fun w' hS => ⟨by rw [cell_of_row w' w.heap.size 0 _ _ (0, 0) hS.box]; rfl, by rw [cell_of_row w' w.heap.size 1 _ _ (0, 0) hS.box]; rfl, by rw [cell_of_row w' w.heap.size 2 _ _ (0, 0) hS.box]; rfl, by rw [cell_of_row w' w.heap.size 3 _ _ (0, 0) hS.box]; rfl, by rw [cell_of_row w' w.heap.size 4 _ _ (0, 0) hS.box]; rfl, hS.br.cell (j := 0) (by simp), hS.br.cell (j := 1) (by simp)⟩
        have hWd : WS w v14.drew g (some ⟨b, off, none⟩) m cm f I H S P lo hi bq (f (z * 4 + 2)) (f (z * 4 + 3)) := hW.below (below_drewN (Below.refl _ v14) 1)
        have hCd : Cur v14.drew g A n c (p + 6) := hC.drewN 1
        have hRd : Blk v14.drew (w.heap.size + 1) 34 [0, 0, 0, 0] := hR
        clear hC hW hR
        refine wp_region_held_drew (S := fun w' => WS w w' g (some ⟨b, off, none⟩) m cm f I H S P lo hi bq (f (z * 4 + 2)) (f (z * 4 + 3))) (by kernel_rfl) hWd (fun hHeld => ?_)
        clear hWd
        have hC := hCd
        have hR := hRd
        clear hCd hRd
        obtain ⟨v15, hv⟩ : ∃ v, v14.drew = v := ⟨_, rfl⟩
        rw [hv] at hHeld hC hR ⊢
        clear hv
        refine tk (v := ?_) 0 33 HF rfl ?_ hHeld ?_
        rotate_left; · (intro _ _ _; go_simp; try with_reducible rfl)
        simp only [Act.put, p1, p2, p3]
        refine tk (v := ?_) 2 35 HF rfl ?_ hHeld ?_
        rotate_left; · (intro _ _ _; go_simp; try with_reducible rfl)
        simp only [Act.put, p1, p2, p3]
        refine tk (v := ?_) 3 36 HF rfl ?_ hHeld ?_
        rotate_left; · (intro _ _ _; go_simp; try with_reducible rfl)
        simp only [Act.put, p1, p2, p3]
        refine tk (v := ?_) 1 34 HF rfl ?_ hHeld ?_
        rotate_left; · (intro _ _ _; go_simp; try with_reducible rfl)
        simp only [Act.put, p1, p2, p3]
        refine tk (v := ?_) 4 37 HF rfl ?_ hHeld ?_
        rotate_left; · (intro _ _ _; go_simp; try with_reducible rfl)
        simp only [Act.put, p1, p2, p3]
        refine wpAnyH_ready (rs := [5]) (by kernel_rfl) (by simp) ?_
        refine (AllReadyH.cons rfl (fun K hK => ?_) AllReadyH.nil)
        go_simp
        have hS2 := hHeld
        clear hHeld
        refine hK.out _ _ hS2 (fun hHeld => ?_)
        clear hK K hS2
        refine wpAnyH_ready (rs := [6]) (by kernel_rfl) (by simp) ?_
        refine (AllReadyH.cons rfl (fun K hK => ?_) AllReadyH.nil)
        go_simp
        refine (pick_any g n c _ m A _ hC hn (by omega) hm0 (by omega)).mono ?_
        rintro e v16 ⟨y2, rfl, hy2, hC, hf⟩
        have hS2 := hHeld.step hf hg hlo hbq
        have hR := hR.fr hf (by omega)
        clear hf hHeld
        refine hK.out _ _ hS2 (fun hHeld => ?_)
        clear hK K hS2
        have hyi : (y2 : Int) < (m : Int) := by omega
        have hy0 : (0 : Int) ≤ (y2 : Int) := by omega
        have HF2 : Hid (∀ w', WS w w' g (some ⟨b, off, none⟩) m cm f I H S P lo hi bq (f (z * 4 + 2)) (f (z * 4 + 3)) → w'.cell? ⟨w.heap.size, 0, none⟩ = some (.slice (some ⟨b, off, none⟩) m cm) ∧ w'.cell? ⟨w.heap.size, 1, none⟩ = some (.int .i64 I) ∧ w'.cell? ⟨w.heap.size, 2, none⟩ = some (.int .i64 H) ∧ w'.cell? ⟨w.heap.size, 3, none⟩ = some (.int .i64 S) ∧ w'.cell? ⟨w.heap.size, 4, none⟩ = some (.int .i64 P) ∧ w'.cell? ⟨bq, 0, none⟩ = some (.int .i64 ((f (z * 4 + 2)))) ∧ w'.cell? ⟨bq, 1, none⟩ = some (.int .i64 ((f (z * 4 + 3)))) ∧ w'.cell? ⟨b, off + y2 * 4, none⟩ = some (.int .i64 (f (y2 * 4))) ∧ w'.cell? ⟨b, off + y2 * 4 + 1, none⟩ = some (.int .i64 (f (y2 * 4 + 1))) ∧ w'.cell? ⟨b, off + y2 * 4 + 2, none⟩ = some (.int .i64 (f (y2 * 4 + 2))) ∧ w'.cell? ⟨b, off + y2 * 4 + 3, none⟩ = some (.int .i64 (f (y2 * 4 + 3)))) := fun w' hS => by
          obtain ⟨e0, e1, e2, e3, e4, e5, e6⟩ := HF.out w' hS
          obtain ⟨b', off', eb, _, _, h3⟩ := hS.sl.here hm0
          cases eb
          have p0 := h3 (y2 * 4) (by omega)
          have p1 := h3 (y2 * 4 + 1) (by omega)
          have p2 := h3 (y2 * 4 + 2) (by omega)
          have p3 := h3 (y2 * 4 + 3) (by omega)
          rw [← Nat.add_assoc] at p1 p2 p3
          exact ⟨e0, e1, e2, e3, e4, e5, e6, p0, p1, p2, p3⟩
        clear HF
        have HF := HF2
        clear HF2
        refine tk (v := ?_) 7 40 HF rfl ?_ hHeld ?_
        rotate_left; · (intro _ _ _; go_simp; try with_reducible rfl)
        simp only [Act.put, p1, p2, p3]
        refine tk (v := ?_) 8 41 HF rfl ?_ hHeld ?_
        rotate_left; · (intro _ _ _; go_simp; try with_reducible rfl)
        simp only [Act.put, p1, p2, p3]
        refine tk (v := ?_) 9 42 HF rfl ?_ hHeld ?_
        rotate_left; · (intro _ _ _; go_simp; try with_reducible rfl)
        simp only [Act.put, p1, p2, p3]
        refine tk (v := ?_) 10 6 HF rfl ?_ hHeld ?_
        rotate_left; · (intro _ _ _; go_simp; try with_reducible rfl)
        simp only [Act.put, p1, p2, p3]
        have hW := hHeld
        clear hHeld HF
        refine wpAnyH_done (by kernel_rfl) ?_ _
        go_wp2_with fail
        go_meet
        case rel => exact ⟨_, _, _, _, rfl, rfl, hC.weaken (by omega), hW, hR⟩
    · have hm0i : ¬ ((0 : Int) < (m : Int)) := by omega
      go_wp2_with fail
      go_meet
      case rel => exact ⟨_, _, _, _, rfl, rfl, hC.weaken (by omega), hW, hR⟩
  case rest =>
    obtain ⟨z5, z6, x, y, rfl, rfl, hC, hW, hR⟩ := hcut
    clear c0
    obtain ⟨w7, hw7⟩ : ∃ v, wc = v := ⟨_, rfl⟩
    rw [hw7] at hC hW hR
    try rw [hw7]
    clear hw7 wc
    go_wp2_with fail
    refine (one_any g n c _ 40 A _ hC hn (by omega) (by omega) (by omega)).mono ?_
    rintro e v18 ⟨b17, rfl, hC, hf⟩
    have hW := hW.step hf hg hlo hbq
    have hR := hR.fr hf (by omega)
    clear hf
    cases b17 with
    | true =>
      go_wp2_with fail
      refine (among_lit g n c _ _ A _ [0, 8, 3] _ _ _ rfl rfl (by simp) (by simp) hC hn (by omega)).mono ?_
      rintro e v20 ⟨z19, rfl, hC, hf⟩
      have hW := hW.step hf hg hlo hbq
      have hR := hR.fr hf (by omega)
      clear hf
      go_wp2_with fail
      refine (among_lit g n c _ _ A _ [0, z5, 100] _ _ _ rfl rfl (by simp) (by simp) hC hn (by omega)).mono ?_
      rintro e v22 ⟨z21, rfl, hC, hf⟩
      have hW := hW.step hf hg hlo hbq
      have hR := hR.fr hf (by omega)
      clear hf
      go_wp2_with fail
      refine (among_lit g n c _ _ A _ [0, z6] _ _ _ rfl rfl (by simp) (by simp) hC hn (by omega)).mono ?_
      rintro e v24 ⟨z23, rfl, hC, hf⟩
      have hW := hW.step hf hg hlo hbq
      have hR := hR.fr hf (by omega)
      clear hf
      go_wp2_with fail
      refine (among_lit g n c _ _ A _ [0, 1, -1] _ _ _ rfl rfl (by simp) (by simp) hC hn (by omega)).mono ?_
      rintro e v26 ⟨z25, rfl, hC, hf⟩
      have hW := hW.step hf hg hlo hbq
      have hR := hR.fr hf (by omega)
      clear hf
      have r0 : v26.cell? ⟨w.heap.size + 1, 0, none⟩ = some (.int .i64 0) := hR.cell (j := 0) (by simp)
      have r1 : v26.cell? ⟨w.heap.size + 1, 1, none⟩ = some (.int .i64 0) := hR.cell (j := 1) (by simp)
      have r2 : v26.cell? ⟨w.heap.size + 1, 2, none⟩ = some (.int .i64 0) := hR.cell (j := 2) (by simp)
      have r3 : v26.cell? ⟨w.heap.size + 1, 3, none⟩ = some (.int .i64 0) := hR.cell (j := 3) (by simp)
      have rf : ∀ j, v26.frozen? ⟨w.heap.size + 1, j, none⟩ = false := hR.fz
      have HC := Lib.hid hC
      have HW := Lib.hid hW
      clear hC hW hR
      go_wp2
      obtain ⟨wq, hwq⟩ : ∃ wq, wq = ((((v26.setCell ⟨w.heap.size + 1, 0, none⟩ (.int .i64 (z19))).setCell ⟨w.heap.size + 1, 1, none⟩ (.int .i64 (z21))).setCell ⟨w.heap.size + 1, 2, none⟩ (.int .i64 (z23))).setCell ⟨w.heap.size + 1, 3, none⟩ (.int .i64 (z25))) := ⟨_, rfl⟩
      rw [← hwq]
      have q0 : wq.cell? ⟨w.heap.size + 1, 0, none⟩ = some (.int .i64 (z19)) := by rw [hwq]; go_simp
      have q1 : wq.cell? ⟨w.heap.size + 1, 1, none⟩ = some (.int .i64 (z21)) := by rw [hwq]; go_simp
      have q2 : wq.cell? ⟨w.heap.size + 1, 2, none⟩ = some (.int .i64 (z23)) := by rw [hwq]; go_simp
      have q3 : wq.cell? ⟨w.heap.size + 1, 3, none⟩ = some (.int .i64 (z25)) := by rw [hwq]; go_simp
      have hCq : Cur wq g A n c (p + 18) := by rw [hwq]; exact ((((HC.out.setOwn (q := ⟨w.heap.size + 1, 0, none⟩) (by show g < w.heap.size + 1; omega) _).setOwn (q := ⟨w.heap.size + 1, 1, none⟩) (by show g < w.heap.size + 1; omega) _).setOwn (q := ⟨w.heap.size + 1, 2, none⟩) (by show g < w.heap.size + 1; omega) _).setOwn (q := ⟨w.heap.size + 1, 3, none⟩) (by show g < w.heap.size + 1; omega) _)
      have hFq : Fr g (g + 1) w wq := by rw [hwq]; exact ((((HW.out.fr.setOwn (j := 0) (p := ⟨w.heap.size + 1, 0, none⟩) (by show w.heap.size ≤ w.heap.size + 1; omega) _).setOwn (j := 0) (p := ⟨w.heap.size + 1, 1, none⟩) (by show w.heap.size ≤ w.heap.size + 1; omega) _).setOwn (j := 0) (p := ⟨w.heap.size + 1, 2, none⟩) (by show w.heap.size ≤ w.heap.size + 1; omega) _).setOwn (j := 0) (p := ⟨w.heap.size + 1, 3, none⟩) (by show w.heap.size ≤ w.heap.size + 1; omega) _)
      clear hwq r0 r1 r2 r3 rf HC HW
      try simp only [Exit.inBlock, Exit.then]
      refine bodyPost_ret (by simp [results, Tryd.results66, go_sem, q0, q1, q2, q3]; try rfl) rfl ?_
      exact ⟨_, _, _, _, rfl, hCq.weaken (by omega), hFq⟩
    | false =>
      go_wp2_with fail
      refine (pick_any g n c _ 12 A _ hC hn (by omega) (by omega) (by omega)).mono ?_
      rintro e v27 ⟨k12, rfl, hk12, hC, hf⟩
      have hW := hW.step hf hg hlo hbq
      have hR := hR.fr hf (by omega)
      clear hf
      have HF : Hid (∀ w', WS w w' g B m cm f I H S P lo hi bq x y → w'.cell? ⟨w.heap.size, 0, none⟩ = some (.slice B m cm) ∧ w'.cell? ⟨w.heap.size, 1, none⟩ = some (.int .i64 I) ∧ w'.cell? ⟨w.heap.size, 2, none⟩ = some (.int .i64 H) ∧ w'.cell? ⟨w.heap.size, 3, none⟩ = some (.int .i64 S) ∧ w'.cell? ⟨w.heap.size, 4, none⟩ = some (.int .i64 P) ∧ w'.cell? ⟨bq, 0, none⟩ = some (.int .i64 (x)) ∧ w'.cell? ⟨bq, 1, none⟩ = some (.int .i64 (y))) := fun w' hS => ⟨by rw [cell_of_row w' w.heap.size 0 _ _ (0, 0) hS.box]; rfl, by rw [cell_of_row w' w.heap.size 1 _ _ (0, 0) hS.box]; rfl, by rw [cell_of_row w' w.heap.size 2 _ _ (0, 0) hS.box]; rfl, by rw [cell_of_row w' w.heap.size 3 _ _ (0, 0) hS.box]; rfl, by rw [cell_of_row w' w.heap.size 4 _ _ (0, 0) hS.box]; rfl, hS.br.cell (j := 0) (by simp), hS.br.cell (j := 1) (by simp)⟩
      have h12 : k12 = 0 ∨ k12 = 1 ∨ k12 = 2 ∨ k12 = 3 ∨ k12 = 4 ∨ k12 = 5 ∨ k12 = 6 ∨ k12 = 7 ∨ k12 = 8 ∨ k12 = 9 ∨ k12 = 10 ∨ k12 = 11 := by omega
      rcases h12 with rfl | rfl | rfl | rfl | rfl | rfl | rfl | rfl | rfl | rfl | rfl | rfl
      · clear HF
        go_wp2_with fail
        refine (among_lit g n c _ _ A _ [1, 7, 20, 33, 42, 98, 99, 100] _ _ _ rfl rfl (by simp) (by simp) hC hn (by omega)).mono ?_
        rintro e v30 ⟨z28, rfl, hC, hf⟩
        have hW := hW.step hf hg hlo hbq
        have hR := hR.fr hf (by omega)
        clear hf
        go_wp2_with fail
        refine (among_lit g n c _ _ A _ [1, 1000, 5000, 100000, 100001] _ _ _ rfl rfl (by simp) (by simp) hC hn (by omega)).mono ?_
        rintro e v31 ⟨z29, rfl, hC, hf⟩
        have hW := hW.step hf hg hlo hbq
        have hR := hR.fr hf (by omega)
        clear hf
        have r0 : v31.cell? ⟨w.heap.size + 1, 0, none⟩ = some (.int .i64 0) := hR.cell (j := 0) (by simp)
        have r1 : v31.cell? ⟨w.heap.size + 1, 1, none⟩ = some (.int .i64 0) := hR.cell (j := 1) (by simp)
        have r2 : v31.cell? ⟨w.heap.size + 1, 2, none⟩ = some (.int .i64 0) := hR.cell (j := 2) (by simp)
        have r3 : v31.cell? ⟨w.heap.size + 1, 3, none⟩ = some (.int .i64 0) := hR.cell (j := 3) (by simp)
        have rf : ∀ j, v31.frozen? ⟨w.heap.size + 1, j, none⟩ = false := hR.fz
        have HC := Lib.hid hC
        have HW := Lib.hid hW
        clear hC hW hR
        go_wp2
        obtain ⟨wq, hwq⟩ : ∃ wq, wq = ((((v31.setCell ⟨w.heap.size + 1, 0, none⟩ (.int .i64 (1))).setCell ⟨w.heap.size + 1, 1, none⟩ (.int .i64 (z28))).setCell ⟨w.heap.size + 1, 2, none⟩ (.int .i64 (0))).setCell ⟨w.heap.size + 1, 3, none⟩ (.int .i64 (z29))) := ⟨_, rfl⟩
        rw [← hwq]
        have q0 : wq.cell? ⟨w.heap.size + 1, 0, none⟩ = some (.int .i64 (1)) := by rw [hwq]; go_simp
        have q1 : wq.cell? ⟨w.heap.size + 1, 1, none⟩ = some (.int .i64 (z28)) := by rw [hwq]; go_simp
        have q2 : wq.cell? ⟨w.heap.size + 1, 2, none⟩ = some (.int .i64 (0)) := by rw [hwq]; go_simp
        have q3 : wq.cell? ⟨w.heap.size + 1, 3, none⟩ = some (.int .i64 (z29)) := by rw [hwq]; go_simp
        have hCq : Cur wq g A n c (p + 16) := by rw [hwq]; exact ((((HC.out.setOwn (q := ⟨w.heap.size + 1, 0, none⟩) (by show g < w.heap.size + 1; omega) _).setOwn (q := ⟨w.heap.size + 1, 1, none⟩) (by show g < w.heap.size + 1; omega) _).setOwn (q := ⟨w.heap.size + 1, 2, none⟩) (by show g < w.heap.size + 1; omega) _).setOwn (q := ⟨w.heap.size + 1, 3, none⟩) (by show g < w.heap.size + 1; omega) _)
        have hFq : Fr g (g + 1) w wq := by rw [hwq]; exact ((((HW.out.fr.setOwn (j := 0) (p := ⟨w.heap.size + 1, 0, none⟩) (by show w.heap.size ≤ w.heap.size + 1; omega) _).setOwn (j := 0) (p := ⟨w.heap.size + 1, 1, none⟩) (by show w.heap.size ≤ w.heap.size + 1; omega) _).setOwn (j := 0) (p := ⟨w.heap.size + 1, 2, none⟩) (by show w.heap.size ≤ w.heap.size + 1; omega) _).setOwn (j := 0) (p := ⟨w.heap.size + 1, 3, none⟩) (by show w.heap.size ≤ w.heap.size + 1; omega) _)
        clear hwq r0 r1 r2 r3 rf HC HW
        try simp only [Exit.inBlock, Exit.then]
        refine bodyPost_ret (by simp [results, Tryd.results66, go_sem, q0, q1, q2, q3]; try rfl) rfl ?_
        exact ⟨_, _, _, _, rfl, hCq.weaken (by omega), hFq⟩
      · clear HF
        go_wp2_with fail
        refine (among_lit g n c _ _ A _ [1, 7, 20, 33, 42, 98, 99, 100] _ _ _ rfl rfl (by simp) (by simp) hC hn (by omega)).mono ?_
        rintro e v34 ⟨z32, rfl, hC, hf⟩
        have hW := hW.step hf hg hlo hbq
        have hR := hR.fr hf (by omega)
        clear hf
        go_wp2_with fail
        refine (among_lit g n c _ _ A _ [1, 1000, 5000, 100000, 100001] _ _ _ rfl rfl (by simp) (by simp) hC hn (by omega)).mono ?_
        rintro e v35 ⟨z33, rfl, hC, hf⟩
        have hW := hW.step hf hg hlo hbq
        have hR := hR.fr hf (by omega)
        clear hf
        have r0 : v35.cell? ⟨w.heap.size + 1, 0, none⟩ = some (.int .i64 0) := hR.cell (j := 0) (by simp)
        have r1 : v35.cell? ⟨w.heap.size + 1, 1, none⟩ = some (.int .i64 0) := hR.cell (j := 1) (by simp)
        have r2 : v35.cell? ⟨w.heap.size + 1, 2, none⟩ = some (.int .i64 0) := hR.cell (j := 2) (by simp)
        have r3 : v35.cell? ⟨w.heap.size + 1, 3, none⟩ = some (.int .i64 0) := hR.cell (j := 3) (by simp)
        have rf : ∀ j, v35.frozen? ⟨w.heap.size + 1, j, none⟩ = false := hR.fz
        have HC := Lib.hid hC
        have HW := Lib.hid hW
        clear hC hW hR
        go_wp2
        obtain ⟨wq, hwq⟩ : ∃ wq, wq = ((((v35.setCell ⟨w.heap.size + 1, 0, none⟩ (.int .i64 (1))).setCell ⟨w.heap.size + 1, 1, none⟩ (.int .i64 (z32))).setCell ⟨w.heap.size + 1, 2, none⟩ (.int .i64 (0))).setCell ⟨w.heap.size + 1, 3, none⟩ (.int .i64 (z33))) := ⟨_, rfl⟩
        rw [← hwq]
        have q0 : wq.cell? ⟨w.heap.size + 1, 0, none⟩ = some (.int .i64 (1)) := by rw [hwq]; go_simp
        have q1 : wq.cell? ⟨w.heap.size + 1, 1, none⟩ = some (.int .i64 (z32)) := by rw [hwq]; go_simp
        have q2 : wq.cell? ⟨w.heap.size + 1, 2, none⟩ = some (.int .i64 (0)) := by rw [hwq]; go_simp
        have q3 : wq.cell? ⟨w.heap.size + 1, 3, none⟩ = some (.int .i64 (z33)) := by rw [hwq]; go_simp
        have hCq : Cur wq g A n c (p + 16) := by rw [hwq]; exact ((((HC.out.setOwn (q := ⟨w.heap.size + 1, 0, none⟩) (by show g < w.heap.size + 1; omega) _).setOwn (q := ⟨w.heap.size + 1, 1, none⟩) (by show g < w.heap.size + 1; omega) _).setOwn (q := ⟨w.heap.size + 1, 2, none⟩) (by show g < w.heap.size + 1; omega) _).setOwn (q := ⟨w.heap.size + 1, 3, none⟩) (by show g < w.heap.size + 1; omega) _)
        have hFq : Fr g (g + 1) w wq := by rw [hwq]; exact ((((HW.out.fr.setOwn (j := 0) (p := ⟨w.heap.size + 1, 0, none⟩) (by show w.heap.size ≤ w.heap.size + 1; omega) _).setOwn (j := 0) (p := ⟨w.heap.size + 1, 1, none⟩) (by show w.heap.size ≤ w.heap.size + 1; omega) _).setOwn (j := 0) (p := ⟨w.heap.size + 1, 2, none⟩) (by show w.heap.size ≤ w.heap.size + 1; omega) _).setOwn (j := 0) (p := ⟨w.heap.size + 1, 3, none⟩) (by show w.heap.size ≤ w.heap.size + 1; omega) _)
        clear hwq r0 r1 r2 r3 rf HC HW
        try simp only [Exit.inBlock, Exit.then]
        refine bodyPost_ret (by simp [results, Tryd.results66, go_sem, q0, q1, q2, q3]; try rfl) rfl ?_
        exact ⟨_, _, _, _, rfl, hCq.weaken (by omega), hFq⟩
      · clear HF
        go_wp2_with fail
        refine (among_lit g n c _ _ A _ [1, 28, 29, 1000, 4000, 2000000] _ _ _ rfl rfl (by simp) (by simp) hC hn (by omega)).mono ?_
        rintro e v37 ⟨z36, rfl, hC, hf⟩
        have hW := hW.step hf hg hlo hbq
        have hR := hR.fr hf (by omega)
        clear hf
        have r0 : v37.cell? ⟨w.heap.size + 1, 0, none⟩ = some (.int .i64 0) := hR.cell (j := 0) (by simp)
        have r1 : v37.cell? ⟨w.heap.size + 1, 1, none⟩ = some (.int .i64 0) := hR.cell (j := 1) (by simp)
        have r2 : v37.cell? ⟨w.heap.size + 1, 2, none⟩ = some (.int .i64 0) := hR.cell (j := 2) (by simp)
        have r3 : v37.cell? ⟨w.heap.size + 1, 3, none⟩ = some (.int .i64 0) := hR.cell (j := 3) (by simp)
        have rf : ∀ j, v37.frozen? ⟨w.heap.size + 1, j, none⟩ = false := hR.fz
        have HC := Lib.hid hC
        have HW := Lib.hid hW
        clear hC hW hR
        go_wp2
        obtain ⟨wq, hwq⟩ : ∃ wq, wq = ((((v37.setCell ⟨w.heap.size + 1, 0, none⟩ (.int .i64 (2))).setCell ⟨w.heap.size + 1, 1, none⟩ (.int .i64 (z5))).setCell ⟨w.heap.size + 1, 2, none⟩ (.int .i64 (0))).setCell ⟨w.heap.size + 1, 3, none⟩ (.int .i64 (z36))) := ⟨_, rfl⟩
        rw [← hwq]
        have q0 : wq.cell? ⟨w.heap.size + 1, 0, none⟩ = some (.int .i64 (2)) := by rw [hwq]; go_simp
        have q1 : wq.cell? ⟨w.heap.size + 1, 1, none⟩ = some (.int .i64 (z5)) := by rw [hwq]; go_simp
        have q2 : wq.cell? ⟨w.heap.size + 1, 2, none⟩ = some (.int .i64 (0)) := by rw [hwq]; go_simp
        have q3 : wq.cell? ⟨w.heap.size + 1, 3, none⟩ = some (.int .i64 (z36)) := by rw [hwq]; go_simp
        have hCq : Cur wq g A n c (p + 14) := by rw [hwq]; exact ((((HC.out.setOwn (q := ⟨w.heap.size + 1, 0, none⟩) (by show g < w.heap.size + 1; omega) _).setOwn (q := ⟨w.heap.size + 1, 1, none⟩) (by show g < w.heap.size + 1; omega) _).setOwn (q := ⟨w.heap.size + 1, 2, none⟩) (by show g < w.heap.size + 1; omega) _).setOwn (q := ⟨w.heap.size + 1, 3, none⟩) (by show g < w.heap.size + 1; omega) _)
        have hFq : Fr g (g + 1) w wq := by rw [hwq]; exact ((((HW.out.fr.setOwn (j := 0) (p := ⟨w.heap.size + 1, 0, none⟩) (by show w.heap.size ≤ w.heap.size + 1; omega) _).setOwn (j := 0) (p := ⟨w.heap.size + 1, 1, none⟩) (by show w.heap.size ≤ w.heap.size + 1; omega) _).setOwn (j := 0) (p := ⟨w.heap.size + 1, 2, none⟩) (by show w.heap.size ≤ w.heap.size + 1; omega) _).setOwn (j := 0) (p := ⟨w.heap.size + 1, 3, none⟩) (by show w.heap.size ≤ w.heap.size + 1; omega) _)
        clear hwq r0 r1 r2 r3 rf HC HW
        try simp only [Exit.inBlock, Exit.then]
        refine bodyPost_ret (by simp [results, Tryd.results66, go_sem, q0, q1, q2, q3]; try rfl) rfl ?_
        exact ⟨_, _, _, _, rfl, hCq.weaken (by omega), hFq⟩
      · clear HF
        go_wp2_with fail
        refine (among_lit g n c _ _ A _ [1, 28, 29, 1000, 4000, 2000000] _ _ _ rfl rfl (by simp) (by simp) hC hn (by omega)).mono ?_
        rintro e v39 ⟨z38, rfl, hC, hf⟩
        have hW := hW.step hf hg hlo hbq
        have hR := hR.fr hf (by omega)
        clear hf
        have r0 : v39.cell? ⟨w.heap.size + 1, 0, none⟩ = some (.int .i64 0) := hR.cell (j := 0) (by simp)
        have r1 : v39.cell? ⟨w.heap.size + 1, 1, none⟩ = some (.int .i64 0) := hR.cell (j := 1) (by simp)
        have r2 : v39.cell? ⟨w.heap.size + 1, 2, none⟩ = some (.int .i64 0) := hR.cell (j := 2) (by simp)
        have r3 : v39.cell? ⟨w.heap.size + 1, 3, none⟩ = some (.int .i64 0) := hR.cell (j := 3) (by simp)
        have rf : ∀ j, v39.frozen? ⟨w.heap.size + 1, j, none⟩ = false := hR.fz
        have HC := Lib.hid hC
        have HW := Lib.hid hW
        clear hC hW hR
        go_wp2
        obtain ⟨wq, hwq⟩ : ∃ wq, wq = ((((v39.setCell ⟨w.heap.size + 1, 0, none⟩ (.int .i64 (2))).setCell ⟨w.heap.size + 1, 1, none⟩ (.int .i64 (z5))).setCell ⟨w.heap.size + 1, 2, none⟩ (.int .i64 (0))).setCell ⟨w.heap.size + 1, 3, none⟩ (.int .i64 (z38))) := ⟨_, rfl⟩
        rw [← hwq]
        have q0 : wq.cell? ⟨w.heap.size + 1, 0, none⟩ = some (.int .i64 (2)) := by rw [hwq]; go_simp
        have q1 : wq.cell? ⟨w.heap.size + 1, 1, none⟩ = some (.int .i64 (z5)) := by rw [hwq]; go_simp
        have q2 : wq.cell? ⟨w.heap.size + 1, 2, none⟩ = some (.int .i64 (0)) := by rw [hwq]; go_simp
        have q3 : wq.cell? ⟨w.heap.size + 1, 3, none⟩ = some (.int .i64 (z38)) := by rw [hwq]; go_simp
        have hCq : Cur wq g A n c (p + 14) := by rw [hwq]; exact ((((HC.out.setOwn (q := ⟨w.heap.size + 1, 0, none⟩) (by show g < w.heap.size + 1; omega) _).setOwn (q := ⟨w.heap.size + 1, 1, none⟩) (by show g < w.heap.size + 1; omega) _).setOwn (q := ⟨w.heap.size + 1, 2, none⟩) (by show g < w.heap.size + 1; omega) _).setOwn (q := ⟨w.heap.size + 1, 3, none⟩) (by show g < w.heap.size + 1; omega) _)
        have hFq : Fr g (g + 1) w wq := by rw [hwq]; exact ((((HW.out.fr.setOwn (j := 0) (p := ⟨w.heap.size + 1, 0, none⟩) (by show w.heap.size ≤ w.heap.size + 1; omega) _).setOwn (j := 0) (p := ⟨w.heap.size + 1, 1, none⟩) (by show w.heap.size ≤ w.heap.size + 1; omega) _).setOwn (j := 0) (p := ⟨w.heap.size + 1, 2, none⟩) (by show w.heap.size ≤ w.heap.size + 1; omega) _).setOwn (j := 0) (p := ⟨w.heap.size + 1, 3, none⟩) (by show w.heap.size ≤ w.heap.size + 1; omega) _)
        clear hwq r0 r1 r2 r3 rf HC HW
        try simp only [Exit.inBlock, Exit.then]
        refine bodyPost_ret (by simp [results, Tryd.results66, go_sem, q0, q1, q2, q3]; try rfl) rfl ?_
        exact ⟨_, _, _, _, rfl, hCq.weaken (by omega), hFq⟩
      · clear HF
        go_wp2_with fail
        refine (among_lit g n c _ _ A _ [1, 28, 29, 1000, 4000, 2000000] _ _ _ rfl rfl (by simp) (by simp) hC hn (by omega)).mono ?_
        rintro e v41 ⟨z40, rfl, hC, hf⟩
        have hW := hW.step hf hg hlo hbq
        have hR := hR.fr hf (by omega)
        clear hf
        have r0 : v41.cell? ⟨w.heap.size + 1, 0, none⟩ = some (.int .i64 0) := hR.cell (j := 0) (by simp)
        have r1 : v41.cell? ⟨w.heap.size + 1, 1, none⟩ = some (.int .i64 0) := hR.cell (j := 1) (by simp)
        have r2 : v41.cell? ⟨w.heap.size + 1, 2, none⟩ = some (.int .i64 0) := hR.cell (j := 2) (by simp)
        have r3 : v41.cell? ⟨w.heap.size + 1, 3, none⟩ = some (.int .i64 0) := hR.cell (j := 3) (by simp)
        have rf : ∀ j, v41.frozen? ⟨w.heap.size + 1, j, none⟩ = false := hR.fz
        have HC := Lib.hid hC
        have HW := Lib.hid hW
        clear hC hW hR
        go_wp2
        obtain ⟨wq, hwq⟩ : ∃ wq, wq = ((((v41.setCell ⟨w.heap.size + 1, 0, none⟩ (.int .i64 (2))).setCell ⟨w.heap.size + 1, 1, none⟩ (.int .i64 (z5))).setCell ⟨w.heap.size + 1, 2, none⟩ (.int .i64 (0))).setCell ⟨w.heap.size + 1, 3, none⟩ (.int .i64 (z40))) := ⟨_, rfl⟩
        rw [← hwq]
        have q0 : wq.cell? ⟨w.heap.size + 1, 0, none⟩ = some (.int .i64 (2)) := by rw [hwq]; go_simp
        have q1 : wq.cell? ⟨w.heap.size + 1, 1, none⟩ = some (.int .i64 (z5)) := by rw [hwq]; go_simp
        have q2 : wq.cell? ⟨w.heap.size + 1, 2, none⟩ = some (.int .i64 (0)) := by rw [hwq]; go_simp
        have q3 : wq.cell? ⟨w.heap.size + 1, 3, none⟩ = some (.int .i64 (z40)) := by rw [hwq]; go_simp
        have hCq : Cur wq g A n c (p + 14) := by rw [hwq]; exact ((((HC.out.setOwn (q := ⟨w.heap.size + 1, 0, none⟩) (by show g < w.heap.size + 1; omega) _).setOwn (q := ⟨w.heap.size + 1, 1, none⟩) (by show g < w.heap.size + 1; omega) _).setOwn (q := ⟨w.heap.size + 1, 2, none⟩) (by show g < w.heap.size + 1; omega) _).setOwn (q := ⟨w.heap.size + 1, 3, none⟩) (by show g < w.heap.size + 1; omega) _)
        have hFq : Fr g (g + 1) w wq := by rw [hwq]; exact ((((HW.out.fr.setOwn (j := 0) (p := ⟨w.heap.size + 1, 0, none⟩) (by show w.heap.size ≤ w.heap.size + 1; omega) _).setOwn (j := 0) (p := ⟨w.heap.size + 1, 1, none⟩) (by show w.heap.size ≤ w.heap.size + 1; omega) _).setOwn (j := 0) (p := ⟨w.heap.size + 1, 2, none⟩) (by show w.heap.size ≤ w.heap.size + 1; omega) _).setOwn (j := 0) (p := ⟨w.heap.size + 1, 3, none⟩) (by show w.heap.size ≤ w.heap.size + 1; omega) _)
        clear hwq r0 r1 r2 r3 rf HC HW
        try simp only [Exit.inBlock, Exit.then]
        refine bodyPost_ret (by simp [results, Tryd.results66, go_sem, q0, q1, q2, q3]; try rfl) rfl ?_
        exact ⟨_, _, _, _, rfl, hCq.weaken (by omega), hFq⟩
      · go_upto_region 18 with fail
        have hWd : WS w v27.drew g B m cm f I H S P lo hi bq x y := hW.below (below_drewN (Below.refl _ v27) 1)
        have hCd : Cur v27.drew g A n c (p + 12) := hC.drewN 1
        have hRd : Blk v27.drew (w.heap.size + 1) 34 [0, 0, 0, 0] := hR
        clear hC hW hR
        refine wp_region_held_drew (S := fun w' => WS w w' g B m cm f I H S P lo hi bq x y) (by kernel_rfl) hWd (fun hHeld => ?_)
        clear hWd
        have hC := hCd
        have hR := hRd
        clear hCd hRd
        obtain ⟨v42, hv⟩ : ∃ v, v27.drew = v := ⟨_, rfl⟩
        rw [hv] at hHeld hC hR ⊢
        clear hv
        refine tk (v := ?_) 0 83 HF rfl ?_ hHeld ?_
        rotate_left; · (intro _ _ _; go_simp; try with_reducible rfl)
        simp only [Act.put, p1, p2, p3]
        refine tk (v := ?_) 1 84 HF rfl ?_ hHeld ?_
        rotate_left; · (intro _ _ _; go_simp; try with_reducible rfl)
        simp only [Act.put, p1, p2, p3]
        refine tk (v := ?_) 2 85 HF rfl ?_ hHeld ?_
        rotate_left; · (intro _ _ _; go_simp; try with_reducible rfl)
        simp only [Act.put, p1, p2, p3]
        refine tk (v := ?_) 3 86 HF rfl ?_ hHeld ?_
        rotate_left; · (intro _ _ _; go_simp; try with_reducible rfl)
        simp only [Act.put, p1, p2, p3]
        refine tk (v := ?_) 6 89 HF rfl ?_ hHeld ?_
        rotate_left; · (intro _ _ _; go_simp; try with_reducible rfl)
        simp only [Act.put, p1, p2, p3]
        refine wpAnyH_ready (rs := [4]) (by kernel_rfl) (by simp) ?_
        refine (AllReadyH.cons rfl (fun K hK => ?_) AllReadyH.nil)
        go_simp
        refine (l2Mass_any _ _ _).mono ?_
        rintro e v43 ⟨rfl, hb⟩
        have hS2 := hHeld.below hb
        have hR : Blk v43 (w.heap.size + 1) 34 [0, 0, 0, 0] := (hb.block _ hR.lt).trans hR
        have hC := hC.below hb
        clear hb hHeld
        refine hK.out _ _ hS2 (fun hHeld => ?_)
        clear hK K hS2
        refine wpAnyH_ready (rs := [5]) (by kernel_rfl) (by simp) ?_
        refine (AllReadyH.cons rfl (fun K hK => ?_) AllReadyH.nil)
        go_simp
        refine (l1Most_any _ _ _).mono ?_
        rintro e v44 ⟨rfl, hx⟩
        rw [← hx]
        clear hx v44
        have hS2 := hHeld
        clear hHeld
        refine hK.out _ _ hS2 (fun hHeld => ?_)
        clear hK K hS2
        refine wpAnyH_ready (rs := [7]) (by kernel_rfl) (by simp) ?_
        refine (AllReadyH.cons rfl (fun K hK => ?_) AllReadyH.nil)
        go_simp
        refine (l2Mass_any _ _ _).mono ?_
        rintro e v45 ⟨rfl, hb⟩
        have hS2 := hHeld.below hb
        have hR : Blk v45 (w.heap.size + 1) 34 [0, 0, 0, 0] := (hb.block _ hR.lt).trans hR
        have hC := hC.below hb
        clear hb hHeld
        refine hK.out _ _ hS2 (fun hHeld => ?_)
        clear hK K hS2
        refine tk (v := ?_) 8 91 HF rfl ?_ hHeld ?_
        rotate_left; · (intro _ _ _; go_simp; try with_reducible rfl)
        simp only [Act.put, p1, p2, p3]
        refine wpAnyH_ready (rs := [9]) (by kernel_rfl) (by simp) ?_
        refine (AllReadyH.cons rfl (fun K hK => ?_) AllReadyH.nil)
        go_simp
        have hS1 := hHeld
        clear hHeld
        refine hK.out _ _ (hS1.below ((Below.refl _ v45).alloc (Nat.le_refl _) _)) (fun hHeld => ?_)
        clear hK K
        refine wpAnyH_ready (rs := [10]) (by kernel_rfl) (by simp) ?_
        refine (AllReadyH.cons rfl (fun K hK => ?_) AllReadyH.nil)
        go_simp
        refine (among_lit g n c _ _ A v45 [_, _, _, _] _ _ _ rfl rfl (by simp) (by simp) hC hn (by omega)).mono ?_
        rintro e v46 ⟨zz, rfl, hC, hf⟩
        have hS2 := hS1.step hf hg hlo hbq
        have hR := hR.fr hf (by omega)
        clear hf hHeld hS1
        refine hK.out _ _ hS2 (fun hHeld => ?_)
        clear hK K hS2
        refine tk (v := ?_) 11 94 HF rfl ?_ hHeld ?_
        rotate_left; · (intro _ _ _; go_simp; try with_reducible rfl)
        simp only [Act.put, p1, p2, p3]
        refine wpAnyH_store (fuel := 0) (i := 12) rfl (by kernel_rfl) (w.heap.size + 1) 0 (.agg #[.int .i64 (3), .int .i64 (z5), .int .i64 (z6), .int .i64 (zz)]) 34 #[.int .i64 0, .int .i64 0, .int .i64 0, .int .i64 0] rfl rfl infoStepD hR (Nat.le_refl 4) (by simp [Value.cells, Value.oneCell']) (fun w' hg' => hHeld.grown hg' (by omega) (by omega) hhi) ?ks47
        case ks47 =>
          intro v48 hh hgw hS3
          clear hHeld
          have hh : v48.heap[w.heap.size + 1]? = some (.cells #[.int .i64 (3), .int .i64 (z5), .int .i64 (z6), .int .i64 (zz)] 34 (0, 0)) := hh
          have hC := hC.grown hgw (by omega)
          clear hgw hR HF
          refine wpAnyH_done (by kernel_rfl) ?_ _
          obtain ⟨q0, q1, q2, q3⟩ := cells4 hh
          have HC := Lib.hid hC
          have HW := Lib.hid hS3
          clear hh hC hS3
          go_wp2
          try simp only [Exit.inBlock, Exit.then]
          refine bodyPost_ret (by simp [results, Tryd.results66, go_sem, q0, q1, q2, q3]; try rfl) rfl ?_
          exact ⟨_, _, _, _, rfl, HC.out.weaken (by omega), HW.out.fr⟩
      · go_upto_region 21 with fail
        have hWd : WS w v27.drew g B m cm f I H S P lo hi bq x y := hW.below (below_drewN (Below.refl _ v27) 1)
        have hCd : Cur v27.drew g A n c (p + 12) := hC.drewN 1
        have hRd : Blk v27.drew (w.heap.size + 1) 34 [0, 0, 0, 0] := hR
        clear hC hW hR
        refine wp_region_held_drew (S := fun w' => WS w w' g B m cm f I H S P lo hi bq x y) (by kernel_rfl) hWd (fun hHeld => ?_)
        clear hWd
        have hC := hCd
        have hR := hRd
        clear hCd hRd
        obtain ⟨v49, hv⟩ : ∃ v, v27.drew = v := ⟨_, rfl⟩
        rw [hv] at hHeld hC hR ⊢
        clear hv
        refine tk (v := ?_) 0 98 HF rfl ?_ hHeld ?_
        rotate_left; · (intro _ _ _; go_simp; try with_reducible rfl)
        simp only [Act.put, p1, p2, p3]
        refine tk (v := ?_) 1 99 HF rfl ?_ hHeld ?_
        rotate_left; · (intro _ _ _; go_simp; try with_reducible rfl)
        simp only [Act.put, p1, p2, p3]
        refine tk (v := ?_) 2 100 HF rfl ?_ hHeld ?_
        rotate_left; · (intro _ _ _; go_simp; try with_reducible rfl)
        simp only [Act.put, p1, p2, p3]
        refine tk (v := ?_) 3 101 HF rfl ?_ hHeld ?_
        rotate_left; · (intro _ _ _; go_simp; try with_reducible rfl)
        simp only [Act.put, p1, p2, p3]
        refine tk (v := ?_) 4 102 HF rfl ?_ hHeld ?_
        rotate_left; · (intro _ _ _; go_simp; try with_reducible rfl)
        simp only [Act.put, p1, p2, p3]
        refine tk (v := ?_) 5 103 HF rfl ?_ hHeld ?_
        rotate_left; · (intro _ _ _; go_simp; try with_reducible rfl)
        simp only [Act.put, p1, p2, p3]
        refine tk (v := ?_) 7 105 HF rfl ?_ hHeld ?_
        rotate_left; · (intro _ _ _; go_simp; try with_reducible rfl)
        simp only [Act.put, p1, p2, p3]
        refine tk (v := ?_) 8 106 HF rfl ?_ hHeld ?_
        rotate_left; · (intro _ _ _; go_simp; try with_reducible rfl)
        simp only [Act.put, p1, p2, p3]
        refine tk (v := ?_) 10 108 HF rfl ?_ hHeld ?_
        rotate_left; · (intro _ _ _; go_simp; try with_reducible rfl)
        simp only [Act.put, p1, p2, p3]
        refine tk (v := ?_) 11 109 HF rfl ?_ hHeld ?_
        rotate_left; · (intro _ _ _; go_simp; try with_reducible rfl)
        simp only [Act.put, p1, p2, p3]
        refine tk (v := ?_) 12 110 HF rfl ?_ hHeld ?_
        rotate_left; · (intro _ _ _; go_simp; try with_reducible rfl)
        simp only [Act.put, p1, p2, p3]
        refine wpAnyH_ready (rs := [6]) (by kernel_rfl) (by simp) ?_
        refine (AllReadyH.cons rfl (fun K hK => ?_) AllReadyH.nil)
        go_simp
        refine (l1Most_any _ _ _).mono ?_
        rintro e v50 ⟨rfl, hx⟩
        rw [← hx]
        clear hx v50
        have hS2 := hHeld
        clear hHeld
        refine hK.out _ _ hS2 (fun hHeld => ?_)
        clear hK K hS2
        refine wpAnyH_ready (rs := [9]) (by kernel_rfl) (by simp) ?_
        refine (AllReadyH.cons rfl (fun K hK => ?_) AllReadyH.nil)
        go_simp
        refine (l1Most_any _ _ _).mono ?_
        rintro e v51 ⟨rfl, hx⟩
        rw [← hx]
        clear hx v51
        have hS2 := hHeld
        clear hHeld
        refine hK.out _ _ hS2 (fun hHeld => ?_)
        clear hK K hS2
        refine wpAnyH_ready (rs := [13]) (by kernel_rfl) (by simp) ?_
        refine (AllReadyH.cons rfl (fun K hK => ?_) AllReadyH.nil)
        go_simp
        have hS1 := hHeld
        clear hHeld
        refine hK.out _ _ (hS1.below ((Below.refl _ v49).alloc (Nat.le_refl _) _)) (fun hHeld => ?_)
        clear hK K
        refine wpAnyH_ready (rs := [14]) (by kernel_rfl) (by simp) ?_
        refine (AllReadyH.cons rfl (fun K hK => ?_) AllReadyH.nil)
        go_simp
        refine (among_lit g n c _ _ A v49 [_, _, _, _] _ _ _ rfl rfl (by simp) (by simp) hC hn (by omega)).mono ?_
        rintro e v52 ⟨zz, rfl, hC, hf⟩
        have hS2 := hS1.step hf hg hlo hbq
        have hR := hR.fr hf (by omega)
        clear hf hHeld hS1
        refine hK.out _ _ hS2 (fun hHeld => ?_)
        clear hK K hS2
        refine tk (v := ?_) 15 113 HF rfl ?_ hHeld ?_
        rotate_left; · (intro _ _ _; go_simp; try with_reducible rfl)
        simp only [Act.put, p1, p2, p3]
        refine wpAnyH_store (fuel := 0) (i := 16) rfl (by kernel_rfl) (w.heap.size + 1) 0 (.agg #[.int .i64 (4), .int .i64 (z5), .int .i64 (0), .int .i64 (zz)]) 34 #[.int .i64 0, .int .i64 0, .int .i64 0, .int .i64 0] rfl rfl infoStepD hR (Nat.le_refl 4) (by simp [Value.cells, Value.oneCell']) (fun w' hg' => hHeld.grown hg' (by omega) (by omega) hhi) ?ks53
        case ks53 =>
          intro v54 hh hgw hS3
          clear hHeld
          have hh : v54.heap[w.heap.size + 1]? = some (.cells #[.int .i64 (4), .int .i64 (z5), .int .i64 (0), .int .i64 (zz)] 34 (0, 0)) := hh
          have hC := hC.grown hgw (by omega)
          clear hgw hR HF
          refine wpAnyH_done (by kernel_rfl) ?_ _
          obtain ⟨q0, q1, q2, q3⟩ := cells4 hh
          have HC := Lib.hid hC
          have HW := Lib.hid hS3
          clear hh hC hS3
          go_wp2
          try simp only [Exit.inBlock, Exit.then]
          refine bodyPost_ret (by simp [results, Tryd.results66, go_sem, q0, q1, q2, q3]; try rfl) rfl ?_
          exact ⟨_, _, _, _, rfl, HC.out.weaken (by omega), HW.out.fr⟩
      · go_upto_region 21 with fail
        have hWd : WS w v27.drew g B m cm f I H S P lo hi bq x y := hW.below (below_drewN (Below.refl _ v27) 1)
        have hCd : Cur v27.drew g A n c (p + 12) := hC.drewN 1
        have hRd : Blk v27.drew (w.heap.size + 1) 34 [0, 0, 0, 0] := hR
        clear hC hW hR
        refine wp_region_held_drew (S := fun w' => WS w w' g B m cm f I H S P lo hi bq x y) (by kernel_rfl) hWd (fun hHeld => ?_)
        clear hWd
        have hC := hCd
        have hR := hRd
        clear hCd hRd
        obtain ⟨v55, hv⟩ : ∃ v, v27.drew = v := ⟨_, rfl⟩
        rw [hv] at hHeld hC hR ⊢
        clear hv
        refine tk (v := ?_) 0 98 HF rfl ?_ hHeld ?_
        rotate_left; · (intro _ _ _; go_simp; try with_reducible rfl)
        simp only [Act.put, p1, p2, p3]
        refine tk (v := ?_) 1 99 HF rfl ?_ hHeld ?_
        rotate_left; · (intro _ _ _; go_simp; try with_reducible rfl)
        simp only [Act.put, p1, p2, p3]
        refine tk (v := ?_) 2 100 HF rfl ?_ hHeld ?_
        rotate_left; · (intro _ _ _; go_simp; try with_reducible rfl)
        simp only [Act.put, p1, p2, p3]
        refine tk (v := ?_) 3 101 HF rfl ?_ hHeld ?_
        rotate_left; · (intro _ _ _; go_simp; try with_reducible rfl)
        simp only [Act.put, p1, p2, p3]
        refine tk (v := ?_) 4 102 HF rfl ?_ hHeld ?_
        rotate_left; · (intro _ _ _; go_simp; try with_reducible rfl)
        simp only [Act.put, p1, p2, p3]
        refine tk (v := ?_) 5 103 HF rfl ?_ hHeld ?_
        rotate_left; · (intro _ _ _; go_simp; try with_reducible rfl)
        simp only [Act.put, p1, p2, p3]
        refine tk (v := ?_) 7 105 HF rfl ?_ hHeld ?_
        rotate_left; · (intro _ _ _; go_simp; try with_reducible rfl)
        simp only [Act.put, p1, p2, p3]
        refine tk (v := ?_) 8 106 HF rfl ?_ hHeld ?_
        rotate_left; · (intro _ _ _; go_simp; try with_reducible rfl)
        simp only [Act.put, p1, p2, p3]
        refine tk (v := ?_) 10 108 HF rfl ?_ hHeld ?_
        rotate_left; · (intro _ _ _; go_simp; try with_reducible rfl)
        simp only [Act.put, p1, p2, p3]
        refine tk (v := ?_) 11 109 HF rfl ?_ hHeld ?_
        rotate_left; · (intro _ _ _; go_simp; try with_reducible rfl)
        simp only [Act.put, p1, p2, p3]
        refine tk (v := ?_) 12 110 HF rfl ?_ hHeld ?_
        rotate_left; · (intro _ _ _; go_simp; try with_reducible rfl)
        simp only [Act.put, p1, p2, p3]
        refine wpAnyH_ready (rs := [6]) (by kernel_rfl) (by simp) ?_
        refine (AllReadyH.cons rfl (fun K hK => ?_) AllReadyH.nil)
        go_simp
        refine (l1Most_any _ _ _).mono ?_
        rintro e v56 ⟨rfl, hx⟩
        rw [← hx]
        clear hx v56
        have hS2 := hHeld
        clear hHeld
        refine hK.out _ _ hS2 (fun hHeld => ?_)
        clear hK K hS2
        refine wpAnyH_ready (rs := [9]) (by kernel_rfl) (by simp) ?_
        refine (AllReadyH.cons rfl (fun K hK => ?_) AllReadyH.nil)
        go_simp
        refine (l1Most_any _ _ _).mono ?_
        rintro e v57 ⟨rfl, hx⟩
        rw [← hx]
        clear hx v57
        have hS2 := hHeld
        clear hHeld
        refine hK.out _ _ hS2 (fun hHeld => ?_)
        clear hK K hS2
        refine wpAnyH_ready (rs := [13]) (by kernel_rfl) (by simp) ?_
        refine (AllReadyH.cons rfl (fun K hK => ?_) AllReadyH.nil)
        go_simp
        have hS1 := hHeld
        clear hHeld
        refine hK.out _ _ (hS1.below ((Below.refl _ v55).alloc (Nat.le_refl _) _)) (fun hHeld => ?_)
        clear hK K
        refine wpAnyH_ready (rs := [14]) (by kernel_rfl) (by simp) ?_
        refine (AllReadyH.cons rfl (fun K hK => ?_) AllReadyH.nil)
        go_simp
        refine (among_lit g n c _ _ A v55 [_, _, _, _] _ _ _ rfl rfl (by simp) (by simp) hC hn (by omega)).mono ?_
        rintro e v58 ⟨zz, rfl, hC, hf⟩
        have hS2 := hS1.step hf hg hlo hbq
        have hR := hR.fr hf (by omega)
        clear hf hHeld hS1
        refine hK.out _ _ hS2 (fun hHeld => ?_)
        clear hK K hS2
        refine tk (v := ?_) 15 113 HF rfl ?_ hHeld ?_
        rotate_left; · (intro _ _ _; go_simp; try with_reducible rfl)
        simp only [Act.put, p1, p2, p3]
        refine wpAnyH_store (fuel := 0) (i := 16) rfl (by kernel_rfl) (w.heap.size + 1) 0 (.agg #[.int .i64 (4), .int .i64 (z5), .int .i64 (0), .int .i64 (zz)]) 34 #[.int .i64 0, .int .i64 0, .int .i64 0, .int .i64 0] rfl rfl infoStepD hR (Nat.le_refl 4) (by simp [Value.cells, Value.oneCell']) (fun w' hg' => hHeld.grown hg' (by omega) (by omega) hhi) ?ks59
        case ks59 =>
          intro v60 hh hgw hS3
          clear hHeld
          have hh : v60.heap[w.heap.size + 1]? = some (.cells #[.int .i64 (4), .int .i64 (z5), .int .i64 (0), .int .i64 (zz)] 34 (0, 0)) := hh
          have hC := hC.grown hgw (by omega)
          clear hgw hR HF
          refine wpAnyH_done (by kernel_rfl) ?_ _
          obtain ⟨q0, q1, q2, q3⟩ := cells4 hh
          have HC := Lib.hid hC
          have HW := Lib.hid hS3
          clear hh hC hS3
          go_wp2
          try simp only [Exit.inBlock, Exit.then]
          refine bodyPost_ret (by simp [results, Tryd.results66, go_sem, q0, q1, q2, q3]; try rfl) rfl ?_
          exact ⟨_, _, _, _, rfl, HC.out.weaken (by omega), HW.out.fr⟩
      · go_upto_region 24 with fail
        have hWd : WS w v27.drew g B m cm f I H S P lo hi bq x y := hW.below (below_drewN (Below.refl _ v27) 1)
        have hCd : Cur v27.drew g A n c (p + 12) := hC.drewN 1
        have hRd : Blk v27.drew (w.heap.size + 1) 34 [0, 0, 0, 0] := hR
        clear hC hW hR
        refine wp_region_held_drew (S := fun w' => WS w w' g B m cm f I H S P lo hi bq x y) (by kernel_rfl) hWd (fun hHeld => ?_)
        clear hWd
        have hC := hCd
        have hR := hRd
        clear hCd hRd
        obtain ⟨v61, hv⟩ : ∃ v, v27.drew = v := ⟨_, rfl⟩
        rw [hv] at hHeld hC hR ⊢
        clear hv
        refine tk (v := ?_) 0 117 HF rfl ?_ hHeld ?_
        rotate_left; · (intro _ _ _; go_simp; try with_reducible rfl)
        simp only [Act.put, p1, p2, p3]
        refine tk (v := ?_) 1 118 HF rfl ?_ hHeld ?_
        rotate_left; · (intro _ _ _; go_simp; try with_reducible rfl)
        simp only [Act.put, p1, p2, p3]
        refine tk (v := ?_) 2 119 HF rfl ?_ hHeld ?_
        rotate_left; · (intro _ _ _; go_simp; try with_reducible rfl)
        simp only [Act.put, p1, p2, p3]
        refine tk (v := ?_) 3 120 HF rfl ?_ hHeld ?_
        rotate_left; · (intro _ _ _; go_simp; try with_reducible rfl)
        simp only [Act.put, p1, p2, p3]
        refine tk (v := ?_) 4 121 HF rfl ?_ hHeld ?_
        rotate_left; · (intro _ _ _; go_simp; try with_reducible rfl)
        simp only [Act.put, p1, p2, p3]
        refine tk (v := ?_) 6 123 HF rfl ?_ hHeld ?_
        rotate_left; · (intro _ _ _; go_simp; try with_reducible rfl)
        simp only [Act.put, p1, p2, p3]
        refine tk (v := ?_) 7 124 HF rfl ?_ hHeld ?_
        rotate_left; · (intro _ _ _; go_simp; try with_reducible rfl)
        simp only [Act.put, p1, p2, p3]
        refine tk (v := ?_) 9 126 HF rfl ?_ hHeld ?_
        rotate_left; · (intro _ _ _; go_simp; try with_reducible rfl)
        simp only [Act.put, p1, p2, p3]
        refine tk (v := ?_) 10 127 HF rfl ?_ hHeld ?_
        rotate_left; · (intro _ _ _; go_simp; try with_reducible rfl)
        simp only [Act.put, p1, p2, p3]
        refine tk (v := ?_) 11 128 HF rfl ?_ hHeld ?_
        rotate_left; · (intro _ _ _; go_simp; try with_reducible rfl)
        simp only [Act.put, p1, p2, p3]
        refine wpAnyH_ready (rs := [5]) (by kernel_rfl) (by simp) ?_
        refine (AllReadyH.cons rfl (fun K hK => ?_) AllReadyH.nil)
        go_simp
        refine (l1Most_any _ _ _).mono ?_
        rintro e v62 ⟨rfl, hx⟩
        rw [← hx]
        clear hx v62
        have hS2 := hHeld
        clear hHeld
        refine hK.out _ _ hS2 (fun hHeld => ?_)
        clear hK K hS2
        refine wpAnyH_ready (rs := [8]) (by kernel_rfl) (by simp) ?_
        refine (AllReadyH.cons rfl (fun K hK => ?_) AllReadyH.nil)
        go_simp
        refine (l1Most_any _ _ _).mono ?_
        rintro e v63 ⟨rfl, hx⟩
        rw [← hx]
        clear hx v63
        have hS2 := hHeld
        clear hHeld
        refine hK.out _ _ hS2 (fun hHeld => ?_)
        clear hK K hS2
        refine wpAnyH_ready (rs := [12]) (by kernel_rfl) (by simp) ?_
        refine (AllReadyH.cons rfl (fun K hK => ?_) AllReadyH.nil)
        go_simp
        have hS1 := hHeld
        clear hHeld
        refine hK.out _ _ (hS1.below ((Below.refl _ v61).alloc (Nat.le_refl _) _)) (fun hHeld => ?_)
        clear hK K
        refine wpAnyH_ready (rs := [13]) (by kernel_rfl) (by simp) ?_
        refine (AllReadyH.cons rfl (fun K hK => ?_) AllReadyH.nil)
        go_simp
        refine (among_lit g n c _ _ A v61 [_, _, _, _] _ _ _ rfl rfl (by simp) (by simp) hC hn (by omega)).mono ?_
        rintro e v64 ⟨zz, rfl, hC, hf⟩
        have hS2 := hS1.step hf hg hlo hbq
        have hR := hR.fr hf (by omega)
        clear hf hHeld hS1
        refine hK.out _ _ hS2 (fun hHeld => ?_)
        clear hK K hS2
        refine tk (v := ?_) 14 131 HF rfl ?_ hHeld ?_
        rotate_left; · (intro _ _ _; go_simp; try with_reducible rfl)
        simp only [Act.put, p1, p2, p3]
        refine wpAnyH_store (fuel := 0) (i := 15) rfl (by kernel_rfl) (w.heap.size + 1) 0 (.agg #[.int .i64 (5), .int .i64 (z5), .int .i64 (0), .int .i64 (zz)]) 34 #[.int .i64 0, .int .i64 0, .int .i64 0, .int .i64 0] rfl rfl infoStepD hR (Nat.le_refl 4) (by simp [Value.cells, Value.oneCell']) (fun w' hg' => hHeld.grown hg' (by omega) (by omega) hhi) ?ks65
        case ks65 =>
          intro v66 hh hgw hS3
          clear hHeld
          have hh : v66.heap[w.heap.size + 1]? = some (.cells #[.int .i64 (5), .int .i64 (z5), .int .i64 (0), .int .i64 (zz)] 34 (0, 0)) := hh
          have hC := hC.grown hgw (by omega)
          clear hgw hR HF
          refine wpAnyH_done (by kernel_rfl) ?_ _
          obtain ⟨q0, q1, q2, q3⟩ := cells4 hh
          have HC := Lib.hid hC
          have HW := Lib.hid hS3
          clear hh hC hS3
          go_wp2
          try simp only [Exit.inBlock, Exit.then]
          refine bodyPost_ret (by simp [results, Tryd.results66, go_sem, q0, q1, q2, q3]; try rfl) rfl ?_
          exact ⟨_, _, _, _, rfl, HC.out.weaken (by omega), HW.out.fr⟩
      · go_upto_region 24 with fail
        have hWd : WS w v27.drew g B m cm f I H S P lo hi bq x y := hW.below (below_drewN (Below.refl _ v27) 1)
        have hCd : Cur v27.drew g A n c (p + 12) := hC.drewN 1
        have hRd : Blk v27.drew (w.heap.size + 1) 34 [0, 0, 0, 0] := hR
        clear hC hW hR
        refine wp_region_held_drew (S := fun w' => WS w w' g B m cm f I H S P lo hi bq x y) (by kernel_rfl) hWd (fun hHeld => ?_)
        clear hWd
        have hC := hCd
        have hR := hRd
        clear hCd hRd
        obtain ⟨v67, hv⟩ : ∃ v, v27.drew = v := ⟨_, rfl⟩
        rw [hv] at hHeld hC hR ⊢
        clear hv
        refine tk (v := ?_) 0 117 HF rfl ?_ hHeld ?_
        rotate_left; · (intro _ _ _; go_simp; try with_reducible rfl)
        simp only [Act.put, p1, p2, p3]
        refine tk (v := ?_) 1 118 HF rfl ?_ hHeld ?_
        rotate_left; · (intro _ _ _; go_simp; try with_reducible rfl)
        simp only [Act.put, p1, p2, p3]
        refine tk (v := ?_) 2 119 HF rfl ?_ hHeld ?_
        rotate_left; · (intro _ _ _; go_simp; try with_reducible rfl)
        simp only [Act.put, p1, p2, p3]
        refine tk (v := ?_) 3 120 HF rfl ?_ hHeld ?_
        rotate_left; · (intro _ _ _; go_simp; try with_reducible rfl)
        simp only [Act.put, p1, p2, p3]
        refine tk (v := ?_) 4 121 HF rfl ?_ hHeld ?_
        rotate_left; · (intro _ _ _; go_simp; try with_reducible rfl)
        simp only [Act.put, p1, p2, p3]
        refine tk (v := ?_) 6 123 HF rfl ?_ hHeld ?_
        rotate_left; · (intro _ _ _; go_simp; try with_reducible rfl)
        simp only [Act.put, p1, p2, p3]
        refine tk (v := ?_) 7 124 HF rfl ?_ hHeld ?_
        rotate_left; · (intro _ _ _; go_simp; try with_reducible rfl)
        simp only [Act.put, p1, p2, p3]
        refine tk (v := ?_) 9 126 HF rfl ?_ hHeld ?_
        rotate_left; · (intro _ _ _; go_simp; try with_reducible rfl)
        simp only [Act.put, p1, p2, p3]
        refine tk (v := ?_) 10 127 HF rfl ?_ hHeld ?_
        rotate_left; · (intro _ _ _; go_simp; try with_reducible rfl)
        simp only [Act.put, p1, p2, p3]
        refine tk (v := ?_) 11 128 HF rfl ?_ hHeld ?_
        rotate_left; · (intro _ _ _; go_simp; try with_reducible rfl)
        simp only [Act.put, p1, p2, p3]
        refine wpAnyH_ready (rs := [5]) (by kernel_rfl) (by simp) ?_
        refine (AllReadyH.cons rfl (fun K hK => ?_) AllReadyH.nil)
        go_simp
        refine (l1Most_any _ _ _).mono ?_
        rintro e v68 ⟨rfl, hx⟩
        rw [← hx]
        clear hx v68
        have hS2 := hHeld
        clear hHeld
        refine hK.out _ _ hS2 (fun hHeld => ?_)
        clear hK K hS2
        refine wpAnyH_ready (rs := [8]) (by kernel_rfl) (by simp) ?_
        refine (AllReadyH.cons rfl (fun K hK => ?_) AllReadyH.nil)
        go_simp
        refine (l1Most_any _ _ _).mono ?_
        rintro e v69 ⟨rfl, hx⟩
        rw [← hx]
        clear hx v69
        have hS2 := hHeld
        clear hHeld
        refine hK.out _ _ hS2 (fun hHeld => ?_)
        clear hK K hS2
        refine wpAnyH_ready (rs := [12]) (by kernel_rfl) (by simp) ?_
        refine (AllReadyH.cons rfl (fun K hK => ?_) AllReadyH.nil)
        go_simp
        have hS1 := hHeld
        clear hHeld
        refine hK.out _ _ (hS1.below ((Below.refl _ v67).alloc (Nat.le_refl _) _)) (fun hHeld => ?_)
        clear hK K
        refine wpAnyH_ready (rs := [13]) (by kernel_rfl) (by simp) ?_
        refine (AllReadyH.cons rfl (fun K hK => ?_) AllReadyH.nil)
        go_simp
        refine (among_lit g n c _ _ A v67 [_, _, _, _] _ _ _ rfl rfl (by simp) (by simp) hC hn (by omega)).mono ?_
        rintro e v70 ⟨zz, rfl, hC, hf⟩
        have hS2 := hS1.step hf hg hlo hbq
        have hR := hR.fr hf (by omega)
        clear hf hHeld hS1
        refine hK.out _ _ hS2 (fun hHeld => ?_)
        clear hK K hS2
        refine tk (v := ?_) 14 131 HF rfl ?_ hHeld ?_
        rotate_left; · (intro _ _ _; go_simp; try with_reducible rfl)
        simp only [Act.put, p1, p2, p3]
        refine wpAnyH_store (fuel := 0) (i := 15) rfl (by kernel_rfl) (w.heap.size + 1) 0 (.agg #[.int .i64 (5), .int .i64 (z5), .int .i64 (0), .int .i64 (zz)]) 34 #[.int .i64 0, .int .i64 0, .int .i64 0, .int .i64 0] rfl rfl infoStepD hR (Nat.le_refl 4) (by simp [Value.cells, Value.oneCell']) (fun w' hg' => hHeld.grown hg' (by omega) (by omega) hhi) ?ks71
        case ks71 =>
          intro v72 hh hgw hS3
          clear hHeld
          have hh : v72.heap[w.heap.size + 1]? = some (.cells #[.int .i64 (5), .int .i64 (z5), .int .i64 (0), .int .i64 (zz)] 34 (0, 0)) := hh
          have hC := hC.grown hgw (by omega)
          clear hgw hR HF
          refine wpAnyH_done (by kernel_rfl) ?_ _
          obtain ⟨q0, q1, q2, q3⟩ := cells4 hh
          have HC := Lib.hid hC
          have HW := Lib.hid hS3
          clear hh hC hS3
          go_wp2
          try simp only [Exit.inBlock, Exit.then]
          refine bodyPost_ret (by simp [results, Tryd.results66, go_sem, q0, q1, q2, q3]; try rfl) rfl ?_
          exact ⟨_, _, _, _, rfl, HC.out.weaken (by omega), HW.out.fr⟩
      · go_upto_region 26 with fail
        have hWd : WS w v27.drew g B m cm f I H S P lo hi bq x y := hW.below (below_drewN (Below.refl _ v27) 1)
        have hCd : Cur v27.drew g A n c (p + 12) := hC.drewN 1
        have hRd : Blk v27.drew (w.heap.size + 1) 34 [0, 0, 0, 0] := hR
        clear hC hW hR
        refine wp_region_held_drew (S := fun w' => WS w w' g B m cm f I H S P lo hi bq x y) (by kernel_rfl) hWd (fun hHeld => ?_)
        clear hWd
        have hC := hCd
        have hR := hRd
        clear hCd hRd
        obtain ⟨v73, hv⟩ : ∃ v, v27.drew = v := ⟨_, rfl⟩
        rw [hv] at hHeld hC hR ⊢
        clear hv
        refine tk (v := ?_) 0 134 HF rfl ?_ hHeld ?_
        rotate_left; · (intro _ _ _; go_simp; try with_reducible rfl)
        simp only [Act.put, p1, p2, p3]
        refine tk (v := ?_) 1 135 HF rfl ?_ hHeld ?_
        rotate_left; · (intro _ _ _; go_simp; try with_reducible rfl)
        simp only [Act.put, p1, p2, p3]
        refine tk (v := ?_) 2 136 HF rfl ?_ hHeld ?_
        rotate_left; · (intro _ _ _; go_simp; try with_reducible rfl)
        simp only [Act.put, p1, p2, p3]
        refine tk (v := ?_) 4 138 HF rfl ?_ hHeld ?_
        rotate_left; · (intro _ _ _; go_simp; try with_reducible rfl)
        simp only [Act.put, p1, p2, p3]
        refine tk (v := ?_) 5 139 HF rfl ?_ hHeld ?_
        rotate_left; · (intro _ _ _; go_simp; try with_reducible rfl)
        simp only [Act.put, p1, p2, p3]
        refine tk (v := ?_) 6 140 HF rfl ?_ hHeld ?_
        rotate_left; · (intro _ _ _; go_simp; try with_reducible rfl)
        simp only [Act.put, p1, p2, p3]
        refine wpAnyH_ready (rs := [3]) (by kernel_rfl) (by simp) ?_
        refine (AllReadyH.cons rfl (fun K hK => ?_) AllReadyH.nil)
        go_simp
        refine (l1Most_any _ _ _).mono ?_
        rintro e v74 ⟨rfl, hx⟩
        rw [← hx]
        clear hx v74
        have hS2 := hHeld
        clear hHeld
        refine hK.out _ _ hS2 (fun hHeld => ?_)
        clear hK K hS2
        refine wpAnyH_ready (rs := [7]) (by kernel_rfl) (by simp) ?_
        refine (AllReadyH.cons rfl (fun K hK => ?_) AllReadyH.nil)
        go_simp
        have hS1 := hHeld
        clear hHeld
        refine hK.out _ _ (hS1.below ((Below.refl _ v73).alloc (Nat.le_refl _) _)) (fun hHeld => ?_)
        clear hK K
        refine wpAnyH_ready (rs := [8]) (by kernel_rfl) (by simp) ?_
        refine (AllReadyH.cons rfl (fun K hK => ?_) AllReadyH.nil)
        go_simp
        refine (among_lit g n c _ _ A v73 [_, _, _] _ _ _ rfl rfl (by simp) (by simp) hC hn (by omega)).mono ?_
        rintro e v75 ⟨zz, rfl, hC, hf⟩
        have hS2 := hS1.step hf hg hlo hbq
        have hR := hR.fr hf (by omega)
        clear hf hHeld hS1
        refine hK.out _ _ hS2 (fun hHeld => ?_)
        clear hK K hS2
        refine tk (v := ?_) 9 143 HF rfl ?_ hHeld ?_
        rotate_left; · (intro _ _ _; go_simp; try with_reducible rfl)
        simp only [Act.put, p1, p2, p3]
        refine wpAnyH_store (fuel := 0) (i := 10) rfl (by kernel_rfl) (w.heap.size + 1) 0 (.agg #[.int .i64 (6), .int .i64 (0), .int .i64 (0), .int .i64 (zz)]) 34 #[.int .i64 0, .int .i64 0, .int .i64 0, .int .i64 0] rfl rfl infoStepD hR (Nat.le_refl 4) (by simp [Value.cells, Value.oneCell']) (fun w' hg' => hHeld.grown hg' (by omega) (by omega) hhi) ?ks76
        case ks76 =>
          intro v77 hh hgw hS3
          clear hHeld
          have hh : v77.heap[w.heap.size + 1]? = some (.cells #[.int .i64 (6), .int .i64 (0), .int .i64 (0), .int .i64 (zz)] 34 (0, 0)) := hh
          have hC := hC.grown hgw (by omega)
          clear hgw hR HF
          refine wpAnyH_done (by kernel_rfl) ?_ _
          obtain ⟨q0, q1, q2, q3⟩ := cells4 hh
          have HC := Lib.hid hC
          have HW := Lib.hid hS3
          clear hh hC hS3
          go_wp2
          try simp only [Exit.inBlock, Exit.then]
          refine bodyPost_ret (by simp [results, Tryd.results66, go_sem, q0, q1, q2, q3]; try rfl) rfl ?_
          exact ⟨_, _, _, _, rfl, HC.out.weaken (by omega), HW.out.fr⟩
      · clear HF
        have r0 : v27.cell? ⟨w.heap.size + 1, 0, none⟩ = some (.int .i64 0) := hR.cell (j := 0) (by simp)
        have r1 : v27.cell? ⟨w.heap.size + 1, 1, none⟩ = some (.int .i64 0) := hR.cell (j := 1) (by simp)
        have r2 : v27.cell? ⟨w.heap.size + 1, 2, none⟩ = some (.int .i64 0) := hR.cell (j := 2) (by simp)
        have r3 : v27.cell? ⟨w.heap.size + 1, 3, none⟩ = some (.int .i64 0) := hR.cell (j := 3) (by simp)
        have rf : ∀ j, v27.frozen? ⟨w.heap.size + 1, j, none⟩ = false := hR.fz
        have HC := Lib.hid hC
        have HW := Lib.hid hW
        clear hC hW hR
        go_wp2
        obtain ⟨wq, hwq⟩ : ∃ wq, wq = ((((v27.setCell ⟨w.heap.size + 1, 0, none⟩ (.int .i64 (7))).setCell ⟨w.heap.size + 1, 1, none⟩ (.int .i64 (z5))).setCell ⟨w.heap.size + 1, 2, none⟩ (.int .i64 (0))).setCell ⟨w.heap.size + 1, 3, none⟩ (.int .i64 (0))) := ⟨_, rfl⟩
        rw [← hwq]
        have q0 : wq.cell? ⟨w.heap.size + 1, 0, none⟩ = some (.int .i64 (7)) := by rw [hwq]; go_simp
        have q1 : wq.cell? ⟨w.heap.size + 1, 1, none⟩ = some (.int .i64 (z5)) := by rw [hwq]; go_simp
        have q2 : wq.cell? ⟨w.heap.size + 1, 2, none⟩ = some (.int .i64 (0)) := by rw [hwq]; go_simp
        have q3 : wq.cell? ⟨w.heap.size + 1, 3, none⟩ = some (.int .i64 (0)) := by rw [hwq]; go_simp
        have hCq : Cur wq g A n c (p + 12) := by rw [hwq]; exact ((((HC.out.setOwn (q := ⟨w.heap.size + 1, 0, none⟩) (by show g < w.heap.size + 1; omega) _).setOwn (q := ⟨w.heap.size + 1, 1, none⟩) (by show g < w.heap.size + 1; omega) _).setOwn (q := ⟨w.heap.size + 1, 2, none⟩) (by show g < w.heap.size + 1; omega) _).setOwn (q := ⟨w.heap.size + 1, 3, none⟩) (by show g < w.heap.size + 1; omega) _)
        have hFq : Fr g (g + 1) w wq := by rw [hwq]; exact ((((HW.out.fr.setOwn (j := 0) (p := ⟨w.heap.size + 1, 0, none⟩) (by show w.heap.size ≤ w.heap.size + 1; omega) _).setOwn (j := 0) (p := ⟨w.heap.size + 1, 1, none⟩) (by show w.heap.size ≤ w.heap.size + 1; omega) _).setOwn (j := 0) (p := ⟨w.heap.size + 1, 2, none⟩) (by show w.heap.size ≤ w.heap.size + 1; omega) _).setOwn (j := 0) (p := ⟨w.heap.size + 1, 3, none⟩) (by show w.heap.size ≤ w.heap.size + 1; omega) _)
        clear hwq r0 r1 r2 r3 rf HC HW
        try simp only [Exit.inBlock, Exit.then]
        refine bodyPost_ret (by simp [results, Tryd.results66, go_sem, q0, q1, q2, q3]; try rfl) rfl ?_
        exact ⟨_, _, _, _, rfl, hCq.weaken (by omega), hFq⟩
end Go.Proofs.YtjkockhldaacbaaDoor
