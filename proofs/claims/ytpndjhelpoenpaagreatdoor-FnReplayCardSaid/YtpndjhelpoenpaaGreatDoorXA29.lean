/-
  Texts of this claim, merged.
-/
import Derived.Test.YtpndjhelpoenpaaGreatDoorXA20
set_option linter.unusedVariables false
set_option linter.unusedSimpArgs false
set_option maxRecDepth 100000
set_option maxHeartbeats 8000000
namespace Go.Proofs.YtpndjhelpoenpaaGreatDoor
open Go.RowKit
theorem nameWS {P : Program} {c : Go.Code} {Q : Exit → Act → World → Prop} {a : Act} {W : World} (h : ∀ w2, w2 = W → c.wp P Q a w2) : c.wp P Q a W := h W rfl
theorem infoStepD : (Tryz.prog.info? 107).map (·.size) = some 4 := by kernel_rfl
theorem infoPanD : (Tryz.prog.info? 97).map (·.size) = some 4 := by kernel_rfl
structure WS (w W : World) (g : Nat) (B : Option Addr) (m cm : Nat) (f : Nat → Int) (I H S P : Int) (lo hi bq : Nat) (x y : Int) : Prop where
 fr : Fr g (g + 1) w W
 box : W.heap[w.heap.size]? = some (.cells (wB B m cm I H S P) 32 (0, 0))
 sl : Sl W lo hi 4 B m f
 br : Blk W bq 95 [x, y]
theorem WS.step {w W W' : World} {g : Nat} {B : Option Addr} {m cm : Nat} {f : Nat → Int} {I H S P : Int} {lo hi bq : Nat} {x y : Int} (h : WS w W g B m cm f I H S P lo hi bq x y) (hf : Fr g (g + 1) W W') (hg : g < w.heap.size) (hlo : g < lo) (hbq : w.heap.size + 1 < bq) : WS w W' g B m cm f I H S P lo hi bq x y :=
 ⟨h.fr.trans hf, (hf.block _ (gL h.box) (Or.inr hg)).trans h.box, h.sl.fr hf (Or.inr hlo), h.br.fr hf (by omega)⟩
theorem WS.below {w W W' : World} {g : Nat} {B : Option Addr} {m cm : Nat} {f : Nat → Int} {I H S P : Int} {lo hi bq : Nat} {x y : Int} (h : WS w W g B m cm f I H S P lo hi bq x y) (hb : bW W W') : WS w W' g B m cm f I H S P lo hi bq x y :=
 ⟨h.fr.trans (Fr.of_below _ _ hb), (hb.block _ (gL h.box)).trans h.box, h.sl.below hb, (hb.block _ h.br.lt).trans h.br⟩
theorem WS.grown {w W W' : World} {g : Nat} {B : Option Addr} {m cm : Nat} {f : Nat → Int} {I H S P : Int} {lo hi bq : Nat} {x y : Int} {r : Nat} (h : WS w W g B m cm f I H S P lo hi bq x y) (hg : W.grownBy W' (some r)) (hr : w.heap.size < r) (hrb : r ≠ bq) (hhi : hi ≤ w.heap.size) : WS w W' g B m cm f I H S P lo hi bq x y := by
 refine ⟨⟨hg.os.trans h.fr.os, hg.tape.trans h.fr.tape, hg.output.trans h.fr.output, Nat.le_trans h.fr.size hg.size, fun k hk hx => (hg.block k (Nat.lt_of_lt_of_le hk h.fr.size) (fun e => by have := Option.some.inj e; omega)).trans (h.fr.block k hk hx)⟩,
  (hg.block _ (gL h.box) (fun e => by have := Option.some.inj e; omega)).trans h.box, ⟨Nat.le_trans h.sl.hi_le hg.size, fun hn => ?_⟩, (hg.block _ h.br.lt (fun e => by have := Option.some.inj e; omega)).trans h.br⟩
 obtain ⟨b, off, e, h1, h2, h3⟩ := h.sl.here hn
 exact ⟨b, off, e, h1, h2, fun j hj => (World.cell?_of_block (a := ⟨b, off + j, none⟩) (hg.block b (Nat.lt_of_lt_of_le h2 h.sl.hi_le) (fun e => by have := Option.some.inj e; omega))).trans (h3 j hj)⟩
theorem Cur.grown {W W' : World} {g n c p r : Nat} {A : Option Addr} (h : Cur W g A n c p) (hg : W.grownBy W' (some r)) (hr : g < r) : Cur W' g A n c p :=
 h.keep hg.size (fun k hk => hg.block k (Nat.lt_of_le_of_lt hk h.lt) (fun e => by have := Option.some.inj e; omega))
theorem Blk.grown {W W' : World} {b r : Nat} {T : TypeId} {L : List Int} (h : Blk W b T L) (hg : W.grownBy W' (some r)) (hr : b ≠ r) : Blk W' b T L :=
 (hg.block _ h.lt (fun e => by have := Option.some.inj e; omega)).trans h
theorem Sl.setC {W : World} {lo hi k m b j : Nat} {B : Option Addr} {f : Nat → Int} (h : Sl W lo hi k B m f) (hb : hi ≤ b) (v : Value) : Sl (W.setCell ⟨b, j, none⟩ v) lo hi k B m f :=
 ⟨by simpa [World.setCell] using h.hi_le, fun hn => by
  obtain ⟨a, off, e, h1, h2, h3⟩ := h.here hn
  refine ⟨a, off, e, h1, h2, fun i hi' => ?_⟩
  rw [World.cell?_setCell_other _ _ _ _ (by intro e; have := congrArg Addr.block e; simp at this; omega)]
  exact h3 i hi'⟩
theorem WS.set0 {w W : World} {g : Nat} {B : Option Addr} {m cm : Nat} {f : Nat → Int} {I H S P : Int} {lo hi bq : Nat} {x y : Int} (h : WS w W g B m cm f I H S P lo hi bq x y) (hbq : w.heap.size + 1 < bq) (hhi : hi ≤ w.heap.size) (v : Int) : WS w (W.setCell ⟨bq, 0, none⟩ (.int .i64 v)) g B m cm f I H S P lo hi bq v y :=
 ⟨h.fr.setOwn (j := 0) (p := ⟨bq, 0, none⟩) (by show w.heap.size ≤ bq; omega) _, (Below.heap_setCell _ _ _ _ (by show w.heap.size ≠ bq; omega)).trans h.box, h.sl.setC (by omega) _, h.br.set 0 v⟩
theorem WS.set1 {w W : World} {g : Nat} {B : Option Addr} {m cm : Nat} {f : Nat → Int} {I H S P : Int} {lo hi bq : Nat} {x y : Int} (h : WS w W g B m cm f I H S P lo hi bq x y) (hbq : w.heap.size + 1 < bq) (hhi : hi ≤ w.heap.size) (v : Int) : WS w (W.setCell ⟨bq, 1, none⟩ (.int .i64 v)) g B m cm f I H S P lo hi bq x v :=
 ⟨h.fr.setOwn (j := 0) (p := ⟨bq, 1, none⟩) (by show w.heap.size ≤ bq; omega) _, (Below.heap_setCell _ _ _ _ (by show w.heap.size ≠ bq; omega)).trans h.box, h.sl.setC (by omega) _, h.br.set 1 v⟩
abbrev Rg (z : Int) : Prop := 0 ≤ z ∧ z ≤ 9223372036854775807
def RgAll : List Int → Prop
 | [] => True
 | z :: L => Rg z ∧ RgAll L
def LeAll : List Int → Prop
 | [] => True
 | z :: L => z ≤ 9223372036854775807 ∧ LeAll L
theorem rg_at : ∀ {L : List Int} {k : Nat}, RgAll L → k < L.length → Rg (L.getD k 0)
 | z :: L, 0, h, _ => h.1
 | z :: L, k + 1, h, hk => by simpa using rg_at (k := k) h.2 (by simpa using hk)
theorem le_at : ∀ {L : List Int} {k : Nat}, LeAll L → k < L.length → L.getD k 0 ≤ 9223372036854775807
 | z :: L, 0, h, _ => h.1
 | z :: L, k + 1, h, hk => by simpa using le_at (k := k) h.2 (by simpa using hk)
theorem i64_le (x : Int) : IntKind.i64.wrap x ≤ 9223372036854775807 := by
 rw [IntWalk.i64_left]
 unfold wrap64
 omega
theorem mass_le (a b : Int) : massV a b ≤ 9223372036854775807 := by
 unfold massV wrap64
 omega
theorem most_le {a b : Int} (ha : a ≤ 9223372036854775807) (hb : b ≤ 9223372036854775807) : mostV a b ≤ 9223372036854775807 := by unfold mostV; split <;> assumption
theorem among_rg (g n c p cm : Nat) (A : Option Addr) (w : World) (L : List Int) (cs : Array Value) (T : TypeId) (m : Nat) (hcs : cs = (L.map (Value.int .i64)).toArray) (hm : m = L.length) (hm1 : 1 ≤ m) (hm2 : m ≤ 1000) (hC : Cur w g A n c p) (hn : n ≤ 65536) (hp : p ≤ 900000000) (hL : RgAll L) :
  Calls Tryz.prog 68 #[.pointer (some ⟨g, 0, none⟩), .slice (some ⟨w.heap.size, 0, none⟩) m cm] (w.alloc (.cells cs T)) fun e w' => ∃ z : Int, e = .returned (.int .i64 z) ∧ Hid (Rg z) ∧ Cur w' g A n c (p + 2) ∧ Fr g (g + 1) w w' := by
 subst hm
 refine (among_any g n c p L.length cm w.heap.size (w.heap.size + 1) A _ _ _ (hC.alloc _) hn hp hm1 hm2 (sl_lit L hcs) hC.lt).mono ?_
 rintro e w1 ⟨k, hk, rfl, h1, h2⟩
 exact ⟨_, rfl, rg_at hL hk, h1, (Fr.of_below g (g + 1) ((Below.refl _ w).alloc nL _)).trans h2⟩
theorem among_le (g n c p cm : Nat) (A : Option Addr) (w : World) (L : List Int) (cs : Array Value) (T : TypeId) (m : Nat) (hcs : cs = (L.map (Value.int .i64)).toArray) (hm : m = L.length) (hm1 : 1 ≤ m) (hm2 : m ≤ 1000) (hC : Cur w g A n c p) (hn : n ≤ 65536) (hp : p ≤ 900000000) (hL : LeAll L) :
  Calls Tryz.prog 68 #[.pointer (some ⟨g, 0, none⟩), .slice (some ⟨w.heap.size, 0, none⟩) m cm] (w.alloc (.cells cs T)) fun e w' => ∃ z : Int, e = .returned (.int .i64 z) ∧ Hid (z ≤ 9223372036854775807) ∧ Cur w' g A n c (p + 2) ∧ Fr g (g + 1) w w' := by
 subst hm
 refine (among_any g n c p L.length cm w.heap.size (w.heap.size + 1) A _ _ _ (hC.alloc _) hn hp hm1 hm2 (sl_lit L hcs) hC.lt).mono ?_
 rintro e w1 ⟨k, hk, rfl, h1, h2⟩
 exact ⟨_, rfl, le_at hL hk, h1, (Fr.of_below g (g + 1) ((Below.refl _ w).alloc nL _)).trans h2⟩
theorem worksStep_any (g n c p : Nat) (A : Option Addr) (B : Option Addr) (m cm lo hi : Nat) (f : Nat → Int) (I H S P : Int) (w : World) (hC0 : Cur w g A n c p) (hn : n ≤ 65536) (hp : p ≤ 800000000) (hs : Sl w lo hi 4 B m f) (hlo : g < lo) (hm : m ≤ 1000000) (hmc : m ≤ cm) (HBD : Hid ((∀ j, j < m * 4 → Rg (f j)) ∧ H ≤ 9223372036854775807)) :
  Calls Tryz.prog 105 #[.pointer (some ⟨g, 0, none⟩), .agg (wB B m cm I H S P)] w fun e w' => ∃ a0 a1 a2 a3 : Int, e = .returned (.agg (iV a0 a1 a2 a3)) ∧ (Rg a1 ∧ Rg a2 ∧ a3 ≤ 9223372036854775807) ∧ Cur w' g A n c (p + 20) ∧ Fr g (g + 1) w w' := by
 go_enter Tryz.func105, Tryz.ntmps105
 have hg : g < w.heap.size := hC0.lt
 go_upto_region 1 with fail
 refine nameWS ?_
 intro w1 hw1
 have hB1 : w1.heap[w.heap.size]? = some (.cells (wB B m cm I H S P) 32 (0, 0)) := by rw [hw1, heap_alloc_old _ _ (by simp)]; exact heap_alloc_new w _
 have hR : Blk w1 (w.heap.size + 1) 107 [0, 0, 0, 0] := by
  rw [hw1]
  have h := heap_alloc_new (w.alloc (.cells (wB B m cm I H S P) 32)) (.cells (iV 0 0 0 0) 107)
  simpa [Blk] using h
 have hF1 : Fr g (g + 1) w w1 := by rw [hw1]; exact ((Fr.refl _ _ w).alloc' _).alloc' _
 have hC : Cur w1 g A n c (p + 0) := by rw [hw1]; exact (hC0.alloc _).alloc _
 have hS1 : Sl w1 lo hi 4 B m f := by rw [hw1]; exact (hs.below ((Below.refl _ w).alloc nL _)).below ((Below.refl _ _).alloc nL _)
 have hhi : hi ≤ w.heap.size := hs.hi_le
 clear hw1 hC0 hs
 obtain ⟨rb, hrb⟩ : ∃ q, w.heap.size + 1 = q := ⟨_, rfl⟩
 rw [hrb] at hR
 try rw [hrb]
 have hrb1 : w.heap.size < rb := by omega
 have hrb2 : rb ≤ w.heap.size + 1 := by omega
 clear hrb
 go_wp2_with fail
 refine (among_rg g n c _ _ A _ [1, 7, 20] _ _ _ rfl rfl (by simp) (by simp) hC hn (by omega) ⟨by decide, by decide, by decide, trivial⟩).mono ?_
 rintro e w2 ⟨z5, rfl, hd_z5, hC, hf⟩
 have hB1 := (hf.block _ (gL hB1) (Or.inr (by omega))).trans hB1
 have hR := hR.fr hf (by omega)
 have hF1 := hF1.trans hf
 have hS1 := hS1.fr hf (Or.inr hlo)
 clear hf
 go_wp2_with fail
 refine (among_rg g n c _ _ A _ [1, 7, 20] _ _ _ rfl rfl (by simp) (by simp) hC hn (by omega) ⟨by decide, by decide, by decide, trivial⟩).mono ?_
 rintro e w3 ⟨z6, rfl, hd_z6, hC, hf⟩
 have hB1 := (hf.block _ (gL hB1) (Or.inr (by omega))).trans hB1
 have hR := hR.fr hf (by omega)
 have hF1 := hF1.trans hf
 have hS1 := hS1.fr hf (Or.inr hlo)
 clear hf
 have hbz : w.heap.size + 1 < w3.heap.size := by have := hR.lt; omega
 go_upto_region 2 with fail
 refine nameWS ?_
 intro w4 hw4
 have hbr : Blk w4 w3.heap.size 95 [10, 10] := by rw [hw4]; exact Blk.new [10, 10] rfl
 have hb4 := ba hw4
 have hC := hC.below hb4
 have hR : Blk w4 (rb) 107 [0, 0, 0, 0] := (hb4.block _ hR.lt).trans hR
 clear hw4
 obtain ⟨bq, hbqe⟩ : ∃ q, w3.heap.size = q := ⟨_, rfl⟩
 have hW : WS w w4 g B m cm f I H S P lo hi w3.heap.size 10 10 := ⟨hF1.trans (Fr.of_below _ _ hb4), (hb4.block _ (gL hB1)).trans hB1, hS1.below hb4, hbr⟩
 clear hb4 hbr hB1 hF1 hS1
 rw [hbqe] at hW hbz
 try rw [hbqe]
 have hbq := hbz
 clear hbz hbqe
 have c0 : cE w4 w.heap.size 0 (.slice B m cm) := by rw [cell_of_row w4 (w.heap.size) 0 _ _ (0, 0) hW.box]; rfl
 go_upto_if 19 with fail
 go_cut [5, 6] (fun s5 s6 wx => ∃ z5 z6 x y : Int, s5 = .int .i64 z5 ∧ s6 = .int .i64 z6 ∧ Cur wx g A n c (p + 8) ∧ WS w wx g B m cm f I H S P lo hi bq x y ∧ Blk wx (rb) 107 [0, 0, 0, 0] ∧ Hid (Rg z5 ∧ Rg z6 ∧ x ≤ 9223372036854775807 ∧ y ≤ 9223372036854775807))
 case first =>
  clear c0
  by_cases hm0 : 0 < m
  ·have hm0i : (0 : Int) < (m : Int) := by omega
   obtain ⟨b, off, eB, _, _, _⟩ := hW.sl.here hm0
   subst eB
   go_upto_region 3 with fail
   go_cut [8] (fun s8 wx => ∃ g8 z : Nat, s8 = .pointer (some ⟨g8, 0, none⟩) ∧ z < m ∧ bq < g8 ∧ wx.heap[g8]? = some (.cells (iV (f (z * 4)) (f (z * 4 + 1)) (f (z * 4 + 2)) (f (z * 4 + 3))) 97 (0, 0)) ∧ Cur wx g A n c (p + 6) ∧ WS w wx g (some ⟨b, off, none⟩) m cm f I H S P lo hi bq 10 10 ∧ Blk wx (rb) 107 [0, 0, 0, 0])
   case first =>
    have HF : Hid (∀ w', WS w w' g (some ⟨b, off, none⟩) m cm f I H S P lo hi bq 10 10 → cE w' w.heap.size 0 (.slice (some ⟨b, off, none⟩) m cm) ∧ cI w' w.heap.size 1 I ∧ cI w' w.heap.size 2 H ∧ cI w' w.heap.size 3 S ∧ cI w' w.heap.size 4 P ∧ cI w' bq 0 (10) ∧ cI w' bq 1 (10)) := fun w' hS => ⟨by rw [cell_of_row w' w.heap.size 0 _ _ (0, 0) hS.box]; rfl, by rw [cell_of_row w' w.heap.size 1 _ _ (0, 0) hS.box]; rfl, by rw [cell_of_row w' w.heap.size 2 _ _ (0, 0) hS.box]; rfl, by rw [cell_of_row w' w.heap.size 3 _ _ (0, 0) hS.box]; rfl, by rw [cell_of_row w' w.heap.size 4 _ _ (0, 0) hS.box]; rfl, hS.br.cell (j := 0) (by simp), hS.br.cell (j := 1) (by simp)⟩
    have hWd : WS w w4.drew g (some ⟨b, off, none⟩) m cm f I H S P lo hi bq 10 10 := hW.below (below_drewN (Below.refl _ w4) 1)
    have hCd : Cur w4.drew g A n c (p + 4) := hC.drewN 1
    have hRd : Blk w4.drew (rb) 107 [0, 0, 0, 0] := hR
    clear hC hW hR
    refine wp_region_held_drew (S := fun w' => WS w w' g (some ⟨b, off, none⟩) m cm f I H S P lo hi bq 10 10) (by kernel_rfl) hWd (fun jd => ?_)
    clear hWd
    have hC := hCd
    have hR := hRd
    clear hCd hRd
    obtain ⟨v1, hv⟩ : ∃ v, w4.drew = v := ⟨_, rfl⟩
    rw [hv] at jd hC hR ⊢
    clear hv
    refine tj4 0 20 2 22 3 23 1 21 HF jd ?_
    refine tj 4 24 HF rfl jd ?_
    refine wpAnyH_ready (rs := [5, 9]) (by kernel_rfl) (by simp) ?_
    refine (AllReadyH.cons rfl (fun K hK => ?_) (AllReadyH.cons rfl (fun K hK => ?_) AllReadyH.nil))
    ·go_simp
     have hS2 := jd
     clear jd
     refine hK.out _ _ hS2 (fun jd => ?_)
     clear hK K hS2
     refine wpAnyH_ready (rs := [6, 9]) (by kernel_rfl) (by simp) ?_
     refine (AllReadyH.cons rfl (fun K hK => ?_) (AllReadyH.cons rfl (fun K hK => ?_) AllReadyH.nil))
     ·go_simp
      refine (pick_any g n c _ m A _ hC hn (by omega) hm0 (by omega)).mono ?_
      rintro e v2 ⟨z, rfl, hz, hC, hf⟩
      have hS2 := jd.step hf hg hlo hbq
      have hR := hR.fr hf (by omega)
      clear hf jd
      refine hK.out _ _ hS2 (fun jd => ?_)
      clear hK K hS2
      have hzi : (z : Int) < (m : Int) := by omega
      have hz0 : (0 : Int) ≤ (z : Int) := by omega
      have HF2 : Hid (∀ w', WS w w' g (some ⟨b, off, none⟩) m cm f I H S P lo hi bq 10 10 → cE w' w.heap.size 0 (.slice (some ⟨b, off, none⟩) m cm) ∧ cI w' w.heap.size 1 I ∧ cI w' w.heap.size 2 H ∧ cI w' w.heap.size 3 S ∧ cI w' w.heap.size 4 P ∧ cI w' bq 0 (10) ∧ cI w' bq 1 (10) ∧ cI w' b (off + z * 4) (f (z * 4)) ∧ cI w' b (off + z * 4 + 1) (f (z * 4 + 1)) ∧ cI w' b (off + z * 4 + 2) (f (z * 4 + 2)) ∧ cI w' b (off + z * 4 + 3) (f (z * 4 + 3))) := fun w' hS => by
       obtain ⟨e0, e1, e2, e3, e4, e5, e6⟩ := HF.out w' hS
       obtain ⟨b', off', eb, _, _, h3⟩ := hS.sl.here hm0
       cases eb
       have p0 := h3 (z * 4) (by omega)
       have p1 := h3 (z * 4 + 1) (by omega)
       have p2 := h3 (z * 4 + 2) (by omega)
       have p3 := h3 (z * 4 + 3) (by omega)
       rw [← Nat.add_assoc] at p1 p2 p3
       exact ⟨e0, e1, e2, e3, e4, e5, e6, p0, p1, p2, p3⟩
      clear HF
      have HF := HF2
      clear HF2
      refine tj2 7 27 8 28 HF jd ?_
      refine wpAnyH_ready (rs := [9]) (by kernel_rfl) (by simp) ?_
      refine (AllReadyH.cons rfl (fun K hK => ?_) AllReadyH.nil)
      go_simp
      have h8 := heap_alloc_new v2 (.cells (iV 0 0 0 0) 97)
      have hS2 := jd.below ((Below.refl _ v2).alloc nL (.cells (iV 0 0 0 0) 97))
      have hC := hC.alloc (.cells (iV 0 0 0 0) 97)
      have hR := hR.alloc (.cells (iV 0 0 0 0) 97)
      have hz8 : v2.heap.size > bq := jd.br.lt
      obtain ⟨g8, hge⟩ : ∃ q, v2.heap.size = q := ⟨_, rfl⟩
      rw [hge] at h8 hz8
      try rw [hge]
      obtain ⟨v3, hve⟩ : ∃ v, v2.alloc (.cells (iV 0 0 0 0) 97) = v := ⟨_, rfl⟩
      rw [hve] at h8 hS2 hC hR
      rw [hve]
      clear hve hge jd
      refine hK.out _ _ hS2 (fun jd => ?_)
      clear hK K hS2
      refine wS0 10 g8 (iV (f (z * 4)) (f (z * 4 + 1)) (f (z * 4 + 2)) (f (z * 4 + 3))) 97 infoPanD h8 (fun w' hg' => jd.grown hg' (by omega) (by omega) hhi) ?ks4
      case ks4 =>
       intro v5 hh hgw hW
       clear jd
       have h8 : v5.heap[g8]? = some (.cells (iV (f (z * 4)) (f (z * 4 + 1)) (f (z * 4 + 2)) (f (z * 4 + 3))) 97 (0, 0)) := hh
       have hC := hC.grown hgw (by omega)
       have hR := Blk.grown hR hgw (by omega)
       clear hgw hh HF
       refine wpAnyH_done (by kernel_rfl) ?_ _
       go_wp2_with fail
       go_meet
       case rel => exact ⟨_, _, rfl, hz, hz8, h8, hC.weaken (by omega), hW, hR⟩
     ·go_simp
      have h8 := heap_alloc_new v1 (.cells (iV 0 0 0 0) 97)
      have hS2 := jd.below ((Below.refl _ v1).alloc nL (.cells (iV 0 0 0 0) 97))
      have hC := hC.alloc (.cells (iV 0 0 0 0) 97)
      have hR := hR.alloc (.cells (iV 0 0 0 0) 97)
      have hz8 : v1.heap.size > bq := jd.br.lt
      obtain ⟨g8, hge⟩ : ∃ q, v1.heap.size = q := ⟨_, rfl⟩
      rw [hge] at h8 hz8
      try rw [hge]
      obtain ⟨v6, hve⟩ : ∃ v, v1.alloc (.cells (iV 0 0 0 0) 97) = v := ⟨_, rfl⟩
      rw [hve] at h8 hS2 hC hR
      rw [hve]
      clear hve hge jd
      refine hK.out _ _ hS2 (fun jd => ?_)
      clear hK K hS2
      refine wpAnyH_ready (rs := [6]) (by kernel_rfl) (by simp) ?_
      refine (AllReadyH.cons rfl (fun K hK => ?_) AllReadyH.nil)
      go_simp
      refine (pick_any g n c _ m A _ hC hn (by omega) hm0 (by omega)).mono ?_
      rintro e v7 ⟨z, rfl, hz, hC, hf⟩
      have hS2 := jd.step hf hg hlo hbq
      have hR := hR.fr hf (by omega)
      have h8 := (hf.block _ (gL h8) (Or.inr (by omega))).trans h8
      clear hf jd
      refine hK.out _ _ hS2 (fun jd => ?_)
      clear hK K hS2
      have hzi : (z : Int) < (m : Int) := by omega
      have hz0 : (0 : Int) ≤ (z : Int) := by omega
      have HF2 : Hid (∀ w', WS w w' g (some ⟨b, off, none⟩) m cm f I H S P lo hi bq 10 10 → cE w' w.heap.size 0 (.slice (some ⟨b, off, none⟩) m cm) ∧ cI w' w.heap.size 1 I ∧ cI w' w.heap.size 2 H ∧ cI w' w.heap.size 3 S ∧ cI w' w.heap.size 4 P ∧ cI w' bq 0 (10) ∧ cI w' bq 1 (10) ∧ cI w' b (off + z * 4) (f (z * 4)) ∧ cI w' b (off + z * 4 + 1) (f (z * 4 + 1)) ∧ cI w' b (off + z * 4 + 2) (f (z * 4 + 2)) ∧ cI w' b (off + z * 4 + 3) (f (z * 4 + 3))) := fun w' hS => by
       obtain ⟨e0, e1, e2, e3, e4, e5, e6⟩ := HF.out w' hS
       obtain ⟨b', off', eb, _, _, h3⟩ := hS.sl.here hm0
       cases eb
       have p0 := h3 (z * 4) (by omega)
       have p1 := h3 (z * 4 + 1) (by omega)
       have p2 := h3 (z * 4 + 2) (by omega)
       have p3 := h3 (z * 4 + 3) (by omega)
       rw [← Nat.add_assoc] at p1 p2 p3
       exact ⟨e0, e1, e2, e3, e4, e5, e6, p0, p1, p2, p3⟩
      clear HF
      have HF := HF2
      clear HF2
      refine tj2 7 27 8 28 HF jd ?_
      refine wS0 10 g8 (iV (f (z * 4)) (f (z * 4 + 1)) (f (z * 4 + 2)) (f (z * 4 + 3))) 97 infoPanD h8 (fun w' hg' => jd.grown hg' (by omega) (by omega) hhi) ?ks8
      case ks8 =>
       intro v9 hh hgw hW
       clear jd
       have h8 : v9.heap[g8]? = some (.cells (iV (f (z * 4)) (f (z * 4 + 1)) (f (z * 4 + 2)) (f (z * 4 + 3))) 97 (0, 0)) := hh
       have hC := hC.grown hgw (by omega)
       have hR := Blk.grown hR hgw (by omega)
       clear hgw hh HF
       refine wpAnyH_done (by kernel_rfl) ?_ _
       go_wp2_with fail
       go_meet
       case rel => exact ⟨_, _, rfl, hz, hz8, h8, hC.weaken (by omega), hW, hR⟩
    ·go_simp
     have h8 := heap_alloc_new v1 (.cells (iV 0 0 0 0) 97)
     have hS2 := jd.below ((Below.refl _ v1).alloc nL (.cells (iV 0 0 0 0) 97))
     have hC := hC.alloc (.cells (iV 0 0 0 0) 97)
     have hR := hR.alloc (.cells (iV 0 0 0 0) 97)
     have hz8 : v1.heap.size > bq := jd.br.lt
     obtain ⟨g8, hge⟩ : ∃ q, v1.heap.size = q := ⟨_, rfl⟩
     rw [hge] at h8 hz8
     try rw [hge]
     obtain ⟨v10, hve⟩ : ∃ v, v1.alloc (.cells (iV 0 0 0 0) 97) = v := ⟨_, rfl⟩
     rw [hve] at h8 hS2 hC hR
     rw [hve]
     clear hve hge jd
     refine hK.out _ _ hS2 (fun jd => ?_)
     clear hK K hS2
     refine wpAnyH_ready (rs := [5]) (by kernel_rfl) (by simp) ?_
     refine (AllReadyH.cons rfl (fun K hK => ?_) AllReadyH.nil)
     go_simp
     have hS2 := jd
     clear jd
     refine hK.out _ _ hS2 (fun jd => ?_)
     clear hK K hS2
     refine wpAnyH_ready (rs := [6]) (by kernel_rfl) (by simp) ?_
     refine (AllReadyH.cons rfl (fun K hK => ?_) AllReadyH.nil)
     go_simp
     refine (pick_any g n c _ m A _ hC hn (by omega) hm0 (by omega)).mono ?_
     rintro e v11 ⟨z, rfl, hz, hC, hf⟩
     have hS2 := jd.step hf hg hlo hbq
     have hR := hR.fr hf (by omega)
     have h8 := (hf.block _ (gL h8) (Or.inr (by omega))).trans h8
     clear hf jd
     refine hK.out _ _ hS2 (fun jd => ?_)
     clear hK K hS2
     have hzi : (z : Int) < (m : Int) := by omega
     have hz0 : (0 : Int) ≤ (z : Int) := by omega
     have HF2 : Hid (∀ w', WS w w' g (some ⟨b, off, none⟩) m cm f I H S P lo hi bq 10 10 → cE w' w.heap.size 0 (.slice (some ⟨b, off, none⟩) m cm) ∧ cI w' w.heap.size 1 I ∧ cI w' w.heap.size 2 H ∧ cI w' w.heap.size 3 S ∧ cI w' w.heap.size 4 P ∧ cI w' bq 0 (10) ∧ cI w' bq 1 (10) ∧ cI w' b (off + z * 4) (f (z * 4)) ∧ cI w' b (off + z * 4 + 1) (f (z * 4 + 1)) ∧ cI w' b (off + z * 4 + 2) (f (z * 4 + 2)) ∧ cI w' b (off + z * 4 + 3) (f (z * 4 + 3))) := fun w' hS => by
      obtain ⟨e0, e1, e2, e3, e4, e5, e6⟩ := HF.out w' hS
      obtain ⟨b', off', eb, _, _, h3⟩ := hS.sl.here hm0
      cases eb
      have p0 := h3 (z * 4) (by omega)
      have p1 := h3 (z * 4 + 1) (by omega)
      have p2 := h3 (z * 4 + 2) (by omega)
      have p3 := h3 (z * 4 + 3) (by omega)
      rw [← Nat.add_assoc] at p1 p2 p3
      exact ⟨e0, e1, e2, e3, e4, e5, e6, p0, p1, p2, p3⟩
     clear HF
     have HF := HF2
     clear HF2
     refine tj2 7 27 8 28 HF jd ?_
     refine wS0 10 g8 (iV (f (z * 4)) (f (z * 4 + 1)) (f (z * 4 + 2)) (f (z * 4 + 3))) 97 infoPanD h8 (fun w' hg' => jd.grown hg' (by omega) (by omega) hhi) ?ks12
     case ks12 =>
      intro v13 hh hgw hW
      clear jd
      have h8 : v13.heap[g8]? = some (.cells (iV (f (z * 4)) (f (z * 4 + 1)) (f (z * 4 + 2)) (f (z * 4 + 3))) 97 (0, 0)) := hh
      have hC := hC.grown hgw (by omega)
      have hR := Blk.grown hR hgw (by omega)
      clear hgw hh HF
      refine wpAnyH_done (by kernel_rfl) ?_ _
      go_wp2_with fail
      go_meet
      case rel => exact ⟨_, _, rfl, hz, hz8, h8, hC.weaken (by omega), hW, hR⟩
   case rest =>
    obtain ⟨g8, z, rfl, hz, hz8, h8, hC, hW, hR⟩ := hcut
    obtain ⟨wy, hwy⟩ : ∃ v, wc = v := ⟨_, rfl⟩
    rw [hwy] at h8 hC hW hR
    try rw [hwy]
    clear hwy wc
    have hzi : (z : Int) < (m : Int) := by omega
    have hz0 : (0 : Int) ≤ (z : Int) := by omega
    obtain ⟨d0, d1, d2, d3⟩ := cells4 h8
    have a0 : cI wy bq 0 10 := hW.br.cell (j := 0) (by simp)
    have a1 : cI wy bq 1 10 := hW.br.cell (j := 1) (by simp)
    have af : ∀ j, wy.frozen? ⟨bq, j, none⟩ = false := hW.br.fz
    have hg8b : g8 ≠ bq := by omega
    have hg8c : bq ≠ g8 := by omega
    clear h8
    go_upto_region 6 with fail
    refine nameWS ?_
    intro v14 hw3'
    have hw3 : v14 = ((wy.setCell ⟨bq, 0, none⟩ (.int .i64 (f (z * 4 + 2)))).setCell ⟨bq, 1, none⟩ (.int .i64 (f (z * 4 + 3)))) := hw3'
    have hW : WS w v14 g (some ⟨b, off, none⟩) m cm f I H S P lo hi bq (f (z * 4 + 2)) (f (z * 4 + 3)) := by rw [hw3]; exact (hW.set0 hbq hhi _).set1 hbq hhi _
    have hC : Cur v14 g A n c (p + 6) := by rw [hw3]; exact (hC.setOwn (q := ⟨bq, 0, none⟩) (by show g < bq; omega) _).setOwn (q := ⟨bq, 1, none⟩) (by show g < bq; omega) _
    have hR : Blk v14 (rb) 107 [0, 0, 0, 0] := by rw [hw3]; exact (hR.other (q := ⟨bq, 0, none⟩) (by show rb ≠ bq; omega) _).other (q := ⟨bq, 1, none⟩) (by show rb ≠ bq; omega) _
    clear hw3' hw3 d0 d1 d2 d3 a0 a1 af
    have HF : Hid (∀ w', WS w w' g (some ⟨b, off, none⟩) m cm f I H S P lo hi bq (f (z * 4 + 2)) (f (z * 4 + 3)) → cE w' w.heap.size 0 (.slice (some ⟨b, off, none⟩) m cm) ∧ cI w' w.heap.size 1 I ∧ cI w' w.heap.size 2 H ∧ cI w' w.heap.size 3 S ∧ cI w' w.heap.size 4 P ∧ cI w' bq 0 ((f (z * 4 + 2))) ∧ cI w' bq 1 ((f (z * 4 + 3)))) := fun w' hS => ⟨by rw [cell_of_row w' w.heap.size 0 _ _ (0, 0) hS.box]; rfl, by rw [cell_of_row w' w.heap.size 1 _ _ (0, 0) hS.box]; rfl, by rw [cell_of_row w' w.heap.size 2 _ _ (0, 0) hS.box]; rfl, by rw [cell_of_row w' w.heap.size 3 _ _ (0, 0) hS.box]; rfl, by rw [cell_of_row w' w.heap.size 4 _ _ (0, 0) hS.box]; rfl, hS.br.cell (j := 0) (by simp), hS.br.cell (j := 1) (by simp)⟩
    have hWd : WS w v14.drew g (some ⟨b, off, none⟩) m cm f I H S P lo hi bq (f (z * 4 + 2)) (f (z * 4 + 3)) := hW.below (below_drewN (Below.refl _ v14) 1)
    have hCd : Cur v14.drew g A n c (p + 6) := hC.drewN 1
    have hRd : Blk v14.drew (rb) 107 [0, 0, 0, 0] := hR
    clear hC hW hR
    refine wp_region_held_drew (S := fun w' => WS w w' g (some ⟨b, off, none⟩) m cm f I H S P lo hi bq (f (z * 4 + 2)) (f (z * 4 + 3))) (by kernel_rfl) hWd (fun jd => ?_)
    clear hWd
    have hC := hCd
    have hR := hRd
    clear hCd hRd
    obtain ⟨v15, hv⟩ : ∃ v, v14.drew = v := ⟨_, rfl⟩
    rw [hv] at jd hC hR ⊢
    clear hv
    refine tj4 0 33 2 35 3 36 1 34 HF jd ?_
    refine tj 4 37 HF rfl jd ?_
    refine wpAnyH_ready (rs := [5]) (by kernel_rfl) (by simp) ?_
    refine (AllReadyH.cons rfl (fun K hK => ?_) AllReadyH.nil)
    go_simp
    have hS2 := jd
    clear jd
    refine hK.out _ _ hS2 (fun jd => ?_)
    clear hK K hS2
    refine wpAnyH_ready (rs := [6]) (by kernel_rfl) (by simp) ?_
    refine (AllReadyH.cons rfl (fun K hK => ?_) AllReadyH.nil)
    go_simp
    refine (pick_any g n c _ m A _ hC hn (by omega) hm0 (by omega)).mono ?_
    rintro e v16 ⟨y2, rfl, hy2, hC, hf⟩
    have hS2 := jd.step hf hg hlo hbq
    have hR := hR.fr hf (by omega)
    clear hf jd
    refine hK.out _ _ hS2 (fun jd => ?_)
    clear hK K hS2
    have hyi : (y2 : Int) < (m : Int) := by omega
    have hy0 : (0 : Int) ≤ (y2 : Int) := by omega
    have HF2 : Hid (∀ w', WS w w' g (some ⟨b, off, none⟩) m cm f I H S P lo hi bq (f (z * 4 + 2)) (f (z * 4 + 3)) → cE w' w.heap.size 0 (.slice (some ⟨b, off, none⟩) m cm) ∧ cI w' w.heap.size 1 I ∧ cI w' w.heap.size 2 H ∧ cI w' w.heap.size 3 S ∧ cI w' w.heap.size 4 P ∧ cI w' bq 0 ((f (z * 4 + 2))) ∧ cI w' bq 1 ((f (z * 4 + 3))) ∧ cI w' b (off + y2 * 4) (f (y2 * 4)) ∧ cI w' b (off + y2 * 4 + 1) (f (y2 * 4 + 1)) ∧ cI w' b (off + y2 * 4 + 2) (f (y2 * 4 + 2)) ∧ cI w' b (off + y2 * 4 + 3) (f (y2 * 4 + 3))) := fun w' hS => by
     obtain ⟨e0, e1, e2, e3, e4, e5, e6⟩ := HF.out w' hS
     obtain ⟨b', off', eb, _, _, h3⟩ := hS.sl.here hm0
     cases eb
     have p0 := h3 (y2 * 4) (by omega)
     have p1 := h3 (y2 * 4 + 1) (by omega)
     have p2 := h3 (y2 * 4 + 2) (by omega)
     have p3 := h3 (y2 * 4 + 3) (by omega)
     rw [← Nat.add_assoc] at p1 p2 p3
     exact ⟨e0, e1, e2, e3, e4, e5, e6, p0, p1, p2, p3⟩
    clear HF
    have HF := HF2
    clear HF2
    refine tj4 7 40 8 41 9 42 10 6 HF jd ?_
    have hW := jd
    clear jd HF
    refine wpAnyH_done (by kernel_rfl) ?_ _
    go_wp2_with fail
    go_meet
    case rel => exact ⟨_, _, _, _, rfl, rfl, hC.weaken (by omega), hW, hR, HBD.out.1 _ (by omega), HBD.out.1 _ (by omega), (HBD.out.1 _ (by omega)).2, (HBD.out.1 _ (by omega)).2⟩
  ·have hm0i : ¬ ((0 : Int) < (m : Int)) := by omega
   go_wp2_with fail
   go_meet
   case rel => exact ⟨_, _, _, _, rfl, rfl, hC.weaken (by omega), hW, hR, hd_z5.out, hd_z6.out, by decide, by decide⟩
 case rest =>
  obtain ⟨z5, z6, x, y, rfl, rfl, hC, hW, hR, HZ⟩ := hcut
  clear c0
  obtain ⟨w7, hw7⟩ : ∃ v, wc = v := ⟨_, rfl⟩
  rw [hw7] at hC hW hR
  try rw [hw7]
  clear hw7 wc
  go_wp2_with fail
  refine (one_any g n c _ 40 A _ hC hn (by omega) (by omega) (by omega)).mono ?_
  rintro e v18 ⟨b17, rfl, hC, hf⟩
  have hW := hW.step hf hg hlo hbq
  have hR := hR.fr hf (by omega)
  clear hf
  cases b17 with
  | true =>
   go_wp2_with fail
   refine (among_lit g n c _ _ A _ [0, 8, 3] _ _ _ rfl rfl (by simp) (by simp) hC hn (by omega)).mono ?_
   rintro e v20 ⟨z19, rfl, hC, hf⟩
   have hW := hW.step hf hg hlo hbq
   have hR := hR.fr hf (by omega)
   clear hf
   go_wp2_with fail
   refine (among_rg g n c _ _ A _ [0, z5, 100] _ _ _ rfl rfl (by simp) (by simp) hC hn (by omega) ⟨by decide, HZ.out.1, by decide, trivial⟩).mono ?_
   rintro e v22 ⟨z21, rfl, hd_z21, hC, hf⟩
   have hW := hW.step hf hg hlo hbq
   have hR := hR.fr hf (by omega)
   clear hf
   go_wp2_with fail
   refine (among_rg g n c _ _ A _ [0, z6] _ _ _ rfl rfl (by simp) (by simp) hC hn (by omega) ⟨by decide, HZ.out.2.1, trivial⟩).mono ?_
   rintro e v24 ⟨z23, rfl, hd_z23, hC, hf⟩
   have hW := hW.step hf hg hlo hbq
   have hR := hR.fr hf (by omega)
   clear hf
   go_wp2_with fail
   refine (among_le g n c _ _ A _ [0, 1, -1] _ _ _ rfl rfl (by simp) (by simp) hC hn (by omega) ⟨by decide, by decide, by decide, trivial⟩).mono ?_
   rintro e v26 ⟨z25, rfl, hd_z25, hC, hf⟩
   have hW := hW.step hf hg hlo hbq
   have hR := hR.fr hf (by omega)
   clear hf
   have hR' : v26.heap[rb]? = some (.cells (iV 0 0 0 0) 107 (0, 0)) := hR
   have HW := lh hW
   have HC := lh hC
   clear hW hC hR
   go_wp2_with ((with_reducible refine wpList_isStore ?_); refine wL0 rb (iV (z19) (z21) (z23) (z25)) 107 infoStepD hR' ?_)
   intro ww hh hgw
   have HC2 := lh (HC.out.grown hgw (by omega))
   have HW2 := lh (HW.out.grown hgw (by omega) (by omega) hhi)
   have HH := lh hh
   clear hh hgw hR' HC HW
   go_wp2_with ((try simp only [Exit.inBlock, Exit.then]); refine ret_cell1 Tryz.results105 rfl Tryz.underlying107 HH.out infoStepD rfl ?_; exact ⟨_, _, _, _, rfl, ⟨hd_z21.out, hd_z23.out, hd_z25.out⟩, HC2.out.weaken (by omega), HW2.out.fr⟩)
  | false =>
   go_wp2_with fail
   refine (pick_any g n c _ 12 A _ hC hn (by omega) (by omega) (by omega)).mono ?_
   rintro e v27 ⟨k12, rfl, hk12, hC, hf⟩
   have hW := hW.step hf hg hlo hbq
   have hR := hR.fr hf (by omega)
   clear hf
   have HF : Hid (∀ w', WS w w' g B m cm f I H S P lo hi bq x y → cE w' w.heap.size 0 (.slice B m cm) ∧ cI w' w.heap.size 1 I ∧ cI w' w.heap.size 2 H ∧ cI w' w.heap.size 3 S ∧ cI w' w.heap.size 4 P ∧ cI w' bq 0 (x) ∧ cI w' bq 1 (y)) := fun w' hS => ⟨by rw [cell_of_row w' w.heap.size 0 _ _ (0, 0) hS.box]; rfl, by rw [cell_of_row w' w.heap.size 1 _ _ (0, 0) hS.box]; rfl, by rw [cell_of_row w' w.heap.size 2 _ _ (0, 0) hS.box]; rfl, by rw [cell_of_row w' w.heap.size 3 _ _ (0, 0) hS.box]; rfl, by rw [cell_of_row w' w.heap.size 4 _ _ (0, 0) hS.box]; rfl, hS.br.cell (j := 0) (by simp), hS.br.cell (j := 1) (by simp)⟩
   have h12 : k12 = 0 ∨ k12 = 1 ∨ k12 = 2 ∨ k12 = 3 ∨ k12 = 4 ∨ k12 = 5 ∨ k12 = 6 ∨ k12 = 7 ∨ k12 = 8 ∨ k12 = 9 ∨ k12 = 10 ∨ k12 = 11 := by omega
   rcases h12 with rfl | rfl | rfl | rfl | rfl | rfl | rfl | rfl | rfl | rfl | rfl | rfl
   ·clear HF
    go_wp2_with fail
    refine (among_rg g n c _ _ A _ [1, 7, 20, 33, 42, 98, 99, 100] _ _ _ rfl rfl (by simp) (by simp) hC hn (by omega) ⟨by decide, by decide, by decide, by decide, by decide, by decide, by decide, by decide, trivial⟩).mono ?_
    rintro e v30 ⟨z28, rfl, hd_z28, hC, hf⟩
    have hW := hW.step hf hg hlo hbq
    have hR := hR.fr hf (by omega)
    clear hf
    go_wp2_with fail
    refine (among_le g n c _ _ A _ [1, 1000, 5000, 100000, 100001] _ _ _ rfl rfl (by simp) (by simp) hC hn (by omega) ⟨by decide, by decide, by decide, by decide, by decide, trivial⟩).mono ?_
    rintro e v31 ⟨z29, rfl, hd_z29, hC, hf⟩
    have hW := hW.step hf hg hlo hbq
    have hR := hR.fr hf (by omega)
    clear hf
    have hR' : v31.heap[rb]? = some (.cells (iV 0 0 0 0) 107 (0, 0)) := hR
    have HW := lh hW
    have HC := lh hC
    clear hW hC hR
    go_wp2_with ((with_reducible refine wpList_isStore ?_); refine wL0 rb (iV (1) (z28) (0) (z29)) 107 infoStepD hR' ?_)
    intro ww hh hgw
    have HC2 := lh (HC.out.grown hgw (by omega))
    have HW2 := lh (HW.out.grown hgw (by omega) (by omega) hhi)
    have HH := lh hh
    clear hh hgw hR' HC HW
    go_wp2_with ((try simp only [Exit.inBlock, Exit.then]); refine ret_cell1 Tryz.results105 rfl Tryz.underlying107 HH.out infoStepD rfl ?_; exact ⟨_, _, _, _, rfl, ⟨hd_z28.out, by decide, hd_z29.out⟩, HC2.out.weaken (by omega), HW2.out.fr⟩)
   ·clear HF
    go_wp2_with fail
    refine (among_rg g n c _ _ A _ [1, 7, 20, 33, 42, 98, 99, 100] _ _ _ rfl rfl (by simp) (by simp) hC hn (by omega) ⟨by decide, by decide, by decide, by decide, by decide, by decide, by decide, by decide, trivial⟩).mono ?_
    rintro e v34 ⟨z32, rfl, hd_z32, hC, hf⟩
    have hW := hW.step hf hg hlo hbq
    have hR := hR.fr hf (by omega)
    clear hf
    go_wp2_with fail
    refine (among_le g n c _ _ A _ [1, 1000, 5000, 100000, 100001] _ _ _ rfl rfl (by simp) (by simp) hC hn (by omega) ⟨by decide, by decide, by decide, by decide, by decide, trivial⟩).mono ?_
    rintro e v35 ⟨z33, rfl, hd_z33, hC, hf⟩
    have hW := hW.step hf hg hlo hbq
    have hR := hR.fr hf (by omega)
    clear hf
    have hR' : v35.heap[rb]? = some (.cells (iV 0 0 0 0) 107 (0, 0)) := hR
    have HW := lh hW
    have HC := lh hC
    clear hW hC hR
    go_wp2_with ((with_reducible refine wpList_isStore ?_); refine wL0 rb (iV (1) (z32) (0) (z33)) 107 infoStepD hR' ?_)
    intro ww hh hgw
    have HC2 := lh (HC.out.grown hgw (by omega))
    have HW2 := lh (HW.out.grown hgw (by omega) (by omega) hhi)
    have HH := lh hh
    clear hh hgw hR' HC HW
    go_wp2_with ((try simp only [Exit.inBlock, Exit.then]); refine ret_cell1 Tryz.results105 rfl Tryz.underlying107 HH.out infoStepD rfl ?_; exact ⟨_, _, _, _, rfl, ⟨hd_z32.out, by decide, hd_z33.out⟩, HC2.out.weaken (by omega), HW2.out.fr⟩)
   ·clear HF
    go_wp2_with fail
    refine (among_le g n c _ _ A _ [1, 28, 29, 1000, 4000, 2000000] _ _ _ rfl rfl (by simp) (by simp) hC hn (by omega) ⟨by decide, by decide, by decide, by decide, by decide, by decide, trivial⟩).mono ?_
    rintro e v37 ⟨z36, rfl, hd_z36, hC, hf⟩
    have hW := hW.step hf hg hlo hbq
    have hR := hR.fr hf (by omega)
    clear hf
    have hR' : v37.heap[rb]? = some (.cells (iV 0 0 0 0) 107 (0, 0)) := hR
    have HW := lh hW
    have HC := lh hC
    clear hW hC hR
    go_wp2_with ((with_reducible refine wpList_isStore ?_); refine wL0 rb (iV (2) (z5) (0) (z36)) 107 infoStepD hR' ?_)
    intro ww hh hgw
    have HC2 := lh (HC.out.grown hgw (by omega))
    have HW2 := lh (HW.out.grown hgw (by omega) (by omega) hhi)
    have HH := lh hh
    clear hh hgw hR' HC HW
    go_wp2_with ((try simp only [Exit.inBlock, Exit.then]); refine ret_cell1 Tryz.results105 rfl Tryz.underlying107 HH.out infoStepD rfl ?_; exact ⟨_, _, _, _, rfl, ⟨HZ.out.1, by decide, hd_z36.out⟩, HC2.out.weaken (by omega), HW2.out.fr⟩)
   ·clear HF
    go_wp2_with fail
    refine (among_le g n c _ _ A _ [1, 28, 29, 1000, 4000, 2000000] _ _ _ rfl rfl (by simp) (by simp) hC hn (by omega) ⟨by decide, by decide, by decide, by decide, by decide, by decide, trivial⟩).mono ?_
    rintro e v39 ⟨z38, rfl, hd_z38, hC, hf⟩
    have hW := hW.step hf hg hlo hbq
    have hR := hR.fr hf (by omega)
    clear hf
    have hR' : v39.heap[rb]? = some (.cells (iV 0 0 0 0) 107 (0, 0)) := hR
    have HW := lh hW
    have HC := lh hC
    clear hW hC hR
    go_wp2_with ((with_reducible refine wpList_isStore ?_); refine wL0 rb (iV (2) (z5) (0) (z38)) 107 infoStepD hR' ?_)
    intro ww hh hgw
    have HC2 := lh (HC.out.grown hgw (by omega))
    have HW2 := lh (HW.out.grown hgw (by omega) (by omega) hhi)
    have HH := lh hh
    clear hh hgw hR' HC HW
    go_wp2_with ((try simp only [Exit.inBlock, Exit.then]); refine ret_cell1 Tryz.results105 rfl Tryz.underlying107 HH.out infoStepD rfl ?_; exact ⟨_, _, _, _, rfl, ⟨HZ.out.1, by decide, hd_z38.out⟩, HC2.out.weaken (by omega), HW2.out.fr⟩)
   ·clear HF
    go_wp2_with fail
    refine (among_le g n c _ _ A _ [1, 28, 29, 1000, 4000, 2000000] _ _ _ rfl rfl (by simp) (by simp) hC hn (by omega) ⟨by decide, by decide, by decide, by decide, by decide, by decide, trivial⟩).mono ?_
    rintro e v41 ⟨z40, rfl, hd_z40, hC, hf⟩
    have hW := hW.step hf hg hlo hbq
    have hR := hR.fr hf (by omega)
    clear hf
    have hR' : v41.heap[rb]? = some (.cells (iV 0 0 0 0) 107 (0, 0)) := hR
    have HW := lh hW
    have HC := lh hC
    clear hW hC hR
    go_wp2_with ((with_reducible refine wpList_isStore ?_); refine wL0 rb (iV (2) (z5) (0) (z40)) 107 infoStepD hR' ?_)
    intro ww hh hgw
    have HC2 := lh (HC.out.grown hgw (by omega))
    have HW2 := lh (HW.out.grown hgw (by omega) (by omega) hhi)
    have HH := lh hh
    clear hh hgw hR' HC HW
    go_wp2_with ((try simp only [Exit.inBlock, Exit.then]); refine ret_cell1 Tryz.results105 rfl Tryz.underlying107 HH.out infoStepD rfl ?_; exact ⟨_, _, _, _, rfl, ⟨HZ.out.1, by decide, hd_z40.out⟩, HC2.out.weaken (by omega), HW2.out.fr⟩)
   ·go_upto_region 18 with fail
    have hWd : WS w v27.drew g B m cm f I H S P lo hi bq x y := hW.below (below_drewN (Below.refl _ v27) 1)
    have hCd : Cur v27.drew g A n c (p + 12) := hC.drewN 1
    have hRd : Blk v27.drew (rb) 107 [0, 0, 0, 0] := hR
    clear hC hW hR
    refine wp_region_held_drew (S := fun w' => WS w w' g B m cm f I H S P lo hi bq x y) (by kernel_rfl) hWd (fun jd => ?_)
    clear hWd
    have hC := hCd
    have hR := hRd
    clear hCd hRd
    obtain ⟨v42, hv⟩ : ∃ v, v27.drew = v := ⟨_, rfl⟩
    rw [hv] at jd hC hR ⊢
    clear hv
    refine tj4 0 83 1 84 2 85 3 86 HF jd ?_
    refine tj 6 89 HF rfl jd ?_
    refine wpAnyH_ready (rs := [4]) (by kernel_rfl) (by simp) ?_
    refine (AllReadyH.cons rfl (fun K hK => ?_) AllReadyH.nil)
    go_simp
    refine (l2Mass_any _ _ _).mono ?_
    rintro e v43 ⟨rfl, hb⟩
    have hS2 := jd.below hb
    have hR : Blk v43 (rb) 107 [0, 0, 0, 0] := (hb.block _ hR.lt).trans hR
    have hC := hC.below hb
    clear hb jd
    refine hK.out _ _ hS2 (fun jd => ?_)
    clear hK K hS2
    refine wpAnyH_ready (rs := [5]) (by kernel_rfl) (by simp) ?_
    refine (AllReadyH.cons rfl (fun K hK => ?_) AllReadyH.nil)
    go_simp
    refine (l1Most_any _ _ _).mono ?_
    rintro e v44 ⟨rfl, hx⟩
    rw [← hx]
    clear hx v44
    have hS2 := jd
    clear jd
    refine hK.out _ _ hS2 (fun jd => ?_)
    clear hK K hS2
    refine wpAnyH_ready (rs := [7]) (by kernel_rfl) (by simp) ?_
    refine (AllReadyH.cons rfl (fun K hK => ?_) AllReadyH.nil)
    go_simp
    refine (l2Mass_any _ _ _).mono ?_
    rintro e v45 ⟨rfl, hb⟩
    have hS2 := jd.below hb
    have hR : Blk v45 (rb) 107 [0, 0, 0, 0] := (hb.block _ hR.lt).trans hR
    have hC := hC.below hb
    clear hb jd
    refine hK.out _ _ hS2 (fun jd => ?_)
    clear hK K hS2
    refine tj 8 91 HF rfl jd ?_
    refine wpAnyH_ready (rs := [9]) (by kernel_rfl) (by simp) ?_
    refine (AllReadyH.cons rfl (fun K hK => ?_) AllReadyH.nil)
    go_simp
    have hS1 := jd
    clear jd
    refine hK.out _ _ (hS1.below ((Below.refl _ v45).alloc nL _)) (fun jd => ?_)
    clear hK K
    refine wpAnyH_ready (rs := [10]) (by kernel_rfl) (by simp) ?_
    refine (AllReadyH.cons rfl (fun K hK => ?_) AllReadyH.nil)
    go_simp
    refine (among_le g n c _ _ A v45 [_, _, _, _] _ _ _ rfl rfl (by simp) (by simp) hC hn (by omega) (by exact ⟨by decide, by decide, most_le (by decide) (mass_le _ _), i64_le _, trivial⟩)).mono ?_
    rintro e v46 ⟨zz, rfl, hd_zz, hC, hf⟩
    have hS2 := hS1.step hf hg hlo hbq
    have hR := hR.fr hf (by omega)
    clear hf jd hS1
    refine hK.out _ _ hS2 (fun jd => ?_)
    clear hK K hS2
    refine tj 11 94 HF rfl jd ?_
    refine wS0 12 (rb) (iV (3) (z5) (z6) (zz)) 107 infoStepD hR (fun w' hg' => jd.grown hg' (by omega) (by omega) hhi) ?ks47
    case ks47 =>
     intro v48 hh hgw hS3
     clear jd
     have hh : v48.heap[rb]? = some (.cells (iV (3) (z5) (z6) (zz)) 107 (0, 0)) := hh
     have hC := hC.grown hgw (by omega)
     clear hgw hR HF
     refine wpAnyH_done (by kernel_rfl) ?_ _
     have HC := lh hC
     have HW := lh hS3
     have HH := lh hh
     clear hh hC hS3
     go_wp2_with ((try simp only [Exit.inBlock, Exit.then]); refine ret_cell1 Tryz.results105 rfl Tryz.underlying107 HH.out infoStepD rfl ?_; exact ⟨_, _, _, _, rfl, ⟨HZ.out.1, HZ.out.2.1, hd_zz.out⟩, HC.out.weaken (by omega), HW.out.fr⟩)
   ·go_upto_region 21 with fail
    have hWd : WS w v27.drew g B m cm f I H S P lo hi bq x y := hW.below (below_drewN (Below.refl _ v27) 1)
    have hCd : Cur v27.drew g A n c (p + 12) := hC.drewN 1
    have hRd : Blk v27.drew (rb) 107 [0, 0, 0, 0] := hR
    clear hC hW hR
    refine wp_region_held_drew (S := fun w' => WS w w' g B m cm f I H S P lo hi bq x y) (by kernel_rfl) hWd (fun jd => ?_)
    clear hWd
    have hC := hCd
    have hR := hRd
    clear hCd hRd
    obtain ⟨v49, hv⟩ : ∃ v, v27.drew = v := ⟨_, rfl⟩
    rw [hv] at jd hC hR ⊢
    clear hv
    refine tj4 0 98 1 99 2 100 3 101 HF jd ?_
    refine tj4 4 102 5 103 7 105 8 106 HF jd ?_
    refine tj3 10 108 11 109 12 110 HF jd ?_
    refine wpAnyH_ready (rs := [6]) (by kernel_rfl) (by simp) ?_
    refine (AllReadyH.cons rfl (fun K hK => ?_) AllReadyH.nil)
    go_simp
    refine (l1Most_any _ _ _).mono ?_
    rintro e v50 ⟨rfl, hx⟩
    rw [← hx]
    clear hx v50
    have hS2 := jd
    clear jd
    refine hK.out _ _ hS2 (fun jd => ?_)
    clear hK K hS2
    refine wpAnyH_ready (rs := [9]) (by kernel_rfl) (by simp) ?_
    refine (AllReadyH.cons rfl (fun K hK => ?_) AllReadyH.nil)
    go_simp
    refine (l1Most_any _ _ _).mono ?_
    rintro e v51 ⟨rfl, hx⟩
    rw [← hx]
    clear hx v51
    have hS2 := jd
    clear jd
    refine hK.out _ _ hS2 (fun jd => ?_)
    clear hK K hS2
    refine wpAnyH_ready (rs := [13]) (by kernel_rfl) (by simp) ?_
    refine (AllReadyH.cons rfl (fun K hK => ?_) AllReadyH.nil)
    go_simp
    have hS1 := jd
    clear jd
    refine hK.out _ _ (hS1.below ((Below.refl _ v49).alloc nL _)) (fun jd => ?_)
    clear hK K
    refine wpAnyH_ready (rs := [14]) (by kernel_rfl) (by simp) ?_
    refine (AllReadyH.cons rfl (fun K hK => ?_) AllReadyH.nil)
    go_simp
    refine (among_le g n c _ _ A v49 [_, _, _, _] _ _ _ rfl rfl (by simp) (by simp) hC hn (by omega) (by exact ⟨by decide, most_le (by decide) (i64_le _), most_le (by decide) HZ.out.2.2.1, i64_le _, trivial⟩)).mono ?_
    rintro e v52 ⟨zz, rfl, hd_zz, hC, hf⟩
    have hS2 := hS1.step hf hg hlo hbq
    have hR := hR.fr hf (by omega)
    clear hf jd hS1
    refine hK.out _ _ hS2 (fun jd => ?_)
    clear hK K hS2
    refine tj 15 113 HF rfl jd ?_
    refine wS0 16 (rb) (iV (4) (z5) (0) (zz)) 107 infoStepD hR (fun w' hg' => jd.grown hg' (by omega) (by omega) hhi) ?ks53
    case ks53 =>
     intro v54 hh hgw hS3
     clear jd
     have hh : v54.heap[rb]? = some (.cells (iV (4) (z5) (0) (zz)) 107 (0, 0)) := hh
     have hC := hC.grown hgw (by omega)
     clear hgw hR HF
     refine wpAnyH_done (by kernel_rfl) ?_ _
     have HC := lh hC
     have HW := lh hS3
     have HH := lh hh
     clear hh hC hS3
     go_wp2_with ((try simp only [Exit.inBlock, Exit.then]); refine ret_cell1 Tryz.results105 rfl Tryz.underlying107 HH.out infoStepD rfl ?_; exact ⟨_, _, _, _, rfl, ⟨HZ.out.1, by decide, hd_zz.out⟩, HC.out.weaken (by omega), HW.out.fr⟩)
   ·go_upto_region 21 with fail
    have hWd : WS w v27.drew g B m cm f I H S P lo hi bq x y := hW.below (below_drewN (Below.refl _ v27) 1)
    have hCd : Cur v27.drew g A n c (p + 12) := hC.drewN 1
    have hRd : Blk v27.drew (rb) 107 [0, 0, 0, 0] := hR
    clear hC hW hR
    refine wp_region_held_drew (S := fun w' => WS w w' g B m cm f I H S P lo hi bq x y) (by kernel_rfl) hWd (fun jd => ?_)
    clear hWd
    have hC := hCd
    have hR := hRd
    clear hCd hRd
    obtain ⟨v55, hv⟩ : ∃ v, v27.drew = v := ⟨_, rfl⟩
    rw [hv] at jd hC hR ⊢
    clear hv
    refine tj4 0 98 1 99 2 100 3 101 HF jd ?_
    refine tj4 4 102 5 103 7 105 8 106 HF jd ?_
    refine tj3 10 108 11 109 12 110 HF jd ?_
    refine wpAnyH_ready (rs := [6]) (by kernel_rfl) (by simp) ?_
    refine (AllReadyH.cons rfl (fun K hK => ?_) AllReadyH.nil)
    go_simp
    refine (l1Most_any _ _ _).mono ?_
    rintro e v56 ⟨rfl, hx⟩
    rw [← hx]
    clear hx v56
    have hS2 := jd
    clear jd
    refine hK.out _ _ hS2 (fun jd => ?_)
    clear hK K hS2
    refine wpAnyH_ready (rs := [9]) (by kernel_rfl) (by simp) ?_
    refine (AllReadyH.cons rfl (fun K hK => ?_) AllReadyH.nil)
    go_simp
    refine (l1Most_any _ _ _).mono ?_
    rintro e v57 ⟨rfl, hx⟩
    rw [← hx]
    clear hx v57
    have hS2 := jd
    clear jd
    refine hK.out _ _ hS2 (fun jd => ?_)
    clear hK K hS2
    refine wpAnyH_ready (rs := [13]) (by kernel_rfl) (by simp) ?_
    refine (AllReadyH.cons rfl (fun K hK => ?_) AllReadyH.nil)
    go_simp
    have hS1 := jd
    clear jd
    refine hK.out _ _ (hS1.below ((Below.refl _ v55).alloc nL _)) (fun jd => ?_)
    clear hK K
    refine wpAnyH_ready (rs := [14]) (by kernel_rfl) (by simp) ?_
    refine (AllReadyH.cons rfl (fun K hK => ?_) AllReadyH.nil)
    go_simp
    refine (among_le g n c _ _ A v55 [_, _, _, _] _ _ _ rfl rfl (by simp) (by simp) hC hn (by omega) (by exact ⟨by decide, most_le (by decide) (i64_le _), most_le (by decide) HZ.out.2.2.1, i64_le _, trivial⟩)).mono ?_
    rintro e v58 ⟨zz, rfl, hd_zz, hC, hf⟩
    have hS2 := hS1.step hf hg hlo hbq
    have hR := hR.fr hf (by omega)
    clear hf jd hS1
    refine hK.out _ _ hS2 (fun jd => ?_)
    clear hK K hS2
    refine tj 15 113 HF rfl jd ?_
    refine wS0 16 (rb) (iV (4) (z5) (0) (zz)) 107 infoStepD hR (fun w' hg' => jd.grown hg' (by omega) (by omega) hhi) ?ks59
    case ks59 =>
     intro v60 hh hgw hS3
     clear jd
     have hh : v60.heap[rb]? = some (.cells (iV (4) (z5) (0) (zz)) 107 (0, 0)) := hh
     have hC := hC.grown hgw (by omega)
     clear hgw hR HF
     refine wpAnyH_done (by kernel_rfl) ?_ _
     have HC := lh hC
     have HW := lh hS3
     have HH := lh hh
     clear hh hC hS3
     go_wp2_with ((try simp only [Exit.inBlock, Exit.then]); refine ret_cell1 Tryz.results105 rfl Tryz.underlying107 HH.out infoStepD rfl ?_; exact ⟨_, _, _, _, rfl, ⟨HZ.out.1, by decide, hd_zz.out⟩, HC.out.weaken (by omega), HW.out.fr⟩)
   ·go_upto_region 24 with fail
    have hWd : WS w v27.drew g B m cm f I H S P lo hi bq x y := hW.below (below_drewN (Below.refl _ v27) 1)
    have hCd : Cur v27.drew g A n c (p + 12) := hC.drewN 1
    have hRd : Blk v27.drew (rb) 107 [0, 0, 0, 0] := hR
    clear hC hW hR
    refine wp_region_held_drew (S := fun w' => WS w w' g B m cm f I H S P lo hi bq x y) (by kernel_rfl) hWd (fun jd => ?_)
    clear hWd
    have hC := hCd
    have hR := hRd
    clear hCd hRd
    obtain ⟨v61, hv⟩ : ∃ v, v27.drew = v := ⟨_, rfl⟩
    rw [hv] at jd hC hR ⊢
    clear hv
    refine tj4 0 117 1 118 2 119 3 120 HF jd ?_
    refine tj4 4 121 6 123 7 124 9 126 HF jd ?_
    refine tj2 10 127 11 128 HF jd ?_
    refine wpAnyH_ready (rs := [5]) (by kernel_rfl) (by simp) ?_
    refine (AllReadyH.cons rfl (fun K hK => ?_) AllReadyH.nil)
    go_simp
    refine (l1Most_any _ _ _).mono ?_
    rintro e v62 ⟨rfl, hx⟩
    rw [← hx]
    clear hx v62
    have hS2 := jd
    clear jd
    refine hK.out _ _ hS2 (fun jd => ?_)
    clear hK K hS2
    refine wpAnyH_ready (rs := [8]) (by kernel_rfl) (by simp) ?_
    refine (AllReadyH.cons rfl (fun K hK => ?_) AllReadyH.nil)
    go_simp
    refine (l1Most_any _ _ _).mono ?_
    rintro e v63 ⟨rfl, hx⟩
    rw [← hx]
    clear hx v63
    have hS2 := jd
    clear jd
    refine hK.out _ _ hS2 (fun jd => ?_)
    clear hK K hS2
    refine wpAnyH_ready (rs := [12]) (by kernel_rfl) (by simp) ?_
    refine (AllReadyH.cons rfl (fun K hK => ?_) AllReadyH.nil)
    go_simp
    have hS1 := jd
    clear jd
    refine hK.out _ _ (hS1.below ((Below.refl _ v61).alloc nL _)) (fun jd => ?_)
    clear hK K
    refine wpAnyH_ready (rs := [13]) (by kernel_rfl) (by simp) ?_
    refine (AllReadyH.cons rfl (fun K hK => ?_) AllReadyH.nil)
    go_simp
    refine (among_le g n c _ _ A v61 [_, _, _, _] _ _ _ rfl rfl (by simp) (by simp) hC hn (by omega) (by exact ⟨by decide, most_le (by decide) (i64_le _), most_le (by decide) HZ.out.2.2.2, i64_le _, trivial⟩)).mono ?_
    rintro e v64 ⟨zz, rfl, hd_zz, hC, hf⟩
    have hS2 := hS1.step hf hg hlo hbq
    have hR := hR.fr hf (by omega)
    clear hf jd hS1
    refine hK.out _ _ hS2 (fun jd => ?_)
    clear hK K hS2
    refine tj 14 131 HF rfl jd ?_
    refine wS0 15 (rb) (iV (5) (z5) (0) (zz)) 107 infoStepD hR (fun w' hg' => jd.grown hg' (by omega) (by omega) hhi) ?ks65
    case ks65 =>
     intro v66 hh hgw hS3
     clear jd
     have hh : v66.heap[rb]? = some (.cells (iV (5) (z5) (0) (zz)) 107 (0, 0)) := hh
     have hC := hC.grown hgw (by omega)
     clear hgw hR HF
     refine wpAnyH_done (by kernel_rfl) ?_ _
     have HC := lh hC
     have HW := lh hS3
     have HH := lh hh
     clear hh hC hS3
     go_wp2_with ((try simp only [Exit.inBlock, Exit.then]); refine ret_cell1 Tryz.results105 rfl Tryz.underlying107 HH.out infoStepD rfl ?_; exact ⟨_, _, _, _, rfl, ⟨HZ.out.1, by decide, hd_zz.out⟩, HC.out.weaken (by omega), HW.out.fr⟩)
   ·go_upto_region 24 with fail
    have hWd : WS w v27.drew g B m cm f I H S P lo hi bq x y := hW.below (below_drewN (Below.refl _ v27) 1)
    have hCd : Cur v27.drew g A n c (p + 12) := hC.drewN 1
    have hRd : Blk v27.drew (rb) 107 [0, 0, 0, 0] := hR
    clear hC hW hR
    refine wp_region_held_drew (S := fun w' => WS w w' g B m cm f I H S P lo hi bq x y) (by kernel_rfl) hWd (fun jd => ?_)
    clear hWd
    have hC := hCd
    have hR := hRd
    clear hCd hRd
    obtain ⟨v67, hv⟩ : ∃ v, v27.drew = v := ⟨_, rfl⟩
    rw [hv] at jd hC hR ⊢
    clear hv
    refine tj4 0 117 1 118 2 119 3 120 HF jd ?_
    refine tj4 4 121 6 123 7 124 9 126 HF jd ?_
    refine tj2 10 127 11 128 HF jd ?_
    refine wpAnyH_ready (rs := [5]) (by kernel_rfl) (by simp) ?_
    refine (AllReadyH.cons rfl (fun K hK => ?_) AllReadyH.nil)
    go_simp
    refine (l1Most_any _ _ _).mono ?_
    rintro e v68 ⟨rfl, hx⟩
    rw [← hx]
    clear hx v68
    have hS2 := jd
    clear jd
    refine hK.out _ _ hS2 (fun jd => ?_)
    clear hK K hS2
    refine wpAnyH_ready (rs := [8]) (by kernel_rfl) (by simp) ?_
    refine (AllReadyH.cons rfl (fun K hK => ?_) AllReadyH.nil)
    go_simp
    refine (l1Most_any _ _ _).mono ?_
    rintro e v69 ⟨rfl, hx⟩
    rw [← hx]
    clear hx v69
    have hS2 := jd
    clear jd
    refine hK.out _ _ hS2 (fun jd => ?_)
    clear hK K hS2
    refine wpAnyH_ready (rs := [12]) (by kernel_rfl) (by simp) ?_
    refine (AllReadyH.cons rfl (fun K hK => ?_) AllReadyH.nil)
    go_simp
    have hS1 := jd
    clear jd
    refine hK.out _ _ (hS1.below ((Below.refl _ v67).alloc nL _)) (fun jd => ?_)
    clear hK K
    refine wpAnyH_ready (rs := [13]) (by kernel_rfl) (by simp) ?_
    refine (AllReadyH.cons rfl (fun K hK => ?_) AllReadyH.nil)
    go_simp
    refine (among_le g n c _ _ A v67 [_, _, _, _] _ _ _ rfl rfl (by simp) (by simp) hC hn (by omega) (by exact ⟨by decide, most_le (by decide) (i64_le _), most_le (by decide) HZ.out.2.2.2, i64_le _, trivial⟩)).mono ?_
    rintro e v70 ⟨zz, rfl, hd_zz, hC, hf⟩
    have hS2 := hS1.step hf hg hlo hbq
    have hR := hR.fr hf (by omega)
    clear hf jd hS1
    refine hK.out _ _ hS2 (fun jd => ?_)
    clear hK K hS2
    refine tj 14 131 HF rfl jd ?_
    refine wS0 15 (rb) (iV (5) (z5) (0) (zz)) 107 infoStepD hR (fun w' hg' => jd.grown hg' (by omega) (by omega) hhi) ?ks71
    case ks71 =>
     intro v72 hh hgw hS3
     clear jd
     have hh : v72.heap[rb]? = some (.cells (iV (5) (z5) (0) (zz)) 107 (0, 0)) := hh
     have hC := hC.grown hgw (by omega)
     clear hgw hR HF
     refine wpAnyH_done (by kernel_rfl) ?_ _
     have HC := lh hC
     have HW := lh hS3
     have HH := lh hh
     clear hh hC hS3
     go_wp2_with ((try simp only [Exit.inBlock, Exit.then]); refine ret_cell1 Tryz.results105 rfl Tryz.underlying107 HH.out infoStepD rfl ?_; exact ⟨_, _, _, _, rfl, ⟨HZ.out.1, by decide, hd_zz.out⟩, HC.out.weaken (by omega), HW.out.fr⟩)
   ·go_upto_region 26 with fail
    have hWd : WS w v27.drew g B m cm f I H S P lo hi bq x y := hW.below (below_drewN (Below.refl _ v27) 1)
    have hCd : Cur v27.drew g A n c (p + 12) := hC.drewN 1
    have hRd : Blk v27.drew (rb) 107 [0, 0, 0, 0] := hR
    clear hC hW hR
    refine wp_region_held_drew (S := fun w' => WS w w' g B m cm f I H S P lo hi bq x y) (by kernel_rfl) hWd (fun jd => ?_)
    clear hWd
    have hC := hCd
    have hR := hRd
    clear hCd hRd
    obtain ⟨v73, hv⟩ : ∃ v, v27.drew = v := ⟨_, rfl⟩
    rw [hv] at jd hC hR ⊢
    clear hv
    refine tj4 0 134 1 135 2 136 4 138 HF jd ?_
    refine tj2 5 139 6 140 HF jd ?_
    refine wpAnyH_ready (rs := [3]) (by kernel_rfl) (by simp) ?_
    refine (AllReadyH.cons rfl (fun K hK => ?_) AllReadyH.nil)
    go_simp
    refine (l1Most_any _ _ _).mono ?_
    rintro e v74 ⟨rfl, hx⟩
    rw [← hx]
    clear hx v74
    have hS2 := jd
    clear jd
    refine hK.out _ _ hS2 (fun jd => ?_)
    clear hK K hS2
    refine wpAnyH_ready (rs := [7]) (by kernel_rfl) (by simp) ?_
    refine (AllReadyH.cons rfl (fun K hK => ?_) AllReadyH.nil)
    go_simp
    have hS1 := jd
    clear jd
    refine hK.out _ _ (hS1.below ((Below.refl _ v73).alloc nL _)) (fun jd => ?_)
    clear hK K
    refine wpAnyH_ready (rs := [8]) (by kernel_rfl) (by simp) ?_
    refine (AllReadyH.cons rfl (fun K hK => ?_) AllReadyH.nil)
    go_simp
    refine (among_le g n c _ _ A v73 [_, _, _] _ _ _ rfl rfl (by simp) (by simp) hC hn (by omega) (by exact ⟨by decide, most_le (by decide) HBD.out.2, i64_le _, trivial⟩)).mono ?_
    rintro e v75 ⟨zz, rfl, hd_zz, hC, hf⟩
    have hS2 := hS1.step hf hg hlo hbq
    have hR := hR.fr hf (by omega)
    clear hf jd hS1
    refine hK.out _ _ hS2 (fun jd => ?_)
    clear hK K hS2
    refine tj 9 143 HF rfl jd ?_
    refine wS0 10 (rb) (iV (6) (0) (0) (zz)) 107 infoStepD hR (fun w' hg' => jd.grown hg' (by omega) (by omega) hhi) ?ks76
    case ks76 =>
     intro v77 hh hgw hS3
     clear jd
     have hh : v77.heap[rb]? = some (.cells (iV (6) (0) (0) (zz)) 107 (0, 0)) := hh
     have hC := hC.grown hgw (by omega)
     clear hgw hR HF
     refine wpAnyH_done (by kernel_rfl) ?_ _
     have HC := lh hC
     have HW := lh hS3
     have HH := lh hh
     clear hh hC hS3
     go_wp2_with ((try simp only [Exit.inBlock, Exit.then]); refine ret_cell1 Tryz.results105 rfl Tryz.underlying107 HH.out infoStepD rfl ?_; exact ⟨_, _, _, _, rfl, ⟨by decide, by decide, hd_zz.out⟩, HC.out.weaken (by omega), HW.out.fr⟩)
   ·clear HF
    have hR' : v27.heap[rb]? = some (.cells (iV 0 0 0 0) 107 (0, 0)) := hR
    have HW := lh hW
    have HC := lh hC
    clear hW hC hR
    go_wp2_with ((with_reducible refine wpList_isStore ?_); refine wL0 rb (iV (7) (z5) (0) (0)) 107 infoStepD hR' ?_)
    intro ww hh hgw
    have HC2 := lh (HC.out.grown hgw (by omega))
    have HW2 := lh (HW.out.grown hgw (by omega) (by omega) hhi)
    have HH := lh hh
    clear hh hgw hR' HC HW
    go_wp2_with ((try simp only [Exit.inBlock, Exit.then]); refine ret_cell1 Tryz.results105 rfl Tryz.underlying107 HH.out infoStepD rfl ?_; exact ⟨_, _, _, _, rfl, ⟨HZ.out.1, by decide, by decide⟩, HC2.out.weaken (by omega), HW2.out.fr⟩)
end Go.Proofs.YtpndjhelpoenpaaGreatDoor
