/-
  Texts of this claim, merged.
-/
import Derived.Test.YtpndjhelpoenpaaGreatDoorXA17
set_option linter.unusedVariables false
set_option linter.unusedSimpArgs false
set_option maxRecDepth 100000
set_option maxHeartbeats 8000000
namespace Go.Proofs.YtpndjhelpoenpaaGreatDoor
open Go.RowKit Go.Sort
attribute [local go_sem ↓] Go.wp_at_zero Go.wp_at_succ
def BoxOwn (w : World) (lo g : Nat) (L : List Int) (m : Nat) (I H S P : Int) : Prop :=
 ∃ A' c', w.heap[g]? = some (.cells (wB A' m c' I H S P) 32 (0, 0)) ∧ m ≤ c' ∧ c' ≤ maxLen ∧ w.ownsRow lo 97 4 (.slice A' m c') m (L.map (Value.int .i64))
theorem copyWorks_any (A : Option Addr) (n c lo hi : Nat) (f : Nat → Int) (I H S P : Int) (w : World) (hs : Sl w lo hi 4 A n f) (hn : n ≤ 1048576) (hnc : n ≤ c) (hnone : A = none → n = 0 ∧ c = 0) :
  Calls Tryz.prog 90 #[.agg (wB A n c I H S P)] w (ownPost w f n I H S P) := by
 refine z170 ?_
 intro HX
 have h0 : ((w.alloc (.cells (wB A n c I H S P) 32)).alloc (.cells (wB none 0 0 0 0 0 0) 32)).heap[w.heap.size]? = some (.cells (wB A n c I H S P) 32) := by
  rw [heap_alloc_old _ _ (by simp)]
  exact heap_alloc_new w _
 have hr : ((w.alloc (.cells (wB A n c I H S P) 32)).alloc (.cells (wB none 0 0 0 0 0 0) 32)).heap[w.heap.size + 1]? = some (.cells (wB none 0 0 0 0 0 0) 32) := by have := heap_alloc_new (w.alloc (.cells (wB A n c I H S P) 32)) (.cells (wB none 0 0 0 0 0 0) 32); simpa using this
 have H0 := lh h0
 have HR := lh hr
 clear h0 hr
 go_enter Tryz.func90, Tryz.ntmps90
 go_wp2_with fail
 refine (clonePan_any A n c lo hi f _ (hs.below HX.out) hn hnone).mono ?_
 rintro e w1 ⟨v', rfl, ho, hb1⟩
 obtain ⟨A', c', rfl, h1, h2⟩ := row_slice ho
 have h01 := (hb1.block w.heap.size (by simp; omega)).trans H0.out
 have hr1 := (hb1.block (w.heap.size + 1) (by simp)).trans HR.out
 have hB1 := HX.out.trans (hb1.mono HX.out.size)
 have hz : w.heap.size + 2 ≤ w1.heap.size := by have := hb1.size; simp only [World.size_alloc] at this; omega
 have now : ∀ k : Nat, (Value.slice A' n c').ownBlock = some k → w.heap.size + 2 ≤ k := fun k e => by have := (World.ownsRow.lt ho k e).1; simp only [World.size_alloc] at this; omega
 have ho := ownsRow_monoP ho HX.out.size
 obtain ⟨e0, e1, e2, e3, e4⟩ := cells5 h01
 have ef := fz h01
 obtain ⟨r0, r1, r2, r3, r4⟩ := cells5 hr1
 have rf := fz hr1
 have HB1 := lh hB1
 have HO1 := lh ho
 have NOW := lh now
 clear hb1 h01 hr1 hB1 ho now H0 HR hs
 go_wp2
 obtain ⟨wq, hwq⟩ : ∃ wq, wq = ((((((w1.setCell ⟨w.heap.size, 0, none⟩ (.slice A' n c')).setCell ⟨w.heap.size + 1, 0, none⟩ (.slice A' n c')).setCell ⟨w.heap.size + 1, 1, none⟩ (.int .i64 I)).setCell ⟨w.heap.size + 1, 2, none⟩ (.int .i64 H)).setCell ⟨w.heap.size + 1, 3, none⟩ (.int .i64 S)).setCell ⟨w.heap.size + 1, 4, none⟩ (.int .i64 P)) := ⟨_, rfl⟩
 rw [← hwq]
 have u0 : cE wq (w.heap.size + 1) 0 (.slice A' n c') := by rw [hwq]; go_simp
 have u1 : cI wq (w.heap.size + 1) 1 I := by rw [hwq]; go_simp
 have u2 : cI wq (w.heap.size + 1) 2 H := by rw [hwq]; go_simp
 have u3 : cI wq (w.heap.size + 1) 3 S := by rw [hwq]; go_simp
 have u4 : cI wq (w.heap.size + 1) 4 P := by rw [hwq]; go_simp
 have hBq : bW w wq := by
  rw [hwq]
  exact ((((((HB1.out.setCell (show w.heap.size ≤ w.heap.size by omega) _).setCell (show w.heap.size ≤ w.heap.size + 1 by omega) _).setCell (show w.heap.size ≤ w.heap.size + 1 by omega) _).setCell (show w.heap.size ≤ w.heap.size + 1 by omega) _).setCell (show w.heap.size ≤ w.heap.size + 1 by omega) _).setCell (show w.heap.size ≤ w.heap.size + 1 by omega) _)
 have no : ∀ j : Nat, (Value.slice A' n c').ownBlock ≠ some (⟨w.heap.size + 1, j, none⟩ : Addr).block := fun j e => by have h := NOW.out _ e; have h2 : w.heap.size + 2 ≤ w.heap.size + 1 := h; omega
 have hOq := (ownsRow_setCell_other (ownsRow_setCell_other (ownsRow_setCell_other (ownsRow_setCell_other (ownsRow_setCell_other (ownsRow_setCell_other (a := ⟨w.heap.size, 0, none⟩) HO1.out (fun e => by have h := NOW.out _ e; have h2 : w.heap.size + 2 ≤ w.heap.size := h; omega) (.slice A' n c')) (no 0) (.slice A' n c')) (no 1) (.int .i64 I)) (no 2) (.int .i64 H)) (no 3) (.int .i64 S)) (no 4) (.int .i64 P))
 rw [← hwq] at hOq
 clear hwq HO1 HB1
 refine z66 ?_
 refine bodyPost_ret (by simp [results, Tryz.results90, go_sem, u0, u1, u2, u3, u4]; try rfl) rfl ?_
 exact ⟨A', c', rfl, h1, h2, hOq, hBq⟩
theorem sw_to (g lo n c' : Nat) (A' : Option Addr) (f : Nat → Int) (I H S P : Int) (kd id tt0 z : Int) (hn : n ≤ 1000) (w : World) (hg : w.heap[g]? = some (.cells (wB A' n c' I H S P) 32 (0, 0))) (hO : w.ownsRow lo 97 4 (.slice A' n c') n ((cellsL f n).map (Value.int .i64))) (hlo : lo ≤ g) (at' : Int) (hfd : findV (pid f) id n 0 = at') (k3n : ¬ kd = 3) (ht0n : ¬ tt0 = 0) :
  Calls Tryz.prog 139 #[.pointer (some ⟨g, 0, none⟩), .agg (iV kd id tt0 z)] w (fun e w' => e = .returned (.bool false) ∧ Below lo w w') := by
 have k3 : (kd == 3) = false := by simp [k3n]
 have ht0 : (tt0 == 0) = false := by simp [ht0n]
 refine z230 ?_
 intro lg hnc hncI
 go_upto_region 1 with fail
 revert hg hO lg
 refine z231 ?_
 intro w1 s low lg lg1 ls1 lw1 ngs nsg hles HS0 jd w2 hg2 hs2 hO2 hB2 lw2 lgw2 lsw2 e0 e1 e2 e3 e4 ef s0 s1 s2 s3
 exact z232
theorem sw_there (g lo n c' : Nat) (A' : Option Addr) (f : Nat → Int) (I H S P : Int) (id tt0 z : Int) (hn : n ≤ 1000) (w : World) (hg : w.heap[g]? = some (.cells (wB A' n c' I H S P) 32 (0, 0))) (hO : w.ownsRow lo 97 4 (.slice A' n c') n ((cellsL f n).map (Value.int .i64))) (hlo : lo ≤ g) (at' : Int) (hfd : findV (pid f) id n 0 = at') (ht0 : tt0 = 0) (hat : 0 ≤ at') :
  Calls Tryz.prog 139 #[.pointer (some ⟨g, 0, none⟩), .agg (iV 1 id tt0 z)] w (fun e w' => e = .returned (.bool false) ∧ Below lo w w') := by
 subst ht0
 refine z230 ?_
 intro lg hnc hncI
 go_upto_region 1 with fail
 revert hg hO lg
 refine z231 ?_
 intro w1 s low lg lg1 ls1 lw1 ngs nsg hles HS0 jd w2 hg2 hs2 hO2 hB2 lw2 lgw2 lsw2 e0 e1 e2 e3 e4 ef s0 s1 s2 s3
 exact z232
theorem sw_none (g lo n c' : Nat) (A' : Option Addr) (f : Nat → Int) (I H S P : Int) (kd id tt0 z : Int) (hn : n ≤ 1000) (w : World) (hg : w.heap[g]? = some (.cells (wB A' n c' I H S P) 32 (0, 0))) (hO : w.ownsRow lo 97 4 (.slice A' n c') n ((cellsL f n).map (Value.int .i64))) (hlo : lo ≤ g) (hfd : findV (pid f) id n 0 = -1) (k1 : (kd == 1) = false) (k6 : (kd == 6) = false) (hto : kd = 3 ∨ tt0 = 0) :
  Calls Tryz.prog 139 #[.pointer (some ⟨g, 0, none⟩), .agg (iV kd id tt0 z)] w (fun e w' => e = .returned (.bool false) ∧ Below lo w w') := by
 refine z230 ?_
 intro lg hnc hncI
 go_upto_region 1 with fail
 revert hg hO lg
 refine z231 ?_
 intro w1 s low lg lg1 ls1 lw1 ngs nsg hles HS0 jd w2 hg2 hs2 hO2 hB2 lw2 lgw2 lsw2 e0 e1 e2 e3 e4 ef s0 s1 s2 s3
 have k1n : ¬ kd = 1 := by simpa using k1
 have k6n : ¬ kd = 6 := by simpa using k6
 have hneg : (-1 : Int) < 0 := by decide
 by_cases k3 : kd = 3
 ·subst k3
  exact z232
 ·have hto' := hto.resolve_left k3
  subst hto'
  have k3f : (kd == 3) = false := by simp [k3]
  exact z232
theorem sw_zero (g lo n c' : Nat) (A' : Option Addr) (f : Nat → Int) (I H S P : Int) (kd id tt0 z : Int) (hn : n ≤ 1000) (w : World) (hg : w.heap[g]? = some (.cells (wB A' n c' I H S P) 32 (0, 0))) (hO : w.ownsRow lo 97 4 (.slice A' n c') n ((cellsL f n).map (Value.int .i64))) (hlo : lo ≤ g) (i : Nat) (hfd : findV (pid f) id n 0 = (i : Int)) (k1 : (kd == 1) = false) (k6 : (kd == 6) = false) (k7 : (kd == 7) = false) (hto : kd = 3 ∨ tt0 = 0) (hz : ¬ 1 ≤ z) :
  Calls Tryz.prog 139 #[.pointer (some ⟨g, 0, none⟩), .agg (iV kd id tt0 z)] w (fun e w' => e = .returned (.bool false) ∧ Below lo w w') := by
 refine z230 ?_
 intro lg hnc hncI
 go_upto_region 1 with fail
 revert hg hO lg
 refine z231 ?_
 intro w1 s low lg lg1 ls1 lw1 ngs nsg hles HS0 jd w2 hg2 hs2 hO2 hB2 lw2 lgw2 lsw2 e0 e1 e2 e3 e4 ef s0 s1 s2 s3
 have k1n : ¬ kd = 1 := by simpa using k1
 have k6n : ¬ kd = 6 := by simpa using k6
 have k7n : ¬ kd = 7 := by simpa using k7
 have hi0 : ¬ ((i : Int) < 0) := by omega
 by_cases k3 : kd = 3
 ·subst k3
  exact z232
 ·have hto' := hto.resolve_left k3
  subst hto'
  have k3f : (kd == 3) = false := by simp [k3]
  exact z232
theorem sw_ship (g lo n c' : Nat) (A' : Option Addr) (f : Nat → Int) (I H S P : Int) (id tt0 z : Int) (hn : n ≤ 1000) (w : World) (hg : w.heap[g]? = some (.cells (wB A' n c' I H S P) 32 (0, 0))) (hO : w.ownsRow lo 97 4 (.slice A' n c') n ((cellsL f n).map (Value.int .i64))) (hlo : lo ≤ g) (at' : Int) (hfd : findV (pid f) id n 0 = at') (ht0 : tt0 = 0) :
  Calls Tryz.prog 139 #[.pointer (some ⟨g, 0, none⟩), .agg (iV 6 id tt0 z)] w (fun e w' => e = .returned (.bool (decide (id = 0) && decide (1 ≤ z))) ∧ ((decide (id = 0) && decide (1 ≤ z)) = true → BoxOwn w' lo g (cellsL f n) n I (wrap64 (H - z)) (wrap64 (S + z)) P) ∧ Below lo w w') := by
 subst ht0
 refine z230 ?_
 intro lg hnc hncI
 go_upto_region 1 with fail
 revert hg hO lg
 refine z231 ?_
 intro w1 s low lg lg1 ls1 lw1 ngs nsg hles HS0 jd w2 hg2 hs2 hO2 hB2 lw2 lgw2 lsw2 e0 e1 e2 e3 e4 ef s0 s1 s2 s3
 have HO2 := lh hO2
 have hsF : Hid (∀ w', w2.grownBy w' (some g) → cI w' s 1 id ∧ cI w' s 3 z) := by
  intro w' hq
  have u := hq.block s lsw2 (by simp; omega)
  exact ⟨(World.cell?_of_block (a := ⟨s, 1, none⟩) u).trans s1, (World.cell?_of_block (a := ⟨s, 3, none⟩) u).trans s3⟩
 have HF : Hid (∀ w', w2.grownBy w' (some g) → cI w' s 1 id ∧ cI w' s 3 z) := hsF.out
 clear hO2
 go_wp2_with fail
 refine wp_region_held_drew (S := fun w' => w2.grownBy w' (some g)) (by exact z12) ⟨rfl, rfl, rfl, Nat.le_refl _, fun _ _ _ => rfl⟩ (fun jd => ?_)
 refine tj4 0 69 4 73 1 70 5 74 HF jd ?_
 refine tj 2 71 HF rfl jd ?_
 refine wpAnyH_ready (rs := [3]) (by exact z12) (by simp) ?_
 refine z44 ?_
 intro K hK
 refine hK.out _ _ jd (fun jd => ?_)
 clear hK K
 refine tj3 6 75 7 76 8 77 HF jd ?_
 refine wpAnyH_store (fuel := 0) (i := 9) rfl (by exact z12) g (2) (.int .i64 (wrap64 (H - z))) 32 (wB A' n c' I H S P) rfl (by exact z220) infoIntS hg2 (show 2 + 1 ≤ 5 by omega) (by exact z143) (fun w' hg => grown_trans jd hg) ?ka
 case ka =>
 intro w3 hhw3 hgw3 hSw3
 refine z49 ?_
 have hg3 : w3.heap[g]? = some (.cells (wB A' n c' I (wrap64 (H - z)) S P) 32) := hhw3
 have hO3 := own_other HO2.out hg2 (by decide) hSw3
 have hB3 := hB2.grown hSw3 lw2 (fun k hk => by cases hk; omega)
 have hgz3 := hSw3.size
 obtain ⟨s13, s33⟩ := hsF.out w3 hSw3
 clear jd HF hsF hSw3 hgw3 hhw3 e0 e1 e2 e3 e4 ef s0 s1 s2 s3 hs2 hg2 HO2 hB2
 obtain ⟨e0, e1, e2, e3, e4⟩ := cells5 hg3
 have ef := fz hg3
 have HF : Hid (∀ w', w3.grownBy w' (some g) → cI w' s 3 z) := by
  intro w' hq
  exact (World.cell?_of_block (a := ⟨s, 3, none⟩) (hq.block _ (World.block_lt_of_cell? _ _ s33) (by simp; omega))).trans s33
 have hsF : Hid (∀ w', w3.grownBy w' (some g) → cI w' s 1 id ∧ cI w' s 3 z) := by
  intro w' hq
  have u := hq.block s (World.block_lt_of_cell? _ _ s33) (by simp; omega)
  exact ⟨(World.cell?_of_block (a := ⟨s, 1, none⟩) u).trans s13, (World.cell?_of_block (a := ⟨s, 3, none⟩) u).trans s33⟩
 go_wp2_with fail
 refine wp_region_held_drew (S := fun w' => w3.grownBy w' (some g)) (by exact z12) ⟨rfl, rfl, rfl, Nat.le_refl _, fun _ _ _ => rfl⟩ (fun jd => ?_)
 refine tj4 0 78 4 82 1 79 5 83 HF jd ?_
 refine tj 2 80 HF rfl jd ?_
 refine wpAnyH_ready (rs := [3]) (by exact z12) (by simp) ?_
 refine z44 ?_
 intro K hK
 refine hK.out _ _ jd (fun jd => ?_)
 clear hK K
 refine tj3 6 84 7 85 8 86 HF jd ?_
 refine wpAnyH_store (fuel := 0) (i := 9) rfl (by exact z12) g (3) (.int .i64 (wrap64 (S + z))) 32 (wB A' n c' I (wrap64 (H - z)) S P) rfl (by exact z220) infoIntS hg3 (show 3 + 1 ≤ 5 by omega) (by exact z143) (fun w' hg => grown_trans jd hg) ?kb
 case kb =>
 intro w4 hhw4 hgw4 hSw4
 refine z49 ?_
 have hg4 : w4.heap[g]? = some (.cells (wB A' n c' I (wrap64 (H - z)) (wrap64 (S + z)) P) 32) := hhw4
 have hO4 := own_other hO3 hg3 (by decide) hSw4
 have hB4 := hB3.grown hSw4 (Nat.le_trans lw2 hgz3) (fun k hk => by cases hk; omega)
 obtain ⟨s14, s34⟩ := hsF.out w4 hSw4
 clear jd HF hsF hSw4 hgw4 hhw4 e0 e1 e2 e3 e4 ef s13 s33 hg3 hO3 hB3
 have HG := lh hg4
 have HO := lh hO4
 have HB := lh hB4
 clear hg4 hO4 hB4
 by_cases c1 : id = 0
 ·have c1t : (id == 0) = true := by simp [c1]
  by_cases c2 : 1 ≤ z
  ·exact z233
  ·exact z233
 ·have c1f : (id == 0) = false := by simp [c1]
  go_wp2
  go_ret
  exact ⟨ret_bool (by simp [c1]), fun _ => ⟨A', c', HG.out, hnc.1, hnc.2, HO.out⟩, HB.out⟩
theorem sw_pan (g lo n c' : Nat) (A' : Option Addr) (f : Nat → Int) (I H S P : Int) (kd id tt0 z : Int) (hn : n ≤ 1000) (w : World) (hg : w.heap[g]? = some (.cells (wB A' n c' I H S P) 32 (0, 0))) (hO : w.ownsRow lo 97 4 (.slice A' n c') n ((cellsL f n).map (Value.int .i64))) (hlo : lo ≤ g) (i : Nat) (hi' : i < n) (hfd : findV (pid f) id n 0 = (i : Int)) (k1 : (kd == 1) = false) (k6 : (kd == 6) = false) (k7 : (kd == 7) = false) (hto : kd = 3 ∨ tt0 = 0) (hz : 1 ≤ z) (b : Bool) (L : List Int) (I' H' : Int) (HPAN : Hid (∀ (w2 : World) (ga : Nat), w2.heap[g]? = some (.cells (wB (some ⟨ga, 0, none⟩) n c' I H S P) 32 (0, 0)) → w2.ownsRow lo 97 4 (.slice (some ⟨ga, 0, none⟩) n c') n ((cellsL f n).map (Value.int .i64)) → Calls Tryz.prog 169 #[.pointer (some ⟨g, 0, none⟩), .int .i64 i, .agg (iV kd id tt0 z)] w2 (fun e w' => e = .returned (.bool b) ∧ (b = true → BoxRow w' lo g ga n c' L I' H' S P) ∧ Below lo w2 w'))) :
  Calls Tryz.prog 139 #[.pointer (some ⟨g, 0, none⟩), .agg (iV kd id tt0 z)] w (fun e w' => e = .returned (.bool b) ∧ (b = true → BoxOwn w' lo g L n I' H' S P) ∧ Below lo w w') := by
 have k1n : ¬ kd = 1 := by simpa using k1
 have k6n : ¬ kd = 6 := by simpa using k6
 have k7n : ¬ kd = 7 := by simpa using k7
 refine z230 ?_
 intro lg hnc hncI
 go_upto_region 1 with fail
 revert hg hO lg
 refine z231 ?_
 intro w1 s low lg lg1 ls1 lw1 ngs nsg hles HS0 jd w2 hg2 hs2 hO2 hB2 lw2 lgw2 lsw2 e0 e1 e2 e3 e4 ef s0 s1 s2 s3
 obtain ⟨ga, rfl⟩ : ∃ ga, A' = some ⟨ga, 0, none⟩ := by
  rcases form_ofP hO2 with ⟨h0, _⟩ | ⟨g', gc, hv⟩
  ·omega
  ·cases hv; exact ⟨g', rfl⟩
 have hi0 : ¬ ((i : Int) < 0) := by omega
 have HG2 := lh hg2
 have HO2 := lh hO2
 have HB2 := lh hB2
 clear hg2 hO2 hB2 hs2 e0 e1 e2 e3 e4 ef
 by_cases k3 : kd = 3
 ·subst k3
  exact z234
 ·have hto' := hto.resolve_left k3
  subst hto'
  have k3f : (kd == 3) = false := by simp [k3]
  exact z234
theorem sw_shut (g lo n c' : Nat) (A' : Option Addr) (f : Nat → Int) (I H S P : Int) (id tt0 z : Int) (hn : n ≤ 1000) (w : World) (hg : w.heap[g]? = some (.cells (wB A' n c' I H S P) 32 (0, 0))) (hO : w.ownsRow lo 97 4 (.slice A' n c') n ((cellsL f n).map (Value.int .i64))) (hlo : lo ≤ g) (i : Nat) (hi' : i < n) (hfd : findV (pid f) id n 0 = (i : Int)) (ht0 : tt0 = 0) :
  Calls Tryz.prog 139 #[.pointer (some ⟨g, 0, none⟩), .agg (iV 7 id tt0 z)] w (fun e w' => e = .returned (.bool (decide (z = 0))) ∧ ((decide (z = 0)) = true → BoxOwn w' lo g (shutL f n i) (n - 1) I H S (wrap64 (P + f (i * 4 + 3)))) ∧ Below lo w w') := by
 subst ht0
 refine z230 ?_
 intro lg hnc hncI
 go_upto_region 1 with fail
 revert hg hO lg
 refine z231 ?_
 intro w1 s low lg lg1 ls1 lw1 ngs nsg hles HS0 jd w2 hg2 hs2 hO2 hB2 lw2 lgw2 lsw2 e0 e1 e2 e3 e4 ef s0 s1 s2 s3
 obtain ⟨ga, rfl⟩ : ∃ ga, A' = some ⟨ga, 0, none⟩ := by
  rcases form_ofP hO2 with ⟨h0, _⟩ | ⟨g', gc, hv⟩
  ·omega
  ·cases hv; exact ⟨g', rfl⟩
 have nga : ga ≠ g := by
  intro e
  subst e
  exact row_ne hO2 hg2 (by decide)
 have hi0 : ¬ ((i : Int) < 0) := by omega
 have hi0' : (0 : Int) ≤ (i : Int) := by omega
 have hin : (i : Int) < (n : Int) := by omega
 have a3 : cI w2 ga (i * 4 + 2 + 1) (f (i * 4 + 3)) := by rw [show i * 4 + 2 + 1 = i * 4 + 3 by omega, World.ownsRow.cellAt hO2 (i * 4 + 3) (by omega), List.getElem?_map, cellsL_at f n _ (by omega)]; rfl
 have lga2 : ga < w2.heap.size := (World.ownsRow.lt hO2 ga rfl).2
 have HF : Hid (∀ w', w2.grownBy w' (some g) ∧ (∃ V, w'.heap[g]? = some (.cells #[.slice (some ⟨ga, 0, none⟩) n c', .int .i64 I, .int .i64 H, .int .i64 S, V] 32)) → cE w' g 0 (.slice (some ⟨ga, 0, none⟩) n c') ∧ cI w' ga (i * 4 + 2 + 1) (f (i * 4 + 3))) := by
  rintro w' ⟨hq, V, hV⟩
  exact ⟨by rw [cell_of_row w' g 0 _ _ (0, 0) hV]; rfl, (World.cell?_of_block (a := ⟨ga, i * 4 + 2 + 1, none⟩) (hq.block ga lga2 (by simp; omega))).trans a3⟩
 go_wp2_with fail
 refine wp_region_held_drew (S := (fun w' => w2.grownBy w' (some g) ∧ ∃ V, w'.heap[g]? = some (.cells #[.slice (some ⟨ga, 0, none⟩) n c', .int .i64 I, .int .i64 H, .int .i64 S, V] 32))) (by exact z12) ⟨⟨rfl, rfl, rfl, Nat.le_refl _, fun _ _ _ => rfl⟩, _, hg2⟩ (fun jd => ?_)
 refine tj4 0 102 4 106 8 110 1 103 HF jd ?_
 refine tj4 5 107 2 104 6 108 7 109 HF jd ?_
 refine tj4 9 111 10 112 11 113 12 114 HF jd ?_
 refine wpAnyH_ready (rs := [3]) (by exact z12) (by simp) ?_
 refine z44 ?_
 intro K hK
 refine hK.out _ _ jd (fun jd => ?_)
 clear hK K
 refine tj3 13 115 14 116 15 117 HF jd ?_
 refine wpAnyH_store2 (fuel := 0) (i := 16) rfl (by exact z12) g 4 (.int .i64 (wrap64 (P + f (i * 4 + 3)))) 32 (wB (some ⟨ga, 0, none⟩) n c' I H S P) rfl (by exact z220) infoIntS hg2 (show 4 + 1 ≤ 5 by omega) (by exact z143) (fun w' h1 hg => ⟨grown_trans jd.1 hg, _, h1⟩) ?ks
 case ks =>
 intro w3 hh3 hg3' hS3
 refine z49 ?_
 have hg3 : w3.heap[g]? = some (.cells (wB (some ⟨ga, 0, none⟩) n c' I H S (wrap64 (P + f (i * 4 + 3)))) 32) := hh3
 have hO3 := own_other hO2 hg2 (by decide) hS3.1
 have hB3 := hB2.grown hS3.1 lw2 (fun k hk => by cases hk; omega)
 have lw3 : lo ≤ w3.heap.size := Nat.le_trans lw2 hS3.1.size
 have s33 := (World.cell?_of_block (a := ⟨s, 3, none⟩) (hS3.1.block _ lsw2 (by simp; omega))).trans s3
 clear jd HF hS3 hg3' hh3 e0 e1 e2 e3 e4 ef s0 s1 s2 s3 hs2 hg2 hO2 hB2 a3
 obtain ⟨e0, e1, e2, e3, e4⟩ := cells5 hg3
 have ef := fz hg3
 obtain ⟨q, hq⟩ : ∃ q, q = i + 1 := ⟨_, rfl⟩
 have hqw : IntKind.i64.wrap ((i : Int) + 1) = (q : Int) := by rw [IntWalk.i64_in _ (by omega)]; omega
 have HQ := lh hq
 have HG3 := lh hg3
 have HO3 := lh hO3
 have HB3 := lh hB3
 clear hg3 hO3 hB3 hq
 go_wp2_with fail
 refine (DeletePan_any lo n i q (.slice (some ⟨ga, 0, none⟩) n c') (cellsL f n) w3 HO3.out hi' (by omega) HQ.out).mono ?_
 rintro e w4 ⟨v', rfl, ho4, hgr⟩
 obtain ⟨A2, c2, rfl, h1, h2⟩ := row_slice ho4
 have hgr' : w3.grownBy w4 (some ga) := hgr
 have hg4 := (hgr'.block g (gL HG3.out) (by simp; omega)).trans HG3.out
 have s34 := (World.cell?_of_block (a := ⟨s, 3, none⟩) (hgr'.block _ (World.block_lt_of_cell? _ _ s33) (by have := (low ga rfl).2; simp; omega))).trans s33
 have hB4 := HB3.out.grown hgr' lw3 (fun k hk => by cases hk; exact (low ga rfl).1)
 clear e0 e1 e2 e3 e4 ef s33 hgr hgr' HG3 HO3 HB3
 obtain ⟨e0, e1, e2, e3, e4⟩ := cells5 hg4
 have ef := fz hg4
 have HG4 := lh hg4
 have HO4 := lh ho4
 have HB4 := lh hB4
 have nog : ∀ j : Nat, (Value.slice A2 (n - 1) c2).ownBlock ≠ some (⟨g, j, none⟩ : Addr).block := fun j e => row_none_ne ho4 hg4 (by decide) e
 have NOG := lh nog
 clear hg4 ho4 hB4 nog
 go_upto_region 21 with fail
 refine z161 ?_
 intro w5 hw5'
 have hw5 : w5 = w4.setCell ⟨g, 0, none⟩ (.slice A2 (n - 1) c2) := hw5'
 clear hw5' e0 e1 e2 e3 e4 ef
 have hg5 : w5.heap[g]? = some (.cells (wB A2 (n - 1) c2 I H S (wrap64 (P + f (i * 4 + 3)))) 32) := by
  rw [hw5]
  exact heap_setCell_same _ g 0 (wB (some ⟨ga, 0, none⟩) n c' I H S (wrap64 (P + f (i * 4 + 3)))) 32 _ HG4.out
 have hO5 := ownsRow_setCell_other (a := ⟨g, 0, none⟩) HO4.out (NOG.out 0) (.slice A2 (n - 1) c2)
 rw [← hw5] at hO5
 have hB5 : Below lo w w5 := by
  rw [hw5]
  exact HB4.out.setCell (p := ⟨g, 0, none⟩) (show lo ≤ g by omega) _
 have s35 : cI w5 s 3 z := by rw [hw5]; go_simp
 clear hw5 HG4 HO4 HB4 NOG s34
 have HG5 := lh hg5
 have HO5 := lh hO5
 have HB5 := lh hB5
 clear hg5 hO5 hB5
 by_cases c1 : z = 0
 ·have c1t : (z == 0) = true := by simp [c1]
  exact z235
 ·have c1f : (z == 0) = false := by simp [c1]
  exact z235
end Go.Proofs.YtpndjhelpoenpaaGreatDoor
namespace Go.Proofs.YtpndjhelpoenpaaGreatDoor
open Go.RowKit
attribute [local go_sem ↓] Go.wp_at_zero Go.wp_at_succ
end Go.Proofs.YtpndjhelpoenpaaGreatDoor
namespace Go.Proofs.YtpndjhelpoenpaaGreatDoor
open Go.RowKit
attribute [local go_sem ↓] Go.wp_at_zero Go.wp_at_succ
end Go.Proofs.YtpndjhelpoenpaaGreatDoor
namespace Go.Proofs.YtpndjhelpoenpaaGreatDoor
open Go.RowKit
theorem rowC {X w' : World} {g : Nat} {o : Obj} (hX : X.heap[g]? = some o) (h : bW X w') : w'.heap[g]? = some o :=
 (h.block g (gL hX)).trans hX
theorem grow_refl (w : World) (r : Option Nat) : w.grownBy w r := ⟨rfl, rfl, rfl, Nat.le_refl _, fun _ _ _ => rfl⟩
theorem grow_trans {a b c : World} {r : Option Nat} (h : a.grownBy b r) (k : b.grownBy c r) : a.grownBy c r :=
 ⟨k.os.trans h.os, k.tape.trans h.tape, k.output.trans h.output, Nat.le_trans h.size k.size, fun i hi hr => (k.block i (Nat.lt_of_lt_of_le hi h.size) hr).trans (h.block i hi hr)⟩
theorem infoConE : (Tryz.prog.info? 35).map (·.size) = some 8 := by exact z12
theorem infoLogE : (Tryz.prog.info? 33).map (·.size) = some 3 := by exact z12
def conPost (w : World) (f : Nat → Int) (n : Nat) (I H S P : Int) (D Q : ByteArray) (z : Int) (e : Ending) (w' : World) : Prop :=
 ∃ A' c', e = .returned (.agg (cB A' n c' I H S P D Q z)) ∧ n ≤ c' ∧ w'.ownsRow w.heap.size 97 4 (.slice A' n c') n ((cellsL f n).map (Value.int .i64)) ∧ bW w w'
theorem copyConsole_any (A : Option Addr) (n c lo hi : Nat) (f : Nat → Int) (I H S P : Int) (D Q : ByteArray) (z : Int) (w : World) (hs : Sl w lo hi 4 A n f) (hn : n ≤ 1048576) (hnc : n ≤ c) (hnone : A = none → n = 0 ∧ c = 0) :
  Calls Tryz.prog 47 #[.agg (cB A n c I H S P D Q z)] w (conPost w f n I H S P D Q z) := by
 refine z238 ?_
 intro hX h1 h2
 go_enter Tryz.func47, Tryz.ntmps47
 go_upto_region 1 with fail
 revert hs hX h1 h2
 refine z239 ?_
 intro w1 g1 g2 hne HS1 HX H1 H2 HLE HF v0 hbd jd K hK
 refine (copyWorks_any A n c lo hi f I H S P v0 (HS1.out.below hbd) hn hnc hnone).mono ?_
 rintro e v1 ⟨A', c', rfl, hc', _, hown, hbn⟩
 have hr2 := rowC (rowC H2.out hbd) hbn
 refine z240 ?_
 intro hHeld2 jd
 clear hK K hHeld2
 refine tj 5 8 HF rfl jd ?_
 refine wS0 6 g2 (cB A' n c' I H S P D Q z) 35 infoConE (hr2) (fun w' hg' => grow_trans jd hg') ?ks
 case ks =>
  revert jd
  refine z241 ?_
  intro v3 hh hgw jd
  refine z49 ?_
  refine z242 ?_
  intro HHR hOw hBw
  clear hown hr2 hgw hh jd hbn hbd
  go_wp2
  refine z66 ?_
  refine ret_cell1 Tryz.results47 rfl Tryz.underlying35 HHR.out infoConE rfl ?_
  exact ⟨A', c', rfl, hc', hOw.out, hBw.out⟩
theorem l28Own_any (A : Option Addr) (n c lo hi : Nat) (f : Nat → Int) (I H S P : Int) (D Q : ByteArray) (z : Int) (w : World) (hs : Sl w lo hi 4 A n f) (hn : n ≤ 1048576) (hnc : n ≤ c) (hnone : A = none → n = 0 ∧ c = 0) :
  Calls Tryz.prog 41 #[.agg (cB A n c I H S P D Q z)] w (conPost w f n I H S P D Q z) := by
 refine z238 ?_
 intro hX h1 h2
 go_enter Tryz.func41, Tryz.ntmps41
 go_upto_region 1 with fail
 revert hs hX h1 h2
 refine z239 ?_
 intro w1 g1 g2 hne HS1 HX H1 H2 HLE HF v0 hbd jd K hK
 refine (l25Own_any A n c lo hi f I H S P v0 (HS1.out.below hbd) hn hnc hnone).mono ?_
 rintro e v1 ⟨A', c', rfl, hc', _, hown, hbn⟩
 have hr2 := rowC (rowC H2.out hbd) hbn
 refine z240 ?_
 intro hHeld2 jd
 clear hK K hHeld2
 refine tj 5 8 HF rfl jd ?_
 refine wS0 6 g2 (cB A' n c' I H S P D Q z) 35 infoConE (hr2) (fun w' hg' => grow_trans jd hg') ?ks
 case ks =>
  revert jd
  refine z241 ?_
  intro v3 hh hgw jd
  refine z49 ?_
  refine z242 ?_
  intro HHR hOw hBw
  clear hown hr2 hgw hh jd hbn hbd
  go_wp2
  refine z66 ?_
  refine ret_cell1 Tryz.results41 rfl Tryz.underlying35 HHR.out infoConE rfl ?_
  exact ⟨A', c', rfl, hc', hOw.out, hBw.out⟩
attribute [local go_sem ↓] Go.wp_at_zero Go.wp_at_succ
def joinK (g : Nat → Int) : Nat → ByteArray
 | 0 => ⟨#[]⟩
 | 1 => numB (g 0)
 | k + 2 => (joinK g (k + 1) ++ ⟨#[32]⟩) ++ numB (g (k + 1))
def listB (g : Nat → Int) (n : Nat) : ByteArray := if n = 0 then ⟨#[110, 111, 110, 101]⟩ else joinK g n
theorem joinK_one (g : Nat → Int) : joinK g 1 = numB (g 0) := rfl
theorem joinK_next {g : Nat → Int} {k : Nat} (h : 1 ≤ k) : joinK g (k + 1) = (joinK g k ++ ⟨#[32]⟩) ++ numB (g k) := by
 obtain ⟨m, rfl⟩ : ∃ m, k = m + 1 := ⟨k - 1, by omega⟩
 rfl
theorem joinK_size {g : Nat → Int} {n : Nat} (hg : ∀ j, j < n → 0 ≤ g j ∧ g j ≤ 999999) : ∀ k, k ≤ n → (joinK g k).size ≤ 22 * k
 | 0, _ => Nat.le_refl _
 | 1, h => by
  have := hg 0 (by omega)
  have := numB_size (n := g 0) (by omega) (by omega)
  rw [joinK_one]
  omega
 | k + 2, h => by
  have ih := joinK_size hg (k + 1) (by omega)
  have := hg (k + 1) (by omega)
  have := numB_size (n := g (k + 1)) (by omega) (by omega)
  rw [joinK_next (by omega)]
  refine z18 ?_
  omega
theorem joinTail_snoc (sep : List UInt8) (r : List (List UInt8)) (y : List UInt8) : Lib.joinTail sep (r ++ [y]) = Lib.joinTail sep r ++ sep ++ y := by simp [Lib.joinTail, List.append_assoc]
theorem join_joinK (g : Nat → Int) : ∀ k, 1 ≤ k → Lib.join ((List.range k).map fun j => (numB (g j)).data.toList) [32] = (joinK g k).data.toList
 | 1, _ => by simp [List.range_succ, Lib.join_one, joinK_one]
 | k + 2, _ => by
  have ih := join_joinK g (k + 1) (by omega)
  rw [joinK_next (by omega), Joins.data_append, Joins.data_append, ← ih, List.range_succ, List.map_append, List.map_cons, List.map_nil]
  have h0 : List.range (k + 1) = 0 :: (List.range k).map Nat.succ := List.range_succ_eq_map
  rw [h0, List.map_cons, List.cons_append, Lib.join_cons, Lib.join_cons, joinTail_snoc, List.append_assoc, List.append_assoc, List.append_assoc]
def FillS (w : World) (B n k : Nat) (g : Nat → Int) : Prop := ∃ cur : Array Value, w.heap[B]? = some (.cells cur 9 (0, 0)) ∧ cur.size = n ∧ ∀ j, j < k → cur[j]? = some (.string (numB (g j)))
theorem FillS.cell {w : World} {B n k : Nat} {g : Nat → Int} (h : FillS w B n k g) {i : Nat} (hi : i < n) : (∃ v, cE w B i v) ∧ w.frozen? ⟨B, i, none⟩ = false := by
 obtain ⟨cur, h1, h2, h3⟩ := h
 refine ⟨⟨cur[i]'(by omega), ?_⟩, frozen_of_row w B i _ _ h1⟩
 rw [cell_of_row w B i cur _ (0, 0) h1]
 exact Array.getElem?_eq_getElem (by omega)
theorem FillS.at {w : World} {B n k : Nat} {g : Nat → Int} (h : FillS w B n k g) {i : Nat} (hi : i < k) : cE w B i (.string (numB (g i))) := by
 obtain ⟨cur, h1, h2, h3⟩ := h
 rw [cell_of_row w B i cur _ (0, 0) h1]
 exact h3 i hi
theorem FillS.below {w w' : World} {B n k : Nat} {g : Nat → Int} (h : FillS w B n k g) (hb : bW w w') : FillS w' B n k g := by
 obtain ⟨cur, h1, h2, h3⟩ := h
 exact ⟨cur, (hb.block B (gL h1)).trans h1, h2, h3⟩
theorem FillS.lt {w : World} {B n k : Nat} {g : Nat → Int} (h : FillS w B n k g) : B < w.heap.size := by
 obtain ⟨cur, h1, _⟩ := h
 exact (gL h1)
theorem FillS.push {w : World} {B n k : Nat} {g : Nat → Int} (h : FillS w B n k g) (hk : k < n) : FillS (w.setCell ⟨B, k, none⟩ (.string (numB (g k)))) B n (k + 1) g := by
 obtain ⟨cur, h1, h2, h3⟩ := h
 refine ⟨cur.setIfInBounds k (.string (numB (g k))), by simp [World.setCell, Array.getElem?_modify, h1], by simpa using h2, fun j hj => ?_⟩
 rw [Array.getElem?_setIfInBounds]
 by_cases hkj : k = j
 ·subst hkj; simp; omega
 ·rw [if_neg hkj]; exact h3 j (by omega)
theorem decimals_any (A : Option Addr) (n c lo hi : Nat) (g : Nat → Int) (w : World) (hs : Sl w lo hi 1 A n g) (hn : n ≤ 1000) (hnc : n ≤ c) (hg : ∀ j, j < n → 0 ≤ g j ∧ g j ≤ 999999) (ht : Tab w) (hn1 : 1 ≤ n) :
  Calls Tryz.prog 171 #[.slice A n c, .string ⟨#[32]⟩] w fun e w' => e = .returned (.string (joinK g n)) ∧ bW w w' := by
 obtain ⟨i, hi, hz0, hz1, hz2⟩ := info_parts infoStr
 have HS := lh hs
 have HT := lh ht
 have hn0 : (0 : Int) ≤ (n : Int) := by omega
 clear hs ht
 go_enter Tryz.func171, Tryz.ntmps171
 go_wp2_with (at_make; refine wpList_make_row _ rfl _ _ 42 rfl 9 i (.string ⟨#[]⟩) Tryz.underlying42 hi hz0 hz1 rfl .i64 .i64 n rfl rfl (by rw [hz2]; omega) (by omega) ?_)
 go_upto_region 2 with fail
 refine z161 ?_
 intro w1 hw1
 have hb1 : bW w w1 := by rw [hw1]; exact (Below.refl _ w).alloc nL _
 have hf1 : FillS w1 w.heap.size n 0 g := by
  rw [hw1]
  exact ⟨_, heap_alloc_new w _, by simp [size_madeCells], fun j hj => absurd hj (by omega)⟩
 clear hw1
 obtain ⟨B, hB⟩ : ∃ B, w.heap.size = B := ⟨_, rfl⟩
 rw [hB] at hf1
 try rw [hB]
 have HF1 := lh hf1
 have HB1 := lh hb1
 have HBs := lh hB
 clear hf1 hb1 hB
 go_wp2_with fail
 go_loopw [13] (fun kv wr => ∃ k : Nat, k ≤ n ∧ kv = .int .i64 k ∧ FillS wr B n k g ∧ bW w wr) (fun kv _ => n - (intOf kv).toNat)
 case atStart => exact ⟨0, Nat.zero_le _, rfl, HF1.out, HB1.out⟩
 case round =>
  obtain ⟨k, hk, rfl, hf, hB⟩ := hrel
  by_cases hlt : k < n
  ·have hki : (k : Int) < (n : Int) := by omega
   refine z236 ?_
   intro hk0
   obtain ⟨b1, o1, eA, _, hb1, hc⟩ := (HS.out.below hB).here (by omega)
   have d0 := hc (k * 1) (by omega)
   rw [Nat.mul_one] at d0
   have h9 := hg k hlt
   subst eA
   have HF := lh hf
   have HB := lh hB
   have hz := numB_size (n := g k) (by omega) (by omega)
   clear hf hB hc
   go_wp2_with fail
   refine (decimal_any (g k) (by omega) (by omega) wr (HT.out.below HB.out)).mono ?_
   rintro e w2 ⟨rfl, hb2⟩
   have hf2 := HF.out.below hb2
   have hB2 := HB.out.trans (hb2.mono HB.out.size)
   obtain ⟨⟨v0, e0⟩, f0⟩ := hf2.cell hlt
   have hp := lh (hf2.push hlt)
   have hBs := lh (hB2.setCell (p := ⟨B, k, none⟩) (by have := HBs.out; show w.heap.size ≤ B; omega) (.string (numB (g k))))
   clear hf2 hB2 hb2 d0
   go_wp2_with fail
   go_roundw
   case rel => exact ⟨k + 1, by omega, by go_num, hp.out, hBs.out⟩
   case measure => simp [intOf]; omega
  ·obtain rfl : k = n := by omega
   refine z177 ?_
   intro hki
   have hl := hf.lt
   have hjs := joinK_size hg k nL
   have hjl : (Lib.join (((List.range k).map fun j => numB (g j)).map (·.data.toList)) [32]).length ≤ 140737488355328 := by
    rw [List.map_map]
    have e := join_joinK g k hn1
    rw [show ((fun x : ByteArray => x.data.toList) ∘ fun j => numB (g j)) = fun j => (numB (g j)).data.toList from rfl, e, size_list]
    omega
   have hJ := Tryz.strings_Join B 0 k ((List.range k).map fun j => numB (g j)) ⟨#[32]⟩ wr (fun j x hx => by
    rw [List.getElem?_map] at hx
    by_cases hj : j < k
    ·rw [List.getElem?_range hj] at hx
     simp only [Option.map_some, Option.some.injEq] at hx
     rw [← hx, Nat.zero_add]
     exact hf.at hj
    ·rw [List.getElem?_eq_none (by simp; omega)] at hx
     cases hx) hl (by simp; omega) (by simp) hjl
   have hres : Hid ((⟨(Lib.join (((List.range k).map fun j => numB (g j)).map (·.data.toList)) (ByteArray.mk #[32]).data.toList).toArray⟩ : ByteArray) = joinK g k) := by
    show _ = _
    rw [List.map_map]
    have e := join_joinK g k hn1
    rw [show ((fun x : ByteArray => x.data.toList) ∘ fun j => numB (g j)) = fun j => (numB (g j)).data.toList from rfl, show (ByteArray.mk #[32]).data.toList = [32] from rfl, e]
   rw [List.length_map, List.length_range, hres.out] at hJ
   have HJ := lh hJ
   have HB := lh hB
   clear hJ hf hB hjl hres
   go_wp2_with fail
   refine HJ.out.mono ?_
   rintro e w2 ⟨rfl, hb2⟩
   go_wp2
   go_ret
   exact ⟨rfl, HB.out.trans (hb2.mono HB.out.size)⟩
theorem listText_any (A : Option Addr) (n c lo hi : Nat) (g : Nat → Int) (w : World) (hs : Sl w lo hi 1 A n g) (hn : n ≤ 1000) (hnc : n ≤ c) (hg : ∀ j, j < n → 0 ≤ g j ∧ g j ≤ 999999) (ht : Tab w) :
  Calls Tryz.prog 141 #[.slice A n c] w fun e w' => e = .returned (.string (listB g n)) ∧ bW w w' := by
 by_cases h0 : n = 0
 ·subst h0
  go_enter Tryz.func141, Tryz.ntmps141
  go_wp2_with fail
  go_ret
  exact ⟨rfl, Below.refl _ _⟩
 ·have hne : ((n : Int) == 0) = false := by simp; omega
  have hl : Hid (listB g n = joinK g n) := by show _ = _; rw [listB, if_neg h0]
  go_enter Tryz.func141, Tryz.ntmps141
  go_wp2_with fail
  refine (decimals_any A n c lo hi g w hs hn hnc hg ht (by omega)).mono ?_
  rintro e w1 ⟨rfl, hb⟩
  go_wp2
  go_ret
  exact ⟨by rw [hl.out]; rfl, hb⟩
theorem l28List_any (A : Option Addr) (n c lo hi : Nat) (g : Nat → Int) (w : World) (hs : Sl w lo hi 1 A n g) (hn : n ≤ 1000) (hnc : n ≤ c) (hg : ∀ j, j < n → 0 ≤ g j ∧ g j ≤ 999999) :
  Calls Tryz.prog 129 #[.slice A n c, .bool true] w fun e w' => e = .returned (.string (listB g n)) ∧ bW w w' := by
 by_cases h0 : n = 0
 ·subst h0
  go_enter Tryz.func129, Tryz.ntmps129
  go_wp2_with fail
  go_ret
  exact ⟨rfl, Below.refl _ _⟩
 have hne : ((n : Int) == 0) = false := by simp; omega
 have hl : Hid (listB g n = joinK g n) := by show _ = _; rw [listB, if_neg h0]
 have HS := lh hs
 obtain ⟨b1, o1, eA, _, hb1, hc⟩ := hs.here (by omega)
 have d0 := hc (0 * 1) (by omega)
 simp only [Nat.zero_mul, Nat.add_zero] at d0
 have h9 := hg 0 (by omega)
 have h1i : (0 : Int) < (n : Int) := by omega
 subst eA
 clear hs hc
 go_enter Tryz.func129, Tryz.ntmps129
 go_wp2_with fail
 refine (l1Num_any (g 0) (by omega) (by omega) w).mono ?_
 rintro e w1 ⟨rfl, hb⟩
 have HB := lh hb
 clear hb d0
 go_wp2_with fail
 go_loopw [5, 6] (fun tv kv wr => ∃ k : Nat, 1 ≤ k ∧ k ≤ n ∧ kv = .int .i64 k ∧ tv = .string (joinK g k) ∧ bW w wr) (fun _ kv _ => n - (intOf kv).toNat)
 case atStart => exact ⟨1, Nat.le_refl _, by omega, rfl, rfl, HB.out⟩
 case round =>
  obtain ⟨k, hk1, hk, rfl, rfl, hB⟩ := hrel
  by_cases hlt : k < n
  ·have hki : (k : Int) < (n : Int) := by omega
   refine z236 ?_
   intro hk0
   obtain ⟨b2, o2, eA, _, hb2, hc⟩ := (HS.out.below hB).here (by omega)
   simp only [Option.some.injEq, Addr.mk.injEq, and_true] at eA
   obtain ⟨rfl, rfl⟩ := eA
   have d0 := hc (k * 1) (by omega)
   rw [Nat.mul_one] at d0
   have h9 := hg k hlt
   have hjs := joinK_size hg k (by omega)
   have hz := numB_size (n := g k) (by omega) (by omega)
   have hnx := lh (joinK_next (g := g) hk1)
   have HBk := lh hB
   clear hc hB
   go_wp2_with fail
   refine (l1Num_any (g k) (by omega) (by omega) wr).mono ?_
   rintro e w2 ⟨rfl, hb⟩
   have HB2 := lh (HBk.out.trans (hb.mono HBk.out.size))
   clear hb d0
   go_wp2
   go_roundw
   case rel => exact ⟨k + 1, by omega, by omega, by go_num, by rw [hnx.out], HB2.out⟩
   case measure => simp [intOf]; omega
  ·obtain rfl : k = n := by omega
   refine z177 ?_
   intro hki
   have HBk := lh hB
   clear hB
   go_wp2_with fail
   go_ret
   exact ⟨by rw [hl.out]; rfl, HBk.out⟩
end Go.Proofs.YtpndjhelpoenpaaGreatDoor
namespace Go.Proofs.YtpndjhelpoenpaaGreatDoor
open Go.RowKit
def cutL (c : UInt8) : List UInt8 → List (List UInt8)
 | [] => [[]]
 | b :: l => if b = c then [] :: cutL c l else match cutL c l with
  | [] => [[b]]
  | x :: r => (b :: x) :: r
theorem cutL_none {c : UInt8} : ∀ {l : List UInt8}, c ∉ l → cutL c l = [l]
 | [], _ => rfl
 | b :: l, h => by
  have h1 : b ≠ c := fun e => h (by simp [e])
  have h2 : c ∉ l := fun e => h (by simp [e])
  simp only [cutL, if_neg h1, cutL_none h2]
theorem cutL_hit {c : UInt8} {r : List UInt8} : ∀ {a : List UInt8}, c ∉ a → cutL c (a ++ c :: r) = a :: cutL c r
 | [], _ => by simp [cutL]
 | b :: a, h => by
  have h1 : b ≠ c := fun e => h (by simp [e])
  have h2 : c ∉ a := fun e => h (by simp [e])
  simp only [List.cons_append, cutL, if_neg h1, cutL_hit h2]
theorem cutL_pos (c : UInt8) : ∀ l, 1 ≤ (cutL c l).length
 | [] => Nat.le_refl _
 | b :: l => by
  unfold cutL
  split
  ·simp
  ·split <;> simp
theorem cutL_le (c : UInt8) : ∀ l, (cutL c l).length ≤ l.length + 1
 | [] => Nat.le_refl _
 | b :: l => by
  have ih := cutL_le c l
  unfold cutL
  split
  ·simp only [List.length_cons]; omega
  ·split
   ·simp
   ·next x r e => rw [e] at ih; simp only [List.length_cons] at ih ⊢; omega
theorem splitK_cut (c : UInt8) : ∀ l : List UInt8, Lib.splitK [c] 0 (Lib.count l [c]) l = cutL c l
 | [] => by rw [Lib.count_miss (by simp [Lib.index])]; rfl
 | b :: l => by
  have ih := splitK_cut c l
  by_cases h : b = c
  ·subst h
   have hix : Lib.index (b :: l) [b] = ((0 : Nat) : Int) := by rw [Lib.index]; simp [List.isPrefixOf]
   rw [Lib.count_cons_eq, Nat.add_comm, Lib.splitK, if_neg (by rw [hix]; decide), hix]
   simp [cutL, ih]
  ·have hp : ([c] : List UInt8).isPrefixOf (b :: l) = false := by simp [List.isPrefixOf, Ne.symm h]
   have hix : Lib.index (b :: l) [c] = if Lib.index l [c] == -1 then -1 else Lib.index l [c] + 1 := by rw [Lib.index, hp]; simp
   rw [Lib.count_cons_ne b c l h]
   by_cases hm : Lib.index l [c] = -1
   ·rw [Lib.count_miss hm] at ih ⊢
    simp only [Lib.splitK] at ih ⊢
    simp only [cutL, if_neg h, ← ih]
   ·have hge := Lib.index_ge l [c]
    obtain ⟨j, hj⟩ : ∃ j : Nat, Lib.index l [c] = j := ⟨(Lib.index l [c]).toNat, by omega⟩
    have hix' : Lib.index (b :: l) [c] = ((j + 1 : Nat) : Int) := by rw [hix, if_neg (fun e => hm (beq_iff_eq.1 e)), hj]; omega
    rw [Lib.count_hit (by simp) hj] at ih ⊢
    generalize Lib.count (l.drop (j + [c].length)) [c] = k at ih ⊢
    have n1 : ¬ (Lib.index l [c] == -1) = true := fun e => hm (beq_iff_eq.1 e)
    have n2 : ¬ (Lib.index (b :: l) [c] == -1) = true := fun e => by have := beq_iff_eq.1 e; omega
    rw [Nat.add_comm, Lib.splitK, if_neg n1, hj] at ih
    rw [Nat.add_comm, Lib.splitK, if_neg n2, hix']
    simp only [cutL, if_neg h, ← ih]
    simp
def wordsV (c : UInt8) (s : ByteArray) : List ByteArray := (cutL c s.data.toList).map fun l => (⟨l.toArray⟩ : ByteArray)
theorem words_of {c : UInt8} {s : ByteArray} {P : List ByteArray} (h : P.map (·.data.toList) = cutL c s.data.toList) : P = wordsV c s := by
 unfold wordsV
 rw [← h, List.map_map]
 have : ∀ Q : List ByteArray, Q = Q.map ((fun l => (⟨l.toArray⟩ : ByteArray)) ∘ fun x => x.data.toList) := by
  intro Q
  induction Q with
  | nil => rfl
  | cons x Q ih => rw [List.map_cons, ← ih]; simp
 exact this P
theorem splitB_words (c : UInt8) (s : ByteArray) : Lib.splitB ⟨#[c]⟩ 0 (Lib.countB s ⟨#[c]⟩) s = wordsV c s := by
 refine words_of ?_
 rw [Lib.splitB_data]
 exact splitK_cut c s.data.toList
theorem countB_words (c : UInt8) (s : ByteArray) : Lib.countB s ⟨#[c]⟩ + 1 = (wordsV c s).length := by
 rw [← splitB_words, Lib.splitB_all ⟨#[c]⟩ (by simp [ByteArray.size]) 0 _ s rfl]
theorem wordsV_pos (c : UInt8) (s : ByteArray) : 1 ≤ (wordsV c s).length := by
 unfold wordsV
 rw [List.length_map]
 exact cutL_pos _ _
theorem wordsV_le (c : UInt8) (s : ByteArray) : (wordsV c s).length ≤ s.size + 1 := by
 unfold wordsV
 rw [List.length_map]
 exact cutL_le _ _
theorem cutL_size {c : UInt8} : ∀ {l x : List UInt8}, x ∈ cutL c l → x.length ≤ l.length
 | [], x, h => by simp [cutL] at h; subst h; simp
 | b :: l, x, h => by
  unfold cutL at h
  split at h
  ·rcases List.mem_cons.1 h with rfl | h
   ·simp
   ·have := cutL_size h; simp only [List.length_cons]; omega
  ·split at h
   ·simp at h; subst h; simp
   ·next y r e =>
    rcases List.mem_cons.1 h with rfl | h
    ·have := cutL_size (c := c) (l := l) (x := y) (by rw [e]; simp); simp only [List.length_cons]; omega
    ·have := cutL_size (c := c) (l := l) (x := x) (by rw [e]; simp [h]); simp only [List.length_cons]; omega
theorem wordsV_size {c : UInt8} {s x : ByteArray} (h : x ∈ wordsV c s) : x.size ≤ s.size := by
 unfold wordsV at h
 obtain ⟨l, hl, rfl⟩ := List.mem_map.1 h
 have h := cutL_size hl
 rw [size_list] at h
 have e : (⟨l.toArray⟩ : ByteArray).size = l.length := by rw [← size_list]
 omega
theorem wordsV_none {c : UInt8} {s : ByteArray} (h : (wordsV c s).length = 1) : wordsV c s = [s] := by
 by_cases hm : c ∈ s.data.toList
 ·exfalso
  obtain ⟨a, r, e, ha⟩ : ∃ a r, s.data.toList = a ++ c :: r ∧ c ∉ a := by
   obtain ⟨a, r, h1, h2⟩ := List.eq_append_cons_of_mem hm
   exact ⟨a, r, h1, h2⟩
  unfold wordsV at h
  rw [List.length_map, e, cutL_hit ha, List.length_cons] at h
  have := cutL_pos c r
  omega
 ·refine (words_of ?_).symm
  rw [cutL_none hm]
  rfl
def SPW (s : ByteArray) (c : UInt8) (k F : Nat) (P : List ByteArray) : Prop :=
 cutL c s.data.toList = P.map (·.data.toList) ++ cutL c (s.data.toList.drop F) ∧ F ≤ k ∧ ∀ j, F ≤ j → j < k → byteAt s j ≠ c
theorem byte_at {s : ByteArray} {j : Nat} (h : j < s.size) : s.data.toList[j]? = some (byteAt s j) := by
 have h' : j < s.data.toList.length := by rw [size_list]; exact h
 rw [List.getElem?_eq_getElem h']
 unfold byteAt
 rw [getD_lt h']
theorem not_in_part {s : ByteArray} {c : UInt8} {F k : Nat} (hk : k ≤ s.size) (h : ∀ j, F ≤ j → j < k → byteAt s j ≠ c) : c ∉ (s.data.toList.drop F).take (k - F) := by
 intro hm
 obtain ⟨j, hj, e⟩ := List.getElem_of_mem hm
 rw [List.length_take, List.length_drop] at hj
 rw [List.getElem_take, List.getElem_drop] at e
 have h1 : s.data.toList[F + j]? = some (byteAt s (F + j)) := byte_at (by omega)
 rw [List.getElem?_eq_getElem (by have := size_list s; omega)] at h1
 exact h (F + j) (by omega) (by omega) ((Option.some.inj h1).symm.trans e)
theorem SPW.start (s : ByteArray) (c : UInt8) : SPW s c 0 0 [] := ⟨by simp, Nat.le_refl _, fun j h1 h2 => absurd h2 (by omega)⟩
theorem SPW.next {s : ByteArray} {c : UInt8} {k F : Nat} {P : List ByteArray} (h : SPW s c k F P) (hb : byteAt s k ≠ c) : SPW s c (k + 1) F P :=
 ⟨h.1, by have := h.2.1; omega, fun j h1 h2 => by
  by_cases e : j = k
  ·rw [e]; exact hb
  ·exact h.2.2 j h1 (by omega)⟩
theorem SPW.hit {s : ByteArray} {c : UInt8} {k F : Nat} {P : List ByteArray} (h : SPW s c k F P) (hk : k < s.size) (hb : byteAt s k = c) : SPW s c (k + 1) (k + 1) (P ++ [s.extract F k]) := by
 obtain ⟨h1, h2, h3⟩ := h
 refine ⟨?_, Nat.le_refl _, fun j a b => absurd b (by omega)⟩
 have hn := not_in_part (by omega) h3
 have hl := size_list s
 have e : s.data.toList.drop F = (s.data.toList.drop F).take (k - F) ++ c :: s.data.toList.drop (k + 1) := by
  have e1 := (List.take_append_drop (k - F) (s.data.toList.drop F)).symm
  rw [List.drop_drop, show F + (k - F) = k by omega] at e1
  have e2 : s.data.toList.drop k = c :: s.data.toList.drop (k + 1) := by
   have hb2 := byte_at hk
   rw [hb] at hb2
   rw [List.drop_eq_getElem_cons (by omega)]
   rw [List.getElem?_eq_getElem (by omega)] at hb2
   rw [Option.some.inj hb2]
  rw [e2] at e1
  exact e1
 rw [h1, e, cutL_hit hn, List.map_append, List.map_cons, List.map_nil, List.append_assoc, List.singleton_append, Lib.extract_data]
theorem SPW.fin {s : ByteArray} {c : UInt8} {F : Nat} {P : List ByteArray} (h : SPW s c s.size F P) : P ++ [s.extract F s.size] = wordsV c s := by
 obtain ⟨h1, h2, h3⟩ := h
 refine words_of ?_
 have hn := not_in_part nL h3
 have hl := size_list s
 rw [List.take_of_length_le (by rw [List.length_drop]; omega)] at hn
 rw [h1, cutL_none hn, List.map_append, List.map_cons, List.map_nil, Lib.extract_data, List.take_of_length_le (by rw [List.length_drop]; omega)]
end Go.Proofs.YtpndjhelpoenpaaGreatDoor
