/-
  Texts of this claim, merged.
-/
import Derived.Test.YtpndjhelpoenpaaGreatDoorXA15
set_option linter.unusedVariables false
set_option linter.unusedSimpArgs false
set_option maxRecDepth 100000
set_option maxHeartbeats 8000000
namespace Go.Proofs.YtpndjhelpoenpaaGreatDoor
open Go.RowKit Go.Sort
attribute [local go_sem ↓] Go.wp_at_zero Go.wp_at_succ
def BoxRow (w : World) (lo g ga n c' : Nat) (L : List Int) (I H S P : Int) : Prop :=
 w.heap[g]? = some (.cells (wB (some ⟨ga, 0, none⟩) n c' I H S P) 32 (0, 0)) ∧ w.ownsRow lo 97 4 (.slice (some ⟨ga, 0, none⟩) n c') n (L.map (Value.int .i64))
theorem infoIntS : (Tryz.prog.info? 3).map (·.size) = some 1 := by exact z12
theorem putRow_one (cur : Array Value) (o : Nat) (a : Value) (h : o + 1 ≤ cur.size) : putRow cur o #[a] = cur.setIfInBounds o a := by
 apply Array.ext'
 simp only [putRow, Array.toList_setIfInBounds]
 apply List.ext_getElem?
 intro j
 have hl : (cur.toList.take o).length = o := by simp; omega
 simp only [List.getElem?_set, Array.length_toList]
 by_cases h1 : j < o
 ·rw [List.append_assoc, List.getElem?_append_left (by omega), List.getElem?_take_of_lt h1, if_neg (by omega)]
 ·rw [List.append_assoc, List.getElem?_append_right (by omega), hl]
  by_cases h2 : j = o
  ·subst h2
   rw [if_pos rfl, if_pos (by omega)]
   simp
  ·rw [List.getElem?_append_right (by simp; omega), if_neg (by omega), List.getElem?_drop]
   congr 1
   simp
   omega
theorem row_open1 {w : World} {base k n c g : Nat} {e : TypeId} {xs : List Value} (h : w.ownsRow base e k (.slice (some ⟨g, 0, none⟩) n c) n xs) : ∃ cur, w.heap[g]? = some (.cells cur e (0, 0)) ∧ n * k ≤ cur.size ∧
  ∀ (w' : World) (j : Nat) (u : Value), w'.heap[g]? = some (.cells (cur.setIfInBounds j u) e (0, 0)) → w'.ownsRow base e k (.slice (some ⟨g, 0, none⟩) n c) n (xs.set j u) := by
 rcases h.2 with ⟨h', _⟩ | ⟨g', cap', cur, h', hb, hg, hnc, hcm, hcs, htake⟩
 ·cases h'
 ·cases h'
  refine ⟨cur, hg, by rw [hcs]; exact Nat.mul_le_mul_right k hnc, fun w' j u hw => ⟨by simpa using h.1, .inr ⟨g, c, _, rfl, hb, hw, hnc, hcm, by simpa using hcs, ?_⟩⟩⟩
  rw [Array.toList_setIfInBounds, ← htake, List.take_set]
theorem cellsL_congr {f g : Nat → Int} {n : Nat} (h : ∀ j, j < n * 4 → f j = g j) : cellsL f n = cellsL g n := by
 unfold cellsL
 exact List.map_congr_left (fun j hj => h j (List.mem_range.1 hj))
theorem dryL (f : Nat → Int) (n i : Nat) (hi : i < n) (z : Int) : cellsL (setB f i (wrap64 (f (i * 4 + 2) - z)) (f (i * 4 + 3))) n = cellsL (upd f (i * 4 + 2) (wrap64 (f (i * 4 + 2) - z))) n := by
 apply cellsL_congr
 intro j _
 simp only [setB, upd]
 by_cases h : j = i * 4 + 3 <;> simp [h]
theorem rakeL (f : Nat → Int) (n i : Nat) (hi : i < n) (z : Int) : cellsL (setB f i (f (i * 4 + 2)) (wrap64 (f (i * 4 + 3) - z))) n = cellsL (upd f (i * 4 + 2 + 1) (wrap64 (f (i * 4 + 3) - z))) n := by
 apply cellsL_congr
 intro j _
 simp only [setB, upd]
 by_cases h : j = i * 4 + 2
 ·subst h; simp
 ·simp [h]
theorem plus_any (wa sa wb sb : Int) (w : World) :
  Calls Tryz.prog 197 #[.agg (jV wa sa), .agg (jV wb sb)] w fun e w' => e = .returned (.agg (jV (wrap64 (wa + wb)) (wrap64 (sa + sb)))) ∧ bW w w' := by
 go_enter Tryz.func197, Tryz.ntmps197
 exact z190
theorem minus_any (wa sa wb sb : Int) (w : World) :
  Calls Tryz.prog 199 #[.agg (jV wa sa), .agg (jV wb sb)] w fun e w' => e = .returned (.agg (jV (wrap64 (wa - wb)) (wrap64 (sa - sb)))) ∧ bW w w' := by
 go_enter Tryz.func199, Tryz.ntmps199
 exact z190
theorem part_any (wt s z : Int) (w : World) (hz : z ≠ 0) (hm : massV wt s ≠ 0) :
  Calls Tryz.prog 198 #[.agg (jV wt s), .int .i64 z] w fun e w' => e = .returned (.agg (jV (wrap64 (z - (partV wt s z))) (partV wt s z))) ∧ bW w w' := by
 refine z195 ?_
 intro HF HV
 go_enter Tryz.func198, Tryz.ntmps198
 have hz0 : (z == 0) = false := by simp [hz]
 go_wp2_with fail
 refine wp_region_held_drew (S := fun w' => bW (((w.alloc (.cells (jV wt s) 95)).alloc (.cells (jV 0 0) 95))) w') (by exact z12) ((Below.refl _ _).drew) (fun jd => ?_)
 refine tj4 0 9 1 10 2 11 3 12 HF jd ?_
 refine tj 4 13 HF rfl jd ?_
 refine wpAnyH_ready (rs := [5]) (by exact z12) (by simp) ?_
 refine z44 ?_
 intro K hK
 (go_at_call 121; refine (mass_any _ _ _).mono ?_; rintro e w2 ⟨rfl, hb2⟩)
 revert K hK hb2
 refine z45 ?_
 intro jd
 refine tj2 6 15 7 5 HF jd ?_
 refine z49 ?_
 revert HF HV jd
 refine z196 ?_
 intro r0 r1 f0 f1 BX sv HV
 go_wp2
 refine z197 ?_
 intro wq q0 q1 hBq
 refine z66 ?_
 refine bodyPost_ret (by simp [results, Tryz.results198, go_sem, q0, q1]; try rfl) rfl ?_
 rw [← HV.out]
 exact ⟨rfl, hBq⟩
theorem stepPan_take (g ga lo n c' : Nat) (f : Nat → Int) (I H S P : Int) (id tt0 z : Int) (i : Nat) (hi' : i < n) (hn : n ≤ 1000) (w : World) (hg : w.heap[g]? = some (.cells (wB (some ⟨ga, 0, none⟩) n c' I H S P) 32 (0, 0))) (hO : w.ownsRow lo 97 4 (.slice (some ⟨ga, 0, none⟩) n c') n ((cellsL f n).map (Value.int .i64))) (hlo : lo ≤ g) :
  Calls Tryz.prog 169 #[.pointer (some ⟨g, 0, none⟩), .int .i64 i, .agg (iV 2 id tt0 z)] w (fun e w' => e = .returned (.bool true) ∧ (true = true → BoxRow w' lo g ga n c' (cellsL (setB f i (wrap64 (f (i * 4 + 2) + wrap64 (z - takeV z))) (wrap64 (f (i * 4 + 3) + takeV z))) n) (wrap64 (I + takeV z)) H S P) ∧ Below lo w w') := by
 refine z217 ?_
 intro nga lg lga hnc hncI hi0 hin
 go_upto_region 1 with fail
 revert hg hO lg lga
 refine z218 ?_
 intro w1 lg1 lw1 s ls1 lga lg ngs nsg nas nsa nga' hles HS0 s0 s1 s2 s3 e0 e1 e2 e3 e4 ef a2 a3 af HG1 HO1 HB1
 have HBS := HB1
 go_wp2_with fail
 generalize hsv : wrap64 ((wrap64 (z * 35)).tdiv 1000) = sv at *
 have HSV : Hid (takeV z = sv) := hsv
 clear hsv
 obtain ⟨cur, hcur, hcs, hput⟩ := row_open HO1.out
 have hfit : i * 4 + 2 + 2 ≤ cur.size := by omega
 refine z219 ?_
 intro HF
 refine wp_region_held_drew (S := fun w' => w1.grownBy w' (some ga)) (by exact z12) ⟨rfl, rfl, rfl, Nat.le_refl _, fun _ _ _ => rfl⟩ (fun jd => ?_)
 refine tj4 0 26 1 27 5 31 7 33 HF jd ?_
 refine tj4 9 35 2 28 6 32 3 29 HF jd ?_
 refine tj2 8 34 10 36 HF jd ?_
 refine z113 ?_
 refine z44 ?_
 intro K hK
 refine hK.out _ _ jd (fun jd => ?_)
 clear hK K
 refine wpAnyH_job (fuel := 3) (i := 11) (d := 37) (skip := []) (Post := fun v _ => v = (.agg (jV (wrap64 (f (i * 4 + 2) + wrap64 (z - sv))) (wrap64 (f (i * 4 + 3) + sv))))) rfl rfl (by exact z12) ?jt but_stays jd ?nt
 case jt =>
  intro a' w1' K hev hb hK
  have h1 : a'.eval (.tmp 30) = .agg (jV (f (i * 4 + 2)) (f (i * 4 + 3))) := (hev 30 (by decide)).trans rfl
  have h2 : a'.tmps[30]?.getD undef = .agg (jV (f (i * 4 + 2)) (f (i * 4 + 3))) := by simpa [Act.eval] using h1
  have h3 : a'.eval (.tmp 36) = .agg (jV (IntKind.i64.wrap (z - sv)) sv) := (hev 36 (by decide)).trans rfl
  rw [IntWalk.i64_left] at h3
  have h4 : a'.tmps[36]?.getD undef = .agg (jV (wrap64 (z - sv)) sv) := by simpa [Act.eval] using h3
  have HK := lh hK
  clear hev h1 h3 hK HF
  go_simp
  go_at_call 197
  refine (plus_any _ _ _ _ w1').mono ?_
  exact z163
 case nt =>
 rintro v wl rfl hSl hbl
 refine z15 ?_
 have jd := hSl
 refine tj2 12 38 13 39 HF jd ?_
 refine z199 ?_
 intro hcurl
 refine wpAnyH_store (fuel := 0) (i := 14) rfl (by exact z12) ga (i * 4 + 2) (.agg (jV (wrap64 (f (i * 4 + 2) + wrap64 (z - sv))) (wrap64 (f (i * 4 + 3) + sv)))) 97 cur rfl rfl infoBrine hcurl hfit (by exact z143) (fun w' hg => grown_trans hSl hg) ?ku
 case ku =>
 intro w2 hhw2 hgw2 hSw2
 refine z49 ?_
 rw [show putRow cur (i * 4 + 2) ((.agg (jV (wrap64 (f (i * 4 + 2) + wrap64 (z - sv))) (wrap64 (f (i * 4 + 3) + sv)))) : Value).cells = _ from putRow_two cur _ _ _ hfit] at hhw2
 have hOw2 := hput w2 (i * 4 + 2) _ _ hhw2
 rw [cellsL_set, cellsL_set] at hOw2
 have hg2 := (hSw2.block g (gL HG1.out) (by simp; omega)).trans HG1.out
 have hB2 := HB1.out.grown hSw2 lw1 (fun k hk => by cases hk; omega)
 clear jd HF hSw2 hgw2 hhw2 hSl hbl hcurl hcur hput hcs hfit e0 e1 e2 e3 e4 ef a2 a3 af HO1 HG1 s0 s1 s2 s3
 obtain ⟨e0, e1, e2, e3, e4⟩ := cells5 hg2
 have ef := fz hg2
 have HG2 := lh hg2
 have HO2 := lh hOw2
 have HB2 := lh hB2
 clear hg2 hOw2 hB2
 go_upto_region 7 with fail
 refine z161 ?_
 intro w3 hw3'
 have hw3 : w3 = w2.setCell ⟨g, 1, none⟩ (.int .i64 (wrap64 (I + sv))) := hw3'
 clear hw3' e0 e1 e2 e3 e4 ef
 have hg3 : w3.heap[g]? = some (.cells (wB (some ⟨ga, 0, none⟩) n c' (wrap64 (I + sv)) H S P) 32) := by
  rw [hw3]
  exact heap_setCell_same _ g 1 (wB (some ⟨ga, 0, none⟩) n c' I H S P) 32 _ HG2.out
 have hO3 := ownsRow_setCell_other (a := ⟨g, 1, none⟩) HO2.out (by simp [Value.ownBlock, nga]) (.int .i64 (wrap64 (I + sv)))
 rw [← hw3] at hO3
 have hB3 : Below lo w w3 := by
  rw [hw3]
  exact HB2.out.setCell (p := ⟨g, 1, none⟩) (show lo ≤ g by omega) _
 clear hw3 HG2 HO2 HB2
 go_wp2
 go_ret
 exact ⟨rfl, fun _ => by rw [HSV.out]; exact ⟨hg3, hO3⟩, hB3⟩
theorem stepPan_dry (g ga lo n c' : Nat) (f : Nat → Int) (I H S P : Int) (id tt0 z : Int) (i : Nat) (hi' : i < n) (hn : n ≤ 1000) (w : World) (hg : w.heap[g]? = some (.cells (wB (some ⟨ga, 0, none⟩) n c' I H S P) 32 (0, 0))) (hO : w.ownsRow lo 97 4 (.slice (some ⟨ga, 0, none⟩) n c') n ((cellsL f n).map (Value.int .i64))) (hlo : lo ≤ g) :
  Calls Tryz.prog 169 #[.pointer (some ⟨g, 0, none⟩), .int .i64 i, .agg (iV 4 id tt0 z)] w (fun e w' => e = .returned (.bool true) ∧ (true = true → BoxRow w' lo g ga n c' (cellsL (setB f i (wrap64 (f (i * 4 + 2) - z)) (f (i * 4 + 3))) n) I H S P) ∧ Below lo w w') := by
 refine z217 ?_
 intro nga lg lga hnc hncI hi0 hin
 go_upto_region 1 with fail
 revert hg hO lg lga
 refine z218 ?_
 intro w1 lg1 lw1 s ls1 lga lg ngs nsg nas nsa nga' hles HS0 s0 s1 s2 s3 e0 e1 e2 e3 e4 ef a2 a3 af HG1 HO1 HB1
 obtain ⟨cur, hcur, hcs, hput⟩ := row_open1 HO1.out
 have hfit : i * 4 + 2 + 1 ≤ cur.size := by omega
 refine z219 ?_
 intro HF
 go_wp2_with fail
 refine wp_region_held_drew (S := fun w' => w1.grownBy w' (some ga)) (by exact z12) ⟨rfl, rfl, rfl, Nat.le_refl _, fun _ _ _ => rfl⟩ (fun jd => ?_)
 refine tj4 0 108 5 113 1 109 6 114 HF jd ?_
 refine tj2 2 110 3 111 HF jd ?_
 refine z113 ?_
 refine z44 ?_
 intro K hK
 refine hK.out _ _ jd (fun jd => ?_)
 clear hK K
 refine tj4 7 115 8 116 9 117 10 118 HF jd ?_
 refine wpAnyH_store (fuel := 0) (i := 11) rfl (by exact z12) ga (i * 4 + 2) (.int .i64 (wrap64 (f (i * 4 + 2) - z))) 97 cur rfl (by exact z220) infoIntS hcur hfit (by exact z143) (fun w' hg => grown_trans jd hg) ?kd
 case kd =>
 intro w2 hhw2 hgw2 hSw2
 refine z49 ?_
 have hO2 := hput w2 (i * 4 + 2) (.int .i64 (wrap64 (f (i * 4 + 2) - z))) (by rw [hhw2]; congr 2; exact putRow_one cur _ _ hfit)
 rw [cellsL_set] at hO2
 have hg2 := (hSw2.block g (gL HG1.out) (by simp; omega)).trans HG1.out
 have hB2 := HB1.out.grown hSw2 lw1 (fun k hk => by cases hk; omega)
 clear jd HF hSw2 hgw2 hhw2 hcur hput hcs hfit e0 e1 e2 e3 e4 ef a2 a3 af HO1 HG1 s0 s1 s2 s3
 go_wp2
 go_ret
 exact ⟨rfl, fun _ => ⟨hg2, by rw [dryL f n i hi' z]; exact hO2⟩, hB2⟩
theorem stepPan_rake (g ga lo n c' : Nat) (f : Nat → Int) (I H S P : Int) (id tt0 z : Int) (i : Nat) (hi' : i < n) (hn : n ≤ 1000) (w : World) (hg : w.heap[g]? = some (.cells (wB (some ⟨ga, 0, none⟩) n c' I H S P) 32 (0, 0))) (hO : w.ownsRow lo 97 4 (.slice (some ⟨ga, 0, none⟩) n c') n ((cellsL f n).map (Value.int .i64))) (hlo : lo ≤ g) :
  Calls Tryz.prog 169 #[.pointer (some ⟨g, 0, none⟩), .int .i64 i, .agg (iV 5 id tt0 z)] w (fun e w' => e = .returned (.bool (mayV (f (i * 4 + 2)) (f (i * 4 + 3)))) ∧ ((mayV (f (i * 4 + 2)) (f (i * 4 + 3))) = true → BoxRow w' lo g ga n c' (cellsL (setB f i (f (i * 4 + 2)) (wrap64 (f (i * 4 + 3) - z))) n) I (wrap64 (H + z)) S P) ∧ Below lo w w') := by
 refine z217 ?_
 intro nga lg lga hnc hncI hi0 hin
 go_upto_region 1 with fail
 revert hg hO lg lga
 refine z218 ?_
 intro w1 lg1 lw1 s ls1 lga lg ngs nsg nas nsa nga' hles HS0 s0 s1 s2 s3 e0 e1 e2 e3 e4 ef a2 a3 af HG1 HO1 HB1
 go_wp2_with fail
 refine (mayRake_any _ _ w1).mono ?_
 rintro e w0 ⟨rfl, hb0⟩
 have hg0 := (hb0.block g (gL HG1.out)).trans HG1.out
 have hO0 := ownsRow_below HO1.out hb0
 have lw0 : lo ≤ w0.heap.size := Nat.le_trans lw1 hb0.size
 have hB0 := below_of HB1.out hb0 lw1
 have s30 := kp hb0 s3
 clear e0 e1 e2 e3 e4 ef a2 a3 af HG1 HO1 HB1 s0 s1 s2 s3 hb0
 obtain ⟨e0, e1, e2, e3, e4⟩ := cells5 hg0
 have ef := fz hg0
 have a2 : cI w0 ga (i * 4 + 2) (f (i * 4 + 2)) := by rw [World.ownsRow.cellAt hO0 (i * 4 + 2) (by omega), List.getElem?_map, cellsL_at f n _ (by omega)]; rfl
 have a3 : cI w0 ga (i * 4 + 3) (f (i * 4 + 3)) := by rw [World.ownsRow.cellAt hO0 (i * 4 + 3) (by omega), List.getElem?_map, cellsL_at f n _ (by omega)]; rfl
 have af : ∀ j, w0.frozen? ⟨ga, j, none⟩ = false := fun j => World.ownsRow.frozenAt hO0 j
 have HG1 := lh hg0
 have HO1 := lh hO0
 have HB1 := lh hB0
 clear hg0 hO0 hB0
 obtain ⟨cur, hcur, hcs, hput⟩ := row_open1 HO1.out
 have hfit : i * 4 + 2 + 1 + 1 ≤ cur.size := by omega
 have HF : Hid (∀ w', w0.grownBy w' (some ga) → cI w' s 3 z ∧ cI w' g 1 I) := by
  intro w' hq
  exact ⟨(World.cell?_of_block (a := ⟨s, 3, none⟩) (hq.block _ (World.block_lt_of_cell? _ _ s30) (by simp; omega))).trans s30, (World.cell?_of_block (a := ⟨g, 1, none⟩) (hq.block _ (World.block_lt_of_cell? _ _ e1) (by simp; omega))).trans e1⟩
 go_wp2_with fail
 refine wp_region_held_drew (S := fun w' => w0.grownBy w' (some ga)) (by exact z12) ⟨rfl, rfl, rfl, Nat.le_refl _, fun _ _ _ => rfl⟩ (fun jd => ?_)
 refine tj4 0 126 5 131 1 127 6 132 HF jd ?_
 refine tj2 2 128 3 129 HF jd ?_
 refine z113 ?_
 refine z44 ?_
 intro K hK
 refine hK.out _ _ jd (fun jd => ?_)
 clear hK K
 refine tj4 7 133 8 134 9 135 10 136 HF jd ?_
 refine wpAnyH_store (fuel := 0) (i := 11) rfl (by exact z12) ga (i * 4 + 2 + 1) (.int .i64 (wrap64 (f (i * 4 + 3) - z))) 97 cur rfl (by exact z220) infoIntS hcur hfit (by exact z143) (fun w' hg => grown_trans jd hg) ?kd
 case kd =>
 intro w2 hhw2 hgw2 hSw2
 refine z49 ?_
 have hO2 := hput w2 (i * 4 + 2 + 1) (.int .i64 (wrap64 (f (i * 4 + 3) - z))) (by rw [hhw2]; congr 2; exact putRow_one cur _ _ hfit)
 rw [cellsL_set] at hO2
 have hg2 := (hSw2.block g (gL HG1.out) (by simp; omega)).trans HG1.out
 have hB2 := HB1.out.grown hSw2 lw0 (fun k hk => by cases hk; omega)
 have hgz2 := hSw2.size
 have s32 := (World.cell?_of_block (a := ⟨s, 3, none⟩) (hSw2.block _ (World.block_lt_of_cell? _ _ s30) (by simp; omega))).trans s30
 clear jd HF hSw2 hgw2 hhw2 hcur hput hcs hfit e0 e1 e2 e3 e4 ef a2 a3 af HO1 HG1 s30 HB1
 obtain ⟨e0, e1, e2, e3, e4⟩ := cells5 hg2
 have HF : Hid (∀ w', w2.grownBy w' (some g) → cI w' s 3 z) := by
  intro w' hq
  exact (World.cell?_of_block (a := ⟨s, 3, none⟩) (hq.block _ (World.block_lt_of_cell? _ _ s32) (by simp; omega))).trans s32
 go_wp2_with fail
 refine wp_region_held_drew (S := fun w' => w2.grownBy w' (some g)) (by exact z12) ⟨rfl, rfl, rfl, Nat.le_refl _, fun _ _ _ => rfl⟩ (fun jd => ?_)
 refine tj4 0 137 4 141 1 138 5 142 HF jd ?_
 refine tj 2 139 HF rfl jd ?_
 refine wpAnyH_ready (rs := [3]) (by exact z12) (by simp) ?_
 refine z44 ?_
 intro K hK
 refine hK.out _ _ jd (fun jd => ?_)
 clear hK K
 refine tj3 6 143 7 144 8 145 HF jd ?_
 refine wpAnyH_store (fuel := 0) (i := 9) rfl (by exact z12) g (2) (.int .i64 (wrap64 (H + z))) 32 (wB (some ⟨ga, 0, none⟩) n c' I H S P) rfl (by exact z220) infoIntS hg2 (show 2 + 1 ≤ 5 by omega) (by exact z143) (fun w' hg => grown_trans jd hg) ?kh
 case kh =>
 intro w3 hhw3 hgw3 hSw3
 refine z49 ?_
 have hg3 : w3.heap[g]? = some (.cells (wB (some ⟨ga, 0, none⟩) n c' I (wrap64 (H + z)) S P) 32) := hhw3
 have hO3 := own_other hO2 hg2 (by decide) hSw3
 have hB3 := hB2.grown hSw3 (Nat.le_trans lw0 hgz2) (fun k hk => by cases hk; omega)
 clear jd HF hSw3 hgw3 hhw3 e0 e1 e2 e3 e4 s32
 go_wp2
 go_ret
 exact ⟨rfl, fun _ => ⟨hg3, by rw [rakeL f n i hi' z]; exact hO3⟩, hB3⟩
end Go.Proofs.YtpndjhelpoenpaaGreatDoor
namespace Go.Proofs.YtpndjhelpoenpaaGreatDoor
open Go.RowKit Go.Sort
attribute [local go_sem ↓] Go.wp_at_zero Go.wp_at_succ
theorem setB_far {f : Nat → Int} {i j : Nat} (a b : Int) (_ : True) (h2 : j ≠ i * 4 + 2) (h3 : j ≠ i * 4 + 3) : setB f i a b j = f j := by
 simp [setB, upd, h2, h3]
theorem stepPan_lead_none (g ga lo n c' : Nat) (f : Nat → Int) (I H S P : Int) (id tt0 z : Int) (i : Nat) (hi' : i < n) (hn : n ≤ 1000) (w : World) (hg : w.heap[g]? = some (.cells (wB (some ⟨ga, 0, none⟩) n c' I H S P) 32 (0, 0))) (hO : w.ownsRow lo 97 4 (.slice (some ⟨ga, 0, none⟩) n c') n ((cellsL f n).map (Value.int .i64))) (hlo : lo ≤ g) (hfk : findV (pid f) tt0 n 0 = -1) :
  Calls Tryz.prog 169 #[.pointer (some ⟨g, 0, none⟩), .int .i64 i, .agg (iV 3 id tt0 z)] w (fun e w' => e = .returned (.bool false) ∧ Below lo w w') := by
 refine z217 ?_
 intro nga lg lga hnc hncI hi0 hin
 go_upto_region 1 with fail
 revert hg hO lg lga
 refine z218 ?_
 intro w1 lg1 lw1 s ls1 lga lg ngs nsg nas nsa nga' hles HS0 s0 s1 s2 s3 e0 e1 e2 e3 e4 ef a2 a3 af HG1 HO1 HB1
 refine z221 ?_
 intro HF HSL
 go_wp2_with fail
 revert s0 s1 s2 s3 e0 e1 e2 e3 e4 ef a2 a3 af HG1 HO1 HB1 HF HSL
 refine z222 ?_
 intro jd w2 lw2 s22 s32 e0 e1 e2 e3 e4 ef a2 a3 af HG2 HO2 HB2 HF
 have hneg : (-1 : Int) < 0 := by decide
 go_wp2_with fail
 refine z80 ?_
 intro jd
 refine tj3 0 56 1 57 2 58 HF jd ?_
 refine wpAnyH_skips (by exact z12) (fun _ _ _ _ _ h => h) jd [(3, 59), (4, 60), (5, 61)] 11 3 _ _ rfl (by exact z12) ?_
 refine z47 ?_
 refine tj2 6 62 7 63 HF jd ?_
 refine wpAnyH_skips (by exact z12) (fun _ _ _ _ _ h => h) jd [(8, 64), (9, 65), (10, 66), (11, 67), (12, 68), (13, 69), (14, 70), (15, 71)] 1 8 _ _ rfl (by exact z12) ?_
 refine z47 ?_
 refine tj 16 72 HF rfl jd ?_
 refine z49 ?_
 exact z223
theorem stepPan_lead_same (g ga lo n c' : Nat) (f : Nat → Int) (I H S P : Int) (id tt0 z : Int) (i : Nat) (hi' : i < n) (hn : n ≤ 1000) (w : World) (hg : w.heap[g]? = some (.cells (wB (some ⟨ga, 0, none⟩) n c' I H S P) 32 (0, 0))) (hO : w.ownsRow lo 97 4 (.slice (some ⟨ga, 0, none⟩) n c') n ((cellsL f n).map (Value.int .i64))) (hlo : lo ≤ g) (hfk : findV (pid f) tt0 n 0 = (i : Int)) :
  Calls Tryz.prog 169 #[.pointer (some ⟨g, 0, none⟩), .int .i64 i, .agg (iV 3 id tt0 z)] w (fun e w' => e = .returned (.bool false) ∧ Below lo w w') := by
 refine z217 ?_
 intro nga lg lga hnc hncI hi0 hin
 go_upto_region 1 with fail
 revert hg hO lg lga
 refine z218 ?_
 intro w1 lg1 lw1 s ls1 lga lg ngs nsg nas nsa nga' hles HS0 s0 s1 s2 s3 e0 e1 e2 e3 e4 ef a2 a3 af HG1 HO1 HB1
 refine z221 ?_
 intro HF HSL
 go_wp2_with fail
 revert s0 s1 s2 s3 e0 e1 e2 e3 e4 ef a2 a3 af HG1 HO1 HB1 HF HSL
 refine z222 ?_
 intro jd w2 lw2 s22 s32 e0 e1 e2 e3 e4 ef a2 a3 af HG2 HO2 HB2 HF
 have hnn : ¬ ((i : Int) < 0) := by omega
 go_wp2_with fail
 refine z80 ?_
 intro jd
 refine tj4 0 56 1 57 2 58 3 59 HF jd ?_
 refine tj4 4 60 5 61 6 62 7 63 HF jd ?_
 refine wpAnyH_skips (by exact z12) (fun _ _ _ _ _ h => h) jd [(8, 64), (9, 65), (10, 66), (11, 67), (12, 68), (13, 69), (14, 70), (15, 71)] 1 8 _ _ rfl (by exact z12) ?_
 refine z47 ?_
 refine tj 16 72 HF rfl jd ?_
 refine z49 ?_
 exact z223
theorem stepPan_lead (g ga lo n c' : Nat) (f : Nat → Int) (I H S P : Int) (id tt0 z : Int) (i : Nat) (hi' : i < n) (hn : n ≤ 1000) (w : World) (hg : w.heap[g]? = some (.cells (wB (some ⟨ga, 0, none⟩) n c' I H S P) 32 (0, 0))) (hO : w.ownsRow lo 97 4 (.slice (some ⟨ga, 0, none⟩) n c') n ((cellsL f n).map (Value.int .i64))) (hlo : lo ≤ g) (kk : Nat) (hk' : kk < n) (hne : kk ≠ i) (hz0 : 0 < z) (hfk : findV (pid f) tt0 n 0 = (kk : Int)) :
  Calls Tryz.prog 169 #[.pointer (some ⟨g, 0, none⟩), .int .i64 i, .agg (iV 3 id tt0 z)] w (fun e w' => e = .returned (.bool (leadOk f i z)) ∧ ((leadOk f i z) = true → BoxRow w' lo g ga n c' (cellsL (leadF f i kk z) n) I H S P) ∧ Below lo w w') := by
 refine z217 ?_
 intro nga lg lga hnc hncI hi0 hin
 go_upto_region 1 with fail
 revert hg hO lg lga
 refine z218 ?_
 intro w1 lg1 lw1 s ls1 lga lg ngs nsg nas nsa nga' hles HS0 s0 s1 s2 s3 e0 e1 e2 e3 e4 ef a2 a3 af HG1 HO1 HB1
 refine z221 ?_
 intro HF HSL
 go_wp2_with fail
 revert s0 s1 s2 s3 e0 e1 e2 e3 e4 ef a2 a3 af HG1 HO1 HB1 HF HSL
 refine z222 ?_
 intro jd w2 lw2 s22 s32 e0 e1 e2 e3 e4 ef a2 a3 af HG2 HO2 HB2 HF
 have hnn : ¬ ((kk : Int) < 0) := by omega
 have hnei : ¬ ((kk : Int) = (i : Int)) := by omega
 have hneb : ((kk : Int) == (i : Int)) = false := by simp [hnei]
 have hk0i : (0 : Int) ≤ (kk : Int) := by omega
 have hkni : (kk : Int) < (n : Int) := by omega
 go_wp2_with fail
 refine z80 ?_
 intro jd
 refine tj4 0 56 1 57 2 58 3 59 HF jd ?_
 refine tj4 4 60 5 61 6 62 7 63 HF jd ?_
 refine tj4 8 64 9 65 10 66 11 67 HF jd ?_
 refine tj2 12 68 13 69 HF jd ?_
 refine wpAnyH_ready (rs := [14]) (by exact z12) (by simp) ?_
 refine z44 ?_
 intro K hK
 (go_at_call 121; refine (mass_any _ _ _).mono ?_; rintro e w3 ⟨rfl, hb2⟩)
 revert K hK hb2
 refine z45 ?_
 intro jd
 refine tj2 15 71 16 72 HF jd ?_
 refine z49 ?_
 have hg3 := (jd.block g (gL HG2.out)).trans HG2.out
 have hO3 := ownsRow_below HO2.out jd
 have hB3 := below_of HB2.out jd lw2
 have lw3 : lo ≤ w3.heap.size := Nat.le_trans lw2 jd.size
 have s33 := kp jd s32
 clear jd HF e0 e1 e2 e3 e4 ef a2 a3 af s22 s32 HG2 HO2 HB2
 by_cases hzm : massV (f (i * 4 + 2)) (f (i * 4 + 3)) < z
 ·have hpo : leadOk f i z = false := by simp [leadOk]; omega
  have HPO := lh hpo
  clear hpo
  go_wp2
  go_ret
  rw [HPO.out]
  exact ⟨rfl, (fun h => by cases h), hB3⟩
 refine z198 ?_
 intro hpo hpf hm0 HPO
 have HPF := lh hpf
 clear hpo hpf
 obtain ⟨e0, e1, e2, e3, e4⟩ := cells5 hg3
 have ef := fz hg3
 have a2 : cI w3 ga (i * 4 + 2) (f (i * 4 + 2)) := by rw [World.ownsRow.cellAt hO3 (i * 4 + 2) (by omega), List.getElem?_map, cellsL_at f n _ (by omega)]; rfl
 have a3 : cI w3 ga (i * 4 + 3) (f (i * 4 + 3)) := by rw [World.ownsRow.cellAt hO3 (i * 4 + 3) (by omega), List.getElem?_map, cellsL_at f n _ (by omega)]; rfl
 have af : ∀ j, w3.frozen? ⟨ga, j, none⟩ = false := fun j => World.ownsRow.frozenAt hO3 j
 have HG3 := lh hg3
 have HO3 := lh hO3
 have HB3 := lh hB3
 clear hg3 hO3 hB3
 have HF : Hid (∀ w', bW w3 w' → cI w' s 3 z ∧ cI w' ga (i * 4 + 2) (f (i * 4 + 2)) ∧ cI w' ga (i * 4 + 3) (f (i * 4 + 3))) := by
  intro w' hq
  exact ⟨kp hq s33, kp hq a2, kp hq a3⟩
 go_wp2_with fail
 refine wp_region_held_drew (S := fun w' => bW w3 w') (by exact z12) ((Below.refl _ w3).drew) (fun jd => ?_)
 refine tj4 0 73 4 77 1 74 5 78 HF jd ?_
 refine tj2 2 75 3 76 HF jd ?_
 refine wpAnyH_two (fuel := 1) (i := 6) (j := 7) (di := 79) (dj := 10) (skip := [79, 10]) (Pi := fun v _ => v = .agg (jV (wrap64 (z - (partV (f (i * 4 + 2)) (f (i * 4 + 3)) z))) (partV (f (i * 4 + 2)) (f (i * 4 + 3)) z))) rfl rfl rfl rfl (by decide) (by decide) (by decide) (by decide) (by exact z12) (by exact z12) (by exact z12) ?ji (Job.alloc (nb := w3.heap.size) (obj := (.cells (jV 0 0) 95)) rfl (fun _ h => h.size) (fun a' w1 => by go_simp; try rfl)) (fun v w1 w2 h _ => h) stays_alloc below_stays jd ?nx
 case ji =>
  intro a' w1' K hev hb hK
  have h1 : a'.eval (.tmp 76) = .agg (jV (f (i * 4 + 2)) (f (i * 4 + 3))) := (hev 76 (by decide)).trans rfl
  have h2 : a'.tmps[76]?.getD undef = .agg (jV (f (i * 4 + 2)) (f (i * 4 + 3))) := by simpa [Act.eval] using h1
  have h3 : a'.eval (.tmp 78) = .int .i64 z := (hev 78 (by decide)).trans rfl
  have h4 : a'.tmps[78]?.getD undef = .int .i64 z := by simpa [Act.eval] using h3
  have HK := lh hK
  clear hev h1 h3 hK HF
  go_simp
  go_at_call 198
  refine (part_any _ _ z w1' (by omega) hm0).mono ?_
  exact z163
 case nx =>
 rintro vi vj w4 rfl ⟨g12, rfl, l12, h12⟩ hB4 _
 refine z15 ?_
 refine wS0 8 g12 (jV (wrap64 (z - (partV (f (i * 4 + 2)) (f (i * 4 + 3)) z))) (partV (f (i * 4 + 2)) (f (i * 4 + 3)) z)) 95 infoBrine h12 (fun w' hg => hB4.grown hg hB4.size (fun k hk => by cases hk; exact l12)) ?kst
 case kst =>
 intro w5 h125 hg5 hB5
 refine z49 ?_
 have h125' : w5.heap[g12]? = some (.cells (jV (wrap64 (z - (partV (f (i * 4 + 2)) (f (i * 4 + 3)) z))) (partV (f (i * 4 + 2)) (f (i * 4 + 3)) z)) 95) := h125
 have hg5' := (hB5.block g (gL HG3.out)).trans HG3.out
 have hO5 := ownsRow_below HO3.out hB5
 have hBB5 := below_of HB3.out hB5 lw3
 have lw5 : lo ≤ w5.heap.size := Nat.le_trans lw3 hB5.size
 obtain ⟨p05, p15⟩ := cells2 h125'
 have lg3 : ga < w3.heap.size := (World.ownsRow.lt HO3.out ga rfl).2
 have nga12 : g12 ≠ ga := by omega
 clear e0 e1 e2 e3 e4 ef a2 a3 af HF hB4 h12 h125 h125' hg5 hB5 jd HG3 HO3 HB3 s33 l12
 obtain ⟨e0, e1, e2, e3, e4⟩ := cells5 hg5'
 have ef := fz hg5'
 have a2 : cI w5 ga (i * 4 + 2) (f (i * 4 + 2)) := by rw [World.ownsRow.cellAt hO5 (i * 4 + 2) (by omega), List.getElem?_map, cellsL_at f n _ (by omega)]; rfl
 have a3 : cI w5 ga (i * 4 + 3) (f (i * 4 + 3)) := by rw [World.ownsRow.cellAt hO5 (i * 4 + 3) (by omega), List.getElem?_map, cellsL_at f n _ (by omega)]; rfl
 have af : ∀ j, w5.frozen? ⟨ga, j, none⟩ = false := fun j => World.ownsRow.frozenAt hO5 j
 obtain ⟨cur, hcur, hcs, hput⟩ := row_open hO5
 have hfit : i * 4 + 2 + 2 ≤ cur.size := by omega
 have HG5 := lh hg5'
 have HB5 := lh hBB5
 clear hg5' hO5 hBB5
 have HF : Hid (∀ w', w5.grownBy w' (some ga) → cI w' g12 0 (wrap64 (z - (partV (f (i * 4 + 2)) (f (i * 4 + 3)) z))) ∧ cI w' g12 1 (partV (f (i * 4 + 2)) (f (i * 4 + 3)) z)) := by
  intro w' hq
  exact ⟨(World.cell?_of_block (a := ⟨g12, 0, none⟩) (hq.block _ (World.block_lt_of_cell? _ _ p05) (by simp; omega))).trans p05, (World.cell?_of_block (a := ⟨g12, 1, none⟩) (hq.block _ (World.block_lt_of_cell? _ _ p15) (by simp; omega))).trans p15⟩
 go_wp2_with fail
 refine wp_region_held_drew (S := fun w' => w5.grownBy w' (some ga)) (by exact z12) ⟨rfl, rfl, rfl, Nat.le_refl _, fun _ _ _ => rfl⟩ (fun jd => ?_)
 refine tj4 0 80 1 81 5 85 2 82 HF jd ?_
 refine tj 3 83 HF rfl jd ?_
 refine z113 ?_
 refine z44 ?_
 intro K hK
 refine hK.out _ _ jd (fun jd => ?_)
 clear hK K
 refine wpAnyH_job (fuel := 3) (i := 6) (d := 86) (skip := []) (Post := fun v _ => v = (.agg (jV (wrap64 (f (i * 4 + 2) - wrap64 (z - (partV (f (i * 4 + 2)) (f (i * 4 + 3)) z)))) (wrap64 (f (i * 4 + 3) - (partV (f (i * 4 + 2)) (f (i * 4 + 3)) z)))))) rfl rfl (by exact z12) ?jm but_stays jd ?nm
 case jm =>
  intro a' w1' K hev hb hK
  have h1 : a'.eval (.tmp 84) = .agg (jV (f (i * 4 + 2)) (f (i * 4 + 3))) := (hev 84 (by decide)).trans rfl
  have h2 : a'.tmps[84]?.getD undef = .agg (jV (f (i * 4 + 2)) (f (i * 4 + 3))) := by simpa [Act.eval] using h1
  have h3 : a'.eval (.tmp 85) = .agg (jV (wrap64 (z - (partV (f (i * 4 + 2)) (f (i * 4 + 3)) z))) (partV (f (i * 4 + 2)) (f (i * 4 + 3)) z)) := (hev 85 (by decide)).trans rfl
  have h4 : a'.tmps[85]?.getD undef = .agg (jV (wrap64 (z - (partV (f (i * 4 + 2)) (f (i * 4 + 3)) z))) (partV (f (i * 4 + 2)) (f (i * 4 + 3)) z)) := by simpa [Act.eval] using h3
  have HK := lh hK
  clear hev h1 h3 hK HF
  go_simp
  go_at_call 199
  refine (minus_any _ _ _ _ w1').mono ?_
  exact z163
 case nm =>
 rintro v wl rfl hSl hbl
 refine z15 ?_
 have jd := hSl
 refine tj2 7 87 8 88 HF jd ?_
 refine z199 ?_
 intro hcurl
 refine wpAnyH_store (fuel := 0) (i := 9) rfl (by exact z12) ga (i * 4 + 2) (.agg (jV (wrap64 (f (i * 4 + 2) - wrap64 (z - (partV (f (i * 4 + 2)) (f (i * 4 + 3)) z)))) (wrap64 (f (i * 4 + 3) - (partV (f (i * 4 + 2)) (f (i * 4 + 3)) z))))) 97 cur rfl rfl infoBrine hcurl hfit (by exact z143) (fun w' hg => grown_trans hSl hg) ?kv
 case kv =>
 intro w6 hhw6 hgw6 hSw6
 refine z49 ?_
 rw [show putRow cur (i * 4 + 2) ((.agg (jV (wrap64 (f (i * 4 + 2) - wrap64 (z - (partV (f (i * 4 + 2)) (f (i * 4 + 3)) z)))) (wrap64 (f (i * 4 + 3) - (partV (f (i * 4 + 2)) (f (i * 4 + 3)) z))))) : Value).cells = _ from putRow_two cur _ _ _ hfit] at hhw6
 have hOw6 := hput w6 (i * 4 + 2) _ _ hhw6
 rw [cellsL_set, cellsL_set] at hOw6
 have hg6 := (hSw6.block g (gL HG5.out) (by simp; omega)).trans HG5.out
 have hB6 := HB5.out.grown hSw6 lw5 (fun k hk => by cases hk; omega)
 have lw6 : lo ≤ w6.heap.size := Nat.le_trans lw5 hSw6.size
 have p06 := (World.cell?_of_block (a := ⟨g12, 0, none⟩) (hSw6.block _ (World.block_lt_of_cell? _ _ p05) (by simp; omega))).trans p05
 have p16 := (World.cell?_of_block (a := ⟨g12, 1, none⟩) (hSw6.block _ (World.block_lt_of_cell? _ _ p15) (by simp; omega))).trans p15
 clear jd HF hSw6 hgw6 hhw6 hSl hbl hcurl hcur hput hcs hfit e0 e1 e2 e3 e4 ef a2 a3 af HG5 HB5 p05 p15
 have e0 : cE w6 g 0 (.slice (some ⟨ga, 0, none⟩) n c') := by rw [cell_of_row w6 g 0 _ _ (0, 0) hg6]; rfl
 have ef := fz hg6
 have sk2 : setB f i (wrap64 (f (i * 4 + 2) - wrap64 (z - (partV (f (i * 4 + 2)) (f (i * 4 + 3)) z)))) (wrap64 (f (i * 4 + 3) - (partV (f (i * 4 + 2)) (f (i * 4 + 3)) z))) (kk * 4 + 2) = f (kk * 4 + 2) := setB_far _ _ trivial (by omega) (by omega)
 have sk3 : setB f i (wrap64 (f (i * 4 + 2) - wrap64 (z - (partV (f (i * 4 + 2)) (f (i * 4 + 3)) z)))) (wrap64 (f (i * 4 + 3) - (partV (f (i * 4 + 2)) (f (i * 4 + 3)) z))) (kk * 4 + 3) = f (kk * 4 + 3) := setB_far _ _ trivial (by omega) (by omega)
 have a2 : cI w6 ga (kk * 4 + 2) (f (kk * 4 + 2)) := by rw [World.ownsRow.cellAt hOw6 (kk * 4 + 2) (by omega), List.getElem?_map, cellsL_at _ n _ (by omega)]; exact congrArg (fun x => some (Value.int .i64 x)) sk2
 have a3 : cI w6 ga (kk * 4 + 3) (f (kk * 4 + 3)) := by rw [World.ownsRow.cellAt hOw6 (kk * 4 + 3) (by omega), List.getElem?_map, cellsL_at _ n _ (by omega)]; exact congrArg (fun x => some (Value.int .i64 x)) sk3
 have af : ∀ j, w6.frozen? ⟨ga, j, none⟩ = false := fun j => World.ownsRow.frozenAt hOw6 j
 clear sk2 sk3
 obtain ⟨cur2, hcur, hcs, hput⟩ := row_open hOw6
 have hfit : kk * 4 + 2 + 2 ≤ cur2.size := by omega
 have HG6 := lh hg6
 have HB6 := lh hB6
 clear hg6 hOw6 hB6
 have HF : Hid (∀ w', w6.grownBy w' (some ga) → cE w' g 0 (.slice (some ⟨ga, 0, none⟩) n c') ∧ cI w' g12 0 (wrap64 (z - (partV (f (i * 4 + 2)) (f (i * 4 + 3)) z))) ∧ cI w' g12 1 (partV (f (i * 4 + 2)) (f (i * 4 + 3)) z)) := by
  intro w' hq
  exact ⟨(World.cell?_of_block (a := ⟨g, 0, none⟩) (hq.block _ (World.block_lt_of_cell? _ _ e0) (by simp; omega))).trans e0, (World.cell?_of_block (a := ⟨g12, 0, none⟩) (hq.block _ (World.block_lt_of_cell? _ _ p06) (by simp; omega))).trans p06, (World.cell?_of_block (a := ⟨g12, 1, none⟩) (hq.block _ (World.block_lt_of_cell? _ _ p16) (by simp; omega))).trans p16⟩
 go_wp2_with fail
 refine wp_region_held_drew (S := fun w' => w6.grownBy w' (some ga)) (by exact z12) ⟨rfl, rfl, rfl, Nat.le_refl _, fun _ _ _ => rfl⟩ (fun jd => ?_)
 refine tj4 0 89 4 93 5 94 9 98 HF jd ?_
 refine tj4 13 102 1 90 6 95 2 91 HF jd ?_
 refine tj4 7 96 3 92 8 97 10 99 HF jd ?_
 refine tj 11 100 HF rfl jd ?_
 refine wpAnyH_ready (rs := [12]) (by exact z12) (by simp) ?_
 refine z44 ?_
 intro K hK
 refine hK.out _ _ jd (fun jd => ?_)
 clear hK K
 refine wpAnyH_job (fuel := 3) (i := 14) (d := 103) (skip := []) (Post := fun v _ => v = (.agg (jV (wrap64 (f (kk * 4 + 2) + wrap64 (z - (partV (f (i * 4 + 2)) (f (i * 4 + 3)) z)))) (wrap64 (f (kk * 4 + 3) + (partV (f (i * 4 + 2)) (f (i * 4 + 3)) z)))))) rfl rfl (by exact z12) ?jq but_stays jd ?nq
 case jq =>
  intro a' w1' K hev hb hK
  have h1 : a'.eval (.tmp 101) = .agg (jV (f (kk * 4 + 2)) (f (kk * 4 + 3))) := (hev 101 (by decide)).trans rfl
  have h2 : a'.tmps[101]?.getD undef = .agg (jV (f (kk * 4 + 2)) (f (kk * 4 + 3))) := by simpa [Act.eval] using h1
  have h3 : a'.eval (.tmp 102) = .agg (jV (wrap64 (z - (partV (f (i * 4 + 2)) (f (i * 4 + 3)) z))) (partV (f (i * 4 + 2)) (f (i * 4 + 3)) z)) := (hev 102 (by decide)).trans rfl
  have h4 : a'.tmps[102]?.getD undef = .agg (jV (wrap64 (z - (partV (f (i * 4 + 2)) (f (i * 4 + 3)) z))) (partV (f (i * 4 + 2)) (f (i * 4 + 3)) z)) := by simpa [Act.eval] using h3
  have HK := lh hK
  clear hev h1 h3 hK HF
  go_simp
  go_at_call 197
  refine (plus_any _ _ _ _ w1').mono ?_
  exact z163
 case nq =>
 rintro v wl rfl hSl hbl
 refine z15 ?_
 have jd := hSl
 refine tj2 15 104 16 105 HF jd ?_
 have hcurl : wl.heap[ga]? = some (.cells cur2 97) := (hbl.block ga (gL hcur)).trans hcur
 refine wpAnyH_store (fuel := 0) (i := 17) rfl (by exact z12) ga (kk * 4 + 2) (.agg (jV (wrap64 (f (kk * 4 + 2) + wrap64 (z - (partV (f (i * 4 + 2)) (f (i * 4 + 3)) z)))) (wrap64 (f (kk * 4 + 3) + (partV (f (i * 4 + 2)) (f (i * 4 + 3)) z))))) 97 cur2 rfl rfl infoBrine hcurl hfit (by exact z143) (fun w' hg => grown_trans hSl hg) ?kx
 case kx =>
 intro w7 hhw7 hgw7 hSw7
 refine z49 ?_
 rw [show putRow cur2 (kk * 4 + 2) ((.agg (jV (wrap64 (f (kk * 4 + 2) + wrap64 (z - (partV (f (i * 4 + 2)) (f (i * 4 + 3)) z)))) (wrap64 (f (kk * 4 + 3) + (partV (f (i * 4 + 2)) (f (i * 4 + 3)) z))))) : Value).cells = _ from putRow_two cur2 _ _ _ hfit] at hhw7
 have hOw7 := hput w7 (kk * 4 + 2) _ _ hhw7
 rw [cellsL_set, cellsL_set] at hOw7
 have hg7 := (hSw7.block g (gL HG6.out) (by simp; omega)).trans HG6.out
 have hB7 := HB6.out.grown hSw7 lw6 (fun k hk => by cases hk; omega)
 clear jd HF hSw7 hgw7 hhw7 hSl hbl hcurl hcur hput hcs hfit e0 ef a2 a3 af HG6 HB6 p06 p16
 go_wp2
 go_ret
 rw [HPO.out]
 exact ⟨rfl, fun _ => ⟨hg7, by rw [HPF.out]; exact hOw7⟩, hB7⟩
theorem stepPan_other (g ga lo n c' : Nat) (f : Nat → Int) (I H S P : Int) (kd id tt0 z : Int) (i : Nat) (hi' : i < n) (hn : n ≤ 1000) (w : World) (hg : w.heap[g]? = some (.cells (wB (some ⟨ga, 0, none⟩) n c' I H S P) 32 (0, 0))) (hO : w.ownsRow lo 97 4 (.slice (some ⟨ga, 0, none⟩) n c') n ((cellsL f n).map (Value.int .i64))) (hlo : lo ≤ g) (k2 : (kd == 2) = false) (k3 : (kd == 3) = false) (k4 : (kd == 4) = false) (k5 : (kd == 5) = false) :
  Calls Tryz.prog 169 #[.pointer (some ⟨g, 0, none⟩), .int .i64 i, .agg (iV kd id tt0 z)] w (fun e w' => e = .returned (.bool false) ∧ Below lo w w') := by
 refine z217 ?_
 intro nga lg lga hnc hncI hi0 hin
 go_upto_region 1 with fail
 revert hg hO lg lga
 refine z218 ?_
 intro w1 lg1 lw1 s ls1 lga lg ngs nsg nas nsa nga' hles HS0 s0 s1 s2 s3 e0 e1 e2 e3 e4 ef a2 a3 af HG1 HO1 HB1
 have hB1' := HB1.out
 clear HG1 HO1 HB1
 go_wp2
 go_ret
 exact ⟨rfl, hB1'⟩
end Go.Proofs.YtpndjhelpoenpaaGreatDoor
namespace Go.Proofs.YtpndjhelpoenpaaGreatDoor
open Go.RowKit
theorem run_copy_rowk {P : Program} (w : World) (dT sT ty elem : TypeId) (k g o dLen dCap : Nat) (a : Addr) (sLen sCap : Nat) (cur : Array Value) (t : TypeId) (cs : List Value)
  (hu : P.underlying dT = some (.slice elem)) (hs : (P.info? elem).map (·.size) = some k)
  (hg : w.heap[g]? = some (.cells cur t (0, 0))) (hn : cs.length = Nat.min sLen dLen * k)
  (hsrc : ∀ j v, cs[j]? = some v → w.cell? (a.add j) = some v) (hfit : o + cs.length ≤ cur.size) (h1 : ∀ v ∈ cs, v.oneCell' = true) :
  (Builtin.copy_ #[dT, sT] ty #[.slice (some ⟨g, o, none⟩) dLen dCap, .slice (some a) sLen sCap]).run P w =
   .ok (goInt (Nat.min sLen dLen)) (w.setRow g (cur.toList.take o ++ cs ++ cur.toList.drop (o + cs.length)).toArray) := by
 have hl := run_loadCells_list (P := P) w a cs hsrc
 have hst := run_storeCells_at P g o t cs 0 cur w hg (by simpa using hfit) h1
 cases hq : P.info? elem with
 | none => simp [hq] at hs
 | some i =>
  have hi : i.size = k := by simpa [hq] using hs
  simp [Builtin.copy_, run_underlying hu, Builtin.lenOf, Builtin.firstCells, sizeOf, typeInfo, hq, hi, ← hn, hl, hst]
theorem wp_copy_runW {P : Program} (w : World) {o : Oper} {a : Act} {K : Act → World → Prop} {Q : Exit → Act → World → Prop} (d s : Operand) (t t' : TypeId)
  (ho : o.op = .call { callee := .builtin .copy, args := #[d, s], argTypes := #[t, t'] }) (v u : Value) (hd : a.eval d = v) (hs : a.eval s = u) {v' : Value} {w' : World}
  (hr : (Builtin.copy_ #[t, t'] o.type #[v, u]).run P w = .ok v' w') (h : K (a.put o.dst v') w') : o.wp P a w K Q := by
 unfold Oper.wp execOp
 simp only [ho, resolve, invoke, builtin, Sem.run_bind, Sem.run_pure, Result.andThen_ok, List.map_toArray, List.map_cons, List.map_nil, hd, hs, hr]
 exact h
theorem wpList_copy_runW {P : Program} (w : World) {ops : Array Oper} {rest : List Oper} {o : Oper} {a : Act} {Q : Exit → Act → World → Prop} (hgd : o.guard = none) (d s : Operand) (t t' : TypeId)
  (ho : o.op = .call { callee := .builtin .copy, args := #[d, s], argTypes := #[t, t'] }) (v u : Value) (hd : a.eval d = v) (hs : a.eval s = u) {v' : Value} {w' : World}
  (hr : (Builtin.copy_ #[t, t'] o.type #[v, u]).run P w = .ok v' w') (h : wpList P ops Q rest (a.put o.dst v') w') : wpList P ops Q (o :: rest) a w :=
 wpList_plain hgd fun _ hK => wp_copy_runW w d s t t' ho v u hd hs hr (hK _ _ h)
theorem step_copy_runW {P : Program} {ops : Array Oper} {o : Oper} {a : Act} {w : World} {K : Act → World → Prop} {Q : Exit → Act → World → Prop} {E : Prop}
  (hg : o.guard = none) (d x : Operand) (dT sT : TypeId) (hop : o.op = Op.call { callee := Callee.builtin Builtin.copy, args := #[d, x], argTypes := #[dT, sT] })
  (v u : Value) (hd : a.eval d = v) (hx : a.eval x = u) {v' : Value} {w' : World} (hr : (Builtin.copy_ #[dT, sT] o.type #[v, u]).run P w = .ok v' w') (hK : K (a.put o.dst v') w') :
  if Region.wanted o (yielded ops a.tmps) = true then Oper.wp P o a w K Q else E := by
 exact z224
theorem list_shift (cur cs vs : List Value) (a N : Nat) (hcs : cs = cur.take N) (ha : a ≤ N) (hN : N + vs.length ≤ cur.length) :
  (((cur.take (a + vs.length) ++ cs.drop a ++ cur.drop (a + vs.length + (cs.drop a).length)).take a ++ vs ++
   (cur.take (a + vs.length) ++ cs.drop a ++ cur.drop (a + vs.length + (cs.drop a).length)).drop (a + vs.length))).take (N + vs.length) = cs.take a ++ vs ++ cs.drop a := by
 have h1 : (cur.take (a + vs.length)).length = a + vs.length := by simp; omega
 have hl : cs.length = N := by rw [hcs]; simp; omega
 have h2 : (cur.take (a + vs.length) ++ cs.drop a ++ cur.drop (a + vs.length + (cs.drop a).length)).take a = cs.take a := by
  rw [List.append_assoc, List.take_append_of_le_length (by omega), List.take_take, hcs, List.take_take]
  congr 1; omega
 have h3 : (cur.take (a + vs.length) ++ cs.drop a ++ cur.drop (a + vs.length + (cs.drop a).length)).drop (a + vs.length) = cs.drop a ++ cur.drop (a + vs.length + (cs.drop a).length) := by
  rw [List.append_assoc, List.drop_append_of_le_length (by omega), List.drop_of_length_le (by omega), List.nil_append]
 rw [h2, h3, ← List.append_assoc, List.take_append_of_le_length (by simp; omega)]
 exact List.take_of_length_le (by simp; omega)
theorem list_grow (cur cs vs : List Value) (a N : Nat) (hcs : cs.length = N) (hpre : cur.take a = cs.take a) (ha : a ≤ N) (hN : N + vs.length ≤ cur.length) :
  ((((cur.take a ++ vs ++ cur.drop (a + vs.length)).take (a + vs.length)) ++ cs.drop a ++ (cur.take a ++ vs ++ cur.drop (a + vs.length)).drop (a + vs.length + (cs.drop a).length))).take (N + vs.length) = cs.take a ++ vs ++ cs.drop a := by
 have h1 : (cur.take a ++ vs).length = a + vs.length := by simp; omega
 have h2 : (cur.take a ++ vs ++ cur.drop (a + vs.length)).take (a + vs.length) = cs.take a ++ vs := by
  rw [List.take_append_of_le_length (by omega), List.take_of_length_le (by omega), hpre]
 rw [h2, List.take_append_of_le_length (by simp; omega)]
 exact List.take_of_length_le (by simp; omega)
theorem growI_trans {a b c : World} {row : Option Nat} (h : a.grownBy b row) (k : b.grownBy c row) : a.grownBy c row :=
 ⟨k.os.trans h.os, k.tape.trans h.tape, k.output.trans h.output, Nat.le_trans h.size k.size, fun i hi hr => (k.block i (Nat.lt_of_lt_of_le hi h.size) hr).trans (h.block i hi hr)⟩
theorem setRow_grown (w : World) (g : Nat) (C : Array Value) : w.grownBy (w.setRow g C) (some g) := ⟨rfl, rfl, rfl, by simp, fun k _ hk => setRow_other w g k C (fun e => hk (by rw [e]))⟩
theorem setRow_drew_grown (w : World) (g : Nat) (C : Array Value) : w.grownBy (w.drew.setRow g C) (some g) :=
 have h := setRow_grown w.drew g C
 ⟨h.os, h.tape, h.output, h.size, h.block⟩
theorem ownsRow_open {w : World} {base : Nat} {e : TypeId} {size n : Nat} {v : Value} {xs : List Value} (h : w.ownsRow base e size v n xs) (hn : 0 < n) :
  ∃ g cap cur, v = .slice (some ⟨g, 0, none⟩) n cap ∧ base ≤ g ∧ w.heap[g]? = some (.cells cur e (0, 0)) ∧ n ≤ cap ∧ cap ≤ maxLen ∧ cur.size = cap * size ∧ cur.toList.take (n * size) = xs ∧ xs.length = n * size := by
 obtain ⟨hl, h | ⟨g, cap, cur, h1, h2, h3, h4, h5, h6, h7⟩⟩ := h
 ·omega
 ·exact ⟨g, cap, cur, h1, h2, h3, h4, h5, h6, h7, hl⟩
def cellsTo (f : Nat → Int) (m : Nat) : List Int := (List.range m).map f
theorem cellsTo_length (f : Nat → Int) (m : Nat) : (cellsTo f m).length = m := by simp [cellsTo]
theorem cellsTo_get? {f : Nat → Int} {m j : Nat} {u : Int} (h : (cellsTo f m)[j]? = some u) : j < m ∧ u = f j := by
 have hj : j < (cellsTo f m).length := (List.getElem?_eq_some_iff.1 h).1
 rw [cellsTo_length] at hj
 refine ⟨hj, ?_⟩
 simp [cellsTo, hj] at h
 exact h.symm
end Go.Proofs.YtpndjhelpoenpaaGreatDoor
