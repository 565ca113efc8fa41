/-
  Texts of this claim, merged.
-/
import Derived.Test.YtpndjhelpoenpaaGreatDoorZB7
import Derived.Lib.SliceRun
import Derived.Laws.IdiomCopy
import Derived.Lib.AppendZerosOnto
import Derived.Lib.Overlaps
import Derived.Laws.Externs
import Derived.Shelf.RegionOpenPlain
set_option linter.unusedVariables false
set_option linter.unusedSimpArgs false
set_option maxRecDepth 100000
set_option maxHeartbeats 8000000
namespace Go.Proofs.YtpndjhelpoenpaaGreatDoor
open Go.RowKit Go.Sort
attribute [local go_sem ↓] Go.wp_at_zero Go.wp_at_succ
def BoxRow (w : World) (lo g ga n c' : Nat) (L : List Int) (I H S P : Int) : Prop :=
 w.heap[g]? = some (.cells #[.slice (some ⟨ga, 0, none⟩) n c', .int .i64 I, .int .i64 H, .int .i64 S, .int .i64 P] 32 (0, 0)) ∧ w.ownsRow lo 97 4 (.slice (some ⟨ga, 0, none⟩) n c') n (L.map (Value.int .i64))
theorem infoIntS : (Tryz.prog.info? 3).map (·.size) = some 1 := by kernel_rfl
theorem putRow_one (cur : Array Value) (o : Nat) (a : Value) (h : o + 1 ≤ cur.size) : putRow cur o #[a] = cur.setIfInBounds o a := by
 apply Array.ext'
 simp only [putRow, Array.toList_setIfInBounds]
 apply List.ext_getElem?
 intro j
 have hl : (cur.toList.take o).length = o := by simp; omega
 simp only [List.getElem?_set, Array.length_toList]
 by_cases h1 : j < o
 ·rw [List.append_assoc, List.getElem?_append_left (by omega), List.getElem?_take_of_lt h1, if_neg (by omega)]
 ·rw [List.append_assoc, List.getElem?_append_right (by omega), hl]
  by_cases h2 : j = o
  ·subst h2
   rw [if_pos rfl, if_pos (by omega)]
   simp
  ·rw [List.getElem?_append_right (by simp; omega), if_neg (by omega), List.getElem?_drop]
   congr 1
   simp
   omega
theorem row_open1 {w : World} {base k n c g : Nat} {e : TypeId} {xs : List Value} (h : w.ownsRow base e k (.slice (some ⟨g, 0, none⟩) n c) n xs) : ∃ cur, w.heap[g]? = some (.cells cur e (0, 0)) ∧ n * k ≤ cur.size ∧
  ∀ (w' : World) (j : Nat) (u : Value), w'.heap[g]? = some (.cells (cur.setIfInBounds j u) e (0, 0)) → w'.ownsRow base e k (.slice (some ⟨g, 0, none⟩) n c) n (xs.set j u) := by
 rcases h.2 with ⟨h', _⟩ | ⟨g', cap', cur, h', hb, hg, hnc, hcm, hcs, htake⟩
 ·cases h'
 ·cases h'
  refine ⟨cur, hg, by rw [hcs]; exact Nat.mul_le_mul_right k hnc, fun w' j u hw => ⟨by simpa using h.1, .inr ⟨g, c, _, rfl, hb, hw, hnc, hcm, by simpa using hcs, ?_⟩⟩⟩
  rw [Array.toList_setIfInBounds, ← htake, List.take_set]
theorem cellsL_congr {f g : Nat → Int} {n : Nat} (h : ∀ j, j < n * 4 → f j = g j) : cellsL f n = cellsL g n := by
 unfold cellsL
 exact List.map_congr_left (fun j hj => h j (List.mem_range.1 hj))
theorem dryL (f : Nat → Int) (n i : Nat) (hi : i < n) (z : Int) : cellsL (setB f i (wrap64 (f (i * 4 + 2) - z)) (f (i * 4 + 3))) n = cellsL (upd f (i * 4 + 2) (wrap64 (f (i * 4 + 2) - z))) n := by
 apply cellsL_congr
 intro j _
 simp only [setB, upd]
 by_cases h : j = i * 4 + 3 <;> simp [h]
theorem rakeL (f : Nat → Int) (n i : Nat) (hi : i < n) (z : Int) : cellsL (setB f i (f (i * 4 + 2)) (wrap64 (f (i * 4 + 3) - z))) n = cellsL (upd f (i * 4 + 2 + 1) (wrap64 (f (i * 4 + 3) - z))) n := by
 apply cellsL_congr
 intro j _
 simp only [setB, upd]
 by_cases h : j = i * 4 + 2
 ·subst h; simp
 ·simp [h]
theorem plus_any (wa sa wb sb : Int) (w : World) :
  Calls Tryz.prog 197 #[.agg #[.int .i64 wa, .int .i64 sa], .agg #[.int .i64 wb, .int .i64 sb]] w fun e w' => e = .returned (.agg #[.int .i64 (wrap64 (wa + wb)), .int .i64 (wrap64 (sa + sb))]) ∧ Below w.heap.size w w' := by
 go_enter Tryz.func197, Tryz.ntmps197
 go_wp2
 go_returns
 exact ⟨rfl, (((Below.refl _ w).alloc (Nat.le_refl _) _).alloc (by simp) _).alloc (by simp; omega) _⟩
theorem minus_any (wa sa wb sb : Int) (w : World) :
  Calls Tryz.prog 199 #[.agg #[.int .i64 wa, .int .i64 sa], .agg #[.int .i64 wb, .int .i64 sb]] w fun e w' => e = .returned (.agg #[.int .i64 (wrap64 (wa - wb)), .int .i64 (wrap64 (sa - sb))]) ∧ Below w.heap.size w w' := by
 go_enter Tryz.func199, Tryz.ntmps199
 go_wp2
 go_returns
 exact ⟨rfl, (((Below.refl _ w).alloc (Nat.le_refl _) _).alloc (by simp) _).alloc (by simp; omega) _⟩
theorem part_any (wt s z : Int) (w : World) (hz : z ≠ 0) (hm : massV wt s ≠ 0) :
  Calls Tryz.prog 198 #[.agg #[.int .i64 wt, .int .i64 s], .int .i64 z] w fun e w' => e = .returned (.agg #[.int .i64 (wrap64 (z - (partV wt s z))), .int .i64 (partV wt s z)]) ∧ Below w.heap.size w w' := by
 have HF : Hid (∀ w', Below ((w.alloc (.cells #[.int .i64 wt, .int .i64 s] 95)).alloc (.cells #[.int .i64 0, .int .i64 0] 95)).heap.size ((w.alloc (.cells #[.int .i64 wt, .int .i64 s] 95)).alloc (.cells #[.int .i64 0, .int .i64 0] 95)) w' → w'.cell? ⟨w.heap.size, 0, none⟩ = some (.int .i64 wt) ∧ w'.cell? ⟨w.heap.size, 1, none⟩ = some (.int .i64 s)) := fun w' hq => (cells2 (bx (g := w.heap.size) hq))
 have HV : Hid (IntKind.i64.wrap ((IntKind.i64.wrap (s * z)).tdiv (massV wt s)) = (partV wt s z)) := by
  show _ = _
  rw [IntWalk.i64_left, IntWalk.i64_left]
  rfl
 go_enter Tryz.func198, Tryz.ntmps198
 have hz0 : (z == 0) = false := by simp [hz]
 go_wp2_with fail
 refine wp_region_held_drew (S := fun w' => Below (((w.alloc (.cells #[.int .i64 wt, .int .i64 s] 95)).alloc (.cells #[.int .i64 0, .int .i64 0] 95))).heap.size (((w.alloc (.cells #[.int .i64 wt, .int .i64 s] 95)).alloc (.cells #[.int .i64 0, .int .i64 0] 95))) w') (by kernel_rfl) ((Below.refl _ _).drew) (fun jd => ?_)
 refine tj4 0 9 1 10 2 11 3 12 HF jd ?_
 refine tj 4 13 HF rfl jd ?_
 refine wpAnyH_ready (rs := [5]) (by kernel_rfl) (by simp) ?_
 refine AllReadyH.cons rfl (fun K hK => ?_) AllReadyH.nil
 go_simp
 (go_at_call 121; refine (mass_any _ _ _).mono ?_; rintro e w2 ⟨rfl, hb2⟩)
 refine hK.out _ _ (jd.trans (hb2.mono jd.size)) (fun jd => ?_)
 clear hK K hb2
 refine tj2 6 15 7 5 HF jd ?_
 refine wpAnyH_done (by kernel_rfl) ?_ _
 have r0 := (jd.cell (p := ⟨w.heap.size + 1, 0, none⟩) (by simp)).trans (by go_simp : _ = some (.int .i64 0))
 have r1 := (jd.cell (p := ⟨w.heap.size + 1, 1, none⟩) (by simp)).trans (by go_simp : _ = some (.int .i64 0))
 have f0 : w2.frozen? ⟨w.heap.size + 1, 0, none⟩ = false := (jd.frozen (p := ⟨w.heap.size + 1, 0, none⟩) (by simp)).trans (by go_simp)
 have f1 : w2.frozen? ⟨w.heap.size + 1, 1, none⟩ = false := (jd.frozen (p := ⟨w.heap.size + 1, 1, none⟩) (by simp)).trans (by go_simp)
 have BX : Below w.heap.size w w2 := (((Below.refl _ w).alloc (Nat.le_refl _) _).alloc (by simp) _).trans (jd.mono (by simp; omega))
 clear jd HF
 generalize IntKind.i64.wrap ((IntKind.i64.wrap (s * z)).tdiv (massV wt s)) = sv at *
 go_wp2
 obtain ⟨wq, hwq⟩ : ∃ wq, wq = ((w2.setCell ⟨w.heap.size + 1, 0, none⟩ (.int .i64 (wrap64 (z - sv)))).setCell ⟨w.heap.size + 1, 1, none⟩ (.int .i64 sv)) := ⟨_, rfl⟩
 rw [← hwq]
 have q0 : wq.cell? ⟨w.heap.size + 1, 0, none⟩ = some (.int .i64 (wrap64 (z - sv))) := by rw [hwq]; go_simp
 have q1 : wq.cell? ⟨w.heap.size + 1, 1, none⟩ = some (.int .i64 sv) := by rw [hwq]; go_simp
 have hBq : Below w.heap.size w wq := by
  rw [hwq]
  exact (BX.setCell (show w.heap.size ≤ w.heap.size + 1 by omega) _).setCell (show w.heap.size ≤ w.heap.size + 1 by omega) _
 clear hwq
 try simp only [Exit.inBlock, Exit.then]
 refine bodyPost_ret (by simp [results, Tryz.results198, go_sem, q0, q1]; try rfl) rfl ?_
 rw [← HV.out]
 exact ⟨rfl, hBq⟩
theorem stepPan_take (g ga lo n c' : Nat) (f : Nat → Int) (I H S P : Int) (id tt0 z : Int) (i : Nat) (hi' : i < n) (hn : n ≤ 1000) (w : World) (hg : w.heap[g]? = some (.cells #[.slice (some ⟨ga, 0, none⟩) n c', .int .i64 I, .int .i64 H, .int .i64 S, .int .i64 P] 32 (0, 0))) (hO : w.ownsRow lo 97 4 (.slice (some ⟨ga, 0, none⟩) n c') n ((cellsL f n).map (Value.int .i64))) (hlo : lo ≤ g) :
  Calls Tryz.prog 169 #[.pointer (some ⟨g, 0, none⟩), .int .i64 i, .agg #[.int .i64 2, .int .i64 id, .int .i64 tt0, .int .i64 z]] w (fun e w' => e = .returned (.bool true) ∧ (true = true → BoxRow w' lo g ga n c' (cellsL (setB f i (wrap64 (f (i * 4 + 2) + wrap64 (z - takeV z))) (wrap64 (f (i * 4 + 3) + takeV z))) n) (wrap64 (I + takeV z)) H S P) ∧ Below lo w w') := by
 go_enter Tryz.func169, Tryz.ntmps169
 have nga : ga ≠ g := by
  intro e
  subst e
  exact row_ne hO hg (by decide)
 have lg : g < w.heap.size := (Array.getElem?_eq_some_iff.1 hg).1
 have lga := World.ownsRow.lt hO ga rfl
 have hnc : n ≤ c' ∧ c' ≤ maxLen := by
  obtain ⟨_, _, e, h1, h2⟩ := row_slice hO
  cases e
  exact ⟨h1, h2⟩
 have hncI : (n : Int) ≤ (c' : Int) := by omega
 have hi0 : (0 : Int) ≤ (i : Int) := by omega
 have hin : (i : Int) < (n : Int) := by omega
 go_upto_region 1 with fail
 refine name_wp ?_
 intro w1 hw1
 have hb1 : Below w.heap.size w w1 := by rw [hw1]; exact (Below.refl _ w).alloc (Nat.le_refl _) _
 have hs1 := an hw1
 have hg1 := (hb1.block g lg).trans hg
 have hO1 := ownsRow_below hO hb1
 have hB1 : Below lo w w1 := hb1.mono (by omega)
 clear hw1 hg hO hb1
 have lg1 := (Array.getElem?_eq_some_iff.1 hg1).1
 have ls1 := (Array.getElem?_eq_some_iff.1 hs1).1
 have lw1 : lo ≤ w1.heap.size := by omega
 obtain ⟨s, hs⟩ : ∃ s, s = w.heap.size := ⟨_, rfl⟩
 rw [← hs] at hs1 lg lga ls1
 have ngs : g ≠ s := by omega
 have nsg : s ≠ g := by omega
 have nas : ga ≠ s := by omega
 have nsa : s ≠ ga := by omega
 have nga' : g ≠ ga := Ne.symm nga
 have hles : lo ≤ s := by omega
 have HS0 := lh hs
 clear hs
 obtain ⟨s0, s1, s2, s3⟩ := cells4 hs1
 obtain ⟨e0, e1, e2, e3, e4⟩ := cells5 hg1
 have ef := fz hg1
 have a2 : w1.cell? ⟨ga, i * 4 + 2, none⟩ = some (.int .i64 (f (i * 4 + 2))) := by rw [World.ownsRow.cellAt hO1 (i * 4 + 2) (by omega), List.getElem?_map, cellsL_at f n _ (by omega)]; rfl
 have a3 : w1.cell? ⟨ga, i * 4 + 3, none⟩ = some (.int .i64 (f (i * 4 + 3))) := by rw [World.ownsRow.cellAt hO1 (i * 4 + 3) (by omega), List.getElem?_map, cellsL_at f n _ (by omega)]; rfl
 have af : ∀ j, w1.frozen? ⟨ga, j, none⟩ = false := fun j => World.ownsRow.frozenAt hO1 j
 have HG1 := lh hg1
 have HO1 := lh hO1
 have HB1 := lh hB1
 clear hg1 hO1 hB1 hs1
 have hszS : w.heap.size = s := HS0.out.symm
 rw [hszS]
 clear hszS
 have HBS := HB1
 go_wp2_with fail
 generalize hsv : wrap64 ((wrap64 (z * 35)).tdiv 1000) = sv at *
 have HSV : Hid (takeV z = sv) := hsv
 clear hsv
 obtain ⟨cur, hcur, hcs, hput⟩ := row_open HO1.out
 have hfit : i * 4 + 2 + 2 ≤ cur.size := by omega
 have HF : Hid (∀ w', w1.grownBy w' (some ga) → w'.cell? ⟨s, 3, none⟩ = some (.int .i64 z) ∧ w'.cell? ⟨g, 1, none⟩ = some (.int .i64 I)) := by
  intro w' hq
  exact ⟨(World.cell?_of_block (a := ⟨s, 3, none⟩) (hq.block _ (World.block_lt_of_cell? _ _ s3) (by simp; omega))).trans s3, (World.cell?_of_block (a := ⟨g, 1, none⟩) (hq.block _ (World.block_lt_of_cell? _ _ e1) (by simp; omega))).trans e1⟩
 refine wp_region_held_drew (S := fun w' => w1.grownBy w' (some ga)) (by kernel_rfl) ⟨rfl, rfl, rfl, Nat.le_refl _, fun _ _ _ => rfl⟩ (fun jd => ?_)
 refine tj4 0 26 1 27 5 31 7 33 HF jd ?_
 refine tj4 9 35 2 28 6 32 3 29 HF jd ?_
 refine tj2 8 34 10 36 HF jd ?_
 refine wpAnyH_ready (rs := [4]) (by kernel_rfl) (by simp) ?_
 refine AllReadyH.cons rfl (fun K hK => ?_) AllReadyH.nil
 go_simp
 refine hK.out _ _ jd (fun jd => ?_)
 clear hK K
 refine wpAnyH_job (fuel := 3) (i := 11) (d := 37) (skip := []) (Post := fun v _ => v = (.agg #[.int .i64 (wrap64 (f (i * 4 + 2) + wrap64 (z - sv))), .int .i64 (wrap64 (f (i * 4 + 3) + sv))])) rfl rfl (by kernel_rfl) ?jt but_stays jd ?nt
 case jt =>
  intro a' w1' K hev hb hK
  have h1 : a'.eval (.tmp 30) = .agg #[.int .i64 (f (i * 4 + 2)), .int .i64 (f (i * 4 + 3))] := (hev 30 (by decide)).trans rfl
  have h2 : a'.tmps[30]?.getD undef = .agg #[.int .i64 (f (i * 4 + 2)), .int .i64 (f (i * 4 + 3))] := by simpa [Act.eval] using h1
  have h3 : a'.eval (.tmp 36) = .agg #[.int .i64 (IntKind.i64.wrap (z - sv)), .int .i64 sv] := (hev 36 (by decide)).trans rfl
  rw [IntWalk.i64_left] at h3
  have h4 : a'.tmps[36]?.getD undef = .agg #[.int .i64 (wrap64 (z - sv)), .int .i64 sv] := by simpa [Act.eval] using h3
  have HK := lh hK
  clear hev h1 h3 hK HF
  go_simp
  go_at_call 197
  refine (plus_any _ _ _ _ w1').mono ?_
  rintro e w2' ⟨rfl, hb2⟩
  exact HK.out _ w2' rfl hb2
 case nt =>
 rintro v wl rfl hSl hbl
 simp only [Act.put, p1, p2, p3]
 have jd := hSl
 refine tj2 12 38 13 39 HF jd ?_
 have hcurl : wl.heap[ga]? = some (.cells cur 97) := (hbl.block ga (Array.getElem?_eq_some_iff.1 hcur).1).trans hcur
 refine wpAnyH_store (fuel := 0) (i := 14) rfl (by kernel_rfl) ga (i * 4 + 2) (.agg #[.int .i64 (wrap64 (f (i * 4 + 2) + wrap64 (z - sv))), .int .i64 (wrap64 (f (i * 4 + 3) + sv))]) 97 cur rfl rfl infoBrine hcurl hfit (by simp [Value.cells, Value.oneCell']) (fun w' hg => grown_trans hSl hg) ?ku
 case ku =>
 intro w2 hhw2 hgw2 hSw2
 refine wpAnyH_done (by kernel_rfl) ?_ _
 rw [show putRow cur (i * 4 + 2) ((.agg #[.int .i64 (wrap64 (f (i * 4 + 2) + wrap64 (z - sv))), .int .i64 (wrap64 (f (i * 4 + 3) + sv))]) : Value).cells = _ from putRow_two cur _ _ _ hfit] at hhw2
 have hOw2 := hput w2 (i * 4 + 2) _ _ hhw2
 rw [cellsL_set, cellsL_set] at hOw2
 have hg2 := (hSw2.block g (Array.getElem?_eq_some_iff.1 HG1.out).1 (by simp; omega)).trans HG1.out
 have hB2 := HB1.out.grown hSw2 lw1 (fun k hk => by cases hk; omega)
 clear jd HF hSw2 hgw2 hhw2 hSl hbl hcurl hcur hput hcs hfit e0 e1 e2 e3 e4 ef a2 a3 af HO1 HG1 s0 s1 s2 s3
 obtain ⟨e0, e1, e2, e3, e4⟩ := cells5 hg2
 have ef := fz hg2
 have HG2 := lh hg2
 have HO2 := lh hOw2
 have HB2 := lh hB2
 clear hg2 hOw2 hB2
 go_upto_region 7 with fail
 refine name_wp ?_
 intro w3 hw3'
 have hw3 : w3 = w2.setCell ⟨g, 1, none⟩ (.int .i64 (wrap64 (I + sv))) := hw3'
 clear hw3' e0 e1 e2 e3 e4 ef
 have hg3 : w3.heap[g]? = some (.cells #[.slice (some ⟨ga, 0, none⟩) n c', .int .i64 (wrap64 (I + sv)), .int .i64 H, .int .i64 S, .int .i64 P] 32) := by
  rw [hw3]
  exact heap_setCell_same _ g 1 #[.slice (some ⟨ga, 0, none⟩) n c', .int .i64 I, .int .i64 H, .int .i64 S, .int .i64 P] 32 _ HG2.out
 have hO3 := ownsRow_setCell_other (a := ⟨g, 1, none⟩) HO2.out (by simp [Value.ownBlock, nga]) (.int .i64 (wrap64 (I + sv)))
 rw [← hw3] at hO3
 have hB3 : Below lo w w3 := by
  rw [hw3]
  exact HB2.out.setCell (p := ⟨g, 1, none⟩) (show lo ≤ g by omega) _
 clear hw3 HG2 HO2 HB2
 go_wp2
 go_ret
 exact ⟨rfl, fun _ => by rw [HSV.out]; exact ⟨hg3, hO3⟩, hB3⟩
theorem stepPan_dry (g ga lo n c' : Nat) (f : Nat → Int) (I H S P : Int) (id tt0 z : Int) (i : Nat) (hi' : i < n) (hn : n ≤ 1000) (w : World) (hg : w.heap[g]? = some (.cells #[.slice (some ⟨ga, 0, none⟩) n c', .int .i64 I, .int .i64 H, .int .i64 S, .int .i64 P] 32 (0, 0))) (hO : w.ownsRow lo 97 4 (.slice (some ⟨ga, 0, none⟩) n c') n ((cellsL f n).map (Value.int .i64))) (hlo : lo ≤ g) :
  Calls Tryz.prog 169 #[.pointer (some ⟨g, 0, none⟩), .int .i64 i, .agg #[.int .i64 4, .int .i64 id, .int .i64 tt0, .int .i64 z]] w (fun e w' => e = .returned (.bool true) ∧ (true = true → BoxRow w' lo g ga n c' (cellsL (setB f i (wrap64 (f (i * 4 + 2) - z)) (f (i * 4 + 3))) n) I H S P) ∧ Below lo w w') := by
 go_enter Tryz.func169, Tryz.ntmps169
 have nga : ga ≠ g := by
  intro e
  subst e
  exact row_ne hO hg (by decide)
 have lg : g < w.heap.size := (Array.getElem?_eq_some_iff.1 hg).1
 have lga := World.ownsRow.lt hO ga rfl
 have hnc : n ≤ c' ∧ c' ≤ maxLen := by
  obtain ⟨_, _, e, h1, h2⟩ := row_slice hO
  cases e
  exact ⟨h1, h2⟩
 have hncI : (n : Int) ≤ (c' : Int) := by omega
 have hi0 : (0 : Int) ≤ (i : Int) := by omega
 have hin : (i : Int) < (n : Int) := by omega
 go_upto_region 1 with fail
 refine name_wp ?_
 intro w1 hw1
 have hb1 : Below w.heap.size w w1 := by rw [hw1]; exact (Below.refl _ w).alloc (Nat.le_refl _) _
 have hs1 := an hw1
 have hg1 := (hb1.block g lg).trans hg
 have hO1 := ownsRow_below hO hb1
 have hB1 : Below lo w w1 := hb1.mono (by omega)
 clear hw1 hg hO hb1
 have lg1 := (Array.getElem?_eq_some_iff.1 hg1).1
 have ls1 := (Array.getElem?_eq_some_iff.1 hs1).1
 have lw1 : lo ≤ w1.heap.size := by omega
 obtain ⟨s, hs⟩ : ∃ s, s = w.heap.size := ⟨_, rfl⟩
 rw [← hs] at hs1 lg lga ls1
 have ngs : g ≠ s := by omega
 have nsg : s ≠ g := by omega
 have nas : ga ≠ s := by omega
 have nsa : s ≠ ga := by omega
 have nga' : g ≠ ga := Ne.symm nga
 have hles : lo ≤ s := by omega
 have HS0 := lh hs
 clear hs
 obtain ⟨s0, s1, s2, s3⟩ := cells4 hs1
 obtain ⟨e0, e1, e2, e3, e4⟩ := cells5 hg1
 have ef := fz hg1
 have a2 : w1.cell? ⟨ga, i * 4 + 2, none⟩ = some (.int .i64 (f (i * 4 + 2))) := by rw [World.ownsRow.cellAt hO1 (i * 4 + 2) (by omega), List.getElem?_map, cellsL_at f n _ (by omega)]; rfl
 have a3 : w1.cell? ⟨ga, i * 4 + 3, none⟩ = some (.int .i64 (f (i * 4 + 3))) := by rw [World.ownsRow.cellAt hO1 (i * 4 + 3) (by omega), List.getElem?_map, cellsL_at f n _ (by omega)]; rfl
 have af : ∀ j, w1.frozen? ⟨ga, j, none⟩ = false := fun j => World.ownsRow.frozenAt hO1 j
 have HG1 := lh hg1
 have HO1 := lh hO1
 have HB1 := lh hB1
 clear hg1 hO1 hB1 hs1
 have hszS : w.heap.size = s := HS0.out.symm
 rw [hszS]
 clear hszS
 obtain ⟨cur, hcur, hcs, hput⟩ := row_open1 HO1.out
 have hfit : i * 4 + 2 + 1 ≤ cur.size := by omega
 have HF : Hid (∀ w', w1.grownBy w' (some ga) → w'.cell? ⟨s, 3, none⟩ = some (.int .i64 z) ∧ w'.cell? ⟨g, 1, none⟩ = some (.int .i64 I)) := by
  intro w' hq
  exact ⟨(World.cell?_of_block (a := ⟨s, 3, none⟩) (hq.block _ (World.block_lt_of_cell? _ _ s3) (by simp; omega))).trans s3, (World.cell?_of_block (a := ⟨g, 1, none⟩) (hq.block _ (World.block_lt_of_cell? _ _ e1) (by simp; omega))).trans e1⟩
 go_wp2_with fail
 refine wp_region_held_drew (S := fun w' => w1.grownBy w' (some ga)) (by kernel_rfl) ⟨rfl, rfl, rfl, Nat.le_refl _, fun _ _ _ => rfl⟩ (fun jd => ?_)
 refine tj4 0 108 5 113 1 109 6 114 HF jd ?_
 refine tj2 2 110 3 111 HF jd ?_
 refine wpAnyH_ready (rs := [4]) (by kernel_rfl) (by simp) ?_
 refine AllReadyH.cons rfl (fun K hK => ?_) AllReadyH.nil
 go_simp
 refine hK.out _ _ jd (fun jd => ?_)
 clear hK K
 refine tj4 7 115 8 116 9 117 10 118 HF jd ?_
 refine wpAnyH_store (fuel := 0) (i := 11) rfl (by kernel_rfl) ga (i * 4 + 2) (.int .i64 (wrap64 (f (i * 4 + 2) - z))) 97 cur rfl (by first | rfl | exact congrArg (Value.int .i64) (IntWalk.i64_left _)) infoIntS hcur hfit (by simp [Value.cells, Value.oneCell']) (fun w' hg => grown_trans jd hg) ?kd
 case kd =>
 intro w2 hhw2 hgw2 hSw2
 refine wpAnyH_done (by kernel_rfl) ?_ _
 have hO2 := hput w2 (i * 4 + 2) (.int .i64 (wrap64 (f (i * 4 + 2) - z))) (by rw [hhw2]; congr 2; exact putRow_one cur _ _ hfit)
 rw [cellsL_set] at hO2
 have hg2 := (hSw2.block g (Array.getElem?_eq_some_iff.1 HG1.out).1 (by simp; omega)).trans HG1.out
 have hB2 := HB1.out.grown hSw2 lw1 (fun k hk => by cases hk; omega)
 clear jd HF hSw2 hgw2 hhw2 hcur hput hcs hfit e0 e1 e2 e3 e4 ef a2 a3 af HO1 HG1 s0 s1 s2 s3
 go_wp2
 go_ret
 exact ⟨rfl, fun _ => ⟨hg2, by rw [dryL f n i hi' z]; exact hO2⟩, hB2⟩
theorem stepPan_rake (g ga lo n c' : Nat) (f : Nat → Int) (I H S P : Int) (id tt0 z : Int) (i : Nat) (hi' : i < n) (hn : n ≤ 1000) (w : World) (hg : w.heap[g]? = some (.cells #[.slice (some ⟨ga, 0, none⟩) n c', .int .i64 I, .int .i64 H, .int .i64 S, .int .i64 P] 32 (0, 0))) (hO : w.ownsRow lo 97 4 (.slice (some ⟨ga, 0, none⟩) n c') n ((cellsL f n).map (Value.int .i64))) (hlo : lo ≤ g) :
  Calls Tryz.prog 169 #[.pointer (some ⟨g, 0, none⟩), .int .i64 i, .agg #[.int .i64 5, .int .i64 id, .int .i64 tt0, .int .i64 z]] w (fun e w' => e = .returned (.bool (mayV (f (i * 4 + 2)) (f (i * 4 + 3)))) ∧ ((mayV (f (i * 4 + 2)) (f (i * 4 + 3))) = true → BoxRow w' lo g ga n c' (cellsL (setB f i (f (i * 4 + 2)) (wrap64 (f (i * 4 + 3) - z))) n) I (wrap64 (H + z)) S P) ∧ Below lo w w') := by
 go_enter Tryz.func169, Tryz.ntmps169
 have nga : ga ≠ g := by
  intro e
  subst e
  exact row_ne hO hg (by decide)
 have lg : g < w.heap.size := (Array.getElem?_eq_some_iff.1 hg).1
 have lga := World.ownsRow.lt hO ga rfl
 have hnc : n ≤ c' ∧ c' ≤ maxLen := by
  obtain ⟨_, _, e, h1, h2⟩ := row_slice hO
  cases e
  exact ⟨h1, h2⟩
 have hncI : (n : Int) ≤ (c' : Int) := by omega
 have hi0 : (0 : Int) ≤ (i : Int) := by omega
 have hin : (i : Int) < (n : Int) := by omega
 go_upto_region 1 with fail
 refine name_wp ?_
 intro w1 hw1
 have hb1 : Below w.heap.size w w1 := by rw [hw1]; exact (Below.refl _ w).alloc (Nat.le_refl _) _
 have hs1 := an hw1
 have hg1 := (hb1.block g lg).trans hg
 have hO1 := ownsRow_below hO hb1
 have hB1 : Below lo w w1 := hb1.mono (by omega)
 clear hw1 hg hO hb1
 have lg1 := (Array.getElem?_eq_some_iff.1 hg1).1
 have ls1 := (Array.getElem?_eq_some_iff.1 hs1).1
 have lw1 : lo ≤ w1.heap.size := by omega
 obtain ⟨s, hs⟩ : ∃ s, s = w.heap.size := ⟨_, rfl⟩
 rw [← hs] at hs1 lg lga ls1
 have ngs : g ≠ s := by omega
 have nsg : s ≠ g := by omega
 have nas : ga ≠ s := by omega
 have nsa : s ≠ ga := by omega
 have nga' : g ≠ ga := Ne.symm nga
 have hles : lo ≤ s := by omega
 have HS0 := lh hs
 clear hs
 obtain ⟨s0, s1, s2, s3⟩ := cells4 hs1
 obtain ⟨e0, e1, e2, e3, e4⟩ := cells5 hg1
 have ef := fz hg1
 have a2 : w1.cell? ⟨ga, i * 4 + 2, none⟩ = some (.int .i64 (f (i * 4 + 2))) := by rw [World.ownsRow.cellAt hO1 (i * 4 + 2) (by omega), List.getElem?_map, cellsL_at f n _ (by omega)]; rfl
 have a3 : w1.cell? ⟨ga, i * 4 + 3, none⟩ = some (.int .i64 (f (i * 4 + 3))) := by rw [World.ownsRow.cellAt hO1 (i * 4 + 3) (by omega), List.getElem?_map, cellsL_at f n _ (by omega)]; rfl
 have af : ∀ j, w1.frozen? ⟨ga, j, none⟩ = false := fun j => World.ownsRow.frozenAt hO1 j
 have HG1 := lh hg1
 have HO1 := lh hO1
 have HB1 := lh hB1
 clear hg1 hO1 hB1 hs1
 have hszS : w.heap.size = s := HS0.out.symm
 rw [hszS]
 clear hszS
 go_wp2_with fail
 refine (mayRake_any _ _ w1).mono ?_
 rintro e w0 ⟨rfl, hb0⟩
 have hg0 := (hb0.block g (Array.getElem?_eq_some_iff.1 HG1.out).1).trans HG1.out
 have hO0 := ownsRow_below HO1.out hb0
 have lw0 : lo ≤ w0.heap.size := Nat.le_trans lw1 hb0.size
 have hB0 := below_of HB1.out hb0 lw1
 have s30 := kp hb0 s3
 clear e0 e1 e2 e3 e4 ef a2 a3 af HG1 HO1 HB1 s0 s1 s2 s3 hb0
 obtain ⟨e0, e1, e2, e3, e4⟩ := cells5 hg0
 have ef := fz hg0
 have a2 : w0.cell? ⟨ga, i * 4 + 2, none⟩ = some (.int .i64 (f (i * 4 + 2))) := by rw [World.ownsRow.cellAt hO0 (i * 4 + 2) (by omega), List.getElem?_map, cellsL_at f n _ (by omega)]; rfl
 have a3 : w0.cell? ⟨ga, i * 4 + 3, none⟩ = some (.int .i64 (f (i * 4 + 3))) := by rw [World.ownsRow.cellAt hO0 (i * 4 + 3) (by omega), List.getElem?_map, cellsL_at f n _ (by omega)]; rfl
 have af : ∀ j, w0.frozen? ⟨ga, j, none⟩ = false := fun j => World.ownsRow.frozenAt hO0 j
 have HG1 := lh hg0
 have HO1 := lh hO0
 have HB1 := lh hB0
 clear hg0 hO0 hB0
 obtain ⟨cur, hcur, hcs, hput⟩ := row_open1 HO1.out
 have hfit : i * 4 + 2 + 1 + 1 ≤ cur.size := by omega
 have HF : Hid (∀ w', w0.grownBy w' (some ga) → w'.cell? ⟨s, 3, none⟩ = some (.int .i64 z) ∧ w'.cell? ⟨g, 1, none⟩ = some (.int .i64 I)) := by
  intro w' hq
  exact ⟨(World.cell?_of_block (a := ⟨s, 3, none⟩) (hq.block _ (World.block_lt_of_cell? _ _ s30) (by simp; omega))).trans s30, (World.cell?_of_block (a := ⟨g, 1, none⟩) (hq.block _ (World.block_lt_of_cell? _ _ e1) (by simp; omega))).trans e1⟩
 go_wp2_with fail
 refine wp_region_held_drew (S := fun w' => w0.grownBy w' (some ga)) (by kernel_rfl) ⟨rfl, rfl, rfl, Nat.le_refl _, fun _ _ _ => rfl⟩ (fun jd => ?_)
 refine tj4 0 126 5 131 1 127 6 132 HF jd ?_
 refine tj2 2 128 3 129 HF jd ?_
 refine wpAnyH_ready (rs := [4]) (by kernel_rfl) (by simp) ?_
 refine AllReadyH.cons rfl (fun K hK => ?_) AllReadyH.nil
 go_simp
 refine hK.out _ _ jd (fun jd => ?_)
 clear hK K
 refine tj4 7 133 8 134 9 135 10 136 HF jd ?_
 refine wpAnyH_store (fuel := 0) (i := 11) rfl (by kernel_rfl) ga (i * 4 + 2 + 1) (.int .i64 (wrap64 (f (i * 4 + 3) - z))) 97 cur rfl (by first | rfl | exact congrArg (Value.int .i64) (IntWalk.i64_left _)) infoIntS hcur hfit (by simp [Value.cells, Value.oneCell']) (fun w' hg => grown_trans jd hg) ?kd
 case kd =>
 intro w2 hhw2 hgw2 hSw2
 refine wpAnyH_done (by kernel_rfl) ?_ _
 have hO2 := hput w2 (i * 4 + 2 + 1) (.int .i64 (wrap64 (f (i * 4 + 3) - z))) (by rw [hhw2]; congr 2; exact putRow_one cur _ _ hfit)
 rw [cellsL_set] at hO2
 have hg2 := (hSw2.block g (Array.getElem?_eq_some_iff.1 HG1.out).1 (by simp; omega)).trans HG1.out
 have hB2 := HB1.out.grown hSw2 lw0 (fun k hk => by cases hk; omega)
 have hgz2 := hSw2.size
 have s32 := (World.cell?_of_block (a := ⟨s, 3, none⟩) (hSw2.block _ (World.block_lt_of_cell? _ _ s30) (by simp; omega))).trans s30
 clear jd HF hSw2 hgw2 hhw2 hcur hput hcs hfit e0 e1 e2 e3 e4 ef a2 a3 af HO1 HG1 s30 HB1
 obtain ⟨e0, e1, e2, e3, e4⟩ := cells5 hg2
 have HF : Hid (∀ w', w2.grownBy w' (some g) → w'.cell? ⟨s, 3, none⟩ = some (.int .i64 z)) := by
  intro w' hq
  exact (World.cell?_of_block (a := ⟨s, 3, none⟩) (hq.block _ (World.block_lt_of_cell? _ _ s32) (by simp; omega))).trans s32
 go_wp2_with fail
 refine wp_region_held_drew (S := fun w' => w2.grownBy w' (some g)) (by kernel_rfl) ⟨rfl, rfl, rfl, Nat.le_refl _, fun _ _ _ => rfl⟩ (fun jd => ?_)
 refine tj4 0 137 4 141 1 138 5 142 HF jd ?_
 refine tj 2 139 HF rfl jd ?_
 refine wpAnyH_ready (rs := [3]) (by kernel_rfl) (by simp) ?_
 refine AllReadyH.cons rfl (fun K hK => ?_) AllReadyH.nil
 go_simp
 refine hK.out _ _ jd (fun jd => ?_)
 clear hK K
 refine tj3 6 143 7 144 8 145 HF jd ?_
 refine wpAnyH_store (fuel := 0) (i := 9) rfl (by kernel_rfl) g (2) (.int .i64 (wrap64 (H + z))) 32 #[.slice (some ⟨ga, 0, none⟩) n c', .int .i64 I, .int .i64 H, .int .i64 S, .int .i64 P] rfl (by first | rfl | exact congrArg (Value.int .i64) (IntWalk.i64_left _)) infoIntS hg2 (show 2 + 1 ≤ 5 by omega) (by simp [Value.cells, Value.oneCell']) (fun w' hg => grown_trans jd hg) ?kh
 case kh =>
 intro w3 hhw3 hgw3 hSw3
 refine wpAnyH_done (by kernel_rfl) ?_ _
 have hg3 : w3.heap[g]? = some (.cells #[.slice (some ⟨ga, 0, none⟩) n c', .int .i64 I, .int .i64 (wrap64 (H + z)), .int .i64 S, .int .i64 P] 32) := hhw3
 have hO3 := own_other hO2 hg2 (by decide) hSw3
 have hB3 := hB2.grown hSw3 (Nat.le_trans lw0 hgz2) (fun k hk => by cases hk; omega)
 clear jd HF hSw3 hgw3 hhw3 e0 e1 e2 e3 e4 s32
 go_wp2
 go_ret
 exact ⟨rfl, fun _ => ⟨hg3, by rw [rakeL f n i hi' z]; exact hO3⟩, hB3⟩
end Go.Proofs.YtpndjhelpoenpaaGreatDoor
namespace Go.Proofs.YtpndjhelpoenpaaGreatDoor
open Go.RowKit Go.Sort
attribute [local go_sem ↓] Go.wp_at_zero Go.wp_at_succ
theorem setB_far {f : Nat → Int} {i j : Nat} (a b : Int) (_ : True) (h2 : j ≠ i * 4 + 2) (h3 : j ≠ i * 4 + 3) : setB f i a b j = f j := by
 simp [setB, upd, h2, h3]
theorem stepPan_lead_none (g ga lo n c' : Nat) (f : Nat → Int) (I H S P : Int) (id tt0 z : Int) (i : Nat) (hi' : i < n) (hn : n ≤ 1000) (w : World) (hg : w.heap[g]? = some (.cells #[.slice (some ⟨ga, 0, none⟩) n c', .int .i64 I, .int .i64 H, .int .i64 S, .int .i64 P] 32 (0, 0))) (hO : w.ownsRow lo 97 4 (.slice (some ⟨ga, 0, none⟩) n c') n ((cellsL f n).map (Value.int .i64))) (hlo : lo ≤ g) (hfk : findV (pid f) tt0 n 0 = -1) :
  Calls Tryz.prog 169 #[.pointer (some ⟨g, 0, none⟩), .int .i64 i, .agg #[.int .i64 3, .int .i64 id, .int .i64 tt0, .int .i64 z]] w (fun e w' => e = .returned (.bool false) ∧ Below lo w w') := by
 go_enter Tryz.func169, Tryz.ntmps169
 have nga : ga ≠ g := by
  intro e
  subst e
  exact row_ne hO hg (by decide)
 have lg : g < w.heap.size := (Array.getElem?_eq_some_iff.1 hg).1
 have lga := World.ownsRow.lt hO ga rfl
 have hnc : n ≤ c' ∧ c' ≤ maxLen := by
  obtain ⟨_, _, e, h1, h2⟩ := row_slice hO
  cases e
  exact ⟨h1, h2⟩
 have hncI : (n : Int) ≤ (c' : Int) := by omega
 have hi0 : (0 : Int) ≤ (i : Int) := by omega
 have hin : (i : Int) < (n : Int) := by omega
 go_upto_region 1 with fail
 refine name_wp ?_
 intro w1 hw1
 have hb1 : Below w.heap.size w w1 := by rw [hw1]; exact (Below.refl _ w).alloc (Nat.le_refl _) _
 have hs1 := an hw1
 have hg1 := (hb1.block g lg).trans hg
 have hO1 := ownsRow_below hO hb1
 have hB1 : Below lo w w1 := hb1.mono (by omega)
 clear hw1 hg hO hb1
 have lg1 := (Array.getElem?_eq_some_iff.1 hg1).1
 have ls1 := (Array.getElem?_eq_some_iff.1 hs1).1
 have lw1 : lo ≤ w1.heap.size := by omega
 obtain ⟨s, hs⟩ : ∃ s, s = w.heap.size := ⟨_, rfl⟩
 rw [← hs] at hs1 lg lga ls1
 have ngs : g ≠ s := by omega
 have nsg : s ≠ g := by omega
 have nas : ga ≠ s := by omega
 have nsa : s ≠ ga := by omega
 have nga' : g ≠ ga := Ne.symm nga
 have hles : lo ≤ s := by omega
 have HS0 := lh hs
 clear hs
 obtain ⟨s0, s1, s2, s3⟩ := cells4 hs1
 obtain ⟨e0, e1, e2, e3, e4⟩ := cells5 hg1
 have ef := fz hg1
 have a2 : w1.cell? ⟨ga, i * 4 + 2, none⟩ = some (.int .i64 (f (i * 4 + 2))) := by rw [World.ownsRow.cellAt hO1 (i * 4 + 2) (by omega), List.getElem?_map, cellsL_at f n _ (by omega)]; rfl
 have a3 : w1.cell? ⟨ga, i * 4 + 3, none⟩ = some (.int .i64 (f (i * 4 + 3))) := by rw [World.ownsRow.cellAt hO1 (i * 4 + 3) (by omega), List.getElem?_map, cellsL_at f n _ (by omega)]; rfl
 have af : ∀ j, w1.frozen? ⟨ga, j, none⟩ = false := fun j => World.ownsRow.frozenAt hO1 j
 have HG1 := lh hg1
 have HO1 := lh hO1
 have HB1 := lh hB1
 clear hg1 hO1 hB1 hs1
 have hszS : w.heap.size = s := HS0.out.symm
 rw [hszS]
 clear hszS
 have HF : Hid (∀ w', Below w1.heap.size w1 w' → w'.cell? ⟨g, 0, none⟩ = some (.slice (some ⟨ga, 0, none⟩) n c') ∧ w'.cell? ⟨g, 1, none⟩ = some (.int .i64 I) ∧ w'.cell? ⟨g, 2, none⟩ = some (.int .i64 H) ∧ w'.cell? ⟨g, 3, none⟩ = some (.int .i64 S) ∧ w'.cell? ⟨g, 4, none⟩ = some (.int .i64 P) ∧ w'.cell? ⟨s, 2, none⟩ = some (.int .i64 tt0) ∧ w'.cell? ⟨s, 3, none⟩ = some (.int .i64 z) ∧ w'.cell? ⟨ga, i * 4 + 2, none⟩ = some (.int .i64 (f (i * 4 + 2))) ∧ w'.cell? ⟨ga, i * 4 + 3, none⟩ = some (.int .i64 (f (i * 4 + 3)))) := by
  intro w' hq
  exact ⟨kp hq e0, kp hq e1, kp hq e2, kp hq e3, kp hq e4, kp hq s2, kp hq s3, kp hq a2, kp hq a3⟩
 have HSL : Hid (∀ w', Below w1.heap.size w1 w' → Sl w' lo w'.heap.size 4 (some ⟨ga, 0, none⟩) n f) := by
  intro w' hq
  obtain ⟨A0, c0, e0, _, _, h0⟩ := own_of_row (ownsRow_below HO1.out hq)
  cases e0
  exact (h0.congr (fun j hj => cellsL_getD _ n j hj)).sl
 go_wp2_with fail
 refine wp_region_held_drew (S := fun w' => Below (w1).heap.size (w1) w') (by kernel_rfl) ((Below.refl _ _).drew) (fun jd => ?_)
 refine tj4 0 50 3 53 1 51 4 54 HF jd ?_
 refine tj 2 52 HF rfl jd ?_
 refine wpAnyH_ready (rs := [5]) (by kernel_rfl) (by simp) ?_
 refine AllReadyH.cons rfl (fun K hK => ?_) AllReadyH.nil
 go_simp
 (go_at_call 109; refine (panAt_any _ n c' lo _ f I H S P tt0 _ (HSL.out _ jd) (by omega) hnc.1).mono ?_; rw [hfk]; rintro e w2 ⟨rfl, hb2⟩)
 refine hK.out _ _ (jd.trans (hb2.mono jd.size)) (fun jd => ?_)
 clear hK K hb2
 refine tj 6 9 HF rfl jd ?_
 refine wpAnyH_done (by kernel_rfl) ?_ _
 have hg2 := (jd.block g (Array.getElem?_eq_some_iff.1 HG1.out).1).trans HG1.out
 have hO2 := ownsRow_below HO1.out jd
 have hB2 := below_of HB1.out jd lw1
 have lw2 : lo ≤ w2.heap.size := Nat.le_trans lw1 jd.size
 have s22 := kp jd s2
 have s32 := kp jd s3
 clear jd HF HSL e0 e1 e2 e3 e4 ef a2 a3 af s0 s1 s2 s3 HG1 HO1 HB1
 obtain ⟨e0, e1, e2, e3, e4⟩ := cells5 hg2
 have ef := fz hg2
 have a2 : w2.cell? ⟨ga, i * 4 + 2, none⟩ = some (.int .i64 (f (i * 4 + 2))) := by rw [World.ownsRow.cellAt hO2 (i * 4 + 2) (by omega), List.getElem?_map, cellsL_at f n _ (by omega)]; rfl
 have a3 : w2.cell? ⟨ga, i * 4 + 3, none⟩ = some (.int .i64 (f (i * 4 + 3))) := by rw [World.ownsRow.cellAt hO2 (i * 4 + 3) (by omega), List.getElem?_map, cellsL_at f n _ (by omega)]; rfl
 have af : ∀ j, w2.frozen? ⟨ga, j, none⟩ = false := fun j => World.ownsRow.frozenAt hO2 j
 have HG2 := lh hg2
 have HO2 := lh hO2
 have HB2 := lh hB2
 clear hg2 hO2 hB2
 have HF : Hid (∀ w', Below w2.heap.size w2 w' → w'.cell? ⟨s, 3, none⟩ = some (.int .i64 z) ∧ w'.cell? ⟨ga, i * 4 + 2, none⟩ = some (.int .i64 (f (i * 4 + 2))) ∧ w'.cell? ⟨ga, i * 4 + 3, none⟩ = some (.int .i64 (f (i * 4 + 3)))) := by
  intro w' hq
  exact ⟨kp hq s32, kp hq a2, kp hq a3⟩
 have hneg : (-1 : Int) < 0 := by decide
 go_wp2_with fail
 refine wp_region_held_drew (S := fun w' => Below (w2).heap.size (w2) w') (by kernel_rfl) ((Below.refl _ _).drew) (fun jd => ?_)
 refine tj3 0 56 1 57 2 58 HF jd ?_
 refine wpAnyH_skips (by kernel_rfl) (fun _ _ _ _ _ h => h) jd [(3, 59), (4, 60), (5, 61)] 11 3 _ _ rfl (by kernel_rfl) ?_
 simp only [skipL, skipA, Act.put, p1, p2, p3]
 refine tj2 6 62 7 63 HF jd ?_
 refine wpAnyH_skips (by kernel_rfl) (fun _ _ _ _ _ h => h) jd [(8, 64), (9, 65), (10, 66), (11, 67), (12, 68), (13, 69), (14, 70), (15, 71)] 1 8 _ _ rfl (by kernel_rfl) ?_
 simp only [skipL, skipA, Act.put, p1, p2, p3]
 refine tj 16 72 HF rfl jd ?_
 refine wpAnyH_done (by kernel_rfl) ?_ _
 have hB3 := below_of HB2.out jd lw2
 clear jd HF e0 e1 e2 e3 e4 ef a2 a3 af s22 s32 HG2 HO2 HB2
 go_wp2
 go_ret
 exact ⟨rfl, hB3⟩
theorem stepPan_lead_same (g ga lo n c' : Nat) (f : Nat → Int) (I H S P : Int) (id tt0 z : Int) (i : Nat) (hi' : i < n) (hn : n ≤ 1000) (w : World) (hg : w.heap[g]? = some (.cells #[.slice (some ⟨ga, 0, none⟩) n c', .int .i64 I, .int .i64 H, .int .i64 S, .int .i64 P] 32 (0, 0))) (hO : w.ownsRow lo 97 4 (.slice (some ⟨ga, 0, none⟩) n c') n ((cellsL f n).map (Value.int .i64))) (hlo : lo ≤ g) (hfk : findV (pid f) tt0 n 0 = (i : Int)) :
  Calls Tryz.prog 169 #[.pointer (some ⟨g, 0, none⟩), .int .i64 i, .agg #[.int .i64 3, .int .i64 id, .int .i64 tt0, .int .i64 z]] w (fun e w' => e = .returned (.bool false) ∧ Below lo w w') := by
 go_enter Tryz.func169, Tryz.ntmps169
 have nga : ga ≠ g := by
  intro e
  subst e
  exact row_ne hO hg (by decide)
 have lg : g < w.heap.size := (Array.getElem?_eq_some_iff.1 hg).1
 have lga := World.ownsRow.lt hO ga rfl
 have hnc : n ≤ c' ∧ c' ≤ maxLen := by
  obtain ⟨_, _, e, h1, h2⟩ := row_slice hO
  cases e
  exact ⟨h1, h2⟩
 have hncI : (n : Int) ≤ (c' : Int) := by omega
 have hi0 : (0 : Int) ≤ (i : Int) := by omega
 have hin : (i : Int) < (n : Int) := by omega
 go_upto_region 1 with fail
 refine name_wp ?_
 intro w1 hw1
 have hb1 : Below w.heap.size w w1 := by rw [hw1]; exact (Below.refl _ w).alloc (Nat.le_refl _) _
 have hs1 := an hw1
 have hg1 := (hb1.block g lg).trans hg
 have hO1 := ownsRow_below hO hb1
 have hB1 : Below lo w w1 := hb1.mono (by omega)
 clear hw1 hg hO hb1
 have lg1 := (Array.getElem?_eq_some_iff.1 hg1).1
 have ls1 := (Array.getElem?_eq_some_iff.1 hs1).1
 have lw1 : lo ≤ w1.heap.size := by omega
 obtain ⟨s, hs⟩ : ∃ s, s = w.heap.size := ⟨_, rfl⟩
 rw [← hs] at hs1 lg lga ls1
 have ngs : g ≠ s := by omega
 have nsg : s ≠ g := by omega
 have nas : ga ≠ s := by omega
 have nsa : s ≠ ga := by omega
 have nga' : g ≠ ga := Ne.symm nga
 have hles : lo ≤ s := by omega
 have HS0 := lh hs
 clear hs
 obtain ⟨s0, s1, s2, s3⟩ := cells4 hs1
 obtain ⟨e0, e1, e2, e3, e4⟩ := cells5 hg1
 have ef := fz hg1
 have a2 : w1.cell? ⟨ga, i * 4 + 2, none⟩ = some (.int .i64 (f (i * 4 + 2))) := by rw [World.ownsRow.cellAt hO1 (i * 4 + 2) (by omega), List.getElem?_map, cellsL_at f n _ (by omega)]; rfl
 have a3 : w1.cell? ⟨ga, i * 4 + 3, none⟩ = some (.int .i64 (f (i * 4 + 3))) := by rw [World.ownsRow.cellAt hO1 (i * 4 + 3) (by omega), List.getElem?_map, cellsL_at f n _ (by omega)]; rfl
 have af : ∀ j, w1.frozen? ⟨ga, j, none⟩ = false := fun j => World.ownsRow.frozenAt hO1 j
 have HG1 := lh hg1
 have HO1 := lh hO1
 have HB1 := lh hB1
 clear hg1 hO1 hB1 hs1
 have hszS : w.heap.size = s := HS0.out.symm
 rw [hszS]
 clear hszS
 have HF : Hid (∀ w', Below w1.heap.size w1 w' → w'.cell? ⟨g, 0, none⟩ = some (.slice (some ⟨ga, 0, none⟩) n c') ∧ w'.cell? ⟨g, 1, none⟩ = some (.int .i64 I) ∧ w'.cell? ⟨g, 2, none⟩ = some (.int .i64 H) ∧ w'.cell? ⟨g, 3, none⟩ = some (.int .i64 S) ∧ w'.cell? ⟨g, 4, none⟩ = some (.int .i64 P) ∧ w'.cell? ⟨s, 2, none⟩ = some (.int .i64 tt0) ∧ w'.cell? ⟨s, 3, none⟩ = some (.int .i64 z) ∧ w'.cell? ⟨ga, i * 4 + 2, none⟩ = some (.int .i64 (f (i * 4 + 2))) ∧ w'.cell? ⟨ga, i * 4 + 3, none⟩ = some (.int .i64 (f (i * 4 + 3)))) := by
  intro w' hq
  exact ⟨kp hq e0, kp hq e1, kp hq e2, kp hq e3, kp hq e4, kp hq s2, kp hq s3, kp hq a2, kp hq a3⟩
 have HSL : Hid (∀ w', Below w1.heap.size w1 w' → Sl w' lo w'.heap.size 4 (some ⟨ga, 0, none⟩) n f) := by
  intro w' hq
  obtain ⟨A0, c0, e0, _, _, h0⟩ := own_of_row (ownsRow_below HO1.out hq)
  cases e0
  exact (h0.congr (fun j hj => cellsL_getD _ n j hj)).sl
 go_wp2_with fail
 refine wp_region_held_drew (S := fun w' => Below (w1).heap.size (w1) w') (by kernel_rfl) ((Below.refl _ _).drew) (fun jd => ?_)
 refine tj4 0 50 3 53 1 51 4 54 HF jd ?_
 refine tj 2 52 HF rfl jd ?_
 refine wpAnyH_ready (rs := [5]) (by kernel_rfl) (by simp) ?_
 refine AllReadyH.cons rfl (fun K hK => ?_) AllReadyH.nil
 go_simp
 (go_at_call 109; refine (panAt_any _ n c' lo _ f I H S P tt0 _ (HSL.out _ jd) (by omega) hnc.1).mono ?_; rw [hfk]; rintro e w2 ⟨rfl, hb2⟩)
 refine hK.out _ _ (jd.trans (hb2.mono jd.size)) (fun jd => ?_)
 clear hK K hb2
 refine tj 6 9 HF rfl jd ?_
 refine wpAnyH_done (by kernel_rfl) ?_ _
 have hg2 := (jd.block g (Array.getElem?_eq_some_iff.1 HG1.out).1).trans HG1.out
 have hO2 := ownsRow_below HO1.out jd
 have hB2 := below_of HB1.out jd lw1
 have lw2 : lo ≤ w2.heap.size := Nat.le_trans lw1 jd.size
 have s22 := kp jd s2
 have s32 := kp jd s3
 clear jd HF HSL e0 e1 e2 e3 e4 ef a2 a3 af s0 s1 s2 s3 HG1 HO1 HB1
 obtain ⟨e0, e1, e2, e3, e4⟩ := cells5 hg2
 have ef := fz hg2
 have a2 : w2.cell? ⟨ga, i * 4 + 2, none⟩ = some (.int .i64 (f (i * 4 + 2))) := by rw [World.ownsRow.cellAt hO2 (i * 4 + 2) (by omega), List.getElem?_map, cellsL_at f n _ (by omega)]; rfl
 have a3 : w2.cell? ⟨ga, i * 4 + 3, none⟩ = some (.int .i64 (f (i * 4 + 3))) := by rw [World.ownsRow.cellAt hO2 (i * 4 + 3) (by omega), List.getElem?_map, cellsL_at f n _ (by omega)]; rfl
 have af : ∀ j, w2.frozen? ⟨ga, j, none⟩ = false := fun j => World.ownsRow.frozenAt hO2 j
 have HG2 := lh hg2
 have HO2 := lh hO2
 have HB2 := lh hB2
 clear hg2 hO2 hB2
 have HF : Hid (∀ w', Below w2.heap.size w2 w' → w'.cell? ⟨s, 3, none⟩ = some (.int .i64 z) ∧ w'.cell? ⟨ga, i * 4 + 2, none⟩ = some (.int .i64 (f (i * 4 + 2))) ∧ w'.cell? ⟨ga, i * 4 + 3, none⟩ = some (.int .i64 (f (i * 4 + 3)))) := by
  intro w' hq
  exact ⟨kp hq s32, kp hq a2, kp hq a3⟩
 have hnn : ¬ ((i : Int) < 0) := by omega
 go_wp2_with fail
 refine wp_region_held_drew (S := fun w' => Below (w2).heap.size (w2) w') (by kernel_rfl) ((Below.refl _ _).drew) (fun jd => ?_)
 refine tj4 0 56 1 57 2 58 3 59 HF jd ?_
 refine tj4 4 60 5 61 6 62 7 63 HF jd ?_
 refine wpAnyH_skips (by kernel_rfl) (fun _ _ _ _ _ h => h) jd [(8, 64), (9, 65), (10, 66), (11, 67), (12, 68), (13, 69), (14, 70), (15, 71)] 1 8 _ _ rfl (by kernel_rfl) ?_
 simp only [skipL, skipA, Act.put, p1, p2, p3]
 refine tj 16 72 HF rfl jd ?_
 refine wpAnyH_done (by kernel_rfl) ?_ _
 have hB3 := below_of HB2.out jd lw2
 clear jd HF e0 e1 e2 e3 e4 ef a2 a3 af s22 s32 HG2 HO2 HB2
 go_wp2
 go_ret
 exact ⟨rfl, hB3⟩
theorem stepPan_lead (g ga lo n c' : Nat) (f : Nat → Int) (I H S P : Int) (id tt0 z : Int) (i : Nat) (hi' : i < n) (hn : n ≤ 1000) (w : World) (hg : w.heap[g]? = some (.cells #[.slice (some ⟨ga, 0, none⟩) n c', .int .i64 I, .int .i64 H, .int .i64 S, .int .i64 P] 32 (0, 0))) (hO : w.ownsRow lo 97 4 (.slice (some ⟨ga, 0, none⟩) n c') n ((cellsL f n).map (Value.int .i64))) (hlo : lo ≤ g) (kk : Nat) (hk' : kk < n) (hne : kk ≠ i) (hz0 : 0 < z) (hfk : findV (pid f) tt0 n 0 = (kk : Int)) :
  Calls Tryz.prog 169 #[.pointer (some ⟨g, 0, none⟩), .int .i64 i, .agg #[.int .i64 3, .int .i64 id, .int .i64 tt0, .int .i64 z]] w (fun e w' => e = .returned (.bool (leadOk f i z)) ∧ ((leadOk f i z) = true → BoxRow w' lo g ga n c' (cellsL (leadF f i kk z) n) I H S P) ∧ Below lo w w') := by
 go_enter Tryz.func169, Tryz.ntmps169
 have nga : ga ≠ g := by
  intro e
  subst e
  exact row_ne hO hg (by decide)
 have lg : g < w.heap.size := (Array.getElem?_eq_some_iff.1 hg).1
 have lga := World.ownsRow.lt hO ga rfl
 have hnc : n ≤ c' ∧ c' ≤ maxLen := by
  obtain ⟨_, _, e, h1, h2⟩ := row_slice hO
  cases e
  exact ⟨h1, h2⟩
 have hncI : (n : Int) ≤ (c' : Int) := by omega
 have hi0 : (0 : Int) ≤ (i : Int) := by omega
 have hin : (i : Int) < (n : Int) := by omega
 go_upto_region 1 with fail
 refine name_wp ?_
 intro w1 hw1
 have hb1 : Below w.heap.size w w1 := by rw [hw1]; exact (Below.refl _ w).alloc (Nat.le_refl _) _
 have hs1 := an hw1
 have hg1 := (hb1.block g lg).trans hg
 have hO1 := ownsRow_below hO hb1
 have hB1 : Below lo w w1 := hb1.mono (by omega)
 clear hw1 hg hO hb1
 have lg1 := (Array.getElem?_eq_some_iff.1 hg1).1
 have ls1 := (Array.getElem?_eq_some_iff.1 hs1).1
 have lw1 : lo ≤ w1.heap.size := by omega
 obtain ⟨s, hs⟩ : ∃ s, s = w.heap.size := ⟨_, rfl⟩
 rw [← hs] at hs1 lg lga ls1
 have ngs : g ≠ s := by omega
 have nsg : s ≠ g := by omega
 have nas : ga ≠ s := by omega
 have nsa : s ≠ ga := by omega
 have nga' : g ≠ ga := Ne.symm nga
 have hles : lo ≤ s := by omega
 have HS0 := lh hs
 clear hs
 obtain ⟨s0, s1, s2, s3⟩ := cells4 hs1
 obtain ⟨e0, e1, e2, e3, e4⟩ := cells5 hg1
 have ef := fz hg1
 have a2 : w1.cell? ⟨ga, i * 4 + 2, none⟩ = some (.int .i64 (f (i * 4 + 2))) := by rw [World.ownsRow.cellAt hO1 (i * 4 + 2) (by omega), List.getElem?_map, cellsL_at f n _ (by omega)]; rfl
 have a3 : w1.cell? ⟨ga, i * 4 + 3, none⟩ = some (.int .i64 (f (i * 4 + 3))) := by rw [World.ownsRow.cellAt hO1 (i * 4 + 3) (by omega), List.getElem?_map, cellsL_at f n _ (by omega)]; rfl
 have af : ∀ j, w1.frozen? ⟨ga, j, none⟩ = false := fun j => World.ownsRow.frozenAt hO1 j
 have HG1 := lh hg1
 have HO1 := lh hO1
 have HB1 := lh hB1
 clear hg1 hO1 hB1 hs1
 have hszS : w.heap.size = s := HS0.out.symm
 rw [hszS]
 clear hszS
 have HF : Hid (∀ w', Below w1.heap.size w1 w' → w'.cell? ⟨g, 0, none⟩ = some (.slice (some ⟨ga, 0, none⟩) n c') ∧ w'.cell? ⟨g, 1, none⟩ = some (.int .i64 I) ∧ w'.cell? ⟨g, 2, none⟩ = some (.int .i64 H) ∧ w'.cell? ⟨g, 3, none⟩ = some (.int .i64 S) ∧ w'.cell? ⟨g, 4, none⟩ = some (.int .i64 P) ∧ w'.cell? ⟨s, 2, none⟩ = some (.int .i64 tt0) ∧ w'.cell? ⟨s, 3, none⟩ = some (.int .i64 z) ∧ w'.cell? ⟨ga, i * 4 + 2, none⟩ = some (.int .i64 (f (i * 4 + 2))) ∧ w'.cell? ⟨ga, i * 4 + 3, none⟩ = some (.int .i64 (f (i * 4 + 3)))) := by
  intro w' hq
  exact ⟨kp hq e0, kp hq e1, kp hq e2, kp hq e3, kp hq e4, kp hq s2, kp hq s3, kp hq a2, kp hq a3⟩
 have HSL : Hid (∀ w', Below w1.heap.size w1 w' → Sl w' lo w'.heap.size 4 (some ⟨ga, 0, none⟩) n f) := by
  intro w' hq
  obtain ⟨A0, c0, e0, _, _, h0⟩ := own_of_row (ownsRow_below HO1.out hq)
  cases e0
  exact (h0.congr (fun j hj => cellsL_getD _ n j hj)).sl
 go_wp2_with fail
 refine wp_region_held_drew (S := fun w' => Below (w1).heap.size (w1) w') (by kernel_rfl) ((Below.refl _ _).drew) (fun jd => ?_)
 refine tj4 0 50 3 53 1 51 4 54 HF jd ?_
 refine tj 2 52 HF rfl jd ?_
 refine wpAnyH_ready (rs := [5]) (by kernel_rfl) (by simp) ?_
 refine AllReadyH.cons rfl (fun K hK => ?_) AllReadyH.nil
 go_simp
 (go_at_call 109; refine (panAt_any _ n c' lo _ f I H S P tt0 _ (HSL.out _ jd) (by omega) hnc.1).mono ?_; rw [hfk]; rintro e w2 ⟨rfl, hb2⟩)
 refine hK.out _ _ (jd.trans (hb2.mono jd.size)) (fun jd => ?_)
 clear hK K hb2
 refine tj 6 9 HF rfl jd ?_
 refine wpAnyH_done (by kernel_rfl) ?_ _
 have hg2 := (jd.block g (Array.getElem?_eq_some_iff.1 HG1.out).1).trans HG1.out
 have hO2 := ownsRow_below HO1.out jd
 have hB2 := below_of HB1.out jd lw1
 have lw2 : lo ≤ w2.heap.size := Nat.le_trans lw1 jd.size
 have s22 := kp jd s2
 have s32 := kp jd s3
 clear jd HF HSL e0 e1 e2 e3 e4 ef a2 a3 af s0 s1 s2 s3 HG1 HO1 HB1
 obtain ⟨e0, e1, e2, e3, e4⟩ := cells5 hg2
 have ef := fz hg2
 have a2 : w2.cell? ⟨ga, i * 4 + 2, none⟩ = some (.int .i64 (f (i * 4 + 2))) := by rw [World.ownsRow.cellAt hO2 (i * 4 + 2) (by omega), List.getElem?_map, cellsL_at f n _ (by omega)]; rfl
 have a3 : w2.cell? ⟨ga, i * 4 + 3, none⟩ = some (.int .i64 (f (i * 4 + 3))) := by rw [World.ownsRow.cellAt hO2 (i * 4 + 3) (by omega), List.getElem?_map, cellsL_at f n _ (by omega)]; rfl
 have af : ∀ j, w2.frozen? ⟨ga, j, none⟩ = false := fun j => World.ownsRow.frozenAt hO2 j
 have HG2 := lh hg2
 have HO2 := lh hO2
 have HB2 := lh hB2
 clear hg2 hO2 hB2
 have HF : Hid (∀ w', Below w2.heap.size w2 w' → w'.cell? ⟨s, 3, none⟩ = some (.int .i64 z) ∧ w'.cell? ⟨ga, i * 4 + 2, none⟩ = some (.int .i64 (f (i * 4 + 2))) ∧ w'.cell? ⟨ga, i * 4 + 3, none⟩ = some (.int .i64 (f (i * 4 + 3)))) := by
  intro w' hq
  exact ⟨kp hq s32, kp hq a2, kp hq a3⟩
 have hnn : ¬ ((kk : Int) < 0) := by omega
 have hnei : ¬ ((kk : Int) = (i : Int)) := by omega
 have hneb : ((kk : Int) == (i : Int)) = false := by simp [hnei]
 have hk0i : (0 : Int) ≤ (kk : Int) := by omega
 have hkni : (kk : Int) < (n : Int) := by omega
 go_wp2_with fail
 refine wp_region_held_drew (S := fun w' => Below (w2).heap.size (w2) w') (by kernel_rfl) ((Below.refl _ _).drew) (fun jd => ?_)
 refine tj4 0 56 1 57 2 58 3 59 HF jd ?_
 refine tj4 4 60 5 61 6 62 7 63 HF jd ?_
 refine tj4 8 64 9 65 10 66 11 67 HF jd ?_
 refine tj2 12 68 13 69 HF jd ?_
 refine wpAnyH_ready (rs := [14]) (by kernel_rfl) (by simp) ?_
 refine AllReadyH.cons rfl (fun K hK => ?_) AllReadyH.nil
 go_simp
 (go_at_call 121; refine (mass_any _ _ _).mono ?_; rintro e w3 ⟨rfl, hb2⟩)
 refine hK.out _ _ (jd.trans (hb2.mono jd.size)) (fun jd => ?_)
 clear hK K hb2
 refine tj2 15 71 16 72 HF jd ?_
 refine wpAnyH_done (by kernel_rfl) ?_ _
 have hg3 := (jd.block g (Array.getElem?_eq_some_iff.1 HG2.out).1).trans HG2.out
 have hO3 := ownsRow_below HO2.out jd
 have hB3 := below_of HB2.out jd lw2
 have lw3 : lo ≤ w3.heap.size := Nat.le_trans lw2 jd.size
 have s33 := kp jd s32
 clear jd HF e0 e1 e2 e3 e4 ef a2 a3 af s22 s32 HG2 HO2 HB2
 by_cases hzm : massV (f (i * 4 + 2)) (f (i * 4 + 3)) < z
 ·have hpo : leadOk f i z = false := by simp [leadOk]; omega
  have HPO := lh hpo
  clear hpo
  go_wp2
  go_ret
  rw [HPO.out]
  exact ⟨rfl, (fun h => by cases h), hB3⟩
 have hpo : leadOk f i z = true := by simp [leadOk]; omega
 have hpf : leadF f i kk z = setB (setB f i (wrap64 (f (i * 4 + 2) - wrap64 (z - (partV (f (i * 4 + 2)) (f (i * 4 + 3)) z)))) (wrap64 (f (i * 4 + 3) - (partV (f (i * 4 + 2)) (f (i * 4 + 3)) z)))) kk (wrap64 (f (kk * 4 + 2) + wrap64 (z - (partV (f (i * 4 + 2)) (f (i * 4 + 3)) z)))) (wrap64 (f (kk * 4 + 3) + (partV (f (i * 4 + 2)) (f (i * 4 + 3)) z))) := by
  unfold leadF
  rw [if_pos hpo]
 have hm0 : massV (f (i * 4 + 2)) (f (i * 4 + 3)) ≠ 0 := by omega
 have HPO := lh hpo
 have HPF := lh hpf
 clear hpo hpf
 obtain ⟨e0, e1, e2, e3, e4⟩ := cells5 hg3
 have ef := fz hg3
 have a2 : w3.cell? ⟨ga, i * 4 + 2, none⟩ = some (.int .i64 (f (i * 4 + 2))) := by rw [World.ownsRow.cellAt hO3 (i * 4 + 2) (by omega), List.getElem?_map, cellsL_at f n _ (by omega)]; rfl
 have a3 : w3.cell? ⟨ga, i * 4 + 3, none⟩ = some (.int .i64 (f (i * 4 + 3))) := by rw [World.ownsRow.cellAt hO3 (i * 4 + 3) (by omega), List.getElem?_map, cellsL_at f n _ (by omega)]; rfl
 have af : ∀ j, w3.frozen? ⟨ga, j, none⟩ = false := fun j => World.ownsRow.frozenAt hO3 j
 have HG3 := lh hg3
 have HO3 := lh hO3
 have HB3 := lh hB3
 clear hg3 hO3 hB3
 have HF : Hid (∀ w', Below w3.heap.size w3 w' → w'.cell? ⟨s, 3, none⟩ = some (.int .i64 z) ∧ w'.cell? ⟨ga, i * 4 + 2, none⟩ = some (.int .i64 (f (i * 4 + 2))) ∧ w'.cell? ⟨ga, i * 4 + 3, none⟩ = some (.int .i64 (f (i * 4 + 3)))) := by
  intro w' hq
  exact ⟨kp hq s33, kp hq a2, kp hq a3⟩
 go_wp2_with fail
 refine wp_region_held_drew (S := fun w' => Below w3.heap.size w3 w') (by kernel_rfl) ((Below.refl _ w3).drew) (fun jd => ?_)
 refine tj4 0 73 4 77 1 74 5 78 HF jd ?_
 refine tj2 2 75 3 76 HF jd ?_
 refine wpAnyH_two (fuel := 1) (i := 6) (j := 7) (di := 79) (dj := 10) (skip := [79, 10]) (Pi := fun v _ => v = .agg #[.int .i64 (wrap64 (z - (partV (f (i * 4 + 2)) (f (i * 4 + 3)) z))), .int .i64 (partV (f (i * 4 + 2)) (f (i * 4 + 3)) z)]) rfl rfl rfl rfl (by decide) (by decide) (by decide) (by decide) (by kernel_rfl) (by kernel_rfl) (by kernel_rfl) ?ji (Job.alloc (nb := w3.heap.size) (obj := (.cells #[.int .i64 0, .int .i64 0] 95)) rfl (fun _ h => h.size) (fun a' w1 => by go_simp; try rfl)) (fun v w1 w2 h _ => h) stays_alloc below_stays jd ?nx
 case ji =>
  intro a' w1' K hev hb hK
  have h1 : a'.eval (.tmp 76) = .agg #[.int .i64 (f (i * 4 + 2)), .int .i64 (f (i * 4 + 3))] := (hev 76 (by decide)).trans rfl
  have h2 : a'.tmps[76]?.getD undef = .agg #[.int .i64 (f (i * 4 + 2)), .int .i64 (f (i * 4 + 3))] := by simpa [Act.eval] using h1
  have h3 : a'.eval (.tmp 78) = .int .i64 z := (hev 78 (by decide)).trans rfl
  have h4 : a'.tmps[78]?.getD undef = .int .i64 z := by simpa [Act.eval] using h3
  have HK := lh hK
  clear hev h1 h3 hK HF
  go_simp
  go_at_call 198
  refine (part_any _ _ z w1' (by omega) hm0).mono ?_
  rintro e w2' ⟨rfl, hb2⟩
  exact HK.out _ w2' rfl hb2
 case nx =>
 rintro vi vj w4 rfl ⟨g12, rfl, l12, h12⟩ hB4 _
 simp only [Act.put, p1, p2, p3]
 refine wS0 8 g12 #[.int .i64 (wrap64 (z - (partV (f (i * 4 + 2)) (f (i * 4 + 3)) z))), .int .i64 (partV (f (i * 4 + 2)) (f (i * 4 + 3)) z)] 95 infoBrine h12 (fun w' hg => hB4.grown hg hB4.size (fun k hk => by cases hk; exact l12)) ?kst
 case kst =>
 intro w5 h125 hg5 hB5
 refine wpAnyH_done (by kernel_rfl) ?_ _
 have h125' : w5.heap[g12]? = some (.cells #[.int .i64 (wrap64 (z - (partV (f (i * 4 + 2)) (f (i * 4 + 3)) z))), .int .i64 (partV (f (i * 4 + 2)) (f (i * 4 + 3)) z)] 95) := h125
 have hg5' := (hB5.block g (Array.getElem?_eq_some_iff.1 HG3.out).1).trans HG3.out
 have hO5 := ownsRow_below HO3.out hB5
 have hBB5 := below_of HB3.out hB5 lw3
 have lw5 : lo ≤ w5.heap.size := Nat.le_trans lw3 hB5.size
 obtain ⟨p05, p15⟩ := cells2 h125'
 have lg3 : ga < w3.heap.size := (World.ownsRow.lt HO3.out ga rfl).2
 have nga12 : g12 ≠ ga := by omega
 clear e0 e1 e2 e3 e4 ef a2 a3 af HF hB4 h12 h125 h125' hg5 hB5 jd HG3 HO3 HB3 s33 l12
 obtain ⟨e0, e1, e2, e3, e4⟩ := cells5 hg5'
 have ef := fz hg5'
 have a2 : w5.cell? ⟨ga, i * 4 + 2, none⟩ = some (.int .i64 (f (i * 4 + 2))) := by rw [World.ownsRow.cellAt hO5 (i * 4 + 2) (by omega), List.getElem?_map, cellsL_at f n _ (by omega)]; rfl
 have a3 : w5.cell? ⟨ga, i * 4 + 3, none⟩ = some (.int .i64 (f (i * 4 + 3))) := by rw [World.ownsRow.cellAt hO5 (i * 4 + 3) (by omega), List.getElem?_map, cellsL_at f n _ (by omega)]; rfl
 have af : ∀ j, w5.frozen? ⟨ga, j, none⟩ = false := fun j => World.ownsRow.frozenAt hO5 j
 obtain ⟨cur, hcur, hcs, hput⟩ := row_open hO5
 have hfit : i * 4 + 2 + 2 ≤ cur.size := by omega
 have HG5 := lh hg5'
 have HB5 := lh hBB5
 clear hg5' hO5 hBB5
 have HF : Hid (∀ w', w5.grownBy w' (some ga) → w'.cell? ⟨g12, 0, none⟩ = some (.int .i64 (wrap64 (z - (partV (f (i * 4 + 2)) (f (i * 4 + 3)) z)))) ∧ w'.cell? ⟨g12, 1, none⟩ = some (.int .i64 (partV (f (i * 4 + 2)) (f (i * 4 + 3)) z))) := by
  intro w' hq
  exact ⟨(World.cell?_of_block (a := ⟨g12, 0, none⟩) (hq.block _ (World.block_lt_of_cell? _ _ p05) (by simp; omega))).trans p05, (World.cell?_of_block (a := ⟨g12, 1, none⟩) (hq.block _ (World.block_lt_of_cell? _ _ p15) (by simp; omega))).trans p15⟩
 go_wp2_with fail
 refine wp_region_held_drew (S := fun w' => w5.grownBy w' (some ga)) (by kernel_rfl) ⟨rfl, rfl, rfl, Nat.le_refl _, fun _ _ _ => rfl⟩ (fun jd => ?_)
 refine tj4 0 80 1 81 5 85 2 82 HF jd ?_
 refine tj 3 83 HF rfl jd ?_
 refine wpAnyH_ready (rs := [4]) (by kernel_rfl) (by simp) ?_
 refine AllReadyH.cons rfl (fun K hK => ?_) AllReadyH.nil
 go_simp
 refine hK.out _ _ jd (fun jd => ?_)
 clear hK K
 refine wpAnyH_job (fuel := 3) (i := 6) (d := 86) (skip := []) (Post := fun v _ => v = (.agg #[.int .i64 (wrap64 (f (i * 4 + 2) - wrap64 (z - (partV (f (i * 4 + 2)) (f (i * 4 + 3)) z)))), .int .i64 (wrap64 (f (i * 4 + 3) - (partV (f (i * 4 + 2)) (f (i * 4 + 3)) z)))])) rfl rfl (by kernel_rfl) ?jm but_stays jd ?nm
 case jm =>
  intro a' w1' K hev hb hK
  have h1 : a'.eval (.tmp 84) = .agg #[.int .i64 (f (i * 4 + 2)), .int .i64 (f (i * 4 + 3))] := (hev 84 (by decide)).trans rfl
  have h2 : a'.tmps[84]?.getD undef = .agg #[.int .i64 (f (i * 4 + 2)), .int .i64 (f (i * 4 + 3))] := by simpa [Act.eval] using h1
  have h3 : a'.eval (.tmp 85) = .agg #[.int .i64 (wrap64 (z - (partV (f (i * 4 + 2)) (f (i * 4 + 3)) z))), .int .i64 (partV (f (i * 4 + 2)) (f (i * 4 + 3)) z)] := (hev 85 (by decide)).trans rfl
  have h4 : a'.tmps[85]?.getD undef = .agg #[.int .i64 (wrap64 (z - (partV (f (i * 4 + 2)) (f (i * 4 + 3)) z))), .int .i64 (partV (f (i * 4 + 2)) (f (i * 4 + 3)) z)] := by simpa [Act.eval] using h3
  have HK := lh hK
  clear hev h1 h3 hK HF
  go_simp
  go_at_call 199
  refine (minus_any _ _ _ _ w1').mono ?_
  rintro e w2' ⟨rfl, hb2⟩
  exact HK.out _ w2' rfl hb2
 case nm =>
 rintro v wl rfl hSl hbl
 simp only [Act.put, p1, p2, p3]
 have jd := hSl
 refine tj2 7 87 8 88 HF jd ?_
 have hcurl : wl.heap[ga]? = some (.cells cur 97) := (hbl.block ga (Array.getElem?_eq_some_iff.1 hcur).1).trans hcur
 refine wpAnyH_store (fuel := 0) (i := 9) rfl (by kernel_rfl) ga (i * 4 + 2) (.agg #[.int .i64 (wrap64 (f (i * 4 + 2) - wrap64 (z - (partV (f (i * 4 + 2)) (f (i * 4 + 3)) z)))), .int .i64 (wrap64 (f (i * 4 + 3) - (partV (f (i * 4 + 2)) (f (i * 4 + 3)) z)))]) 97 cur rfl rfl infoBrine hcurl hfit (by simp [Value.cells, Value.oneCell']) (fun w' hg => grown_trans hSl hg) ?kv
 case kv =>
 intro w6 hhw6 hgw6 hSw6
 refine wpAnyH_done (by kernel_rfl) ?_ _
 rw [show putRow cur (i * 4 + 2) ((.agg #[.int .i64 (wrap64 (f (i * 4 + 2) - wrap64 (z - (partV (f (i * 4 + 2)) (f (i * 4 + 3)) z)))), .int .i64 (wrap64 (f (i * 4 + 3) - (partV (f (i * 4 + 2)) (f (i * 4 + 3)) z)))]) : Value).cells = _ from putRow_two cur _ _ _ hfit] at hhw6
 have hOw6 := hput w6 (i * 4 + 2) _ _ hhw6
 rw [cellsL_set, cellsL_set] at hOw6
 have hg6 := (hSw6.block g (Array.getElem?_eq_some_iff.1 HG5.out).1 (by simp; omega)).trans HG5.out
 have hB6 := HB5.out.grown hSw6 lw5 (fun k hk => by cases hk; omega)
 have lw6 : lo ≤ w6.heap.size := Nat.le_trans lw5 hSw6.size
 have p06 := (World.cell?_of_block (a := ⟨g12, 0, none⟩) (hSw6.block _ (World.block_lt_of_cell? _ _ p05) (by simp; omega))).trans p05
 have p16 := (World.cell?_of_block (a := ⟨g12, 1, none⟩) (hSw6.block _ (World.block_lt_of_cell? _ _ p15) (by simp; omega))).trans p15
 clear jd HF hSw6 hgw6 hhw6 hSl hbl hcurl hcur hput hcs hfit e0 e1 e2 e3 e4 ef a2 a3 af HG5 HB5 p05 p15
 have e0 : w6.cell? ⟨g, 0, none⟩ = some (.slice (some ⟨ga, 0, none⟩) n c') := by rw [cell_of_row w6 g 0 _ _ (0, 0) hg6]; rfl
 have ef := fz hg6
 have sk2 : setB f i (wrap64 (f (i * 4 + 2) - wrap64 (z - (partV (f (i * 4 + 2)) (f (i * 4 + 3)) z)))) (wrap64 (f (i * 4 + 3) - (partV (f (i * 4 + 2)) (f (i * 4 + 3)) z))) (kk * 4 + 2) = f (kk * 4 + 2) := setB_far _ _ trivial (by omega) (by omega)
 have sk3 : setB f i (wrap64 (f (i * 4 + 2) - wrap64 (z - (partV (f (i * 4 + 2)) (f (i * 4 + 3)) z)))) (wrap64 (f (i * 4 + 3) - (partV (f (i * 4 + 2)) (f (i * 4 + 3)) z))) (kk * 4 + 3) = f (kk * 4 + 3) := setB_far _ _ trivial (by omega) (by omega)
 have a2 : w6.cell? ⟨ga, kk * 4 + 2, none⟩ = some (.int .i64 (f (kk * 4 + 2))) := by rw [World.ownsRow.cellAt hOw6 (kk * 4 + 2) (by omega), List.getElem?_map, cellsL_at _ n _ (by omega)]; exact congrArg (fun x => some (Value.int .i64 x)) sk2
 have a3 : w6.cell? ⟨ga, kk * 4 + 3, none⟩ = some (.int .i64 (f (kk * 4 + 3))) := by rw [World.ownsRow.cellAt hOw6 (kk * 4 + 3) (by omega), List.getElem?_map, cellsL_at _ n _ (by omega)]; exact congrArg (fun x => some (Value.int .i64 x)) sk3
 have af : ∀ j, w6.frozen? ⟨ga, j, none⟩ = false := fun j => World.ownsRow.frozenAt hOw6 j
 clear sk2 sk3
 obtain ⟨cur2, hcur, hcs, hput⟩ := row_open hOw6
 have hfit : kk * 4 + 2 + 2 ≤ cur2.size := by omega
 have HG6 := lh hg6
 have HB6 := lh hB6
 clear hg6 hOw6 hB6
 have HF : Hid (∀ w', w6.grownBy w' (some ga) → w'.cell? ⟨g, 0, none⟩ = some (.slice (some ⟨ga, 0, none⟩) n c') ∧ w'.cell? ⟨g12, 0, none⟩ = some (.int .i64 (wrap64 (z - (partV (f (i * 4 + 2)) (f (i * 4 + 3)) z)))) ∧ w'.cell? ⟨g12, 1, none⟩ = some (.int .i64 (partV (f (i * 4 + 2)) (f (i * 4 + 3)) z))) := by
  intro w' hq
  exact ⟨(World.cell?_of_block (a := ⟨g, 0, none⟩) (hq.block _ (World.block_lt_of_cell? _ _ e0) (by simp; omega))).trans e0, (World.cell?_of_block (a := ⟨g12, 0, none⟩) (hq.block _ (World.block_lt_of_cell? _ _ p06) (by simp; omega))).trans p06, (World.cell?_of_block (a := ⟨g12, 1, none⟩) (hq.block _ (World.block_lt_of_cell? _ _ p16) (by simp; omega))).trans p16⟩
 go_wp2_with fail
 refine wp_region_held_drew (S := fun w' => w6.grownBy w' (some ga)) (by kernel_rfl) ⟨rfl, rfl, rfl, Nat.le_refl _, fun _ _ _ => rfl⟩ (fun jd => ?_)
 refine tj4 0 89 4 93 5 94 9 98 HF jd ?_
 refine tj4 13 102 1 90 6 95 2 91 HF jd ?_
 refine tj4 7 96 3 92 8 97 10 99 HF jd ?_
 refine tj 11 100 HF rfl jd ?_
 refine wpAnyH_ready (rs := [12]) (by kernel_rfl) (by simp) ?_
 refine AllReadyH.cons rfl (fun K hK => ?_) AllReadyH.nil
 go_simp
 refine hK.out _ _ jd (fun jd => ?_)
 clear hK K
 refine wpAnyH_job (fuel := 3) (i := 14) (d := 103) (skip := []) (Post := fun v _ => v = (.agg #[.int .i64 (wrap64 (f (kk * 4 + 2) + wrap64 (z - (partV (f (i * 4 + 2)) (f (i * 4 + 3)) z)))), .int .i64 (wrap64 (f (kk * 4 + 3) + (partV (f (i * 4 + 2)) (f (i * 4 + 3)) z)))])) rfl rfl (by kernel_rfl) ?jq but_stays jd ?nq
 case jq =>
  intro a' w1' K hev hb hK
  have h1 : a'.eval (.tmp 101) = .agg #[.int .i64 (f (kk * 4 + 2)), .int .i64 (f (kk * 4 + 3))] := (hev 101 (by decide)).trans rfl
  have h2 : a'.tmps[101]?.getD undef = .agg #[.int .i64 (f (kk * 4 + 2)), .int .i64 (f (kk * 4 + 3))] := by simpa [Act.eval] using h1
  have h3 : a'.eval (.tmp 102) = .agg #[.int .i64 (wrap64 (z - (partV (f (i * 4 + 2)) (f (i * 4 + 3)) z))), .int .i64 (partV (f (i * 4 + 2)) (f (i * 4 + 3)) z)] := (hev 102 (by decide)).trans rfl
  have h4 : a'.tmps[102]?.getD undef = .agg #[.int .i64 (wrap64 (z - (partV (f (i * 4 + 2)) (f (i * 4 + 3)) z))), .int .i64 (partV (f (i * 4 + 2)) (f (i * 4 + 3)) z)] := by simpa [Act.eval] using h3
  have HK := lh hK
  clear hev h1 h3 hK HF
  go_simp
  go_at_call 197
  refine (plus_any _ _ _ _ w1').mono ?_
  rintro e w2' ⟨rfl, hb2⟩
  exact HK.out _ w2' rfl hb2
 case nq =>
 rintro v wl rfl hSl hbl
 simp only [Act.put, p1, p2, p3]
 have jd := hSl
 refine tj2 15 104 16 105 HF jd ?_
 have hcurl : wl.heap[ga]? = some (.cells cur2 97) := (hbl.block ga (Array.getElem?_eq_some_iff.1 hcur).1).trans hcur
 refine wpAnyH_store (fuel := 0) (i := 17) rfl (by kernel_rfl) ga (kk * 4 + 2) (.agg #[.int .i64 (wrap64 (f (kk * 4 + 2) + wrap64 (z - (partV (f (i * 4 + 2)) (f (i * 4 + 3)) z)))), .int .i64 (wrap64 (f (kk * 4 + 3) + (partV (f (i * 4 + 2)) (f (i * 4 + 3)) z)))]) 97 cur2 rfl rfl infoBrine hcurl hfit (by simp [Value.cells, Value.oneCell']) (fun w' hg => grown_trans hSl hg) ?kx
 case kx =>
 intro w7 hhw7 hgw7 hSw7
 refine wpAnyH_done (by kernel_rfl) ?_ _
 rw [show putRow cur2 (kk * 4 + 2) ((.agg #[.int .i64 (wrap64 (f (kk * 4 + 2) + wrap64 (z - (partV (f (i * 4 + 2)) (f (i * 4 + 3)) z)))), .int .i64 (wrap64 (f (kk * 4 + 3) + (partV (f (i * 4 + 2)) (f (i * 4 + 3)) z)))]) : Value).cells = _ from putRow_two cur2 _ _ _ hfit] at hhw7
 have hOw7 := hput w7 (kk * 4 + 2) _ _ hhw7
 rw [cellsL_set, cellsL_set] at hOw7
 have hg7 := (hSw7.block g (Array.getElem?_eq_some_iff.1 HG6.out).1 (by simp; omega)).trans HG6.out
 have hB7 := HB6.out.grown hSw7 lw6 (fun k hk => by cases hk; omega)
 clear jd HF hSw7 hgw7 hhw7 hSl hbl hcurl hcur hput hcs hfit e0 ef a2 a3 af HG6 HB6 p06 p16
 go_wp2
 go_ret
 rw [HPO.out]
 exact ⟨rfl, fun _ => ⟨hg7, by rw [HPF.out]; exact hOw7⟩, hB7⟩
theorem stepPan_other (g ga lo n c' : Nat) (f : Nat → Int) (I H S P : Int) (kd id tt0 z : Int) (i : Nat) (hi' : i < n) (hn : n ≤ 1000) (w : World) (hg : w.heap[g]? = some (.cells #[.slice (some ⟨ga, 0, none⟩) n c', .int .i64 I, .int .i64 H, .int .i64 S, .int .i64 P] 32 (0, 0))) (hO : w.ownsRow lo 97 4 (.slice (some ⟨ga, 0, none⟩) n c') n ((cellsL f n).map (Value.int .i64))) (hlo : lo ≤ g) (k2 : (kd == 2) = false) (k3 : (kd == 3) = false) (k4 : (kd == 4) = false) (k5 : (kd == 5) = false) :
  Calls Tryz.prog 169 #[.pointer (some ⟨g, 0, none⟩), .int .i64 i, .agg #[.int .i64 kd, .int .i64 id, .int .i64 tt0, .int .i64 z]] w (fun e w' => e = .returned (.bool false) ∧ Below lo w w') := by
 go_enter Tryz.func169, Tryz.ntmps169
 have nga : ga ≠ g := by
  intro e
  subst e
  exact row_ne hO hg (by decide)
 have lg : g < w.heap.size := (Array.getElem?_eq_some_iff.1 hg).1
 have lga := World.ownsRow.lt hO ga rfl
 have hnc : n ≤ c' ∧ c' ≤ maxLen := by
  obtain ⟨_, _, e, h1, h2⟩ := row_slice hO
  cases e
  exact ⟨h1, h2⟩
 have hncI : (n : Int) ≤ (c' : Int) := by omega
 have hi0 : (0 : Int) ≤ (i : Int) := by omega
 have hin : (i : Int) < (n : Int) := by omega
 go_upto_region 1 with fail
 refine name_wp ?_
 intro w1 hw1
 have hb1 : Below w.heap.size w w1 := by rw [hw1]; exact (Below.refl _ w).alloc (Nat.le_refl _) _
 have hs1 := an hw1
 have hg1 := (hb1.block g lg).trans hg
 have hO1 := ownsRow_below hO hb1
 have hB1 : Below lo w w1 := hb1.mono (by omega)
 clear hw1 hg hO hb1
 have lg1 := (Array.getElem?_eq_some_iff.1 hg1).1
 have ls1 := (Array.getElem?_eq_some_iff.1 hs1).1
 have lw1 : lo ≤ w1.heap.size := by omega
 obtain ⟨s, hs⟩ : ∃ s, s = w.heap.size := ⟨_, rfl⟩
 rw [← hs] at hs1 lg lga ls1
 have ngs : g ≠ s := by omega
 have nsg : s ≠ g := by omega
 have nas : ga ≠ s := by omega
 have nsa : s ≠ ga := by omega
 have nga' : g ≠ ga := Ne.symm nga
 have hles : lo ≤ s := by omega
 have HS0 := lh hs
 clear hs
 obtain ⟨s0, s1, s2, s3⟩ := cells4 hs1
 obtain ⟨e0, e1, e2, e3, e4⟩ := cells5 hg1
 have ef := fz hg1
 have a2 : w1.cell? ⟨ga, i * 4 + 2, none⟩ = some (.int .i64 (f (i * 4 + 2))) := by rw [World.ownsRow.cellAt hO1 (i * 4 + 2) (by omega), List.getElem?_map, cellsL_at f n _ (by omega)]; rfl
 have a3 : w1.cell? ⟨ga, i * 4 + 3, none⟩ = some (.int .i64 (f (i * 4 + 3))) := by rw [World.ownsRow.cellAt hO1 (i * 4 + 3) (by omega), List.getElem?_map, cellsL_at f n _ (by omega)]; rfl
 have af : ∀ j, w1.frozen? ⟨ga, j, none⟩ = false := fun j => World.ownsRow.frozenAt hO1 j
 have HG1 := lh hg1
 have HO1 := lh hO1
 have HB1 := lh hB1
 clear hg1 hO1 hB1 hs1
 have hszS : w.heap.size = s := HS0.out.symm
 rw [hszS]
 clear hszS
 have hB1' := HB1.out
 clear HG1 HO1 HB1
 go_wp2
 go_ret
 exact ⟨rfl, hB1'⟩
end Go.Proofs.YtpndjhelpoenpaaGreatDoor
namespace Go.Proofs.YtpndjhelpoenpaaGreatDoor
open Go.RowKit
theorem run_copy_rowk {P : Program} (w : World) (dT sT ty elem : TypeId) (k g o dLen dCap : Nat) (a : Addr) (sLen sCap : Nat) (cur : Array Value) (t : TypeId) (cs : List Value)
  (hu : P.underlying dT = some (.slice elem)) (hs : (P.info? elem).map (·.size) = some k)
  (hg : w.heap[g]? = some (.cells cur t (0, 0))) (hn : cs.length = Nat.min sLen dLen * k)
  (hsrc : ∀ j v, cs[j]? = some v → w.cell? (a.add j) = some v) (hfit : o + cs.length ≤ cur.size) (h1 : ∀ v ∈ cs, v.oneCell' = true) :
  (Builtin.copy_ #[dT, sT] ty #[.slice (some ⟨g, o, none⟩) dLen dCap, .slice (some a) sLen sCap]).run P w =
   .ok (goInt (Nat.min sLen dLen)) (w.setRow g (cur.toList.take o ++ cs ++ cur.toList.drop (o + cs.length)).toArray) := by
 have hl := run_loadCells_list (P := P) w a cs hsrc
 have hst := run_storeCells_at P g o t cs 0 cur w hg (by simpa using hfit) h1
 cases hq : P.info? elem with
 | none => simp [hq] at hs
 | some i =>
  have hi : i.size = k := by simpa [hq] using hs
  simp [Builtin.copy_, run_underlying hu, Builtin.lenOf, Builtin.firstCells, sizeOf, typeInfo, hq, hi, ← hn, hl, hst]
theorem wp_copy_runW {P : Program} (w : World) {o : Oper} {a : Act} {K : Act → World → Prop} {Q : Exit → Act → World → Prop} (d s : Operand) (t t' : TypeId)
  (ho : o.op = .call { callee := .builtin .copy, args := #[d, s], argTypes := #[t, t'] }) (v u : Value) (hd : a.eval d = v) (hs : a.eval s = u) {v' : Value} {w' : World}
  (hr : (Builtin.copy_ #[t, t'] o.type #[v, u]).run P w = .ok v' w') (h : K (a.put o.dst v') w') : o.wp P a w K Q := by
 unfold Oper.wp execOp
 simp only [ho, resolve, invoke, builtin, Sem.run_bind, Sem.run_pure, Result.andThen_ok, List.map_toArray, List.map_cons, List.map_nil, hd, hs, hr]
 exact h
theorem wpList_copy_runW {P : Program} (w : World) {ops : Array Oper} {rest : List Oper} {o : Oper} {a : Act} {Q : Exit → Act → World → Prop} (hgd : o.guard = none) (d s : Operand) (t t' : TypeId)
  (ho : o.op = .call { callee := .builtin .copy, args := #[d, s], argTypes := #[t, t'] }) (v u : Value) (hd : a.eval d = v) (hs : a.eval s = u) {v' : Value} {w' : World}
  (hr : (Builtin.copy_ #[t, t'] o.type #[v, u]).run P w = .ok v' w') (h : wpList P ops Q rest (a.put o.dst v') w') : wpList P ops Q (o :: rest) a w :=
 wpList_plain hgd fun _ hK => wp_copy_runW w d s t t' ho v u hd hs hr (hK _ _ h)
theorem step_copy_runW {P : Program} {ops : Array Oper} {o : Oper} {a : Act} {w : World} {K : Act → World → Prop} {Q : Exit → Act → World → Prop} {E : Prop}
  (hg : o.guard = none) (d x : Operand) (dT sT : TypeId) (hop : o.op = Op.call { callee := Callee.builtin Builtin.copy, args := #[d, x], argTypes := #[dT, sT] })
  (v u : Value) (hd : a.eval d = v) (hx : a.eval x = u) {v' : Value} {w' : World} (hr : (Builtin.copy_ #[dT, sT] o.type #[v, u]).run P w = .ok v' w') (hK : K (a.put o.dst v') w') :
  if Region.wanted o (yielded ops a.tmps) = true then Oper.wp P o a w K Q else E := by
 have hw : Region.wanted o (yielded ops a.tmps) = true := by simp [Region.wanted, hg]
 rw [if_pos hw]
 unfold Oper.wp
 simp [execOp, hop, resolve, invoke, builtin, hd, hx, hr, Result.andThen]
 exact hK
theorem list_shift (cur cs vs : List Value) (a N : Nat) (hcs : cs = cur.take N) (ha : a ≤ N) (hN : N + vs.length ≤ cur.length) :
  (((cur.take (a + vs.length) ++ cs.drop a ++ cur.drop (a + vs.length + (cs.drop a).length)).take a ++ vs ++
   (cur.take (a + vs.length) ++ cs.drop a ++ cur.drop (a + vs.length + (cs.drop a).length)).drop (a + vs.length))).take (N + vs.length) = cs.take a ++ vs ++ cs.drop a := by
 have h1 : (cur.take (a + vs.length)).length = a + vs.length := by simp; omega
 have hl : cs.length = N := by rw [hcs]; simp; omega
 have h2 : (cur.take (a + vs.length) ++ cs.drop a ++ cur.drop (a + vs.length + (cs.drop a).length)).take a = cs.take a := by
  rw [List.append_assoc, List.take_append_of_le_length (by omega), List.take_take, hcs, List.take_take]
  congr 1; omega
 have h3 : (cur.take (a + vs.length) ++ cs.drop a ++ cur.drop (a + vs.length + (cs.drop a).length)).drop (a + vs.length) = cs.drop a ++ cur.drop (a + vs.length + (cs.drop a).length) := by
  rw [List.append_assoc, List.drop_append_of_le_length (by omega), List.drop_of_length_le (by omega), List.nil_append]
 rw [h2, h3, ← List.append_assoc, List.take_append_of_le_length (by simp; omega)]
 exact List.take_of_length_le (by simp; omega)
theorem list_grow (cur cs vs : List Value) (a N : Nat) (hcs : cs.length = N) (hpre : cur.take a = cs.take a) (ha : a ≤ N) (hN : N + vs.length ≤ cur.length) :
  ((((cur.take a ++ vs ++ cur.drop (a + vs.length)).take (a + vs.length)) ++ cs.drop a ++ (cur.take a ++ vs ++ cur.drop (a + vs.length)).drop (a + vs.length + (cs.drop a).length))).take (N + vs.length) = cs.take a ++ vs ++ cs.drop a := by
 have h1 : (cur.take a ++ vs).length = a + vs.length := by simp; omega
 have h2 : (cur.take a ++ vs ++ cur.drop (a + vs.length)).take (a + vs.length) = cs.take a ++ vs := by
  rw [List.take_append_of_le_length (by omega), List.take_of_length_le (by omega), hpre]
 rw [h2, List.take_append_of_le_length (by simp; omega)]
 exact List.take_of_length_le (by simp; omega)
theorem growI_trans {a b c : World} {row : Option Nat} (h : a.grownBy b row) (k : b.grownBy c row) : a.grownBy c row :=
 ⟨k.os.trans h.os, k.tape.trans h.tape, k.output.trans h.output, Nat.le_trans h.size k.size, fun i hi hr => (k.block i (Nat.lt_of_lt_of_le hi h.size) hr).trans (h.block i hi hr)⟩
theorem setRow_grown (w : World) (g : Nat) (C : Array Value) : w.grownBy (w.setRow g C) (some g) := ⟨rfl, rfl, rfl, by simp, fun k _ hk => setRow_other w g k C (fun e => hk (by rw [e]))⟩
theorem setRow_drew_grown (w : World) (g : Nat) (C : Array Value) : w.grownBy (w.drew.setRow g C) (some g) :=
 have h := setRow_grown w.drew g C
 ⟨h.os, h.tape, h.output, h.size, h.block⟩
theorem ownsRow_open {w : World} {base : Nat} {e : TypeId} {size n : Nat} {v : Value} {xs : List Value} (h : w.ownsRow base e size v n xs) (hn : 0 < n) :
  ∃ g cap cur, v = .slice (some ⟨g, 0, none⟩) n cap ∧ base ≤ g ∧ w.heap[g]? = some (.cells cur e (0, 0)) ∧ n ≤ cap ∧ cap ≤ maxLen ∧ cur.size = cap * size ∧ cur.toList.take (n * size) = xs ∧ xs.length = n * size := by
 obtain ⟨hl, h | ⟨g, cap, cur, h1, h2, h3, h4, h5, h6, h7⟩⟩ := h
 ·omega
 ·exact ⟨g, cap, cur, h1, h2, h3, h4, h5, h6, h7, hl⟩
def cellsTo (f : Nat → Int) (m : Nat) : List Int := (List.range m).map f
theorem cellsTo_length (f : Nat → Int) (m : Nat) : (cellsTo f m).length = m := by simp [cellsTo]
theorem cellsTo_get (f : Nat → Int) (m j : Nat) (h : j < m) : (cellsTo f m).getD j 0 = f j := by simp [cellsTo, List.getD, h]
theorem cellsTo_get? {f : Nat → Int} {m j : Nat} {u : Int} (h : (cellsTo f m)[j]? = some u) : j < m ∧ u = f j := by
 have hj : j < (cellsTo f m).length := (List.getElem?_eq_some_iff.1 h).1
 rw [cellsTo_length] at hj
 refine ⟨hj, ?_⟩
 simp [cellsTo, hj] at h
 exact h.symm
theorem infoKPan : (Tryz.prog.info? 97).map (fun i => (i.zero, i.size, i.bytes)) = some (some (.agg #[.int .i64 0, .int .i64 0, .int .i64 0, .int .i64 0]), 4, 32) := by kernel_rfl
theorem sizeKPan : (Tryz.prog.info? 97).map (·.size) = some 4 := by kernel_rfl
theorem clonePan_any (A : Option Addr) (n c lo hi : Nat) (f : Nat → Int) (w : World) (hs : Sl w lo hi 4 A n f) (hn : n ≤ 1048576) (hz : A = none → n = 0 ∧ c = 0) :
    Calls Tryz.prog 136 #[.slice A n c] w fun e w' => ∃ v', e = .returned v' ∧ w'.ownsRow w.heap.size 97 4 v' n ((cellsTo f (n * 4)).map (Value.int .i64)) ∧ Below w.heap.size w w' := by
  have q22 : ∀ (w : World) (a : Option Addr) (n c n' c' : Nat), (binOp .eql 30 (.slice a n c) (.slice none n' c')).run Tryz.prog w = .ok (.bool a.isNone) w := fun w a n c n' c' => Lib.run_eql_slice_nil w _ _ a n c n' c' Tryz.underlying30
  cases A with
  | none =>
    obtain ⟨rfl, rfl⟩ := hz rfl
    clear hs hz
    go_enter Tryz.func136, Tryz.ntmps136
    go_wp2
    go_ret
    exact ⟨_, rfl, by simpa [cellsTo] using World.ownsRow_nil w w.heap.size 97 4, Below.refl _ _⟩
  | some ad =>
    have hc : ∀ j u, (cellsTo f (n * 4))[j]? = some u → w.cell? (ad.add j) = some (.int .i64 u) := fun j u hj => by
      obtain ⟨hlt, rfl⟩ := cellsTo_get? hj
      obtain ⟨b, off, e, _, _, h⟩ := hs.here (by rcases Nat.eq_zero_or_pos n with h0 | h0; · subst h0; simp at hlt
                                                 · exact h0)
      rw [Option.some.inj e, Addr.add_lit]
      exact h j hlt
    have HC : Hid (∀ j u, (cellsTo f (n * 4))[j]? = some u → w.cell? (ad.add j) = some (.int .i64 u)) := hc
    clear hc hs hz
    obtain ⟨b, off, spot⟩ := ad
    go_enter Tryz.func136, Tryz.ntmps136
    go_wp2_with (at_builtin; refine wpList_append_flat _ rfl _ _ 30 rfl w.heap.size 97 4 32 (.agg #[.int .i64 0, .int .i64 0, .int .i64 0, .int .i64 0]) Tryz.underlying30 infoKPan rfl (by decide) (by decide) [] (cellsTo f (n * 4)) 0 n _ _ rfl (World.ownsRow_made w #[] 0 (Nat.le_refl _) (Nat.zero_le _) (by simp)) ⟨b, off, spot⟩ rfl (cellsTo_length f _) (fun j u hj => Lib.cell?_alloc_some _ (HC.out j u hj)) (by omega) (by simp) ?_; intro v' w' ho hgr)
    go_ret
    exact ⟨v', rfl, by simpa using ho, below_app ((Below.refl _ w).alloc (Nat.le_refl _) _) (World.ownsRow_made (base := w.heap.size) (e := 97) (size := 4) w #[] 0 (Nat.le_refl _) (Nat.zero_le _) (by simp)) hgr⟩
def InsPostPan (base n : Nat) (w : World) (v : Value) (ls : List Int) (e : Ending) (w' : World) : Prop :=
 ∃ v', e = .returned v' ∧ w'.ownsRow base 97 4 v' (n + 1) (ls.map (Value.int .i64)) ∧ w.grownBy w' v.ownBlock
theorem InsertPan_end (base n vb : Nat) (tA : TypeId) (v : Value) (zs news : List Int) (w : World) (hown : w.ownsRow base 97 4 v n (zs.map (Value.int .i64))) (hn : n ≤ 1000) (hbase : base ≤ w.heap.size)
  (hnl : news.length = 4) (hv : w.heap[vb]? = some (.cells (news.map (Value.int .i64)).toArray tA (0, 0))) :
  Calls Tryz.prog 167 #[v, .int .i64 n, .slice (some ⟨vb, 0, none⟩) 1 1] w (InsPostPan base n w v (zs ++ news)) := by
 have hc : ∀ j u, news[j]? = some u → w.cell? ((⟨vb, 0, none⟩ : Addr).add j) = some (.int .i64 u) := fun j u hj => by
  rw [Addr.add_lit, Nat.zero_add, cell_of_row w vb j _ tA (0, 0) hv]
  simp [hj]
 have HO : Hid (w.ownsRow base 97 4 v n (zs.map (Value.int .i64))) := hown
 have HC : Hid (∀ j u, news[j]? = some u → w.cell? ((⟨vb, 0, none⟩ : Addr).add j) = some (.int .i64 u)) := hc
 clear hc hv
 rcases hown.2 with ⟨rfl, rfl⟩ | ⟨g, cap, cur, rfl, hg, hh, hnc, hcm, hcs, ht⟩
 ·clear hown
  go_enter Tryz.func167, Tryz.ntmps167
  go_wp2_with (at_builtin; refine wpList_append_flat _ rfl _ _ 30 rfl base 97 4 32 (.agg #[.int .i64 0, .int .i64 0, .int .i64 0, .int .i64 0]) Tryz.underlying30 infoKPan rfl (by decide) (by decide) zs news 0 1 _ _ rfl HO.out ⟨vb, 0, none⟩ rfl (by omega) HC.out (by omega) hbase ?_; intro v' w' ho hgr)
  go_ret
  exact ⟨_, rfl, by simpa using ho, hgr⟩
 ·clear hown hh ht hcs
  unfold maxLen at hcm
  have hcm' : (cap : Int) ≤ 9223372036854775807 := by omega
  clear hcm
  go_enter Tryz.func167, Tryz.ntmps167
  go_wp2_with (at_builtin; refine wpList_append_flat _ rfl _ _ 30 rfl base 97 4 32 (.agg #[.int .i64 0, .int .i64 0, .int .i64 0, .int .i64 0]) Tryz.underlying30 infoKPan rfl (by decide) (by decide) zs news n 1 _ _ rfl HO.out ⟨vb, 0, none⟩ rfl (by omega) HC.out (by omega) hbase ?_; intro v' w' ho hgr)
  all_goals
   go_ret
   exact ⟨_, rfl, ho, hgr⟩
theorem InsertPan_shift (base n i vb g cap : Nat) (tA : TypeId) (cur : Array Value) (zs news : List Int) (w : World) (hi : i < n) (hroom : n + 1 ≤ cap) (hcap : cap ≤ maxLen) (hbg : base ≤ g)
  (hh : w.heap[g]? = some (.cells cur 97 (0, 0))) (hcs : cur.size = cap * 4) (htake : cur.toList.take (n * 4) = zs.map (Value.int .i64))
  (hnl : news.length = 4) (hv : w.heap[vb]? = some (.cells (news.map (Value.int .i64)).toArray tA (0, 0))) (hne : vb ≠ g) :
  Calls Tryz.prog 167 #[.slice (some ⟨g, 0, none⟩) n cap, .int .i64 i, .slice (some ⟨vb, 0, none⟩) 1 1] w (InsPostPan base n w (.slice (some ⟨g, 0, none⟩) n cap) (zs.take (i * 4) ++ news ++ zs.drop (i * 4))) := by
 have hzl : zs.length = n * 4 := by
  have h := congrArg List.length htake
  simp only [List.length_take, List.length_map, Array.length_toList] at h
  omega
 have hsa : w.shape? vb = some (tA, 4) := by simp [World.shape?, hv, hnl]
 have hsb : w.shape? g = some (97, cap * 4) := by simp [World.shape?, hh, hcs]
 have hfa : ∀ j, w.frozen? ⟨vb, j, none⟩ = false := fun j => by simp [World.frozen?, hv]
 have mixed : Tryz.prog.follows .mixedOrders = true := by kernel_rfl
 have hov : ∀ lb cb, (callFunc 195 #[.slice (some ⟨vb, 0, none⟩) 1 1, .slice (some ⟨g, (i + 1) * 4, none⟩) lb cb]).run Tryz.prog w = .ok (.value (.bool false)) w := fun lb cb => by
  rw [run_callFunc_extern Tryz.func195 (by kernel_rfl) (by kernel_rfl) (by kernel_rfl) (e := Extern.SlicesOverlaps.overlaps #[30, 30] #[4]) (by kernel_rfl),
   Lib.run_overlaps_apart w 30 4 97 Tryz.underlying30 4 (fun w => by obtain ⟨i0, hi0, _, hz1, _⟩ := info_parts infoKPan; simp [sizeOf, typeInfo, hi0, hz1]) ⟨vb, 0, none⟩ ⟨g, (i + 1) * 4, none⟩ 1 1 lb cb hne tA 97 4 (cap * 4) hsa hsb (by omega) (hfa _) (hfa _)]
  rfl
 have hcl : cur.toList.length = cap * 4 := by simpa using hcs
 obtain ⟨cs, hcsd⟩ : ∃ cs, cs = zs.map (Value.int .i64) := ⟨_, rfl⟩
 obtain ⟨vs, hvsd⟩ : ∃ vs, vs = news.map (Value.int .i64) := ⟨_, rfl⟩
 have hvl : vs.length = 4 := by rw [hvsd]; simpa using hnl
 have hl2 : cs.length = n * 4 := by rw [hcsd]; simpa using hzl
 have h1c : ∀ v ∈ cs, v.oneCell' = true := fun v hv => by rw [hcsd] at hv; obtain ⟨q, _, rfl⟩ := List.mem_map.1 hv; rfl
 have h1v : ∀ v ∈ vs, v.oneCell' = true := fun v hv => by rw [hvsd] at hv; obtain ⟨q, _, rfl⟩ := List.mem_map.1 hv; rfl
 rw [← hcsd] at htake
 rw [← hvsd] at hv
 have hcell : ∀ j v, cs[j]? = some v → w.cell? ⟨g, j, none⟩ = some v := fun j v hj => by
  rw [cell_of_row w g j cur _ (0, 0) hh]
  rw [← htake, List.getElem?_take] at hj
  split at hj
  ·simpa using hj
  ·cases hj
 obtain ⟨C1, hC1⟩ : ∃ C1 : Array Value, C1 = (cur.toList.take ((i + 1) * 4) ++ cs.drop (i * 4) ++ cur.toList.drop ((i + 1) * 4 + (cs.drop (i * 4)).length)).toArray := ⟨_, rfl⟩
 have hdl : (cs.drop (i * 4)).length = (n - i) * 4 := by rw [List.length_drop, hl2]; omega
 have hC1s : C1.size = cap * 4 := by rw [hC1]; simp only [List.size_toArray, List.length_append, List.length_take, List.length_drop, hdl, hcl, hl2]; omega
 obtain ⟨C2, hC2⟩ : ∃ C2 : Array Value, C2 = (C1.toList.take (i * 4) ++ vs ++ C1.toList.drop (i * 4 + vs.length)).toArray := ⟨_, rfl⟩
 have hC2s : C2.size = cap * 4 := by rw [hC2]; simp only [List.size_toArray, List.length_append, List.length_take, List.length_drop, Array.length_toList, hC1s, hvl]; omega
 have hcp1 : ∀ (W : World), (∀ k, W.heap[k]? = w.heap[k]?) → ∀ ty dc sc, (Builtin.copy_ #[30, 30] ty #[.slice (some ⟨g, (i + 1) * 4, none⟩) (n - i) dc, .slice (some ⟨g, i * 4, none⟩) (n + 1 - i) sc]).run Tryz.prog W = .ok (goInt (n - i)) (W.setRow g C1) := fun W hW ty dc sc => by
  have h := run_copy_rowk (P := Tryz.prog) W 30 30 ty 97 4 g ((i + 1) * 4) (n - i) dc ⟨g, i * 4, none⟩ (n + 1 - i) sc cur 97 (cs.drop (i * 4)) Tryz.underlying30 sizeKPan (by rw [hW]; exact hh)
   (by rw [hdl]; simp only [Nat.min_def]; split <;> omega)
   (fun j v hj => by rw [Addr.add_lit, World.cell?_of_block (w := w) (by rw [hW])]; exact hcell _ v (by rwa [List.getElem?_drop] at hj)) (by rw [hdl, hcs]; omega) (fun v hv => h1c v (List.mem_of_mem_drop hv))
  rw [← hC1] at h
  rw [h]
  congr 2
  simp only [Nat.min_def]; split <;> omega
 have hcp2 : ∀ (W : World), W.heap[g]? = some (.cells C1 97 (0, 0)) → W.heap[vb]? = w.heap[vb]? → ∀ ty dc, (Builtin.copy_ #[30, 30] ty #[.slice (some ⟨g, i * 4, none⟩) (n + 1 - i) dc, .slice (some ⟨vb, 0, none⟩) 1 1]).run Tryz.prog W = .ok (goInt 1) (W.setRow g C2) := fun W hWg hWv ty dc => by
  have h := run_copy_rowk (P := Tryz.prog) W 30 30 ty 97 4 g (i * 4) (n + 1 - i) dc ⟨vb, 0, none⟩ 1 1 C1 97 vs Tryz.underlying30 sizeKPan hWg
   (by rw [hvl]; simp only [Nat.min_def]; split <;> omega)
   (fun j v hj => by rw [Addr.add_lit, Nat.zero_add, cell_of_row W vb j _ tA (0, 0) (hWv.trans hv)]; simpa using hj) (by rw [hvl, hC1s]; omega) h1v
  rw [← hC2] at h
  rw [h]
  congr 2
  simp only [Nat.min_def]; split <;> omega
 have hfin : C2.toList.take ((n + 1) * 4) = (zs.take (i * 4) ++ news ++ zs.drop (i * 4)).map (Value.int .i64) := by
  have h := list_shift cur.toList cs vs (i * 4) (n * 4) htake.symm (by omega) (by rw [hvl, hcl]; omega)
  rw [hC2, hC1, List.map_append, List.map_append, List.map_take, List.map_drop, ← hcsd, ← hvsd, ← h, hvl]
  simp only [Nat.succ_mul]
 have hpost : ∀ W : World, w.grownBy W (some g) → W.heap[g]? = some (.cells C2 97 (0, 0)) → InsPostPan base n w (.slice (some ⟨g, 0, none⟩) n cap) (zs.take (i * 4) ++ news ++ zs.drop (i * 4)) (.returned (.slice (some ⟨g, 0, none⟩) (n + 1) cap)) W := fun W hg hW => by
  refine ⟨_, rfl, ⟨?_, .inr ⟨g, cap, C2, rfl, hbg, hW, hroom, hcap, hC2s, hfin⟩⟩, hg⟩
  simp only [List.length_map, List.length_append, List.length_take, List.length_drop, hzl, hnl]; omega
 have hgv : ∀ W : World, (W.setRow g C1).heap[vb]? = W.heap[vb]? := fun W => setRow_other W g vb C1 hne
 have hgs : ∀ W : World, W.heap[g]? = some (.cells cur 97 (0, 0)) → (W.setRow g C1).heap[g]? = some (.cells C1 97 (0, 0)) := fun W h => setRow_heap W g cur C1 _ _ h
 unfold maxLen at hcap
 have hcap63 : (cap : Int) ≤ 9223372036854775807 := by omega
 have hw1 : IntKind.i64.wrap ((i : Int) + 1) = (i : Int) + 1 := by rw [IntKind.wrap_i64]; omega
 have hwn : IntKind.i64.wrap ((n : Int) + 1) = (n : Int) + 1 := by rw [IntKind.wrap_i64]; omega
 have hz2 : ¬ ((i : Int) = (n : Int)) := by omega
 have hb1 : (0 : Int) ≤ (i : Int) + 1 := by omega
 have htn : ((i : Int) + 1).toNat = i + 1 := by omega
 have hin : i ≤ n := by omega
 have hci : ¬ (cap = i) := by omega
 have hci1 : ¬ (cap = i + 1) := by omega
 have hb3 : (i : Int) ≤ (n : Int) + 1 := by omega
 have hcpX := hcp1 w.drew (fun _ => rfl)
 have hcpY := hcp2 (w.drew.setRow g C1) (hgs w.drew hh) (hgv _)
 have HPO : Hid (∀ W : World, w.grownBy W (some g) → W.heap[g]? = some (.cells C2 97 (0, 0)) → InsPostPan base n w (.slice (some ⟨g, 0, none⟩) n cap) (zs.take (i * 4) ++ news ++ zs.drop (i * 4)) (.returned (.slice (some ⟨g, 0, none⟩) (n + 1) cap)) W) := hpost
 have HH : Hid (w.heap[g]? = some (.cells cur 97 (0, 0))) := hh
 clear hcp1 hcp2 hpost hgs hgv hh hfin hcell hC1 hC2 hC1s hC2s hdl hcl hcs htake hsa hsb hfa h1c h1v hl2 hzl hcsd hvsd hnl hv hvl
 go_enter Tryz.func167, Tryz.ntmps167
 go_wp2_with (simp only [hov])
 go_region_law_o (refine step_copy_runW rfl _ _ 30 30 rfl _ _ (by simp [Act.eval, Act.put]) (by simp [Act.eval, Act.put]) (hcpX _ _ _) ?_)
 go_wp2_with (at_builtin; refine wpList_copy_runW _ rfl _ _ 30 30 rfl _ _ rfl rfl (hcpY _ _) ?_)
 go_ret
 refine HPO.out _ ?_ ?_
 ·exact growI_trans (setRow_drew_grown w g C1) (setRow_grown _ g C2)
 ·exact setRow_heap _ g C1 C2 _ _ (setRow_heap w.drew g cur C1 _ _ HH.out)
theorem InsertPan_grow (base n i vb g cap : Nat) (tA : TypeId) (cur : Array Value) (zs news : List Int) (w : World) (hi : i < n) (hn : n ≤ 1000) (hnc : n ≤ cap) (hroom : cap < n + 1) (hbase : base ≤ w.heap.size) (hbg : base ≤ g)
  (hh : w.heap[g]? = some (.cells cur 97 (0, 0))) (hcs : cur.size = cap * 4) (htake : cur.toList.take (n * 4) = zs.map (Value.int .i64))
  (hnl : news.length = 4) (hv : w.heap[vb]? = some (.cells (news.map (Value.int .i64)).toArray tA (0, 0))) :
  Calls Tryz.prog 167 #[.slice (some ⟨g, 0, none⟩) n cap, .int .i64 i, .slice (some ⟨vb, 0, none⟩) 1 1] w (InsPostPan base n w (.slice (some ⟨g, 0, none⟩) n cap) (zs.take (i * 4) ++ news ++ zs.drop (i * 4))) := by
 have hzl : zs.length = n * 4 := by
  have h := congrArg List.length htake
  simp only [List.length_take, List.length_map, Array.length_toList] at h
  omega
 have mixed : Tryz.prog.follows .mixedOrders = true := by kernel_rfl
 have hgw : g < w.heap.size := (Array.getElem?_eq_some_iff.1 hh).1
 have hvw : vb < w.heap.size := (Array.getElem?_eq_some_iff.1 hv).1
 have hcl : cur.toList.length = cap * 4 := by simpa using hcs
 obtain ⟨cs, hcsd⟩ : ∃ cs, cs = zs.map (Value.int .i64) := ⟨_, rfl⟩
 obtain ⟨vs, hvsd⟩ : ∃ vs, vs = news.map (Value.int .i64) := ⟨_, rfl⟩
 have hvl : vs.length = 4 := by rw [hvsd]; simpa using hnl
 have hl2 : cs.length = n * 4 := by rw [hcsd]; simpa using hzl
 have h1c : ∀ v ∈ cs, v.oneCell' = true := fun v hv => by rw [hcsd] at hv; obtain ⟨q, _, rfl⟩ := List.mem_map.1 hv; rfl
 have h1v : ∀ v ∈ vs, v.oneCell' = true := fun v hv => by rw [hvsd] at hv; obtain ⟨q, _, rfl⟩ := List.mem_map.1 hv; rfl
 rw [← hcsd] at htake
 rw [← hvsd] at hv
 have hcell : ∀ j v, cs[j]? = some v → w.cell? ⟨g, j, none⟩ = some v := fun j v hj => by
  rw [cell_of_row w g j cur _ (0, 0) hh]
  rw [← htake, List.getElem?_take] at hj
  split at hj
  ·simpa using hj
  ·cases hj
 obtain ⟨i0, hi0, hz0, hzs, hzb⟩ := info_parts infoKPan
 obtain ⟨G, hG⟩ : ∃ G, G = grownCap w (n + 1) cap 97 := ⟨_, rfl⟩
 have hGn : n + 1 ≤ G := by rw [hG]; exact grownCap_ge w _ _ _
 have hGm : G ≤ maxLen := by rw [hG]; exact grownCap_le_maxLen w _ _ _ (by unfold maxLen; omega)
 obtain ⟨ROW, hROW⟩ : ∃ ROW : Array Value, ROW = (cs.take (i * 4)).toArray ++ Builtin.zeroCells ((.agg #[.int .i64 0, .int .i64 0, .int .i64 0, .int .i64 0] : Value)).cells (n + 1 - i) ++ Builtin.zeroCells ((.agg #[.int .i64 0, .int .i64 0, .int .i64 0, .int .i64 0] : Value)).cells (G - (n + 1)) := ⟨_, rfl⟩
 have hRs : ROW.size = G * 4 := by
  have e : ((.agg #[.int .i64 0, .int .i64 0, .int .i64 0, .int .i64 0] : Value)).cells.size = 4 := rfl
  rw [hROW, Array.size_append, Array.size_append, size_zeroCells, size_zeroCells, e, List.size_toArray, List.length_take, hl2]
  omega
 have hpre : ROW.toList.take (i * 4) = cs.take (i * 4) := by
  rw [hROW]
  simp only [Array.toList_append, List.append_assoc]
  rw [List.take_append_of_le_length (by simp; omega)]
  exact List.take_of_length_le (by simp; omega)
 have hold : (Builtin.firstCells i0.size i (.slice (some ⟨g, 0, none⟩) i cap)).run Tryz.prog w.drew = .ok (cs.take (i * 4)).toArray w.drew := by
  rw [hzs]
  exact run_firstCells_some w.drew 4 i ⟨g, 0, none⟩ i cap (cs.take (i * 4)) (by rw [List.length_take, hl2]; omega) (fun j v hj => by
   rw [Addr.add_lit, Nat.zero_add]
   rw [List.getElem?_take] at hj
   split at hj
   ·exact hcell j v hj
   ·cases hj)
 have hkk : (n : Int) + 1 - (i : Int) = ((n + 1 - i : Nat) : Int) := by omega
 have hik : i + (n + 1 - i) = n + 1 := by omega
 have hrz : ∀ ty, (Builtin.append_ #[30, 3] ty #[.slice (some ⟨g, 0, none⟩) i cap, .int .i64 ((n : Int) + 1 - (i : Int))]).run Tryz.prog w = .ok (.slice (some ⟨w.heap.size, 0, none⟩) (n + 1) G) (w.drew.alloc (.cells ROW 97)) := fun ty => by
  have h := Lib.run_append_grow_zeros (P := Tryz.prog) (ty := ty) w 30 3 97 i0 _ .i64 .i64 Tryz.underlying30 Tryz.underlying3 hi0 hz0 (some ⟨g, 0, none⟩) i cap (cs.take (i * 4)) hold (n + 1 - i) (by omega) (by omega) (by omega) (by omega) (by rw [hzb]; omega) (by rw [hzb, hik]; exact growslice_fits hroom (by omega))
  rw [hik, ← hG, ← hROW] at h
  rw [hkk]
  exact h
 have hdl : (cs.drop (i * 4)).length = (n - i) * 4 := by rw [List.length_drop, hl2]; omega
 obtain ⟨C1, hC1⟩ : ∃ C1 : Array Value, C1 = (ROW.toList.take (i * 4) ++ vs ++ ROW.toList.drop (i * 4 + vs.length)).toArray := ⟨_, rfl⟩
 have hC1s : C1.size = G * 4 := by rw [hC1]; simp only [List.size_toArray, List.length_append, List.length_take, List.length_drop, Array.length_toList, hRs, hvl]; omega
 obtain ⟨C2, hC2⟩ : ∃ C2 : Array Value, C2 = (C1.toList.take ((i + 1) * 4) ++ cs.drop (i * 4) ++ C1.toList.drop ((i + 1) * 4 + (cs.drop (i * 4)).length)).toArray := ⟨_, rfl⟩
 have hC2s : C2.size = G * 4 := by rw [hC2]; simp only [List.size_toArray, List.length_append, List.length_take, List.length_drop, Array.length_toList, hC1s, hdl]; omega
 have hcpA : ∀ (W : World), W.heap[w.heap.size]? = some (.cells ROW 97 (0, 0)) → W.heap[vb]? = w.heap[vb]? → ∀ ty dc, (Builtin.copy_ #[30, 30] ty #[.slice (some ⟨w.heap.size, i * 4, none⟩) (n + 1 - i) dc, .slice (some ⟨vb, 0, none⟩) 1 1]).run Tryz.prog W = .ok (goInt 1) (W.setRow w.heap.size C1) := fun W hWg hWv ty dc => by
  have h := run_copy_rowk (P := Tryz.prog) W 30 30 ty 97 4 w.heap.size (i * 4) (n + 1 - i) dc ⟨vb, 0, none⟩ 1 1 ROW 97 vs Tryz.underlying30 sizeKPan hWg
   (by rw [hvl]; simp only [Nat.min_def]; split <;> omega)
   (fun j v hj => by rw [Addr.add_lit, Nat.zero_add, cell_of_row W vb j _ tA (0, 0) (hWv.trans hv)]; simpa using hj) (by rw [hvl, hRs]; omega) h1v
  rw [← hC1] at h
  rw [h]
  congr 2
  simp only [Nat.min_def]; split <;> omega
 have hcpB : ∀ (W : World), W.heap[w.heap.size]? = some (.cells C1 97 (0, 0)) → W.heap[g]? = w.heap[g]? → ∀ ty dc sc, (Builtin.copy_ #[30, 30] ty #[.slice (some ⟨w.heap.size, (i + 1) * 4, none⟩) (n - i) dc, .slice (some ⟨g, i * 4, none⟩) (n - i) sc]).run Tryz.prog W = .ok (goInt (n - i)) (W.setRow w.heap.size C2) := fun W hWg hWv ty dc sc => by
  have h := run_copy_rowk (P := Tryz.prog) W 30 30 ty 97 4 w.heap.size ((i + 1) * 4) (n - i) dc ⟨g, i * 4, none⟩ (n - i) sc C1 97 (cs.drop (i * 4)) Tryz.underlying30 sizeKPan hWg
   (by rw [hdl]; simp only [Nat.min_def]; split <;> omega)
   (fun j v hj => by rw [Addr.add_lit, World.cell?_of_block (w := w) (by rw [hWv])]; exact hcell _ v (by rwa [List.getElem?_drop] at hj)) (by rw [hdl, hC1s]; omega) (fun v hv => h1c v (List.mem_of_mem_drop hv))
  rw [← hC2] at h
  rw [h]
  congr 2
  simp only [Nat.min_def]; split <;> omega
 have hfin : C2.toList.take ((n + 1) * 4) = (zs.take (i * 4) ++ news ++ zs.drop (i * 4)).map (Value.int .i64) := by
  have h := list_grow ROW.toList cs vs (i * 4) (n * 4) hl2 hpre (by omega) (by rw [hvl]; simp only [Array.length_toList, hRs]; omega)
  rw [hC2, hC1, List.map_append, List.map_append, List.map_take, List.map_drop, ← hcsd, ← hvsd, ← h, hvl]
  simp only [Nat.succ_mul]
 have hpost : ∀ W : World, w.grownBy W (some w.heap.size) → W.heap[w.heap.size]? = some (.cells C2 97 (0, 0)) → InsPostPan base n w (.slice (some ⟨g, 0, none⟩) n cap) (zs.take (i * 4) ++ news ++ zs.drop (i * 4)) (.returned (.slice (some ⟨w.heap.size, 0, none⟩) (n + 1) G)) W := fun W hg hW => by
  refine ⟨_, rfl, ⟨?_, .inr ⟨w.heap.size, G, C2, rfl, hbase, hW, hGn, hGm, hC2s, hfin⟩⟩, ⟨hg.os, hg.tape, hg.output, hg.size, fun k hk _ => hg.block k hk (by simp; omega)⟩⟩
  simp only [List.length_map, List.length_append, List.length_take, List.length_drop, hzl, hnl]; omega
 obtain ⟨N, hN⟩ : ∃ N, N = w.heap.size := ⟨_, rfl⟩
 have hgA : ∀ W : World, W.heap[N]? = some (.cells ROW 97 (0, 0)) → (W.setRow N C1).heap[N]? = some (.cells C1 97 (0, 0)) := fun W h => setRow_heap W N ROW C1 _ _ h
 have hoA : ∀ (W : World) k, k ≠ N → (W.setRow N C1).heap[k]? = W.heap[k]? := fun W k hk => setRow_other W N k C1 hk
 have hA0 : (w.drew.alloc (.cells ROW 97)).heap[N]? = some (.cells ROW 97 (0, 0)) := by rw [hN]; exact heap_alloc_new w.drew _
 have hA1 : ∀ k, k < w.heap.size → (w.drew.alloc (.cells ROW 97)).heap[k]? = w.heap[k]? := fun k hk => ((Below.refl w.drew.heap.size w.drew).alloc (Nat.le_refl _) _).block k hk
 have hgN : g ≠ N := by omega
 have hvN : vb ≠ N := by omega
 have hGr0 : w.grownBy (w.drew.alloc (.cells ROW 97)) (some N) := by
  have h := World.grownBy_alloc w.drew (.cells ROW 97) (some N)
  exact ⟨h.os, h.tape, h.output, h.size, h.block⟩
 rw [← hN] at hrz hcpA hcpB hpost
 unfold maxLen at hGm
 have hG63 : (G : Int) ≤ 9223372036854775807 := by omega
 have hcap63 : (cap : Int) ≤ 9223372036854775807 := by omega
 have hw1 : IntKind.i64.wrap ((i : Int) + 1) = (i : Int) + 1 := by rw [IntKind.wrap_i64]; omega
 have hwn : IntKind.i64.wrap ((n : Int) + 1) = (n : Int) + 1 := by rw [IntKind.wrap_i64]; omega
 have hwm : IntKind.i64.wrap ((n : Int) + 1 - (i : Int)) = (n : Int) + 1 - (i : Int) := by rw [IntKind.wrap_i64]; omega
 have hz2 : ¬ ((i : Int) = (n : Int)) := by omega
 have hz3 : (cap : Int) < (n : Int) + 1 := by omega
 have hb1 : (0 : Int) ≤ (i : Int) + 1 := by omega
 have htn : ((i : Int) + 1).toNat = i + 1 := by omega
 have hin : i ≤ n := by omega
 have hci : ¬ (cap = i) := by omega
 have hGi : ¬ (G = i) := by omega
 have hGi1 : ¬ (G = i + 1) := by omega
 have hb3 : (i : Int) ≤ (n : Int) := by omega
 have HRZ : Hid (∀ ty, (Builtin.append_ #[30, 3] ty #[.slice (some ⟨g, 0, none⟩) i cap, .int .i64 ((n : Int) + 1 - (i : Int))]).run Tryz.prog w = .ok (.slice (some ⟨N, 0, none⟩) (n + 1) G) (w.drew.alloc (.cells ROW 97))) := hrz
 have hcpX := hcpA (w.alloc (.cells ROW 97)).drew hA0 (hA1 _ hvw)
 have hcpY := hcpB (((w.alloc (.cells ROW 97)).drew).setRow N C1) (hgA _ hA0) ((hoA _ _ hgN).trans (hA1 _ hgw))
 have hcpZ := hcpB (((w.alloc (.cells ROW 97)).drew).setRow N C1).drew (hgA _ hA0) ((hoA _ _ hgN).trans (hA1 _ hgw))
 have HPO : Hid (∀ W : World, w.grownBy W (some N) → W.heap[N]? = some (.cells C2 97 (0, 0)) → InsPostPan base n w (.slice (some ⟨g, 0, none⟩) n cap) (zs.take (i * 4) ++ news ++ zs.drop (i * 4)) (.returned (.slice (some ⟨N, 0, none⟩) (n + 1) G)) W) := hpost
 have HA0 : Hid ((w.drew.alloc (.cells ROW 97)).heap[N]? = some (.cells ROW 97 (0, 0))) := hA0
 have HA1 : Hid (∀ k, k < w.heap.size → (w.drew.alloc (.cells ROW 97)).heap[k]? = w.heap[k]?) := hA1
 have HN : Hid (N = w.heap.size) := hN
 have HGR : Hid (w.grownBy (w.drew.alloc (.cells ROW 97)) (some N)) := hGr0
 clear hrz hcpA hcpB hpost hA0 hA1 hN hGr0 hh hfin hcell hC1 hC2 hC1s hC2s hdl hcl hcs htake h1c h1v hl2 hzl hcsd hvsd hnl hv hvl hROW hRs hpre hold hG i0 hi0 hz0 hzs hzb hkk hik
 go_enter Tryz.func167, Tryz.ntmps167
 go_wp2_with (first
  | (at_builtin; refine Lib.wpList_append_run _ rfl _ _ _ _ rfl _ _ rfl rfl _ _ (HRZ.out _) ?_)
  | (at_builtin; refine wpList_copy_runW _ rfl _ _ 30 30 rfl _ _ rfl rfl (hcpX _ _) ?_))
 go_region_law_o (first | refine step_copy_runW rfl _ _ 30 30 rfl _ _ (by simp [Act.eval, Act.put]) (by simp [Act.eval, Act.put]) (hcpX _ _) ?_ | refine step_copy_runW rfl _ _ 30 30 rfl _ _ (by simp [Act.eval, Act.put]) (by simp [Act.eval, Act.put]) (hcpY _ _ _) ?_ | refine step_copy_runW rfl _ _ 30 30 rfl _ _ (by simp [Act.eval, Act.put]) (by simp [Act.eval, Act.put]) (hcpZ _ _ _) ?_)
 go_wp2_with (first
  | (at_builtin; refine wpList_copy_runW _ rfl _ _ 30 30 rfl _ _ rfl rfl (hcpY _ _ _) ?_)
  | (at_builtin; refine wpList_copy_runW _ rfl _ _ 30 30 rfl _ _ rfl rfl (hcpZ _ _ _) ?_))
 go_ret
 refine HPO.out _ ?_ ?_
 ·have h0 : w.grownBy (w.alloc (.cells ROW 97)) (some N) := ⟨HGR.out.os, HGR.out.tape, HGR.out.output, HGR.out.size, HGR.out.block⟩
  exact growI_trans h0 (growI_trans (setRow_drew_grown _ N C1) (setRow_drew_grown _ N C2))
 ·exact setRow_heap _ N C1 C2 _ _ (setRow_heap _ N ROW C1 _ _ HA0.out)
theorem InsertPan_any (base n i vb : Nat) (tA : TypeId) (v : Value) (zs news : List Int) (w : World) (hown : w.ownsRow base 97 4 v n (zs.map (Value.int .i64))) (hi : i ≤ n) (hn : n ≤ 1000) (hbase : base ≤ w.heap.size)
  (hnl : news.length = 4) (hv : w.heap[vb]? = some (.cells (news.map (Value.int .i64)).toArray tA (0, 0))) (hne : some vb ≠ v.ownBlock) :
  Calls Tryz.prog 167 #[v, .int .i64 i, .slice (some ⟨vb, 0, none⟩) 1 1] w (InsPostPan base n w v (zs.take (i * 4) ++ news ++ zs.drop (i * 4))) := by
 have hzl : zs.length = n * 4 := by simpa using hown.1
 rcases Nat.lt_or_ge i n with hlt | hge
 ·obtain ⟨g, cap, cur, rfl, hbg, hh, hnc, hcm, hcs, ht, _⟩ := ownsRow_open hown (by omega)
  have hne' : vb ≠ g := fun e => hne (by rw [e]; rfl)
  rcases Nat.lt_or_ge n cap with hr | hr
  ·exact InsertPan_shift base n i vb g cap tA cur zs news w hlt (by omega) hcm hbg hh hcs ht hnl hv hne'
  ·exact InsertPan_grow base n i vb g cap tA cur zs news w hlt hn hnc (by omega) hbase hbg hh hcs ht hnl hv
 ·obtain rfl : i = n := by omega
  rw [List.take_of_length_le (by omega), List.drop_of_length_le (by omega), List.append_nil]
  exact InsertPan_end base i vb tA v zs news w hown hn hbase hnl hv
end Go.Proofs.YtpndjhelpoenpaaGreatDoor
