/-
  Texts of this claim, merged.
-/
import Derived.Test.YtpndjhelpoenpaaGreatDoorZC14
import Derived.Lib.SliceRun
import Derived.Laws.IdiomCopy
import Derived.Lib.AppendZerosOnto
import Derived.Lib.Overlaps
import Derived.Laws.Externs
import Derived.Shelf.RegionOpenPlain
set_option linter.unusedVariables false
set_option linter.unusedSimpArgs false
set_option maxRecDepth 100000
set_option maxHeartbeats 8000000
namespace Go.Proofs.YtpndjhelpoenpaaGreatDoor
open Go.RowKit Go.Sort
attribute [local go_sem ↓] Go.wp_at_zero Go.wp_at_succ
theorem setB_far {f : Nat → Int} {i j : Nat} (a b : Int) (_ : True) (h2 : j ≠ i * 4 + 2) (h3 : j ≠ i * 4 + 3) : setB f i a b j = f j := by
 simp [setB, upd, h2, h3]
theorem stepPan_lead_none (g ga lo n c' : Nat) (f : Nat → Int) (I H S P : Int) (id tt0 z : Int) (i : Nat) (hi' : i < n) (hn : n ≤ 1000) (w : World) (hg : w.heap[g]? = some (.cells #[.slice (some ⟨ga, 0, none⟩) n c', .int .i64 I, .int .i64 H, .int .i64 S, .int .i64 P] 32 (0, 0))) (hO : w.ownsRow lo 97 4 (.slice (some ⟨ga, 0, none⟩) n c') n ((cellsL f n).map (Value.int .i64))) (hlo : lo ≤ g) (hfk : findV (pid f) tt0 n 0 = -1) :
  Calls Tryz.prog 169 #[.pointer (some ⟨g, 0, none⟩), .int .i64 i, .agg #[.int .i64 3, .int .i64 id, .int .i64 tt0, .int .i64 z]] w (fun e w' => e = .returned (.bool false) ∧ Below lo w w') := by
 go_enter Tryz.func169, Tryz.ntmps169
 have nga : ga ≠ g := by
  intro e
  subst e
  exact row_ne hO hg (by decide)
 have lg : g < w.heap.size := (Array.getElem?_eq_some_iff.1 hg).1
 have lga := World.ownsRow.lt hO ga rfl
 have hnc : n ≤ c' ∧ c' ≤ maxLen := by
  obtain ⟨_, _, e, h1, h2⟩ := row_slice hO
  cases e
  exact ⟨h1, h2⟩
 have hncI : (n : Int) ≤ (c' : Int) := by omega
 have hi0 : (0 : Int) ≤ (i : Int) := by omega
 have hin : (i : Int) < (n : Int) := by omega
 go_upto_region 1 with fail
 refine name_wp ?_
 intro w1 hw1
 have hb1 : Below w.heap.size w w1 := by rw [hw1]; exact (Below.refl _ w).alloc (Nat.le_refl _) _
 have hs1 := an hw1
 have hg1 := (hb1.block g lg).trans hg
 have hO1 := ownsRow_below hO hb1
 have hB1 : Below lo w w1 := hb1.mono (by omega)
 clear hw1 hg hO hb1
 have lg1 := (Array.getElem?_eq_some_iff.1 hg1).1
 have ls1 := (Array.getElem?_eq_some_iff.1 hs1).1
 have lw1 : lo ≤ w1.heap.size := by omega
 obtain ⟨s, hs⟩ : ∃ s, s = w.heap.size := ⟨_, rfl⟩
 rw [← hs] at hs1 lg lga ls1
 have ngs : g ≠ s := by omega
 have nsg : s ≠ g := by omega
 have nas : ga ≠ s := by omega
 have nsa : s ≠ ga := by omega
 have nga' : g ≠ ga := Ne.symm nga
 have hles : lo ≤ s := by omega
 have HS0 := lh hs
 clear hs
 obtain ⟨s0, s1, s2, s3⟩ := cells4 hs1
 obtain ⟨e0, e1, e2, e3, e4⟩ := cells5 hg1
 have ef := fz hg1
 have a2 : w1.cell? ⟨ga, i * 4 + 2, none⟩ = some (.int .i64 (f (i * 4 + 2))) := by rw [World.ownsRow.cellAt hO1 (i * 4 + 2) (by omega), List.getElem?_map, cellsL_at f n _ (by omega)]; rfl
 have a3 : w1.cell? ⟨ga, i * 4 + 3, none⟩ = some (.int .i64 (f (i * 4 + 3))) := by rw [World.ownsRow.cellAt hO1 (i * 4 + 3) (by omega), List.getElem?_map, cellsL_at f n _ (by omega)]; rfl
 have af : ∀ j, w1.frozen? ⟨ga, j, none⟩ = false := fun j => World.ownsRow.frozenAt hO1 j
 have HG1 := lh hg1
 have HO1 := lh hO1
 have HB1 := lh hB1
 clear hg1 hO1 hB1 hs1
 have hszS : w.heap.size = s := HS0.out.symm
 rw [hszS]
 clear hszS
 have HF : Hid (∀ w', Below w1.heap.size w1 w' → w'.cell? ⟨g, 0, none⟩ = some (.slice (some ⟨ga, 0, none⟩) n c') ∧ w'.cell? ⟨g, 1, none⟩ = some (.int .i64 I) ∧ w'.cell? ⟨g, 2, none⟩ = some (.int .i64 H) ∧ w'.cell? ⟨g, 3, none⟩ = some (.int .i64 S) ∧ w'.cell? ⟨g, 4, none⟩ = some (.int .i64 P) ∧ w'.cell? ⟨s, 2, none⟩ = some (.int .i64 tt0) ∧ w'.cell? ⟨s, 3, none⟩ = some (.int .i64 z) ∧ w'.cell? ⟨ga, i * 4 + 2, none⟩ = some (.int .i64 (f (i * 4 + 2))) ∧ w'.cell? ⟨ga, i * 4 + 3, none⟩ = some (.int .i64 (f (i * 4 + 3)))) := by
  intro w' hq
  exact ⟨kp hq e0, kp hq e1, kp hq e2, kp hq e3, kp hq e4, kp hq s2, kp hq s3, kp hq a2, kp hq a3⟩
 have HSL : Hid (∀ w', Below w1.heap.size w1 w' → Sl w' lo w'.heap.size 4 (some ⟨ga, 0, none⟩) n f) := by
  intro w' hq
  obtain ⟨A0, c0, e0, _, _, h0⟩ := own_of_row (ownsRow_below HO1.out hq)
  cases e0
  exact (h0.congr (fun j hj => cellsL_getD _ n j hj)).sl
 go_wp2_with fail
 refine wp_region_held_drew (S := fun w' => Below (w1).heap.size (w1) w') (by kernel_rfl) ((Below.refl _ _).drew) (fun jd => ?_)
 refine tj4 0 50 3 53 1 51 4 54 HF jd ?_
 refine tj 2 52 HF rfl jd ?_
 refine wpAnyH_ready (rs := [5]) (by kernel_rfl) (by simp) ?_
 refine AllReadyH.cons rfl (fun K hK => ?_) AllReadyH.nil
 go_simp
 (go_at_call 109; refine (panAt_any _ n c' lo _ f I H S P tt0 _ (HSL.out _ jd) (by omega) hnc.1).mono ?_; rw [hfk]; rintro e w2 ⟨rfl, hb2⟩)
 refine hK.out _ _ (jd.trans (hb2.mono jd.size)) (fun jd => ?_)
 clear hK K hb2
 refine tj 6 9 HF rfl jd ?_
 refine wpAnyH_done (by kernel_rfl) ?_ _
 have hg2 := (jd.block g (Array.getElem?_eq_some_iff.1 HG1.out).1).trans HG1.out
 have hO2 := ownsRow_below HO1.out jd
 have hB2 := below_of HB1.out jd lw1
 have lw2 : lo ≤ w2.heap.size := Nat.le_trans lw1 jd.size
 have s22 := kp jd s2
 have s32 := kp jd s3
 clear jd HF HSL e0 e1 e2 e3 e4 ef a2 a3 af s0 s1 s2 s3 HG1 HO1 HB1
 obtain ⟨e0, e1, e2, e3, e4⟩ := cells5 hg2
 have ef := fz hg2
 have a2 : w2.cell? ⟨ga, i * 4 + 2, none⟩ = some (.int .i64 (f (i * 4 + 2))) := by rw [World.ownsRow.cellAt hO2 (i * 4 + 2) (by omega), List.getElem?_map, cellsL_at f n _ (by omega)]; rfl
 have a3 : w2.cell? ⟨ga, i * 4 + 3, none⟩ = some (.int .i64 (f (i * 4 + 3))) := by rw [World.ownsRow.cellAt hO2 (i * 4 + 3) (by omega), List.getElem?_map, cellsL_at f n _ (by omega)]; rfl
 have af : ∀ j, w2.frozen? ⟨ga, j, none⟩ = false := fun j => World.ownsRow.frozenAt hO2 j
 have HG2 := lh hg2
 have HO2 := lh hO2
 have HB2 := lh hB2
 clear hg2 hO2 hB2
 have HF : Hid (∀ w', Below w2.heap.size w2 w' → w'.cell? ⟨s, 3, none⟩ = some (.int .i64 z) ∧ w'.cell? ⟨ga, i * 4 + 2, none⟩ = some (.int .i64 (f (i * 4 + 2))) ∧ w'.cell? ⟨ga, i * 4 + 3, none⟩ = some (.int .i64 (f (i * 4 + 3)))) := by
  intro w' hq
  exact ⟨kp hq s32, kp hq a2, kp hq a3⟩
 have hneg : (-1 : Int) < 0 := by decide
 go_wp2_with fail
 refine wp_region_held_drew (S := fun w' => Below (w2).heap.size (w2) w') (by kernel_rfl) ((Below.refl _ _).drew) (fun jd => ?_)
 refine tj3 0 56 1 57 2 58 HF jd ?_
 refine wpAnyH_skips (by kernel_rfl) (fun _ _ _ _ _ h => h) jd [(3, 59), (4, 60), (5, 61)] 11 3 _ _ rfl (by kernel_rfl) ?_
 simp only [skipL, skipA, Act.put, p1, p2, p3]
 refine tj2 6 62 7 63 HF jd ?_
 refine wpAnyH_skips (by kernel_rfl) (fun _ _ _ _ _ h => h) jd [(8, 64), (9, 65), (10, 66), (11, 67), (12, 68), (13, 69), (14, 70), (15, 71)] 1 8 _ _ rfl (by kernel_rfl) ?_
 simp only [skipL, skipA, Act.put, p1, p2, p3]
 refine tj 16 72 HF rfl jd ?_
 refine wpAnyH_done (by kernel_rfl) ?_ _
 have hB3 := below_of HB2.out jd lw2
 clear jd HF e0 e1 e2 e3 e4 ef a2 a3 af s22 s32 HG2 HO2 HB2
 go_wp2
 go_ret
 exact ⟨rfl, hB3⟩
theorem stepPan_lead_same (g ga lo n c' : Nat) (f : Nat → Int) (I H S P : Int) (id tt0 z : Int) (i : Nat) (hi' : i < n) (hn : n ≤ 1000) (w : World) (hg : w.heap[g]? = some (.cells #[.slice (some ⟨ga, 0, none⟩) n c', .int .i64 I, .int .i64 H, .int .i64 S, .int .i64 P] 32 (0, 0))) (hO : w.ownsRow lo 97 4 (.slice (some ⟨ga, 0, none⟩) n c') n ((cellsL f n).map (Value.int .i64))) (hlo : lo ≤ g) (hfk : findV (pid f) tt0 n 0 = (i : Int)) :
  Calls Tryz.prog 169 #[.pointer (some ⟨g, 0, none⟩), .int .i64 i, .agg #[.int .i64 3, .int .i64 id, .int .i64 tt0, .int .i64 z]] w (fun e w' => e = .returned (.bool false) ∧ Below lo w w') := by
 go_enter Tryz.func169, Tryz.ntmps169
 have nga : ga ≠ g := by
  intro e
  subst e
  exact row_ne hO hg (by decide)
 have lg : g < w.heap.size := (Array.getElem?_eq_some_iff.1 hg).1
 have lga := World.ownsRow.lt hO ga rfl
 have hnc : n ≤ c' ∧ c' ≤ maxLen := by
  obtain ⟨_, _, e, h1, h2⟩ := row_slice hO
  cases e
  exact ⟨h1, h2⟩
 have hncI : (n : Int) ≤ (c' : Int) := by omega
 have hi0 : (0 : Int) ≤ (i : Int) := by omega
 have hin : (i : Int) < (n : Int) := by omega
 go_upto_region 1 with fail
 refine name_wp ?_
 intro w1 hw1
 have hb1 : Below w.heap.size w w1 := by rw [hw1]; exact (Below.refl _ w).alloc (Nat.le_refl _) _
 have hs1 := an hw1
 have hg1 := (hb1.block g lg).trans hg
 have hO1 := ownsRow_below hO hb1
 have hB1 : Below lo w w1 := hb1.mono (by omega)
 clear hw1 hg hO hb1
 have lg1 := (Array.getElem?_eq_some_iff.1 hg1).1
 have ls1 := (Array.getElem?_eq_some_iff.1 hs1).1
 have lw1 : lo ≤ w1.heap.size := by omega
 obtain ⟨s, hs⟩ : ∃ s, s = w.heap.size := ⟨_, rfl⟩
 rw [← hs] at hs1 lg lga ls1
 have ngs : g ≠ s := by omega
 have nsg : s ≠ g := by omega
 have nas : ga ≠ s := by omega
 have nsa : s ≠ ga := by omega
 have nga' : g ≠ ga := Ne.symm nga
 have hles : lo ≤ s := by omega
 have HS0 := lh hs
 clear hs
 obtain ⟨s0, s1, s2, s3⟩ := cells4 hs1
 obtain ⟨e0, e1, e2, e3, e4⟩ := cells5 hg1
 have ef := fz hg1
 have a2 : w1.cell? ⟨ga, i * 4 + 2, none⟩ = some (.int .i64 (f (i * 4 + 2))) := by rw [World.ownsRow.cellAt hO1 (i * 4 + 2) (by omega), List.getElem?_map, cellsL_at f n _ (by omega)]; rfl
 have a3 : w1.cell? ⟨ga, i * 4 + 3, none⟩ = some (.int .i64 (f (i * 4 + 3))) := by rw [World.ownsRow.cellAt hO1 (i * 4 + 3) (by omega), List.getElem?_map, cellsL_at f n _ (by omega)]; rfl
 have af : ∀ j, w1.frozen? ⟨ga, j, none⟩ = false := fun j => World.ownsRow.frozenAt hO1 j
 have HG1 := lh hg1
 have HO1 := lh hO1
 have HB1 := lh hB1
 clear hg1 hO1 hB1 hs1
 have hszS : w.heap.size = s := HS0.out.symm
 rw [hszS]
 clear hszS
 have HF : Hid (∀ w', Below w1.heap.size w1 w' → w'.cell? ⟨g, 0, none⟩ = some (.slice (some ⟨ga, 0, none⟩) n c') ∧ w'.cell? ⟨g, 1, none⟩ = some (.int .i64 I) ∧ w'.cell? ⟨g, 2, none⟩ = some (.int .i64 H) ∧ w'.cell? ⟨g, 3, none⟩ = some (.int .i64 S) ∧ w'.cell? ⟨g, 4, none⟩ = some (.int .i64 P) ∧ w'.cell? ⟨s, 2, none⟩ = some (.int .i64 tt0) ∧ w'.cell? ⟨s, 3, none⟩ = some (.int .i64 z) ∧ w'.cell? ⟨ga, i * 4 + 2, none⟩ = some (.int .i64 (f (i * 4 + 2))) ∧ w'.cell? ⟨ga, i * 4 + 3, none⟩ = some (.int .i64 (f (i * 4 + 3)))) := by
  intro w' hq
  exact ⟨kp hq e0, kp hq e1, kp hq e2, kp hq e3, kp hq e4, kp hq s2, kp hq s3, kp hq a2, kp hq a3⟩
 have HSL : Hid (∀ w', Below w1.heap.size w1 w' → Sl w' lo w'.heap.size 4 (some ⟨ga, 0, none⟩) n f) := by
  intro w' hq
  obtain ⟨A0, c0, e0, _, _, h0⟩ := own_of_row (ownsRow_below HO1.out hq)
  cases e0
  exact (h0.congr (fun j hj => cellsL_getD _ n j hj)).sl
 go_wp2_with fail
 refine wp_region_held_drew (S := fun w' => Below (w1).heap.size (w1) w') (by kernel_rfl) ((Below.refl _ _).drew) (fun jd => ?_)
 refine tj4 0 50 3 53 1 51 4 54 HF jd ?_
 refine tj 2 52 HF rfl jd ?_
 refine wpAnyH_ready (rs := [5]) (by kernel_rfl) (by simp) ?_
 refine AllReadyH.cons rfl (fun K hK => ?_) AllReadyH.nil
 go_simp
 (go_at_call 109; refine (panAt_any _ n c' lo _ f I H S P tt0 _ (HSL.out _ jd) (by omega) hnc.1).mono ?_; rw [hfk]; rintro e w2 ⟨rfl, hb2⟩)
 refine hK.out _ _ (jd.trans (hb2.mono jd.size)) (fun jd => ?_)
 clear hK K hb2
 refine tj 6 9 HF rfl jd ?_
 refine wpAnyH_done (by kernel_rfl) ?_ _
 have hg2 := (jd.block g (Array.getElem?_eq_some_iff.1 HG1.out).1).trans HG1.out
 have hO2 := ownsRow_below HO1.out jd
 have hB2 := below_of HB1.out jd lw1
 have lw2 : lo ≤ w2.heap.size := Nat.le_trans lw1 jd.size
 have s22 := kp jd s2
 have s32 := kp jd s3
 clear jd HF HSL e0 e1 e2 e3 e4 ef a2 a3 af s0 s1 s2 s3 HG1 HO1 HB1
 obtain ⟨e0, e1, e2, e3, e4⟩ := cells5 hg2
 have ef := fz hg2
 have a2 : w2.cell? ⟨ga, i * 4 + 2, none⟩ = some (.int .i64 (f (i * 4 + 2))) := by rw [World.ownsRow.cellAt hO2 (i * 4 + 2) (by omega), List.getElem?_map, cellsL_at f n _ (by omega)]; rfl
 have a3 : w2.cell? ⟨ga, i * 4 + 3, none⟩ = some (.int .i64 (f (i * 4 + 3))) := by rw [World.ownsRow.cellAt hO2 (i * 4 + 3) (by omega), List.getElem?_map, cellsL_at f n _ (by omega)]; rfl
 have af : ∀ j, w2.frozen? ⟨ga, j, none⟩ = false := fun j => World.ownsRow.frozenAt hO2 j
 have HG2 := lh hg2
 have HO2 := lh hO2
 have HB2 := lh hB2
 clear hg2 hO2 hB2
 have HF : Hid (∀ w', Below w2.heap.size w2 w' → w'.cell? ⟨s, 3, none⟩ = some (.int .i64 z) ∧ w'.cell? ⟨ga, i * 4 + 2, none⟩ = some (.int .i64 (f (i * 4 + 2))) ∧ w'.cell? ⟨ga, i * 4 + 3, none⟩ = some (.int .i64 (f (i * 4 + 3)))) := by
  intro w' hq
  exact ⟨kp hq s32, kp hq a2, kp hq a3⟩
 have hnn : ¬ ((i : Int) < 0) := by omega
 go_wp2_with fail
 refine wp_region_held_drew (S := fun w' => Below (w2).heap.size (w2) w') (by kernel_rfl) ((Below.refl _ _).drew) (fun jd => ?_)
 refine tj4 0 56 1 57 2 58 3 59 HF jd ?_
 refine tj4 4 60 5 61 6 62 7 63 HF jd ?_
 refine wpAnyH_skips (by kernel_rfl) (fun _ _ _ _ _ h => h) jd [(8, 64), (9, 65), (10, 66), (11, 67), (12, 68), (13, 69), (14, 70), (15, 71)] 1 8 _ _ rfl (by kernel_rfl) ?_
 simp only [skipL, skipA, Act.put, p1, p2, p3]
 refine tj 16 72 HF rfl jd ?_
 refine wpAnyH_done (by kernel_rfl) ?_ _
 have hB3 := below_of HB2.out jd lw2
 clear jd HF e0 e1 e2 e3 e4 ef a2 a3 af s22 s32 HG2 HO2 HB2
 go_wp2
 go_ret
 exact ⟨rfl, hB3⟩
theorem stepPan_lead (g ga lo n c' : Nat) (f : Nat → Int) (I H S P : Int) (id tt0 z : Int) (i : Nat) (hi' : i < n) (hn : n ≤ 1000) (w : World) (hg : w.heap[g]? = some (.cells #[.slice (some ⟨ga, 0, none⟩) n c', .int .i64 I, .int .i64 H, .int .i64 S, .int .i64 P] 32 (0, 0))) (hO : w.ownsRow lo 97 4 (.slice (some ⟨ga, 0, none⟩) n c') n ((cellsL f n).map (Value.int .i64))) (hlo : lo ≤ g) (kk : Nat) (hk' : kk < n) (hne : kk ≠ i) (hz0 : 0 < z) (hfk : findV (pid f) tt0 n 0 = (kk : Int)) :
  Calls Tryz.prog 169 #[.pointer (some ⟨g, 0, none⟩), .int .i64 i, .agg #[.int .i64 3, .int .i64 id, .int .i64 tt0, .int .i64 z]] w (fun e w' => e = .returned (.bool (leadOk f i z)) ∧ ((leadOk f i z) = true → BoxRow w' lo g ga n c' (cellsL (leadF f i kk z) n) I H S P) ∧ Below lo w w') := by
 go_enter Tryz.func169, Tryz.ntmps169
 have nga : ga ≠ g := by
  intro e
  subst e
  exact row_ne hO hg (by decide)
 have lg : g < w.heap.size := (Array.getElem?_eq_some_iff.1 hg).1
 have lga := World.ownsRow.lt hO ga rfl
 have hnc : n ≤ c' ∧ c' ≤ maxLen := by
  obtain ⟨_, _, e, h1, h2⟩ := row_slice hO
  cases e
  exact ⟨h1, h2⟩
 have hncI : (n : Int) ≤ (c' : Int) := by omega
 have hi0 : (0 : Int) ≤ (i : Int) := by omega
 have hin : (i : Int) < (n : Int) := by omega
 go_upto_region 1 with fail
 refine name_wp ?_
 intro w1 hw1
 have hb1 : Below w.heap.size w w1 := by rw [hw1]; exact (Below.refl _ w).alloc (Nat.le_refl _) _
 have hs1 := an hw1
 have hg1 := (hb1.block g lg).trans hg
 have hO1 := ownsRow_below hO hb1
 have hB1 : Below lo w w1 := hb1.mono (by omega)
 clear hw1 hg hO hb1
 have lg1 := (Array.getElem?_eq_some_iff.1 hg1).1
 have ls1 := (Array.getElem?_eq_some_iff.1 hs1).1
 have lw1 : lo ≤ w1.heap.size := by omega
 obtain ⟨s, hs⟩ : ∃ s, s = w.heap.size := ⟨_, rfl⟩
 rw [← hs] at hs1 lg lga ls1
 have ngs : g ≠ s := by omega
 have nsg : s ≠ g := by omega
 have nas : ga ≠ s := by omega
 have nsa : s ≠ ga := by omega
 have nga' : g ≠ ga := Ne.symm nga
 have hles : lo ≤ s := by omega
 have HS0 := lh hs
 clear hs
 obtain ⟨s0, s1, s2, s3⟩ := cells4 hs1
 obtain ⟨e0, e1, e2, e3, e4⟩ := cells5 hg1
 have ef := fz hg1
 have a2 : w1.cell? ⟨ga, i * 4 + 2, none⟩ = some (.int .i64 (f (i * 4 + 2))) := by rw [World.ownsRow.cellAt hO1 (i * 4 + 2) (by omega), List.getElem?_map, cellsL_at f n _ (by omega)]; rfl
 have a3 : w1.cell? ⟨ga, i * 4 + 3, none⟩ = some (.int .i64 (f (i * 4 + 3))) := by rw [World.ownsRow.cellAt hO1 (i * 4 + 3) (by omega), List.getElem?_map, cellsL_at f n _ (by omega)]; rfl
 have af : ∀ j, w1.frozen? ⟨ga, j, none⟩ = false := fun j => World.ownsRow.frozenAt hO1 j
 have HG1 := lh hg1
 have HO1 := lh hO1
 have HB1 := lh hB1
 clear hg1 hO1 hB1 hs1
 have hszS : w.heap.size = s := HS0.out.symm
 rw [hszS]
 clear hszS
 have HF : Hid (∀ w', Below w1.heap.size w1 w' → w'.cell? ⟨g, 0, none⟩ = some (.slice (some ⟨ga, 0, none⟩) n c') ∧ w'.cell? ⟨g, 1, none⟩ = some (.int .i64 I) ∧ w'.cell? ⟨g, 2, none⟩ = some (.int .i64 H) ∧ w'.cell? ⟨g, 3, none⟩ = some (.int .i64 S) ∧ w'.cell? ⟨g, 4, none⟩ = some (.int .i64 P) ∧ w'.cell? ⟨s, 2, none⟩ = some (.int .i64 tt0) ∧ w'.cell? ⟨s, 3, none⟩ = some (.int .i64 z) ∧ w'.cell? ⟨ga, i * 4 + 2, none⟩ = some (.int .i64 (f (i * 4 + 2))) ∧ w'.cell? ⟨ga, i * 4 + 3, none⟩ = some (.int .i64 (f (i * 4 + 3)))) := by
  intro w' hq
  exact ⟨kp hq e0, kp hq e1, kp hq e2, kp hq e3, kp hq e4, kp hq s2, kp hq s3, kp hq a2, kp hq a3⟩
 have HSL : Hid (∀ w', Below w1.heap.size w1 w' → Sl w' lo w'.heap.size 4 (some ⟨ga, 0, none⟩) n f) := by
  intro w' hq
  obtain ⟨A0, c0, e0, _, _, h0⟩ := own_of_row (ownsRow_below HO1.out hq)
  cases e0
  exact (h0.congr (fun j hj => cellsL_getD _ n j hj)).sl
 go_wp2_with fail
 refine wp_region_held_drew (S := fun w' => Below (w1).heap.size (w1) w') (by kernel_rfl) ((Below.refl _ _).drew) (fun jd => ?_)
 refine tj4 0 50 3 53 1 51 4 54 HF jd ?_
 refine tj 2 52 HF rfl jd ?_
 refine wpAnyH_ready (rs := [5]) (by kernel_rfl) (by simp) ?_
 refine AllReadyH.cons rfl (fun K hK => ?_) AllReadyH.nil
 go_simp
 (go_at_call 109; refine (panAt_any _ n c' lo _ f I H S P tt0 _ (HSL.out _ jd) (by omega) hnc.1).mono ?_; rw [hfk]; rintro e w2 ⟨rfl, hb2⟩)
 refine hK.out _ _ (jd.trans (hb2.mono jd.size)) (fun jd => ?_)
 clear hK K hb2
 refine tj 6 9 HF rfl jd ?_
 refine wpAnyH_done (by kernel_rfl) ?_ _
 have hg2 := (jd.block g (Array.getElem?_eq_some_iff.1 HG1.out).1).trans HG1.out
 have hO2 := ownsRow_below HO1.out jd
 have hB2 := below_of HB1.out jd lw1
 have lw2 : lo ≤ w2.heap.size := Nat.le_trans lw1 jd.size
 have s22 := kp jd s2
 have s32 := kp jd s3
 clear jd HF HSL e0 e1 e2 e3 e4 ef a2 a3 af s0 s1 s2 s3 HG1 HO1 HB1
 obtain ⟨e0, e1, e2, e3, e4⟩ := cells5 hg2
 have ef := fz hg2
 have a2 : w2.cell? ⟨ga, i * 4 + 2, none⟩ = some (.int .i64 (f (i * 4 + 2))) := by rw [World.ownsRow.cellAt hO2 (i * 4 + 2) (by omega), List.getElem?_map, cellsL_at f n _ (by omega)]; rfl
 have a3 : w2.cell? ⟨ga, i * 4 + 3, none⟩ = some (.int .i64 (f (i * 4 + 3))) := by rw [World.ownsRow.cellAt hO2 (i * 4 + 3) (by omega), List.getElem?_map, cellsL_at f n _ (by omega)]; rfl
 have af : ∀ j, w2.frozen? ⟨ga, j, none⟩ = false := fun j => World.ownsRow.frozenAt hO2 j
 have HG2 := lh hg2
 have HO2 := lh hO2
 have HB2 := lh hB2
 clear hg2 hO2 hB2
 have HF : Hid (∀ w', Below w2.heap.size w2 w' → w'.cell? ⟨s, 3, none⟩ = some (.int .i64 z) ∧ w'.cell? ⟨ga, i * 4 + 2, none⟩ = some (.int .i64 (f (i * 4 + 2))) ∧ w'.cell? ⟨ga, i * 4 + 3, none⟩ = some (.int .i64 (f (i * 4 + 3)))) := by
  intro w' hq
  exact ⟨kp hq s32, kp hq a2, kp hq a3⟩
 have hnn : ¬ ((kk : Int) < 0) := by omega
 have hnei : ¬ ((kk : Int) = (i : Int)) := by omega
 have hneb : ((kk : Int) == (i : Int)) = false := by simp [hnei]
 have hk0i : (0 : Int) ≤ (kk : Int) := by omega
 have hkni : (kk : Int) < (n : Int) := by omega
 go_wp2_with fail
 refine wp_region_held_drew (S := fun w' => Below (w2).heap.size (w2) w') (by kernel_rfl) ((Below.refl _ _).drew) (fun jd => ?_)
 refine tj4 0 56 1 57 2 58 3 59 HF jd ?_
 refine tj4 4 60 5 61 6 62 7 63 HF jd ?_
 refine tj4 8 64 9 65 10 66 11 67 HF jd ?_
 refine tj2 12 68 13 69 HF jd ?_
 refine wpAnyH_ready (rs := [14]) (by kernel_rfl) (by simp) ?_
 refine AllReadyH.cons rfl (fun K hK => ?_) AllReadyH.nil
 go_simp
 (go_at_call 121; refine (mass_any _ _ _).mono ?_; rintro e w3 ⟨rfl, hb2⟩)
 refine hK.out _ _ (jd.trans (hb2.mono jd.size)) (fun jd => ?_)
 clear hK K hb2
 refine tj2 15 71 16 72 HF jd ?_
 refine wpAnyH_done (by kernel_rfl) ?_ _
 have hg3 := (jd.block g (Array.getElem?_eq_some_iff.1 HG2.out).1).trans HG2.out
 have hO3 := ownsRow_below HO2.out jd
 have hB3 := below_of HB2.out jd lw2
 have lw3 : lo ≤ w3.heap.size := Nat.le_trans lw2 jd.size
 have s33 := kp jd s32
 clear jd HF e0 e1 e2 e3 e4 ef a2 a3 af s22 s32 HG2 HO2 HB2
 by_cases hzm : massV (f (i * 4 + 2)) (f (i * 4 + 3)) < z
 ·have hpo : leadOk f i z = false := by simp [leadOk]; omega
  have HPO := lh hpo
  clear hpo
  go_wp2
  go_ret
  rw [HPO.out]
  exact ⟨rfl, (fun h => by cases h), hB3⟩
 have hpo : leadOk f i z = true := by simp [leadOk]; omega
 have hpf : leadF f i kk z = setB (setB f i (wrap64 (f (i * 4 + 2) - wrap64 (z - (partV (f (i * 4 + 2)) (f (i * 4 + 3)) z)))) (wrap64 (f (i * 4 + 3) - (partV (f (i * 4 + 2)) (f (i * 4 + 3)) z)))) kk (wrap64 (f (kk * 4 + 2) + wrap64 (z - (partV (f (i * 4 + 2)) (f (i * 4 + 3)) z)))) (wrap64 (f (kk * 4 + 3) + (partV (f (i * 4 + 2)) (f (i * 4 + 3)) z))) := by
  unfold leadF
  rw [if_pos hpo]
 have hm0 : massV (f (i * 4 + 2)) (f (i * 4 + 3)) ≠ 0 := by omega
 have HPO := lh hpo
 have HPF := lh hpf
 clear hpo hpf
 obtain ⟨e0, e1, e2, e3, e4⟩ := cells5 hg3
 have ef := fz hg3
 have a2 : w3.cell? ⟨ga, i * 4 + 2, none⟩ = some (.int .i64 (f (i * 4 + 2))) := by rw [World.ownsRow.cellAt hO3 (i * 4 + 2) (by omega), List.getElem?_map, cellsL_at f n _ (by omega)]; rfl
 have a3 : w3.cell? ⟨ga, i * 4 + 3, none⟩ = some (.int .i64 (f (i * 4 + 3))) := by rw [World.ownsRow.cellAt hO3 (i * 4 + 3) (by omega), List.getElem?_map, cellsL_at f n _ (by omega)]; rfl
 have af : ∀ j, w3.frozen? ⟨ga, j, none⟩ = false := fun j => World.ownsRow.frozenAt hO3 j
 have HG3 := lh hg3
 have HO3 := lh hO3
 have HB3 := lh hB3
 clear hg3 hO3 hB3
 have HF : Hid (∀ w', Below w3.heap.size w3 w' → w'.cell? ⟨s, 3, none⟩ = some (.int .i64 z) ∧ w'.cell? ⟨ga, i * 4 + 2, none⟩ = some (.int .i64 (f (i * 4 + 2))) ∧ w'.cell? ⟨ga, i * 4 + 3, none⟩ = some (.int .i64 (f (i * 4 + 3)))) := by
  intro w' hq
  exact ⟨kp hq s33, kp hq a2, kp hq a3⟩
 go_wp2_with fail
 refine wp_region_held_drew (S := fun w' => Below w3.heap.size w3 w') (by kernel_rfl) ((Below.refl _ w3).drew) (fun jd => ?_)
 refine tj4 0 73 4 77 1 74 5 78 HF jd ?_
 refine tj2 2 75 3 76 HF jd ?_
 refine wpAnyH_two (fuel := 1) (i := 6) (j := 7) (di := 79) (dj := 10) (skip := [79, 10]) (Pi := fun v _ => v = .agg #[.int .i64 (wrap64 (z - (partV (f (i * 4 + 2)) (f (i * 4 + 3)) z))), .int .i64 (partV (f (i * 4 + 2)) (f (i * 4 + 3)) z)]) rfl rfl rfl rfl (by decide) (by decide) (by decide) (by decide) (by kernel_rfl) (by kernel_rfl) (by kernel_rfl) ?ji (Job.alloc (nb := w3.heap.size) (obj := (.cells #[.int .i64 0, .int .i64 0] 95)) rfl (fun _ h => h.size) (fun a' w1 => by go_simp; try rfl)) (fun v w1 w2 h _ => h) stays_alloc below_stays jd ?nx
 case ji =>
  intro a' w1' K hev hb hK
  have h1 : a'.eval (.tmp 76) = .agg #[.int .i64 (f (i * 4 + 2)), .int .i64 (f (i * 4 + 3))] := (hev 76 (by decide)).trans rfl
  have h2 : a'.tmps[76]?.getD undef = .agg #[.int .i64 (f (i * 4 + 2)), .int .i64 (f (i * 4 + 3))] := by simpa [Act.eval] using h1
  have h3 : a'.eval (.tmp 78) = .int .i64 z := (hev 78 (by decide)).trans rfl
  have h4 : a'.tmps[78]?.getD undef = .int .i64 z := by simpa [Act.eval] using h3
  have HK := lh hK
  clear hev h1 h3 hK HF
  go_simp
  go_at_call 198
  refine (part_any _ _ z w1' (by omega) hm0).mono ?_
  rintro e w2' ⟨rfl, hb2⟩
  exact HK.out _ w2' rfl hb2
 case nx =>
 rintro vi vj w4 rfl ⟨g12, rfl, l12, h12⟩ hB4 _
 simp only [Act.put, p1, p2, p3]
 refine wS0 8 g12 #[.int .i64 (wrap64 (z - (partV (f (i * 4 + 2)) (f (i * 4 + 3)) z))), .int .i64 (partV (f (i * 4 + 2)) (f (i * 4 + 3)) z)] 95 infoBrine h12 (fun w' hg => hB4.grown hg hB4.size (fun k hk => by cases hk; exact l12)) ?kst
 case kst =>
 intro w5 h125 hg5 hB5
 refine wpAnyH_done (by kernel_rfl) ?_ _
 have h125' : w5.heap[g12]? = some (.cells #[.int .i64 (wrap64 (z - (partV (f (i * 4 + 2)) (f (i * 4 + 3)) z))), .int .i64 (partV (f (i * 4 + 2)) (f (i * 4 + 3)) z)] 95) := h125
 have hg5' := (hB5.block g (Array.getElem?_eq_some_iff.1 HG3.out).1).trans HG3.out
 have hO5 := ownsRow_below HO3.out hB5
 have hBB5 := below_of HB3.out hB5 lw3
 have lw5 : lo ≤ w5.heap.size := Nat.le_trans lw3 hB5.size
 obtain ⟨p05, p15⟩ := cells2 h125'
 have lg3 : ga < w3.heap.size := (World.ownsRow.lt HO3.out ga rfl).2
 have nga12 : g12 ≠ ga := by omega
 clear e0 e1 e2 e3 e4 ef a2 a3 af HF hB4 h12 h125 h125' hg5 hB5 jd HG3 HO3 HB3 s33 l12
 obtain ⟨e0, e1, e2, e3, e4⟩ := cells5 hg5'
 have ef := fz hg5'
 have a2 : w5.cell? ⟨ga, i * 4 + 2, none⟩ = some (.int .i64 (f (i * 4 + 2))) := by rw [World.ownsRow.cellAt hO5 (i * 4 + 2) (by omega), List.getElem?_map, cellsL_at f n _ (by omega)]; rfl
 have a3 : w5.cell? ⟨ga, i * 4 + 3, none⟩ = some (.int .i64 (f (i * 4 + 3))) := by rw [World.ownsRow.cellAt hO5 (i * 4 + 3) (by omega), List.getElem?_map, cellsL_at f n _ (by omega)]; rfl
 have af : ∀ j, w5.frozen? ⟨ga, j, none⟩ = false := fun j => World.ownsRow.frozenAt hO5 j
 obtain ⟨cur, hcur, hcs, hput⟩ := row_open hO5
 have hfit : i * 4 + 2 + 2 ≤ cur.size := by omega
 have HG5 := lh hg5'
 have HB5 := lh hBB5
 clear hg5' hO5 hBB5
 have HF : Hid (∀ w', w5.grownBy w' (some ga) → w'.cell? ⟨g12, 0, none⟩ = some (.int .i64 (wrap64 (z - (partV (f (i * 4 + 2)) (f (i * 4 + 3)) z)))) ∧ w'.cell? ⟨g12, 1, none⟩ = some (.int .i64 (partV (f (i * 4 + 2)) (f (i * 4 + 3)) z))) := by
  intro w' hq
  exact ⟨(World.cell?_of_block (a := ⟨g12, 0, none⟩) (hq.block _ (World.block_lt_of_cell? _ _ p05) (by simp; omega))).trans p05, (World.cell?_of_block (a := ⟨g12, 1, none⟩) (hq.block _ (World.block_lt_of_cell? _ _ p15) (by simp; omega))).trans p15⟩
 go_wp2_with fail
 refine wp_region_held_drew (S := fun w' => w5.grownBy w' (some ga)) (by kernel_rfl) ⟨rfl, rfl, rfl, Nat.le_refl _, fun _ _ _ => rfl⟩ (fun jd => ?_)
 refine tj4 0 80 1 81 5 85 2 82 HF jd ?_
 refine tj 3 83 HF rfl jd ?_
 refine wpAnyH_ready (rs := [4]) (by kernel_rfl) (by simp) ?_
 refine AllReadyH.cons rfl (fun K hK => ?_) AllReadyH.nil
 go_simp
 refine hK.out _ _ jd (fun jd => ?_)
 clear hK K
 refine wpAnyH_job (fuel := 3) (i := 6) (d := 86) (skip := []) (Post := fun v _ => v = (.agg #[.int .i64 (wrap64 (f (i * 4 + 2) - wrap64 (z - (partV (f (i * 4 + 2)) (f (i * 4 + 3)) z)))), .int .i64 (wrap64 (f (i * 4 + 3) - (partV (f (i * 4 + 2)) (f (i * 4 + 3)) z)))])) rfl rfl (by kernel_rfl) ?jm but_stays jd ?nm
 case jm =>
  intro a' w1' K hev hb hK
  have h1 : a'.eval (.tmp 84) = .agg #[.int .i64 (f (i * 4 + 2)), .int .i64 (f (i * 4 + 3))] := (hev 84 (by decide)).trans rfl
  have h2 : a'.tmps[84]?.getD undef = .agg #[.int .i64 (f (i * 4 + 2)), .int .i64 (f (i * 4 + 3))] := by simpa [Act.eval] using h1
  have h3 : a'.eval (.tmp 85) = .agg #[.int .i64 (wrap64 (z - (partV (f (i * 4 + 2)) (f (i * 4 + 3)) z))), .int .i64 (partV (f (i * 4 + 2)) (f (i * 4 + 3)) z)] := (hev 85 (by decide)).trans rfl
  have h4 : a'.tmps[85]?.getD undef = .agg #[.int .i64 (wrap64 (z - (partV (f (i * 4 + 2)) (f (i * 4 + 3)) z))), .int .i64 (partV (f (i * 4 + 2)) (f (i * 4 + 3)) z)] := by simpa [Act.eval] using h3
  have HK := lh hK
  clear hev h1 h3 hK HF
  go_simp
  go_at_call 199
  refine (minus_any _ _ _ _ w1').mono ?_
  rintro e w2' ⟨rfl, hb2⟩
  exact HK.out _ w2' rfl hb2
 case nm =>
 rintro v wl rfl hSl hbl
 simp only [Act.put, p1, p2, p3]
 have jd := hSl
 refine tj2 7 87 8 88 HF jd ?_
 have hcurl : wl.heap[ga]? = some (.cells cur 97) := (hbl.block ga (Array.getElem?_eq_some_iff.1 hcur).1).trans hcur
 refine wpAnyH_store (fuel := 0) (i := 9) rfl (by kernel_rfl) ga (i * 4 + 2) (.agg #[.int .i64 (wrap64 (f (i * 4 + 2) - wrap64 (z - (partV (f (i * 4 + 2)) (f (i * 4 + 3)) z)))), .int .i64 (wrap64 (f (i * 4 + 3) - (partV (f (i * 4 + 2)) (f (i * 4 + 3)) z)))]) 97 cur rfl rfl infoBrine hcurl hfit (by simp [Value.cells, Value.oneCell']) (fun w' hg => grown_trans hSl hg) ?kv
 case kv =>
 intro w6 hhw6 hgw6 hSw6
 refine wpAnyH_done (by kernel_rfl) ?_ _
 rw [show putRow cur (i * 4 + 2) ((.agg #[.int .i64 (wrap64 (f (i * 4 + 2) - wrap64 (z - (partV (f (i * 4 + 2)) (f (i * 4 + 3)) z)))), .int .i64 (wrap64 (f (i * 4 + 3) - (partV (f (i * 4 + 2)) (f (i * 4 + 3)) z)))]) : Value).cells = _ from putRow_two cur _ _ _ hfit] at hhw6
 have hOw6 := hput w6 (i * 4 + 2) _ _ hhw6
 rw [cellsL_set, cellsL_set] at hOw6
 have hg6 := (hSw6.block g (Array.getElem?_eq_some_iff.1 HG5.out).1 (by simp; omega)).trans HG5.out
 have hB6 := HB5.out.grown hSw6 lw5 (fun k hk => by cases hk; omega)
 have lw6 : lo ≤ w6.heap.size := Nat.le_trans lw5 hSw6.size
 have p06 := (World.cell?_of_block (a := ⟨g12, 0, none⟩) (hSw6.block _ (World.block_lt_of_cell? _ _ p05) (by simp; omega))).trans p05
 have p16 := (World.cell?_of_block (a := ⟨g12, 1, none⟩) (hSw6.block _ (World.block_lt_of_cell? _ _ p15) (by simp; omega))).trans p15
 clear jd HF hSw6 hgw6 hhw6 hSl hbl hcurl hcur hput hcs hfit e0 e1 e2 e3 e4 ef a2 a3 af HG5 HB5 p05 p15
 have e0 : w6.cell? ⟨g, 0, none⟩ = some (.slice (some ⟨ga, 0, none⟩) n c') := by rw [cell_of_row w6 g 0 _ _ (0, 0) hg6]; rfl
 have ef := fz hg6
 have sk2 : setB f i (wrap64 (f (i * 4 + 2) - wrap64 (z - (partV (f (i * 4 + 2)) (f (i * 4 + 3)) z)))) (wrap64 (f (i * 4 + 3) - (partV (f (i * 4 + 2)) (f (i * 4 + 3)) z))) (kk * 4 + 2) = f (kk * 4 + 2) := setB_far _ _ trivial (by omega) (by omega)
 have sk3 : setB f i (wrap64 (f (i * 4 + 2) - wrap64 (z - (partV (f (i * 4 + 2)) (f (i * 4 + 3)) z)))) (wrap64 (f (i * 4 + 3) - (partV (f (i * 4 + 2)) (f (i * 4 + 3)) z))) (kk * 4 + 3) = f (kk * 4 + 3) := setB_far _ _ trivial (by omega) (by omega)
 have a2 : w6.cell? ⟨ga, kk * 4 + 2, none⟩ = some (.int .i64 (f (kk * 4 + 2))) := by rw [World.ownsRow.cellAt hOw6 (kk * 4 + 2) (by omega), List.getElem?_map, cellsL_at _ n _ (by omega)]; exact congrArg (fun x => some (Value.int .i64 x)) sk2
 have a3 : w6.cell? ⟨ga, kk * 4 + 3, none⟩ = some (.int .i64 (f (kk * 4 + 3))) := by rw [World.ownsRow.cellAt hOw6 (kk * 4 + 3) (by omega), List.getElem?_map, cellsL_at _ n _ (by omega)]; exact congrArg (fun x => some (Value.int .i64 x)) sk3
 have af : ∀ j, w6.frozen? ⟨ga, j, none⟩ = false := fun j => World.ownsRow.frozenAt hOw6 j
 clear sk2 sk3
 obtain ⟨cur2, hcur, hcs, hput⟩ := row_open hOw6
 have hfit : kk * 4 + 2 + 2 ≤ cur2.size := by omega
 have HG6 := lh hg6
 have HB6 := lh hB6
 clear hg6 hOw6 hB6
 have HF : Hid (∀ w', w6.grownBy w' (some ga) → w'.cell? ⟨g, 0, none⟩ = some (.slice (some ⟨ga, 0, none⟩) n c') ∧ w'.cell? ⟨g12, 0, none⟩ = some (.int .i64 (wrap64 (z - (partV (f (i * 4 + 2)) (f (i * 4 + 3)) z)))) ∧ w'.cell? ⟨g12, 1, none⟩ = some (.int .i64 (partV (f (i * 4 + 2)) (f (i * 4 + 3)) z))) := by
  intro w' hq
  exact ⟨(World.cell?_of_block (a := ⟨g, 0, none⟩) (hq.block _ (World.block_lt_of_cell? _ _ e0) (by simp; omega))).trans e0, (World.cell?_of_block (a := ⟨g12, 0, none⟩) (hq.block _ (World.block_lt_of_cell? _ _ p06) (by simp; omega))).trans p06, (World.cell?_of_block (a := ⟨g12, 1, none⟩) (hq.block _ (World.block_lt_of_cell? _ _ p16) (by simp; omega))).trans p16⟩
 go_wp2_with fail
 refine wp_region_held_drew (S := fun w' => w6.grownBy w' (some ga)) (by kernel_rfl) ⟨rfl, rfl, rfl, Nat.le_refl _, fun _ _ _ => rfl⟩ (fun jd => ?_)
 refine tj4 0 89 4 93 5 94 9 98 HF jd ?_
 refine tj4 13 102 1 90 6 95 2 91 HF jd ?_
 refine tj4 7 96 3 92 8 97 10 99 HF jd ?_
 refine tj 11 100 HF rfl jd ?_
 refine wpAnyH_ready (rs := [12]) (by kernel_rfl) (by simp) ?_
 refine AllReadyH.cons rfl (fun K hK => ?_) AllReadyH.nil
 go_simp
 refine hK.out _ _ jd (fun jd => ?_)
 clear hK K
 refine wpAnyH_job (fuel := 3) (i := 14) (d := 103) (skip := []) (Post := fun v _ => v = (.agg #[.int .i64 (wrap64 (f (kk * 4 + 2) + wrap64 (z - (partV (f (i * 4 + 2)) (f (i * 4 + 3)) z)))), .int .i64 (wrap64 (f (kk * 4 + 3) + (partV (f (i * 4 + 2)) (f (i * 4 + 3)) z)))])) rfl rfl (by kernel_rfl) ?jq but_stays jd ?nq
 case jq =>
  intro a' w1' K hev hb hK
  have h1 : a'.eval (.tmp 101) = .agg #[.int .i64 (f (kk * 4 + 2)), .int .i64 (f (kk * 4 + 3))] := (hev 101 (by decide)).trans rfl
  have h2 : a'.tmps[101]?.getD undef = .agg #[.int .i64 (f (kk * 4 + 2)), .int .i64 (f (kk * 4 + 3))] := by simpa [Act.eval] using h1
  have h3 : a'.eval (.tmp 102) = .agg #[.int .i64 (wrap64 (z - (partV (f (i * 4 + 2)) (f (i * 4 + 3)) z))), .int .i64 (partV (f (i * 4 + 2)) (f (i * 4 + 3)) z)] := (hev 102 (by decide)).trans rfl
  have h4 : a'.tmps[102]?.getD undef = .agg #[.int .i64 (wrap64 (z - (partV (f (i * 4 + 2)) (f (i * 4 + 3)) z))), .int .i64 (partV (f (i * 4 + 2)) (f (i * 4 + 3)) z)] := by simpa [Act.eval] using h3
  have HK := lh hK
  clear hev h1 h3 hK HF
  go_simp
  go_at_call 197
  refine (plus_any _ _ _ _ w1').mono ?_
  rintro e w2' ⟨rfl, hb2⟩
  exact HK.out _ w2' rfl hb2
 case nq =>
 rintro v wl rfl hSl hbl
 simp only [Act.put, p1, p2, p3]
 have jd := hSl
 refine tj2 15 104 16 105 HF jd ?_
 have hcurl : wl.heap[ga]? = some (.cells cur2 97) := (hbl.block ga (Array.getElem?_eq_some_iff.1 hcur).1).trans hcur
 refine wpAnyH_store (fuel := 0) (i := 17) rfl (by kernel_rfl) ga (kk * 4 + 2) (.agg #[.int .i64 (wrap64 (f (kk * 4 + 2) + wrap64 (z - (partV (f (i * 4 + 2)) (f (i * 4 + 3)) z)))), .int .i64 (wrap64 (f (kk * 4 + 3) + (partV (f (i * 4 + 2)) (f (i * 4 + 3)) z)))]) 97 cur2 rfl rfl infoBrine hcurl hfit (by simp [Value.cells, Value.oneCell']) (fun w' hg => grown_trans hSl hg) ?kx
 case kx =>
 intro w7 hhw7 hgw7 hSw7
 refine wpAnyH_done (by kernel_rfl) ?_ _
 rw [show putRow cur2 (kk * 4 + 2) ((.agg #[.int .i64 (wrap64 (f (kk * 4 + 2) + wrap64 (z - (partV (f (i * 4 + 2)) (f (i * 4 + 3)) z)))), .int .i64 (wrap64 (f (kk * 4 + 3) + (partV (f (i * 4 + 2)) (f (i * 4 + 3)) z)))]) : Value).cells = _ from putRow_two cur2 _ _ _ hfit] at hhw7
 have hOw7 := hput w7 (kk * 4 + 2) _ _ hhw7
 rw [cellsL_set, cellsL_set] at hOw7
 have hg7 := (hSw7.block g (Array.getElem?_eq_some_iff.1 HG6.out).1 (by simp; omega)).trans HG6.out
 have hB7 := HB6.out.grown hSw7 lw6 (fun k hk => by cases hk; omega)
 clear jd HF hSw7 hgw7 hhw7 hSl hbl hcurl hcur hput hcs hfit e0 ef a2 a3 af HG6 HB6 p06 p16
 go_wp2
 go_ret
 rw [HPO.out]
 exact ⟨rfl, fun _ => ⟨hg7, by rw [HPF.out]; exact hOw7⟩, hB7⟩
theorem stepPan_other (g ga lo n c' : Nat) (f : Nat → Int) (I H S P : Int) (kd id tt0 z : Int) (i : Nat) (hi' : i < n) (hn : n ≤ 1000) (w : World) (hg : w.heap[g]? = some (.cells #[.slice (some ⟨ga, 0, none⟩) n c', .int .i64 I, .int .i64 H, .int .i64 S, .int .i64 P] 32 (0, 0))) (hO : w.ownsRow lo 97 4 (.slice (some ⟨ga, 0, none⟩) n c') n ((cellsL f n).map (Value.int .i64))) (hlo : lo ≤ g) (k2 : (kd == 2) = false) (k3 : (kd == 3) = false) (k4 : (kd == 4) = false) (k5 : (kd == 5) = false) :
  Calls Tryz.prog 169 #[.pointer (some ⟨g, 0, none⟩), .int .i64 i, .agg #[.int .i64 kd, .int .i64 id, .int .i64 tt0, .int .i64 z]] w (fun e w' => e = .returned (.bool false) ∧ Below lo w w') := by
 go_enter Tryz.func169, Tryz.ntmps169
 have nga : ga ≠ g := by
  intro e
  subst e
  exact row_ne hO hg (by decide)
 have lg : g < w.heap.size := (Array.getElem?_eq_some_iff.1 hg).1
 have lga := World.ownsRow.lt hO ga rfl
 have hnc : n ≤ c' ∧ c' ≤ maxLen := by
  obtain ⟨_, _, e, h1, h2⟩ := row_slice hO
  cases e
  exact ⟨h1, h2⟩
 have hncI : (n : Int) ≤ (c' : Int) := by omega
 have hi0 : (0 : Int) ≤ (i : Int) := by omega
 have hin : (i : Int) < (n : Int) := by omega
 go_upto_region 1 with fail
 refine name_wp ?_
 intro w1 hw1
 have hb1 : Below w.heap.size w w1 := by rw [hw1]; exact (Below.refl _ w).alloc (Nat.le_refl _) _
 have hs1 := an hw1
 have hg1 := (hb1.block g lg).trans hg
 have hO1 := ownsRow_below hO hb1
 have hB1 : Below lo w w1 := hb1.mono (by omega)
 clear hw1 hg hO hb1
 have lg1 := (Array.getElem?_eq_some_iff.1 hg1).1
 have ls1 := (Array.getElem?_eq_some_iff.1 hs1).1
 have lw1 : lo ≤ w1.heap.size := by omega
 obtain ⟨s, hs⟩ : ∃ s, s = w.heap.size := ⟨_, rfl⟩
 rw [← hs] at hs1 lg lga ls1
 have ngs : g ≠ s := by omega
 have nsg : s ≠ g := by omega
 have nas : ga ≠ s := by omega
 have nsa : s ≠ ga := by omega
 have nga' : g ≠ ga := Ne.symm nga
 have hles : lo ≤ s := by omega
 have HS0 := lh hs
 clear hs
 obtain ⟨s0, s1, s2, s3⟩ := cells4 hs1
 obtain ⟨e0, e1, e2, e3, e4⟩ := cells5 hg1
 have ef := fz hg1
 have a2 : w1.cell? ⟨ga, i * 4 + 2, none⟩ = some (.int .i64 (f (i * 4 + 2))) := by rw [World.ownsRow.cellAt hO1 (i * 4 + 2) (by omega), List.getElem?_map, cellsL_at f n _ (by omega)]; rfl
 have a3 : w1.cell? ⟨ga, i * 4 + 3, none⟩ = some (.int .i64 (f (i * 4 + 3))) := by rw [World.ownsRow.cellAt hO1 (i * 4 + 3) (by omega), List.getElem?_map, cellsL_at f n _ (by omega)]; rfl
 have af : ∀ j, w1.frozen? ⟨ga, j, none⟩ = false := fun j => World.ownsRow.frozenAt hO1 j
 have HG1 := lh hg1
 have HO1 := lh hO1
 have HB1 := lh hB1
 clear hg1 hO1 hB1 hs1
 have hszS : w.heap.size = s := HS0.out.symm
 rw [hszS]
 clear hszS
 have hB1' := HB1.out
 clear HG1 HO1 HB1
 go_wp2
 go_ret
 exact ⟨rfl, hB1'⟩
end Go.Proofs.YtpndjhelpoenpaaGreatDoor
namespace Go.Proofs.YtpndjhelpoenpaaGreatDoor
open Go.RowKit
theorem run_copy_rowk {P : Program} (w : World) (dT sT ty elem : TypeId) (k g o dLen dCap : Nat) (a : Addr) (sLen sCap : Nat) (cur : Array Value) (t : TypeId) (cs : List Value)
  (hu : P.underlying dT = some (.slice elem)) (hs : (P.info? elem).map (·.size) = some k)
  (hg : w.heap[g]? = some (.cells cur t (0, 0))) (hn : cs.length = Nat.min sLen dLen * k)
  (hsrc : ∀ j v, cs[j]? = some v → w.cell? (a.add j) = some v) (hfit : o + cs.length ≤ cur.size) (h1 : ∀ v ∈ cs, v.oneCell' = true) :
  (Builtin.copy_ #[dT, sT] ty #[.slice (some ⟨g, o, none⟩) dLen dCap, .slice (some a) sLen sCap]).run P w =
   .ok (goInt (Nat.min sLen dLen)) (w.setRow g (cur.toList.take o ++ cs ++ cur.toList.drop (o + cs.length)).toArray) := by
 have hl := run_loadCells_list (P := P) w a cs hsrc
 have hst := run_storeCells_at P g o t cs 0 cur w hg (by simpa using hfit) h1
 cases hq : P.info? elem with
 | none => simp [hq] at hs
 | some i =>
  have hi : i.size = k := by simpa [hq] using hs
  simp [Builtin.copy_, run_underlying hu, Builtin.lenOf, Builtin.firstCells, sizeOf, typeInfo, hq, hi, ← hn, hl, hst]
theorem wp_copy_runW {P : Program} (w : World) {o : Oper} {a : Act} {K : Act → World → Prop} {Q : Exit → Act → World → Prop} (d s : Operand) (t t' : TypeId)
  (ho : o.op = .call { callee := .builtin .copy, args := #[d, s], argTypes := #[t, t'] }) (v u : Value) (hd : a.eval d = v) (hs : a.eval s = u) {v' : Value} {w' : World}
  (hr : (Builtin.copy_ #[t, t'] o.type #[v, u]).run P w = .ok v' w') (h : K (a.put o.dst v') w') : o.wp P a w K Q := by
 unfold Oper.wp execOp
 simp only [ho, resolve, invoke, builtin, Sem.run_bind, Sem.run_pure, Result.andThen_ok, List.map_toArray, List.map_cons, List.map_nil, hd, hs, hr]
 exact h
theorem wpList_copy_runW {P : Program} (w : World) {ops : Array Oper} {rest : List Oper} {o : Oper} {a : Act} {Q : Exit → Act → World → Prop} (hgd : o.guard = none) (d s : Operand) (t t' : TypeId)
  (ho : o.op = .call { callee := .builtin .copy, args := #[d, s], argTypes := #[t, t'] }) (v u : Value) (hd : a.eval d = v) (hs : a.eval s = u) {v' : Value} {w' : World}
  (hr : (Builtin.copy_ #[t, t'] o.type #[v, u]).run P w = .ok v' w') (h : wpList P ops Q rest (a.put o.dst v') w') : wpList P ops Q (o :: rest) a w :=
 wpList_plain hgd fun _ hK => wp_copy_runW w d s t t' ho v u hd hs hr (hK _ _ h)
theorem step_copy_runW {P : Program} {ops : Array Oper} {o : Oper} {a : Act} {w : World} {K : Act → World → Prop} {Q : Exit → Act → World → Prop} {E : Prop}
  (hg : o.guard = none) (d x : Operand) (dT sT : TypeId) (hop : o.op = Op.call { callee := Callee.builtin Builtin.copy, args := #[d, x], argTypes := #[dT, sT] })
  (v u : Value) (hd : a.eval d = v) (hx : a.eval x = u) {v' : Value} {w' : World} (hr : (Builtin.copy_ #[dT, sT] o.type #[v, u]).run P w = .ok v' w') (hK : K (a.put o.dst v') w') :
  if Region.wanted o (yielded ops a.tmps) = true then Oper.wp P o a w K Q else E := by
 have hw : Region.wanted o (yielded ops a.tmps) = true := by simp [Region.wanted, hg]
 rw [if_pos hw]
 unfold Oper.wp
 simp [execOp, hop, resolve, invoke, builtin, hd, hx, hr, Result.andThen]
 exact hK
theorem list_shift (cur cs vs : List Value) (a N : Nat) (hcs : cs = cur.take N) (ha : a ≤ N) (hN : N + vs.length ≤ cur.length) :
  (((cur.take (a + vs.length) ++ cs.drop a ++ cur.drop (a + vs.length + (cs.drop a).length)).take a ++ vs ++
   (cur.take (a + vs.length) ++ cs.drop a ++ cur.drop (a + vs.length + (cs.drop a).length)).drop (a + vs.length))).take (N + vs.length) = cs.take a ++ vs ++ cs.drop a := by
 have h1 : (cur.take (a + vs.length)).length = a + vs.length := by simp; omega
 have hl : cs.length = N := by rw [hcs]; simp; omega
 have h2 : (cur.take (a + vs.length) ++ cs.drop a ++ cur.drop (a + vs.length + (cs.drop a).length)).take a = cs.take a := by
  rw [List.append_assoc, List.take_append_of_le_length (by omega), List.take_take, hcs, List.take_take]
  congr 1; omega
 have h3 : (cur.take (a + vs.length) ++ cs.drop a ++ cur.drop (a + vs.length + (cs.drop a).length)).drop (a + vs.length) = cs.drop a ++ cur.drop (a + vs.length + (cs.drop a).length) := by
  rw [List.append_assoc, List.drop_append_of_le_length (by omega), List.drop_of_length_le (by omega), List.nil_append]
 rw [h2, h3, ← List.append_assoc, List.take_append_of_le_length (by simp; omega)]
 exact List.take_of_length_le (by simp; omega)
theorem list_grow (cur cs vs : List Value) (a N : Nat) (hcs : cs.length = N) (hpre : cur.take a = cs.take a) (ha : a ≤ N) (hN : N + vs.length ≤ cur.length) :
  ((((cur.take a ++ vs ++ cur.drop (a + vs.length)).take (a + vs.length)) ++ cs.drop a ++ (cur.take a ++ vs ++ cur.drop (a + vs.length)).drop (a + vs.length + (cs.drop a).length))).take (N + vs.length) = cs.take a ++ vs ++ cs.drop a := by
 have h1 : (cur.take a ++ vs).length = a + vs.length := by simp; omega
 have h2 : (cur.take a ++ vs ++ cur.drop (a + vs.length)).take (a + vs.length) = cs.take a ++ vs := by
  rw [List.take_append_of_le_length (by omega), List.take_of_length_le (by omega), hpre]
 rw [h2, List.take_append_of_le_length (by simp; omega)]
 exact List.take_of_length_le (by simp; omega)
theorem growI_trans {a b c : World} {row : Option Nat} (h : a.grownBy b row) (k : b.grownBy c row) : a.grownBy c row :=
 ⟨k.os.trans h.os, k.tape.trans h.tape, k.output.trans h.output, Nat.le_trans h.size k.size, fun i hi hr => (k.block i (Nat.lt_of_lt_of_le hi h.size) hr).trans (h.block i hi hr)⟩
theorem setRow_grown (w : World) (g : Nat) (C : Array Value) : w.grownBy (w.setRow g C) (some g) := ⟨rfl, rfl, rfl, by simp, fun k _ hk => setRow_other w g k C (fun e => hk (by rw [e]))⟩
theorem setRow_drew_grown (w : World) (g : Nat) (C : Array Value) : w.grownBy (w.drew.setRow g C) (some g) :=
 have h := setRow_grown w.drew g C
 ⟨h.os, h.tape, h.output, h.size, h.block⟩
theorem ownsRow_open {w : World} {base : Nat} {e : TypeId} {size n : Nat} {v : Value} {xs : List Value} (h : w.ownsRow base e size v n xs) (hn : 0 < n) :
  ∃ g cap cur, v = .slice (some ⟨g, 0, none⟩) n cap ∧ base ≤ g ∧ w.heap[g]? = some (.cells cur e (0, 0)) ∧ n ≤ cap ∧ cap ≤ maxLen ∧ cur.size = cap * size ∧ cur.toList.take (n * size) = xs ∧ xs.length = n * size := by
 obtain ⟨hl, h | ⟨g, cap, cur, h1, h2, h3, h4, h5, h6, h7⟩⟩ := h
 ·omega
 ·exact ⟨g, cap, cur, h1, h2, h3, h4, h5, h6, h7, hl⟩
def cellsTo (f : Nat → Int) (m : Nat) : List Int := (List.range m).map f
theorem cellsTo_length (f : Nat → Int) (m : Nat) : (cellsTo f m).length = m := by simp [cellsTo]
theorem cellsTo_get (f : Nat → Int) (m j : Nat) (h : j < m) : (cellsTo f m).getD j 0 = f j := by simp [cellsTo, List.getD, h]
theorem cellsTo_get? {f : Nat → Int} {m j : Nat} {u : Int} (h : (cellsTo f m)[j]? = some u) : j < m ∧ u = f j := by
 have hj : j < (cellsTo f m).length := (List.getElem?_eq_some_iff.1 h).1
 rw [cellsTo_length] at hj
 refine ⟨hj, ?_⟩
 simp [cellsTo, hj] at h
 exact h.symm
end Go.Proofs.YtpndjhelpoenpaaGreatDoor
