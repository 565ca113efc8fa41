/-
  The reference's step of works, where it rakes.
-/
import Derived.Test.YtjkockhldaacbaaDoorPk1
import Derived.Test.YtjkockhldaacbaaDoorPk2
import Derived.Test.YtjkockhldaacbaaDoorWorksS
namespace Go.Proofs.YtjkockhldaacbaaDoor
open Go.RowKit Go.Sort
set_option linter.unusedVariables false
set_option linter.unusedSimpArgs false
attribute [local go_sem ↓] Go.wp_at_zero Go.wp_at_succ
section
variable {P : Program} {md : Region.Mode} {ops : Array Oper} {Q : Exit → Act → World → Prop} {S : World → Prop}
theorem wpAnyH_jobG {i d : Nat} {fuel : Nat} {listed : Array Bool} {a : Act} {w : World} {o : Oper} {skip : List Nat} {Post : Value → World → Prop} (ho : ops[i]? = some o) (hg : Region.wanted o (yielded ops a.tmps) = true)
    (r0 : Region.ready md ops listed = [i]) (J : Job P Q S o d a skip Post) (hst : ∀ w1 w2, S w1 → Below w1.heap.size w1 w2 → S w2) (hS : S w)
    (h : ∀ v w', Post v w' → S w' → Below w.heap.size w w' → wpAnyH P md ops Q S fuel (listed.setIfInBounds i true) (a.put (some d) v) w') :
    wpAnyH P md ops Q S (fuel + 1) listed a w := by
  refine wpAnyH_ready r0 (by simp) (AllReadyH.cons ho (fun K hK => ?_) AllReadyH.nil)
  rw [if_pos hg]
  refine J a w K (fun _ _ => rfl) hS (fun v w2 hp hb => ?_)
  have hB := hst _ _ hS hb
  exact hK.out _ _ hB (fun _ => h v w2 hp hB hb)
end
set_option maxRecDepth 100000 in
set_option maxHeartbeats 2000000 in
theorem l25Make_rake (A : Option Addr) (n c lo hi : Nat) (f : Nat → Int) (I H S P : Int) (id tt0 z : Int) (i : Nat) (hi' : i < n) (w : World) (hs : Sl w lo hi 4 A n f) (hn : n ≤ 1048576) (hnc : n ≤ c) (hnone : A = none → n = 0 ∧ c = 0) (hfd : findV (pid f) id n 0 = (i : Int)) (hz1 : z ≤ 1000000) :
    Calls Tryd.prog 39 #[.agg #[.slice A n c, .int .i64 I, .int .i64 H, .int .i64 S, .int .i64 P], .agg #[.int .i64 5, .int .i64 id, .int .i64 tt0, .int .i64 z]] w (panPost w (setB f i (f (i * 4 + 2)) (wrap64 (f (i * 4 + 3) - z))) n I (wrap64 (H + z)) S P ((mayV (f (i * 4 + 2)) (f (i * 4 + 3))) && goodWorks (setB f i (f (i * 4 + 2)) (wrap64 (f (i * 4 + 3) - z))) n I (wrap64 (H + z)) S P)) := by
  have hX : Below w.heap.size w (((w.alloc (.cells #[.slice A n c, .int .i64 I, .int .i64 H, .int .i64 S, .int .i64 P] 26)).alloc (.cells #[.int .i64 5, .int .i64 id, .int .i64 tt0, .int .i64 z] 34)).alloc (.cells #[.slice none 0 0, .int .i64 0, .int .i64 0, .int .i64 0, .int .i64 0] 26)) := (((Below.refl _ w).alloc (Nat.le_refl _) _).alloc (by simp) _).alloc (by simp; omega) _
  have HX := Lib.hid hX
  clear hX
  have hz2 : ¬ (1000000 : Int) < z := by omega
  go_enter Tryd.func39, Tryd.ntmps39
  go_wp2_with fail
  refine (l25Own_any A n c lo hi f I H S P _ (hs.below HX.out) hn hnc hnone).mono ?_
  rintro e w1 ⟨A1, c1, rfl, _, _, _, hb1⟩
  have b0 : w1.cell? ⟨w.heap.size, 0, none⟩ = some (.slice A n c) := (hb1.cell (p := ⟨w.heap.size, 0, none⟩) (by simp; omega)).trans (by go_simp)
  have b1 : w1.cell? ⟨w.heap.size, 1, none⟩ = some (.int .i64 I) := (hb1.cell (p := ⟨w.heap.size, 1, none⟩) (by simp; omega)).trans (by go_simp)
  have b2 : w1.cell? ⟨w.heap.size, 2, none⟩ = some (.int .i64 H) := (hb1.cell (p := ⟨w.heap.size, 2, none⟩) (by simp; omega)).trans (by go_simp)
  have b3 : w1.cell? ⟨w.heap.size, 3, none⟩ = some (.int .i64 S) := (hb1.cell (p := ⟨w.heap.size, 3, none⟩) (by simp; omega)).trans (by go_simp)
  have b4 : w1.cell? ⟨w.heap.size, 4, none⟩ = some (.int .i64 P) := (hb1.cell (p := ⟨w.heap.size, 4, none⟩) (by simp; omega)).trans (by go_simp)
  have s0 : w1.cell? ⟨w.heap.size + 1, 0, none⟩ = some (.int .i64 5) := (hb1.cell (p := ⟨w.heap.size + 1, 0, none⟩) (by simp)).trans (by go_simp)
  have s1 : w1.cell? ⟨w.heap.size + 1, 1, none⟩ = some (.int .i64 id) := (hb1.cell (p := ⟨w.heap.size + 1, 1, none⟩) (by simp)).trans (by go_simp)
  have s2 : w1.cell? ⟨w.heap.size + 1, 2, none⟩ = some (.int .i64 tt0) := (hb1.cell (p := ⟨w.heap.size + 1, 2, none⟩) (by simp)).trans (by go_simp)
  have s3 : w1.cell? ⟨w.heap.size + 1, 3, none⟩ = some (.int .i64 z) := (hb1.cell (p := ⟨w.heap.size + 1, 3, none⟩) (by simp)).trans (by go_simp)
  have hr1 : w1.heap[w.heap.size + 1 + 1]? = some (.cells #[.slice none 0 0, .int .i64 0, .int .i64 0, .int .i64 0, .int .i64 0] 26) := (hb1.block (w.heap.size + 1 + 1) (by simp)).trans (by have := heap_alloc_new ((w.alloc (.cells #[.slice A n c, .int .i64 I, .int .i64 H, .int .i64 S, .int .i64 P] 26)).alloc (.cells #[.int .i64 5, .int .i64 id, .int .i64 tt0, .int .i64 z] 34)) (.cells #[.slice none 0 0, .int .i64 0, .int .i64 0, .int .i64 0, .int .i64 0] 26); simpa using this)
  have z1 := hb1.size
  simp only [World.size_alloc] at z1
  have B1 := HX.out.trans (hb1.mono HX.out.size)
  clear hb1
  have nz1 : w1.heap.size ≠ w.heap.size := by omega
  have nz2 : w1.heap.size ≠ w.heap.size + 1 := by omega
  have nz3 : w.heap.size + 1 + 1 ≠ w1.heap.size := by omega
  have nz4 : w.heap.size ≠ w1.heap.size := by omega
  have nz5 : w.heap.size + 1 ≠ w1.heap.size := by omega
  have hR1 := Lib.hid hr1
  have hB1 := Lib.hid B1
  clear hr1 B1
  go_upto_region 3 with fail
  refine name_wp ?_
  intro w2 hw2
  have b12 : Below w1.heap.size w1 w2 := by rw [hw2]; exact (Below.refl _ _).alloc (Nat.le_refl _) _
  have p0 : w2.cell? ⟨w.heap.size, 0, none⟩ = some (.slice A n c) := (b12.cell (p := ⟨w.heap.size, 0, none⟩) (by simp; omega)).trans b0
  have p1 : w2.cell? ⟨w.heap.size, 1, none⟩ = some (.int .i64 I) := (b12.cell (p := ⟨w.heap.size, 1, none⟩) (by simp; omega)).trans b1
  have p2 : w2.cell? ⟨w.heap.size, 2, none⟩ = some (.int .i64 H) := (b12.cell (p := ⟨w.heap.size, 2, none⟩) (by simp; omega)).trans b2
  have p3 : w2.cell? ⟨w.heap.size, 3, none⟩ = some (.int .i64 S) := (b12.cell (p := ⟨w.heap.size, 3, none⟩) (by simp; omega)).trans b3
  have p4 : w2.cell? ⟨w.heap.size, 4, none⟩ = some (.int .i64 P) := (b12.cell (p := ⟨w.heap.size, 4, none⟩) (by simp; omega)).trans b4
  have q0 : w2.cell? ⟨w.heap.size + 1, 0, none⟩ = some (.int .i64 5) := (b12.cell (p := ⟨w.heap.size + 1, 0, none⟩) (by simp; omega)).trans s0
  have q1 : w2.cell? ⟨w.heap.size + 1, 1, none⟩ = some (.int .i64 id) := (b12.cell (p := ⟨w.heap.size + 1, 1, none⟩) (by simp; omega)).trans s1
  have q2 : w2.cell? ⟨w.heap.size + 1, 2, none⟩ = some (.int .i64 tt0) := (b12.cell (p := ⟨w.heap.size + 1, 2, none⟩) (by simp; omega)).trans s2
  have q3 : w2.cell? ⟨w.heap.size + 1, 3, none⟩ = some (.int .i64 z) := (b12.cell (p := ⟨w.heap.size + 1, 3, none⟩) (by simp; omega)).trans s3
  have h6 : w2.heap[w1.heap.size]? = some (.cells #[.slice A1 n c1, .int .i64 I, .int .i64 H, .int .i64 S, .int .i64 P] 26) := by
    rw [hw2]
    exact heap_alloc_new w1 _
  have hr2 : w2.heap[w.heap.size + 1 + 1]? = some (.cells #[.slice none 0 0, .int .i64 0, .int .i64 0, .int .i64 0, .int .i64 0] 26) := by
    rw [hw2, heap_alloc_old _ _ (by omega)]
    exact hR1.out
  have B2 : Below w.heap.size w w2 := by
    rw [hw2]
    exact hB1.out.alloc hB1.out.size _
  clear hw2 b0 b1 b2 b3 b4 s0 s1 s2 s3 hR1 hB1 b12
  go_wp2_with fail
  generalize w1.heap.size = g6 at *
  have HBw : Hid (∀ w', w2.grownBy w' (some g6) → Below w.heap.size w w') := fun w' hq => B2.grown hq B2.size (fun k hk => by cases hk; omega)
  have HF : Hid (∀ w', w2.grownBy w' (some g6) → w'.cell? ⟨w.heap.size, 0, none⟩ = some (.slice A n c) ∧ w'.cell? ⟨w.heap.size, 1, none⟩ = some (.int .i64 I) ∧ w'.cell? ⟨w.heap.size, 2, none⟩ = some (.int .i64 H) ∧ w'.cell? ⟨w.heap.size, 3, none⟩ = some (.int .i64 S) ∧ w'.cell? ⟨w.heap.size, 4, none⟩ = some (.int .i64 P) ∧ w'.cell? ⟨w.heap.size + 1, 0, none⟩ = some (.int .i64 5) ∧ w'.cell? ⟨w.heap.size + 1, 1, none⟩ = some (.int .i64 id) ∧ w'.cell? ⟨w.heap.size + 1, 2, none⟩ = some (.int .i64 tt0) ∧ w'.cell? ⟨w.heap.size + 1, 3, none⟩ = some (.int .i64 z)) := by
    intro w' hq
    have u0 := hq.block w.heap.size (World.block_lt_of_cell? _ _ p0) (by simp; omega)
    have u1 := hq.block (w.heap.size + 1) (World.block_lt_of_cell? _ _ q0) (by simp; omega)
    exact ⟨(World.cell?_of_block (a := ⟨w.heap.size, 0, none⟩) u0).trans p0, (World.cell?_of_block (a := ⟨w.heap.size, 1, none⟩) u0).trans p1, (World.cell?_of_block (a := ⟨w.heap.size, 2, none⟩) u0).trans p2, (World.cell?_of_block (a := ⟨w.heap.size, 3, none⟩) u0).trans p3, (World.cell?_of_block (a := ⟨w.heap.size, 4, none⟩) u0).trans p4, (World.cell?_of_block (a := ⟨w.heap.size + 1, 0, none⟩) u1).trans q0, (World.cell?_of_block (a := ⟨w.heap.size + 1, 1, none⟩) u1).trans q1, (World.cell?_of_block (a := ⟨w.heap.size + 1, 2, none⟩) u1).trans q2, (World.cell?_of_block (a := ⟨w.heap.size + 1, 3, none⟩) u1).trans q3⟩
  have X6 := Lib.hid h6
  have XR2 := Lib.hid hr2
  clear p0 p1 p2 p3 p4 q0 q1 q2 q3 h6 hr2 B2
  refine wp_region_held_drew (S := fun w' => w2.grownBy w' (some g6)) (by kernel_rfl) ⟨rfl, rfl, rfl, Nat.le_refl _, fun _ _ _ => rfl⟩ (fun hHeld => ?_)
  refine tk (v := ?_) 0 11 HF rfl ?_ hHeld ?_
  rotate_left; · (intro _ _ _; go_simp; try with_reducible rfl)
  simp only [Act.put, p1, p2, p3]
  refine tk (v := ?_) 1 12 HF rfl ?_ hHeld ?_
  rotate_left; · (intro _ _ _; go_simp; try with_reducible rfl)
  simp only [Act.put, p1, p2, p3]
  refine tk (v := ?_) 2 13 HF rfl ?_ hHeld ?_
  rotate_left; · (intro _ _ _; go_simp; try with_reducible rfl)
  simp only [Act.put, p1, p2, p3]
  refine tk (v := ?_) 3 14 HF rfl ?_ hHeld ?_
  rotate_left; · (intro _ _ _; go_simp; try with_reducible rfl)
  simp only [Act.put, p1, p2, p3]
  refine tk (v := ?_) 4 15 HF rfl ?_ hHeld ?_
  rotate_left; · (intro _ _ _; go_simp; try with_reducible rfl)
  simp only [Act.put, p1, p2, p3]
  refine wpAnyH_job (fuel := 6) (i := 5) (d := 16) (skip := []) (Post := fun v _ => v = .int .i64 (i : Int)) rfl rfl (by kernel_rfl) ?jf but_stays hHeld ?nf
  case jf =>
    intro a' w1' K hev hb hK
    have h1 : a'.eval (.tmp 13) = .agg #[.slice A n c, .int .i64 I, .int .i64 H, .int .i64 S, .int .i64 P] := (hev 13 (by decide)).trans rfl
    have h2 : a'.tmps[13]?.getD undef = .agg #[.slice A n c, .int .i64 I, .int .i64 H, .int .i64 S, .int .i64 P] := by simpa [Act.eval] using h1
    have h3 : a'.eval (.tmp 15) = .int .i64 id := (hev 15 (by decide)).trans rfl
    have h4 : a'.tmps[15]?.getD undef = .int .i64 id := by simpa [Act.eval] using h3
    have HK := Lib.hid hK
    have HSL := Lib.hid (hs.below (HBw.out w1' hb))
    clear hev h1 h3 hK HF
    go_simp
    go_at_call 25
    refine (l25Find_any A n c lo hi f I H S P id w1' HSL.out hn hnc).mono ?_
    rw [hfd]
    rintro e w2' ⟨rfl, hb2⟩
    exact HK.out _ w2' rfl hb2
  case nf =>
  rintro v w3 rfl hS3 hb3
  simp only [Act.put, p1, p2, p3]
  refine wpAnyH_job (fuel := 5) (i := 6) (d := 17) (skip := []) (Post := (fun v w' => ∃ A' c', v = .tuple #[.agg #[.slice A' n c', .int .i64 I, .int .i64 (wrap64 (H + z)), .int .i64 S, .int .i64 P], .bool (mayV (f (i * 4 + 2)) (f (i * 4 + 3)))] ∧ n ≤ c' ∧ c' ≤ maxLen ∧ w'.ownsRow w.heap.size 48 4 (.slice A' n c') n ((cellsL (setB f i (f (i * 4 + 2)) (wrap64 (f (i * 4 + 3) - z))) n).map (Value.int .i64)))) rfl rfl (by kernel_rfl) ?jp but_stays hS3 ?np
  case jp =>
    intro a' w1' K hev hb hK
    have h1 : a'.eval (.tmp 11) = .agg #[.slice A n c, .int .i64 I, .int .i64 H, .int .i64 S, .int .i64 P] := (hev 11 (by decide)).trans rfl
    have h2 : a'.tmps[11]?.getD undef = .agg #[.slice A n c, .int .i64 I, .int .i64 H, .int .i64 S, .int .i64 P] := by simpa [Act.eval] using h1
    have h3 : a'.eval (.tmp 12) = .agg #[.int .i64 5, .int .i64 id, .int .i64 tt0, .int .i64 z] := (hev 12 (by decide)).trans rfl
    have h4 : a'.tmps[12]?.getD undef = .agg #[.int .i64 5, .int .i64 id, .int .i64 tt0, .int .i64 z] := by simpa [Act.eval] using h3
    have h5 : a'.eval (.tmp 16) = .int .i64 i := (hev 16 (by decide)).trans rfl
    have h6 : a'.tmps[16]?.getD undef = .int .i64 i := by simpa [Act.eval] using h5
    have HK := Lib.hid hK
    have HBb := Lib.hid (HBw.out w1' hb)
    clear hev h1 h3 h5 hK HF
    go_simp
    go_at_call 64
    refine (l25Pan_rake A n c lo hi f I H S P id tt0 z i hi' w1' (hs.below HBb.out) hn hnc).mono ?_
    rintro e w2' ⟨A', c', rfl, u1, u2, ho, hb2⟩
    exact HK.out _ w2' ⟨A', c', rfl, u1, u2, ownsRow_monoP ho HBb.out.size⟩ hb2
  case np =>
  rintro v w4 ⟨A2, c2, rfl, hc2, hm2, hO4⟩ hS4 hb4
  simp only [Act.put, p1, p2, p3]
  have hHeld := hS4
  refine tk (v := ?_) 7 10 HF rfl ?_ hHeld ?_
  rotate_left; · (intro _ _ _; go_simp; try with_reducible rfl)
  simp only [Act.put, p1, p2, p3]
  refine tk (v := ?_) 8 18 HF rfl ?_ hHeld ?_
  rotate_left; · (intro _ _ _; go_simp; try with_reducible rfl)
  simp only [Act.put, p1, p2, p3]
  refine tk (v := ?_) 9 19 HF rfl ?_ hHeld ?_
  rotate_left; · (intro _ _ _; go_simp; try with_reducible rfl)
  simp only [Act.put, p1, p2, p3]
  have hB24 : Below w2.heap.size w2 w4 := (below_drewN (Below.refl w2.heap.size w2) 1).trans ((show Below w2.heap.size _ w3 from hb3).trans (hb4.mono hb3.size))
  have h64 := (hB24.block g6 (Array.getElem?_eq_some_iff.1 X6.out).1).trans X6.out
  refine wpAnyH_store (fuel := 1) (i := 10) rfl (by kernel_rfl) g6 0 (.agg #[.slice A2 n c2, .int .i64 I, .int .i64 (wrap64 (H + z)), .int .i64 S, .int .i64 P]) 26 #[.slice A1 n c1, .int .i64 I, .int .i64 H, .int .i64 S, .int .i64 P] rfl rfl infoWorks h64 (Nat.le_refl 5) (by simp [Value.cells, Value.oneCell']) (fun w' hg => grown_trans hS4 hg) ?k6
  case k6 =>
  intro w5 h5 hg5 hS5
  have hHeld := hS5
  refine tk (v := ?_) 11 7 HF rfl ?_ hHeld ?_
  rotate_left; · (intro _ _ _; go_simp; try with_reducible rfl)
  simp only [Act.put, p1, p2, p3]
  refine wpAnyH_done (by kernel_rfl) ?_ _
  have h5' : w5.heap[g6]? = some (.cells #[.slice A2 n c2, .int .i64 I, .int .i64 (wrap64 (H + z)), .int .i64 S, .int .i64 P] 26) := h5
  have hO5 := own_other hO4 h64 (by decide) hg5
  have hr5 := (hS5.block _ (Array.getElem?_eq_some_iff.1 XR2.out).1 (by simp; omega)).trans XR2.out
  have HO5 := Lib.hid hO5
  have X8 := Lib.hid h5'
  have XR := Lib.hid hr5
  have BB := Lib.hid (HBw.out w5 hS5)
  have HS5 : Hid (∀ w', w5.grownBy w' (some (w.heap.size + 1 + 1)) → Sl w' w.heap.size w'.heap.size 4 A2 n (setB f i (f (i * 4 + 2)) (wrap64 (f (i * 4 + 3) - z)))) := by
    intro w' hq
    obtain ⟨A0, c0, e0, _, _, h0⟩ := own_of_row (own_other hO5 hr5 (by decide) hq)
    cases e0
    exact (h0.congr (fun j hj => cellsL_getD _ n j hj)).sl
  clear HF
  have HF : Hid (∀ w', w5.grownBy w' (some (w.heap.size + 1 + 1)) → w'.cell? ⟨g6, 0, none⟩ = some (.slice A2 n c2) ∧ w'.cell? ⟨g6, 1, none⟩ = some (.int .i64 I) ∧ w'.cell? ⟨g6, 2, none⟩ = some (.int .i64 (wrap64 (H + z))) ∧ w'.cell? ⟨g6, 3, none⟩ = some (.int .i64 S) ∧ w'.cell? ⟨g6, 4, none⟩ = some (.int .i64 P)) := by
    intro w' hq
    have y8 := (hq.block g6 (Array.getElem?_eq_some_iff.1 X8.out).1 (by simp; omega)).trans X8.out
    exact ⟨by rw [cell_of_row w' g6 0 _ _ (0, 0) y8]; rfl, by rw [cell_of_row w' g6 1 _ _ (0, 0) y8]; rfl, by rw [cell_of_row w' g6 2 _ _ (0, 0) y8]; rfl, by rw [cell_of_row w' g6 3 _ _ (0, 0) y8]; rfl, by rw [cell_of_row w' g6 4 _ _ (0, 0) y8]; rfl⟩
  clear hHeld hS5 hg5 h5 h5' h64 hO4 hO5 hr5 hS4 hb4 hb3 hS3 hB24 X6 XR2 HBw
  go_wp2_with fail
  cases hm : (mayV (f (i * 4 + 2)) (f (i * 4 + 3))) with
  | true =>
    rw [Bool.true_and]
    refine wp_region_held_drew (S := fun w' => w5.grownBy w' (some (w.heap.size + 1 + 1))) (by kernel_rfl) ⟨rfl, rfl, rfl, Nat.le_refl _, fun _ _ _ => rfl⟩ (fun hHeld => ?_)
    refine tk (v := ?_) 0 51 HF rfl ?_ hHeld ?_
    rotate_left; · (intro _ _ _; go_simp; try with_reducible rfl)
    simp only [Act.put, p1, p2, p3]
    refine tk (v := ?_) 1 52 HF rfl ?_ hHeld ?_
    rotate_left; · (intro _ _ _; go_simp; try with_reducible rfl)
    simp only [Act.put, p1, p2, p3]
    refine tk (v := ?_) 2 53 HF rfl ?_ hHeld ?_
    rotate_left; · (intro _ _ _; go_simp; try with_reducible rfl)
    simp only [Act.put, p1, p2, p3]
    refine tk (v := ?_) 3 54 HF rfl ?_ hHeld ?_
    rotate_left; · (intro _ _ _; go_simp; try with_reducible rfl)
    simp only [Act.put, p1, p2, p3]
    refine wpAnyH_jobG (fuel := 3) (i := 4) (d := 55) (skip := []) (Post := fun v _ => v = .bool (goodWorks (setB f i (f (i * 4 + 2)) (wrap64 (f (i * 4 + 3) - z))) n I (wrap64 (H + z)) S P)) rfl rfl (by kernel_rfl) ?jgtrue but_stays hHeld ?ngtrue
    case jgtrue =>
      intro a' w1 K hev hb hK
      have h1 : a'.eval (.tmp 54) = (.agg #[.slice A2 n c2, .int .i64 I, .int .i64 (wrap64 (H + z)), .int .i64 S, .int .i64 P]) := (hev 54 (by decide)).trans rfl
      have h2 : a'.tmps[54]?.getD undef = (.agg #[.slice A2 n c2, .int .i64 I, .int .i64 (wrap64 (H + z)), .int .i64 S, .int .i64 P]) := by simpa [Act.eval] using h1
      have HK := Lib.hid hK
      have HSL := Lib.hid (HS5.out w1 hb)
      clear hev h1 hK HF
      go_simp
      go_at_call 26
      refine (l25Good_any _ n _ _ _ _ I (wrap64 (H + z)) S P w1 HSL.out hn hc2).mono ?_
      rintro e w2' ⟨rfl, hb2⟩
      exact HK.out _ w2' rfl hb2
    case ngtrue =>
    rintro v w8 rfl hS8 hb8
    simp only [Act.put, p1, p2, p3]
    have hHeld := hS8
    refine tk (v := ?_) 5 56 HF rfl ?_ hHeld ?_
    rotate_left; · (intro _ _ _; go_simp; try with_reducible rfl)
    simp only [Act.put, p1, p2, p3]
    refine wpAnyH_store (fuel := 1) (i := 6) rfl (by kernel_rfl) (w.heap.size + 1 + 1) 0 (.agg #[.slice A2 n c2, .int .i64 I, .int .i64 (wrap64 (H + z)), .int .i64 S, .int .i64 P]) 26 #[.slice none 0 0, .int .i64 0, .int .i64 0, .int .i64 0, .int .i64 0] rfl rfl infoWorks ((hb8.block _ (Array.getElem?_eq_some_iff.1 XR.out).1).trans XR.out) (Nat.le_refl 5) (by simp [Value.cells, Value.oneCell']) (fun w' hg => grown_trans hS8 hg) ?krtrue
    case krtrue =>
    intro w9 h9 hg9 hS9
    have hHeld := hS9
    refine tk (v := ?_) 7 5 HF rfl ?_ hHeld ?_
    rotate_left; · (intro _ _ _; go_simp; try with_reducible rfl)
    simp only [Act.put, p1, p2, p3]
    refine wpAnyH_done (by kernel_rfl) ?_ _
    have h9' : w9.heap[w.heap.size + 1 + 1]? = some (.cells #[.slice A2 n c2, .int .i64 I, .int .i64 (wrap64 (H + z)), .int .i64 S, .int .i64 P] 26) := h9
    have r0 : w9.cell? ⟨w.heap.size + 1 + 1, 0, none⟩ = some (.slice A2 n c2) := by rw [cell_of_row w9 (w.heap.size + 1 + 1) 0 _ _ (0, 0) h9']; rfl
    have r1 : w9.cell? ⟨w.heap.size + 1 + 1, 1, none⟩ = some (.int .i64 I) := by rw [cell_of_row w9 (w.heap.size + 1 + 1) 1 _ _ (0, 0) h9']; rfl
    have r2 : w9.cell? ⟨w.heap.size + 1 + 1, 2, none⟩ = some (.int .i64 (wrap64 (H + z))) := by rw [cell_of_row w9 (w.heap.size + 1 + 1) 2 _ _ (0, 0) h9']; rfl
    have r3 : w9.cell? ⟨w.heap.size + 1 + 1, 3, none⟩ = some (.int .i64 S) := by rw [cell_of_row w9 (w.heap.size + 1 + 1) 3 _ _ (0, 0) h9']; rfl
    have r4 : w9.cell? ⟨w.heap.size + 1 + 1, 4, none⟩ = some (.int .i64 P) := by rw [cell_of_row w9 (w.heap.size + 1 + 1) 4 _ _ (0, 0) h9']; rfl
    have hO9 := own_other HO5.out XR.out (by decide) hS9
    have hX9 := BB.out.grown hS9 BB.out.size (fun k hk => by cases hk; omega)
    clear h9 h9' hg9 hS9 hHeld HF XR X8 HO5 HS5
    go_wp2
    try simp only [Exit.inBlock, Exit.then]
    refine bodyPost_ret (by simp [results, Tryd.results39, go_sem, r0, r1, r2, r3, r4]; try rfl) rfl ?_
    exact ⟨_, c2, by rw [hm]; rfl, hc2, hm2, hO9, hX9⟩
  | false =>
    rw [Bool.false_and]
    refine wp_region_held_drew (S := fun w' => w5.grownBy w' (some (w.heap.size + 1 + 1))) (by kernel_rfl) ⟨rfl, rfl, rfl, Nat.le_refl _, fun _ _ _ => rfl⟩ (fun hHeld => ?_)
    refine tk (v := ?_) 0 51 HF rfl ?_ hHeld ?_
    rotate_left; · (intro _ _ _; go_simp; try with_reducible rfl)
    simp only [Act.put, p1, p2, p3]
    refine tk (v := ?_) 1 52 HF rfl ?_ hHeld ?_
    rotate_left; · (intro _ _ _; go_simp; try with_reducible rfl)
    simp only [Act.put, p1, p2, p3]
    refine tk (v := ?_) 2 53 HF rfl ?_ hHeld ?_
    rotate_left; · (intro _ _ _; go_simp; try with_reducible rfl)
    simp only [Act.put, p1, p2, p3]
    refine wpAnyH_skips (by kernel_rfl) (fun _ _ _ _ _ h => h) hHeld [(3, 54), (4, 55)] 3 2 _ _ rfl (by kernel_rfl) ?_
    simp only [skipL, skipA, Act.put, List.setIfInBounds_toArray, List.set_cons_zero, List.set_cons_succ]
    refine tk (v := ?_) 5 56 HF rfl ?_ hHeld ?_
    rotate_left; · (intro _ _ _; go_simp; try with_reducible rfl)
    simp only [Act.put, p1, p2, p3]
    have hS8 := hHeld
    have hb8 : Below w5.drew.heap.size w5.drew w5.drew := Below.refl _ _
    refine wpAnyH_store (fuel := 1) (i := 6) rfl (by kernel_rfl) (w.heap.size + 1 + 1) 0 (.agg #[.slice A2 n c2, .int .i64 I, .int .i64 (wrap64 (H + z)), .int .i64 S, .int .i64 P]) 26 #[.slice none 0 0, .int .i64 0, .int .i64 0, .int .i64 0, .int .i64 0] rfl rfl infoWorks ((hb8.block _ (Array.getElem?_eq_some_iff.1 XR.out).1).trans XR.out) (Nat.le_refl 5) (by simp [Value.cells, Value.oneCell']) (fun w' hg => grown_trans hS8 hg) ?krfalse
    case krfalse =>
    intro w9 h9 hg9 hS9
    have hHeld := hS9
    refine tk (v := ?_) 7 5 HF rfl ?_ hHeld ?_
    rotate_left; · (intro _ _ _; go_simp; try with_reducible rfl)
    simp only [Act.put, p1, p2, p3]
    refine wpAnyH_done (by kernel_rfl) ?_ _
    have h9' : w9.heap[w.heap.size + 1 + 1]? = some (.cells #[.slice A2 n c2, .int .i64 I, .int .i64 (wrap64 (H + z)), .int .i64 S, .int .i64 P] 26) := h9
    have r0 : w9.cell? ⟨w.heap.size + 1 + 1, 0, none⟩ = some (.slice A2 n c2) := by rw [cell_of_row w9 (w.heap.size + 1 + 1) 0 _ _ (0, 0) h9']; rfl
    have r1 : w9.cell? ⟨w.heap.size + 1 + 1, 1, none⟩ = some (.int .i64 I) := by rw [cell_of_row w9 (w.heap.size + 1 + 1) 1 _ _ (0, 0) h9']; rfl
    have r2 : w9.cell? ⟨w.heap.size + 1 + 1, 2, none⟩ = some (.int .i64 (wrap64 (H + z))) := by rw [cell_of_row w9 (w.heap.size + 1 + 1) 2 _ _ (0, 0) h9']; rfl
    have r3 : w9.cell? ⟨w.heap.size + 1 + 1, 3, none⟩ = some (.int .i64 S) := by rw [cell_of_row w9 (w.heap.size + 1 + 1) 3 _ _ (0, 0) h9']; rfl
    have r4 : w9.cell? ⟨w.heap.size + 1 + 1, 4, none⟩ = some (.int .i64 P) := by rw [cell_of_row w9 (w.heap.size + 1 + 1) 4 _ _ (0, 0) h9']; rfl
    have hO9 := own_other HO5.out XR.out (by decide) hS9
    have hX9 := BB.out.grown hS9 BB.out.size (fun k hk => by cases hk; omega)
    clear h9 h9' hg9 hS9 hHeld HF XR X8 HO5 HS5
    go_wp2
    try simp only [Exit.inBlock, Exit.then]
    refine bodyPost_ret (by simp [results, Tryd.results39, go_sem, r0, r1, r2, r3, r4]; try rfl) rfl ?_
    exact ⟨_, c2, by rw [hm]; rfl, hc2, hm2, hO9, hX9⟩
end Go.Proofs.YtjkockhldaacbaaDoor
