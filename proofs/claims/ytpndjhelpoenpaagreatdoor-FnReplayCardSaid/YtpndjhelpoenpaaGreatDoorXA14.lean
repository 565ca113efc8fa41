/-
  Texts of this claim, merged.
-/
import Derived.Test.YtpndjhelpoenpaaGreatDoorXA13
set_option linter.unusedVariables false
set_option linter.unusedSimpArgs false
set_option maxRecDepth 100000
set_option maxHeartbeats 8000000
namespace Go.Proofs.YtpndjhelpoenpaaGreatDoor
open Go.RowKit Go.Sort
attribute [local go_sem ↓] Go.wp_at_zero Go.wp_at_succ
def lf (L : List Int) (j : Nat) : Int := L.getD j 0
theorem row_none_ne {w : World} {lo k n g : Nat} {e T0 : TypeId} {v : Value} {xs : List Value} {cur : Array Value} (h : w.ownsRow lo e k v n xs) (hb : w.heap[g]? = some (.cells cur T0 (0, 0))) (hne : e ≠ T0) (ho : v.ownBlock = some g) : False := by
 rcases h.2 with ⟨hv, _⟩ | ⟨g', cap, cu, hv, _, hG, _⟩
 ·rw [hv] at ho; cases ho
 ·rw [hv] at ho
  simp only [Value.ownBlock, Option.some.injEq] at ho
  subst ho
  rw [hb] at hG
  simp at hG
  exact hne hG.2.symm
theorem l25Make_pan (A : Option Addr) (n c lo hi : Nat) (f : Nat → Int) (I H S P : Int) (kd id tt0 z : Int) (i : Nat) (hi' : i < n) (w : World) (hs : Sl w lo hi 4 A n f) (hn : n ≤ 1048576) (hnc : n ≤ c) (L : List Int) (m : Nat) (I' H' S' P' : Int) (M : Bool) (hnone : A = none → n = 0 ∧ c = 0) (hfd : findV (pid f) id n 0 = (i : Int)) (hz1 : z ≤ 1000000) (hk1 : (kd == 1) = false) (hk6 : (kd == 6) = false) (hmn : m ≤ n) (HPAN : Hid (∀ w1, Sl w1 lo hi 4 A n f → Calls Tryz.prog 156 #[.agg (wB A n c I H S P), .agg (iV kd id tt0 z), .int .i64 i] w1 (panPostL w1 L m I' H' S' P' M))) :
  Calls Tryz.prog 114 #[.agg (wB A n c I H S P), .agg (iV kd id tt0 z)] w (panPostL w L m I' H' S' P' (M && (goodWorks (lf L) m I' H' S' P'))) := by
 refine z184 ?_
 intro HX
 refine z158 ?_
 intro hz2
 go_wp2_with fail
 refine z185 ?_
 intro w1 A1 c1 hc1 hm1 hOw hb1 b0 b1 b2 b3 b4 s0 s1 s2 s3 hr1
 revert hb1 hr1
 refine z187 ?_
 intro z1 nz1 nz2 nz3 nz4 nz5 hR1 hB1 hO1
 go_upto_region 3 with fail
 refine z160 ?_
 intro w2 hw2 b12 p0 p1 p2 p3 p4 q0 q1 q2 q3 h6 hr2 B2
 refine z188 ?_
 intro hOw now
 clear hw2 b0 b1 b2 b3 b4 s0 s1 s2 s3 hR1 hB1 b12 hO1
 go_wp2_with fail
 generalize w1.heap.size = g6 at *
 have HBw : Hid (∀ w', w2.grownBy w' (some g6) → bW w w') := fun w' hq => B2.grown hq B2.size (fun k hk => by cases hk; omega)
 have HF : Hid (∀ w', w2.grownBy w' (some g6) → cE w' w.heap.size 0 (.slice A n c) ∧ cI w' w.heap.size 1 I ∧ cI w' w.heap.size 2 H ∧ cI w' w.heap.size 3 S ∧ cI w' w.heap.size 4 P ∧ cI w' (w.heap.size + 1) 0 kd ∧ cI w' (w.heap.size + 1) 1 id ∧ cI w' (w.heap.size + 1) 2 tt0 ∧ cI w' (w.heap.size + 1) 3 z) := by
  intro w' hq
  have u0 := hq.block w.heap.size (World.block_lt_of_cell? _ _ p0) (by simp; omega)
  have u1 := hq.block (w.heap.size + 1) (World.block_lt_of_cell? _ _ q0) (by simp; omega)
  exact ⟨(World.cell?_of_block (a := ⟨w.heap.size, 0, none⟩) u0).trans p0, (World.cell?_of_block (a := ⟨w.heap.size, 1, none⟩) u0).trans p1, (World.cell?_of_block (a := ⟨w.heap.size, 2, none⟩) u0).trans p2, (World.cell?_of_block (a := ⟨w.heap.size, 3, none⟩) u0).trans p3, (World.cell?_of_block (a := ⟨w.heap.size, 4, none⟩) u0).trans p4, (World.cell?_of_block (a := ⟨w.heap.size + 1, 0, none⟩) u1).trans q0, (World.cell?_of_block (a := ⟨w.heap.size + 1, 1, none⟩) u1).trans q1, (World.cell?_of_block (a := ⟨w.heap.size + 1, 2, none⟩) u1).trans q2, (World.cell?_of_block (a := ⟨w.heap.size + 1, 3, none⟩) u1).trans q3⟩
 have X6 := lh h6
 have XR2 := lh hr2
 clear p0 p1 p2 p3 p4 q0 q1 q2 q3 h6 hr2 B2 hOw now
 refine wp_region_held_drew (S := fun w' => w2.grownBy w' (some g6)) (by exact z12) ⟨rfl, rfl, rfl, Nat.le_refl _, fun _ _ _ => rfl⟩ (fun jd => ?_)
 refine tj4 0 11 1 12 2 13 3 14 HF jd ?_
 refine tj 4 15 HF rfl jd ?_
 refine wpAnyH_job (fuel := 6) (i := 5) (d := 16) (skip := []) (Post := fun v _ => v = .int .i64 (i : Int)) rfl rfl (by exact z12) ?jf but_stays jd ?nf
 case jf =>
  exact z162
 case nf =>
 rintro v w3 rfl hS3 hb3
 refine z15 ?_
 refine wpAnyH_job (fuel := 5) (i := 6) (d := 17) (skip := []) (Post := (fun v w' => ∃ A' c', v = .tuple #[.agg (wB A' m c' I' H' S' P'), .bool M] ∧ m ≤ c' ∧ c' ≤ maxLen ∧ w'.ownsRow w.heap.size 97 4 (.slice A' m c') m (L.map (Value.int .i64)))) rfl rfl (by exact z12) ?jp but_stays hS3 ?np
 case jp =>
  intro a' w1' K hev hb hK
  refine z164 ?_
  intro h1 h2
  have h3 : a'.eval (.tmp 12) = .agg (iV kd id tt0 z) := (hev 12 (by decide)).trans rfl
  have h4 : a'.tmps[12]?.getD undef = .agg (iV kd id tt0 z) := by simpa [Act.eval] using h3
  have h5 : a'.eval (.tmp 16) = .int .i64 i := (hev 16 (by decide)).trans rfl
  have h6 : a'.tmps[16]?.getD undef = .int .i64 i := by simpa [Act.eval] using h5
  have HK := lh hK
  have HBb := lh (HBw.out w1' hb)
  clear hev h1 h3 h5 hK HF
  go_simp
  go_at_call 156
  refine (HPAN.out w1' (hs.below HBb.out)).mono ?_
  exact z165
 case np =>
 rintro v w4 ⟨A2, c2, rfl, hc2, hm2, hO4⟩ hS4 hb4
 refine z15 ?_
 refine z166 ?_
 intro jd hB24 h64
 refine wS0 10 g6 (wB A2 m c2 I' H' S' P') 32 infoWorks h64 (fun w' hg => grown_trans hS4 hg) ?k6
 case k6 =>
 intro w5 h5 hg5 hS5
 have jd := hS5
 refine tj 11 7 HF rfl jd ?_
 refine z49 ?_
 have h5' : w5.heap[g6]? = some (.cells (wB A2 m c2 I' H' S' P') 32) := h5
 have hO5 := own_other hO4 h64 (by decide) hg5
 have hr5 := (hS5.block _ (gL XR2.out) (by simp; omega)).trans XR2.out
 have B5 := HBw.out w5 hS5
 clear jd hS5 hg5 h5 h64 hO4 hS4 hb4 hb3 hS3 hB24 X6 XR2 HBw HF
 have hng6R : g6 ≠ w.heap.size + 1 + 1 := by omega
 have HO5 := lh hO5
 have X8 := lh h5'
 have XR := lh hr5
 have BB := lh B5
 have HS5 : Hid (∀ w', w5.grownBy w' (some (w.heap.size + 1 + 1)) → Sl w' w.heap.size w'.heap.size 4 A2 m (lf L)) := by
  intro w' hq
  obtain ⟨A0, c0, e0, _, _, h0⟩ := own_of_row (own_other HO5.out XR.out (by decide) hq)
  cases e0
  exact h0.sl
 have HF : Hid (∀ w', w5.grownBy w' (some (w.heap.size + 1 + 1)) → cE w' g6 0 (.slice A2 m c2) ∧ cI w' g6 1 I' ∧ cI w' g6 2 H' ∧ cI w' g6 3 S' ∧ cI w' g6 4 P') := by
  intro w' hq
  have y8 := (hq.block g6 (gL X8.out) (by simp; omega)).trans X8.out
  exact (cells5 y8)
 clear hO5 h5' hr5 B5
 go_wp2_with fail
 cases M with
 | true =>
  rw [Bool.true_and]
  refine z167 ?_
  intro jd
  refine tj4 0 51 1 52 2 53 3 54 HF jd ?_
  refine wpAnyH_jobG (fuel := 3) (i := 4) (d := 55) (skip := []) (Post := fun v _ => v = .bool (goodWorks (lf L) m I' H' S' P')) rfl rfl (by exact z12) ?jgtrue but_stays jd ?ngtrue
  case jgtrue =>
   intro a' w1 K hev hb hK
   have h1 : a'.eval (.tmp 54) = (.agg (wB A2 m c2 I' H' S' P')) := (hev 54 (by decide)).trans rfl
   have h2 : a'.tmps[54]?.getD undef = (.agg (wB A2 m c2 I' H' S' P')) := by simpa [Act.eval] using h1
   have HK := lh hK
   have HSL := lh (HS5.out w1 hb)
   clear hev h1 hK HF
   go_simp
   go_at_call 80
   refine (l25Good_any _ m _ _ _ _ I' H' S' P' w1 HSL.out (by omega) hc2).mono ?_
   exact z163
  case ngtrue =>
  rintro v w8 rfl hS8 hb8
  refine z15 ?_
  have jd := hS8
  refine tj 5 56 HF rfl jd ?_
  refine wS0 6 (w.heap.size + 1 + 1) (wB A2 m c2 I' H' S' P') 32 infoWorks ((hb8.block _ (gL XR.out)).trans XR.out) (fun w' hg => grown_trans hS8 hg) ?krtrue
  case krtrue =>
  intro w9 h9 hg9 hS9
  have jd := hS9
  refine tj 7 5 HF rfl jd ?_
  refine z49 ?_
  have h9' : w9.heap[w.heap.size + 1 + 1]? = some (.cells (wB A2 m c2 I' H' S' P') 32) := h9
  refine z168 ?_
  intro r0 r1 r2 r3 r4 hO9 hX9
  clear h9 h9' hg9 hS9 jd HF XR X8 HO5 HS5
  go_wp2
  refine z66 ?_
  exact z189
 | false =>
  rw [Bool.false_and]
  refine z167 ?_
  intro jd
  refine tj3 0 51 1 52 2 53 HF jd ?_
  refine wpAnyH_skips (by exact z12) (fun _ _ _ _ _ h => h) jd [(3, 54), (4, 55)] 3 2 _ _ rfl (by exact z12) ?_
  refine z47 ?_
  refine tj 5 56 HF rfl jd ?_
  have hS8 := jd
  have hb8 : Below w5.drew.heap.size w5.drew w5.drew := Below.refl _ _
  refine wS0 6 (w.heap.size + 1 + 1) (wB A2 m c2 I' H' S' P') 32 infoWorks ((hb8.block _ (gL XR.out)).trans XR.out) (fun w' hg => grown_trans hS8 hg) ?krfalse
  case krfalse =>
  intro w9 h9 hg9 hS9
  have jd := hS9
  refine tj 7 5 HF rfl jd ?_
  refine z49 ?_
  have h9' : w9.heap[w.heap.size + 1 + 1]? = some (.cells (wB A2 m c2 I' H' S' P') 32) := h9
  refine z168 ?_
  intro r0 r1 r2 r3 r4 hO9 hX9
  clear h9 h9' hg9 hS9 jd HF XR X8 HO5 HS5
  go_wp2
  refine z66 ?_
  exact z189
theorem l25Make_ship (A : Option Addr) (n c lo hi : Nat) (f : Nat → Int) (I H S P : Int) (id tt0 z : Int) (w : World) (hs : Sl w lo hi 4 A n f) (hn : n ≤ 1048576) (hnc : n ≤ c) (hnone : A = none → n = 0 ∧ c = 0) (hz1 : z ≤ 1000000) :
  Calls Tryz.prog 114 #[.agg (wB A n c I H S P), .agg (iV 6 id tt0 z)] w (panPostL w (cellsL f n) n I (wrap64 (H - z)) (wrap64 (S + z)) P (goodWorks (lf (cellsL f n)) n I (wrap64 (H - z)) (wrap64 (S + z)) P)) := by
 have hX : bW w (((w.alloc (.cells (wB A n c I H S P) 32)).alloc (.cells (iV 6 id tt0 z) 107)).alloc (.cells (wB none 0 0 0 0 0 0) 32)) := (((Below.refl _ w).alloc nL _).alloc (by simp) _).alloc (by simp; omega) _
 have HX := lh hX
 clear hX
 refine z158 ?_
 intro hz2
 go_wp2_with fail
 refine z186 ?_
 intro w1 A1 c1 hc1 hm1 hOw hb1 b0 b1 b2 b3 b4 s0 s1 s2 s3
 have hr1 : w1.heap[w.heap.size + 1 + 1]? = some (.cells (wB none 0 0 0 0 0 0) 32) := (hb1.block (w.heap.size + 1 + 1) (by simp)).trans (by have := heap_alloc_new ((w.alloc (.cells (wB A n c I H S P) 32)).alloc (.cells (iV 6 id tt0 z) 107)) (.cells (wB none 0 0 0 0 0 0) 32); simpa using this)
 revert hb1 hr1
 refine z187 ?_
 intro z1 nz1 nz2 nz3 nz4 nz5 hR1 hB1 hO1
 go_upto_region 3 with fail
 refine z160 ?_
 intro w2 hw2 b12 p0 p1 p2 p3 p4 q0 q1 q2 q3 h6 hr2 B2
 refine z188 ?_
 intro hOw now
 clear hw2 b0 b1 b2 b3 b4 s0 s1 s2 s3 hR1 hB1 b12 hO1
 generalize w1.heap.size = g6 at *
 obtain ⟨e0, e1, e2, e3, e4⟩ := cells5 h6
 have ef := fz h6
 have H6 := lh h6
 have HR2 := lh hr2
 have HB2 := lh B2
 have HOW := lh hOw
 have NOW := lh now
 clear h6 hr2 B2 hOw now
 go_upto_region 10 with fail
 refine z161 ?_
 intro w5 hw5'
 have hw5 : w5 = ((w2.setCell ⟨g6, 2, none⟩ (.int .i64 (wrap64 (H - z)))).setCell ⟨g6, 3, none⟩ (.int .i64 (wrap64 (S + z)))) := hw5'
 clear hw5' e0 e1 e2 e3 e4 ef p0 p1 p2 p3 p4 q0 q1 q2 q3
 have h5' : w5.heap[g6]? = some (.cells (wB A1 n c1 I (wrap64 (H - z)) (wrap64 (S + z)) P) 32) := by
  rw [hw5]
  exact (heap_setCell_same _ g6 3 (wB A1 n c1 I (wrap64 (H - z)) S P) 32 (.int .i64 (wrap64 (S + z))) (heap_setCell_same _ g6 2 (wB A1 n c1 I H S P) 32 (.int .i64 (wrap64 (H - z))) H6.out))
 have hr5 : w5.heap[w.heap.size + 1 + 1]? = some (.cells (wB none 0 0 0 0 0 0) 32) := by
  rw [hw5, heap_setCell_other _ _ _ _ (by simp; omega), heap_setCell_other _ _ _ _ (by simp; omega)]
  exact HR2.out
 have B5 : bW w w5 := by
  rw [hw5]
  exact (HB2.out.setCell (show w.heap.size ≤ g6 by omega) _).setCell (show w.heap.size ≤ g6 by omega) _
 have hO5 := ownsRow_setCell_other (a := ⟨g6, 3, none⟩) (ownsRow_setCell_other (a := ⟨g6, 2, none⟩) HOW.out (fun e => by have h : g6 < g6 := NOW.out _ e; omega) (.int .i64 (wrap64 (H - z)))) (fun e => by have h : g6 < g6 := NOW.out _ e; omega) (.int .i64 (wrap64 (S + z)))
 rw [← hw5] at hO5
 clear hw5 H6 HR2 HB2 HOW NOW
 have hmn : n ≤ n + 1 := by omega
 obtain ⟨A2, hA2⟩ : ∃ A2, A2 = A1 := ⟨_, rfl⟩
 obtain ⟨c2, hcc2⟩ : ∃ c2, c2 = c1 := ⟨_, rfl⟩
 rw [← hA2, ← hcc2] at h5' hO5
 rw [← hcc2] at hc1 hm1
 have hc2 := hc1
 have hm2 := hm1
 clear hA2 hcc2
 have hng6R : g6 ≠ w.heap.size + 1 + 1 := by omega
 have HO5 := lh hO5
 have X8 := lh h5'
 have XR := lh hr5
 have BB := lh B5
 have HS5 : Hid (∀ w', w5.grownBy w' (some (w.heap.size + 1 + 1)) → Sl w' w.heap.size w'.heap.size 4 A2 n (lf (cellsL f n))) := by
  intro w' hq
  obtain ⟨A0, c0, e0, _, _, h0⟩ := own_of_row (own_other HO5.out XR.out (by decide) hq)
  cases e0
  exact h0.sl
 have HF : Hid (∀ w', w5.grownBy w' (some (w.heap.size + 1 + 1)) → cE w' g6 0 (.slice A2 n c2) ∧ cI w' g6 1 I ∧ cI w' g6 2 (wrap64 (H - z)) ∧ cI w' g6 3 (wrap64 (S + z)) ∧ cI w' g6 4 P) := by
  intro w' hq
  have y8 := (hq.block g6 (gL X8.out) (by simp; omega)).trans X8.out
  exact (cells5 y8)
 clear hO5 h5' hr5 B5
 go_wp2_with fail
 refine z167 ?_
 intro jd
 refine tj4 0 51 1 52 2 53 3 54 HF jd ?_
 refine wpAnyH_jobG (fuel := 3) (i := 4) (d := 55) (skip := []) (Post := fun v _ => v = .bool (goodWorks (lf (cellsL f n)) n I (wrap64 (H - z)) (wrap64 (S + z)) P)) rfl rfl (by exact z12) ?jgtrue but_stays jd ?ngtrue
 case jgtrue =>
  intro a' w1 K hev hb hK
  have h1 : a'.eval (.tmp 54) = (.agg (wB A2 n c2 I (wrap64 (H - z)) (wrap64 (S + z)) P)) := (hev 54 (by decide)).trans rfl
  have h2 : a'.tmps[54]?.getD undef = (.agg (wB A2 n c2 I (wrap64 (H - z)) (wrap64 (S + z)) P)) := by simpa [Act.eval] using h1
  have HK := lh hK
  have HSL := lh (HS5.out w1 hb)
  clear hev h1 hK HF
  go_simp
  go_at_call 80
  refine (l25Good_any _ n _ _ _ _ I (wrap64 (H - z)) (wrap64 (S + z)) P w1 HSL.out (by omega) hc2).mono ?_
  exact z163
 case ngtrue =>
 rintro v w8 rfl hS8 hb8
 refine z15 ?_
 have jd := hS8
 refine tj 5 56 HF rfl jd ?_
 refine wS0 6 (w.heap.size + 1 + 1) (wB A2 n c2 I (wrap64 (H - z)) (wrap64 (S + z)) P) 32 infoWorks ((hb8.block _ (gL XR.out)).trans XR.out) (fun w' hg => grown_trans hS8 hg) ?krtrue
 case krtrue =>
 intro w9 h9 hg9 hS9
 have jd := hS9
 refine tj 7 5 HF rfl jd ?_
 refine z49 ?_
 have h9' : w9.heap[w.heap.size + 1 + 1]? = some (.cells (wB A2 n c2 I (wrap64 (H - z)) (wrap64 (S + z)) P) 32) := h9
 refine z168 ?_
 intro r0 r1 r2 r3 r4 hO9 hX9
 clear h9 h9' hg9 hS9 jd HF XR X8 HO5 HS5
 go_wp2
 refine z66 ?_
 exact z189
theorem l25Make_build (A : Option Addr) (n c lo hi : Nat) (f : Nat → Int) (I H S P : Int) (id tt0 z : Int) (w : World) (hs : Sl w lo hi 4 A n f) (hn : n ≤ 1048576) (hnc : n ≤ c) (hnone : A = none → n = 0 ∧ c = 0) (hform : ∀ ad, A = some ad → ∃ b off, ad = ⟨b, off, none⟩) (hz1 : z ≤ 1000000) (hn1 : n + 1 ≤ 1048576) :
  Calls Tryz.prog 114 #[.agg (wB A n c I H S P), .agg (iV 1 id tt0 z)] w (panPostL w (buildL f n (placeV f id n 0) id z) (n + 1) I H S P (goodWorks (lf (buildL f n (placeV f id n 0) id z)) (n + 1) I H S P)) := by
 have hX : bW w (((w.alloc (.cells (wB A n c I H S P) 32)).alloc (.cells (iV 1 id tt0 z) 107)).alloc (.cells (wB none 0 0 0 0 0 0) 32)) := (((Below.refl _ w).alloc nL _).alloc (by simp) _).alloc (by simp; omega) _
 have HX := lh hX
 clear hX
 refine z158 ?_
 intro hz2
 go_wp2_with fail
 refine z186 ?_
 intro w1 A1 c1 hc1 hm1 hOw hb1 b0 b1 b2 b3 b4 s0 s1 s2 s3
 have hr1 : w1.heap[w.heap.size + 1 + 1]? = some (.cells (wB none 0 0 0 0 0 0) 32) := (hb1.block (w.heap.size + 1 + 1) (by simp)).trans (by have := heap_alloc_new ((w.alloc (.cells (wB A n c I H S P) 32)).alloc (.cells (iV 1 id tt0 z) 107)) (.cells (wB none 0 0 0 0 0 0) 32); simpa using this)
 revert hb1 hr1
 refine z187 ?_
 intro z1 nz1 nz2 nz3 nz4 nz5 hR1 hB1 hO1
 go_upto_region 3 with fail
 refine z160 ?_
 intro w2 hw2 b12 p0 p1 p2 p3 p4 q0 q1 q2 q3 h6 hr2 B2
 refine z188 ?_
 intro hOw now
 clear hw2 b0 b1 b2 b3 b4 s0 s1 s2 s3 hR1 hB1 b12 hO1
 generalize w1.heap.size = g6 at *
 have H6 := lh h6
 have HR2 := lh hr2
 have HB2 := lh B2
 clear h6 hr2 B2 hOw now
 go_wp2_with fail
 refine (l25Build_any A n c lo hi f I H S P id z w2 (hs.below HB2.out) hn hnc hnone hform).mono ?_
 rintro e w3 ⟨A2, c2, rfl, hc2, hm2, hO3, hb3⟩
 have h63 := (hb3.block g6 (gL H6.out)).trans H6.out
 have hr3 := (hb3.block (w.heap.size + 1 + 1) (gL HR2.out)).trans HR2.out
 have B3 := HB2.out.trans (hb3.mono HB2.out.size)
 have lg6 : g6 < w2.heap.size := (gL H6.out)
 have now : ∀ k : Nat, (Value.slice A2 (n + 1) c2).ownBlock = some k → w2.heap.size ≤ k := fun k e => (World.ownsRow.lt hO3 k e).1
 have q03 := kp hb3 q0
 have q13 := kp hb3 q1
 have q23 := kp hb3 q2
 have q33 := kp hb3 q3
 clear p0 p1 p2 p3 p4 q0 q1 q2 q3 hb3 H6 HR2 HB2
 obtain ⟨e0, e1, e2, e3, e4⟩ := cells5 h63
 have ef := fz h63
 have H6 := lh h63
 have HR2 := lh hr3
 have HB2 := lh B3
 have HOW := lh hO3
 have NOW := lh now
 have LG := lh lg6
 clear h63 hr3 B3 hO3 now lg6
 go_upto_region 10 with fail
 refine z161 ?_
 intro w5 hw5'
 have hw5 : w5 = (((((w3.setCell ⟨g6, 0, none⟩ (.slice A2 (n + 1) c2)).setCell ⟨g6, 1, none⟩ (.int .i64 I)).setCell ⟨g6, 2, none⟩ (.int .i64 H)).setCell ⟨g6, 3, none⟩ (.int .i64 S)).setCell ⟨g6, 4, none⟩ (.int .i64 P)) := hw5'
 clear hw5' e0 e1 e2 e3 e4 ef q03 q13 q23 q33
 have h5' : w5.heap[g6]? = some (.cells (wB A2 (n + 1) c2 I H S P) 32) := by
  rw [hw5]
  exact (heap_setCell_same _ g6 4 (wB A2 (n + 1) c2 I H S P) 32 (.int .i64 P) (heap_setCell_same _ g6 3 (wB A2 (n + 1) c2 I H S P) 32 (.int .i64 S) (heap_setCell_same _ g6 2 (wB A2 (n + 1) c2 I H S P) 32 (.int .i64 H) (heap_setCell_same _ g6 1 (wB A2 (n + 1) c2 I H S P) 32 (.int .i64 I) (heap_setCell_same _ g6 0 (wB A1 n c1 I H S P) 32 (.slice A2 (n + 1) c2) H6.out)))))
 have hr5 : w5.heap[w.heap.size + 1 + 1]? = some (.cells (wB none 0 0 0 0 0 0) 32) := by
  rw [hw5, heap_setCell_other _ _ _ _ (by simp; omega), heap_setCell_other _ _ _ _ (by simp; omega), heap_setCell_other _ _ _ _ (by simp; omega), heap_setCell_other _ _ _ _ (by simp; omega), heap_setCell_other _ _ _ _ (by simp; omega)]
  exact HR2.out
 have hle6 : w.heap.size ≤ g6 := by omega
 have B5 : bW w w5 := by
  rw [hw5]
  exact ((((HB2.out.setCell (p := ⟨g6, 0, none⟩) hle6 _).setCell (p := ⟨g6, 1, none⟩) hle6 _).setCell (p := ⟨g6, 2, none⟩) hle6 _).setCell (p := ⟨g6, 3, none⟩) hle6 _).setCell (p := ⟨g6, 4, none⟩) hle6 _
 have no : ∀ j : Nat, (Value.slice A2 (n + 1) c2).ownBlock ≠ some (⟨g6, j, none⟩ : Addr).block := fun j e => by have h : w2.heap.size ≤ g6 := NOW.out _ e; have := LG.out; omega
 have hO5 := ownsRow_setCell_other (ownsRow_setCell_other (ownsRow_setCell_other (ownsRow_setCell_other (ownsRow_setCell_other (ownsRow_monoP HOW.out (show w.heap.size ≤ w2.heap.size by have := LG.out; omega)) (no 0) (.slice A2 (n + 1) c2)) (no 1) (.int .i64 I)) (no 2) (.int .i64 H)) (no 3) (.int .i64 S)) (no 4) (.int .i64 P)
 rw [← hw5] at hO5
 clear hw5 H6 HR2 HB2 HOW NOW no LG
 have hng6R : g6 ≠ w.heap.size + 1 + 1 := by omega
 have HO5 := lh hO5
 have X8 := lh h5'
 have XR := lh hr5
 have BB := lh B5
 have HS5 : Hid (∀ w', w5.grownBy w' (some (w.heap.size + 1 + 1)) → Sl w' w.heap.size w'.heap.size 4 A2 (n + 1) (lf (buildL f n (placeV f id n 0) id z))) := by
  intro w' hq
  obtain ⟨A0, c0, e0, _, _, h0⟩ := own_of_row (own_other HO5.out XR.out (by decide) hq)
  cases e0
  exact h0.sl
 have HF : Hid (∀ w', w5.grownBy w' (some (w.heap.size + 1 + 1)) → cE w' g6 0 (.slice A2 (n + 1) c2) ∧ cI w' g6 1 I ∧ cI w' g6 2 H ∧ cI w' g6 3 S ∧ cI w' g6 4 P) := by
  intro w' hq
  have y8 := (hq.block g6 (gL X8.out) (by simp; omega)).trans X8.out
  exact (cells5 y8)
 clear hO5 h5' hr5 B5
 go_wp2_with fail
 refine z167 ?_
 intro jd
 refine tj4 0 51 1 52 2 53 3 54 HF jd ?_
 refine wpAnyH_jobG (fuel := 3) (i := 4) (d := 55) (skip := []) (Post := fun v _ => v = .bool (goodWorks (lf (buildL f n (placeV f id n 0) id z)) (n + 1) I H S P)) rfl rfl (by exact z12) ?jgtrue but_stays jd ?ngtrue
 case jgtrue =>
  intro a' w1 K hev hb hK
  have h1 : a'.eval (.tmp 54) = (.agg (wB A2 (n + 1) c2 I H S P)) := (hev 54 (by decide)).trans rfl
  have h2 : a'.tmps[54]?.getD undef = (.agg (wB A2 (n + 1) c2 I H S P)) := by simpa [Act.eval] using h1
  have HK := lh hK
  have HSL := lh (HS5.out w1 hb)
  clear hev h1 hK HF
  go_simp
  go_at_call 80
  refine (l25Good_any _ (n + 1) _ _ _ _ I H S P w1 HSL.out (by omega) hc2).mono ?_
  exact z163
 case ngtrue =>
 rintro v w8 rfl hS8 hb8
 refine z15 ?_
 have jd := hS8
 refine tj 5 56 HF rfl jd ?_
 refine wS0 6 (w.heap.size + 1 + 1) (wB A2 (n + 1) c2 I H S P) 32 infoWorks ((hb8.block _ (gL XR.out)).trans XR.out) (fun w' hg => grown_trans hS8 hg) ?krtrue
 case krtrue =>
 intro w9 h9 hg9 hS9
 have jd := hS9
 refine tj 7 5 HF rfl jd ?_
 refine z49 ?_
 have h9' : w9.heap[w.heap.size + 1 + 1]? = some (.cells (wB A2 (n + 1) c2 I H S P) 32) := h9
 refine z168 ?_
 intro r0 r1 r2 r3 r4 hO9 hX9
 clear h9 h9' hg9 hS9 jd HF XR X8 HO5 HS5
 go_wp2
 refine z66 ?_
 exact z189
theorem l25Make_big (A : Option Addr) (n c lo hi : Nat) (f : Nat → Int) (I H S P : Int) (kd id tt0 z : Int) (w : World) (hs : Sl w lo hi 4 A n f) (hn : n ≤ 1048576) (hnc : n ≤ c) (hnone : A = none → n = 0 ∧ c = 0) (hz1 : 1000000 < z) :
  Calls Tryz.prog 114 #[.agg (wB A n c I H S P), .agg (iV kd id tt0 z)] w (panPostL w (cellsL f n) n I H S P false) := by
 refine z184 ?_
 intro HX
 go_enter Tryz.func114, Tryz.ntmps114
 go_wp2_with fail
 refine z185 ?_
 intro w1 A1 c1 hc1 hm1 hOw hb1 b0 b1 b2 b3 b4 s0 s1 s2 s3 hr1
 revert hb1 hr1
 refine z187 ?_
 intro z1 nz1 nz2 nz3 nz4 nz5 hR1 hB1 hO1
 go_upto_region 3 with fail
 refine z160 ?_
 intro w2 hw2 b12 p0 p1 p2 p3 p4 q0 q1 q2 q3 h6 hr2 B2
 refine z188 ?_
 intro hOw now
 clear hw2 b0 b1 b2 b3 b4 s0 s1 s2 s3 hR1 hB1 b12 hO1
 generalize w1.heap.size = g6 at *
 obtain ⟨e0, e1, e2, e3, e4⟩ := cells5 h6
 have ef := fz h6
 obtain ⟨r0, r1, r2, r3, r4⟩ := cells5 hr2
 have rf := fz hr2
 have lga : ∀ k : Nat, (Value.slice A1 n c1).ownBlock = some k → w.heap.size + 1 + 1 ≠ k := fun k e => by
  intro hk
  subst hk
  cases A1 with
  | none => cases e
  | some ad =>
   have e2 : ad = ⟨w.heap.size + 1 + 1, 0, none⟩ := by
    rcases form_ofP hOw with ⟨h0, A, c, hv⟩ | ⟨g, gc, hv⟩
    ·exact absurd (World.ownsRow.lt hOw _ e) (by intro h; exact (row_none_ne hOw hr2 (by decide) e))
    ·cases hv; simp [Value.ownBlock] at e; rw [e]
   subst e2
   exact row_ne hOw hr2 (by decide)
 have HB2 := lh B2
 have HOW := lh hOw
 clear h6 hr2 B2 hOw now
 go_wp2
 obtain ⟨wq, hwq⟩ : ∃ wq, wq = (((((w2.setCell ⟨w.heap.size + 1 + 1, 0, none⟩ (.slice A1 n c1)).setCell ⟨w.heap.size + 1 + 1, 1, none⟩ (.int .i64 I)).setCell ⟨w.heap.size + 1 + 1, 2, none⟩ (.int .i64 H)).setCell ⟨w.heap.size + 1 + 1, 3, none⟩ (.int .i64 S)).setCell ⟨w.heap.size + 1 + 1, 4, none⟩ (.int .i64 P)) := ⟨_, rfl⟩
 rw [← hwq]
 have u0 : cE wq (w.heap.size + 1 + 1) 0 (.slice A1 n c1) := by rw [hwq]; go_simp
 have u1 : cI wq (w.heap.size + 1 + 1) 1 I := by rw [hwq]; go_simp
 have u2 : cI wq (w.heap.size + 1 + 1) 2 H := by rw [hwq]; go_simp
 have u3 : cI wq (w.heap.size + 1 + 1) 3 S := by rw [hwq]; go_simp
 have u4 : cI wq (w.heap.size + 1 + 1) 4 P := by rw [hwq]; go_simp
 have hBq : bW w wq := by
  rw [hwq]
  exact (((((HB2.out.setCell (show w.heap.size ≤ w.heap.size + 1 + 1 by omega) _).setCell (show w.heap.size ≤ w.heap.size + 1 + 1 by omega) _).setCell (show w.heap.size ≤ w.heap.size + 1 + 1 by omega) _).setCell (show w.heap.size ≤ w.heap.size + 1 + 1 by omega) _).setCell (show w.heap.size ≤ w.heap.size + 1 + 1 by omega) _)
 have no : ∀ j : Nat, (Value.slice A1 n c1).ownBlock ≠ some (⟨w.heap.size + 1 + 1, j, none⟩ : Addr).block := fun j e => lga _ e rfl
 have hOq := (ownsRow_setCell_other (ownsRow_setCell_other (ownsRow_setCell_other (ownsRow_setCell_other (ownsRow_setCell_other HOW.out (no 0) (.slice A1 n c1)) (no 1) (.int .i64 I)) (no 2) (.int .i64 H)) (no 3) (.int .i64 S)) (no 4) (.int .i64 P))
 rw [← hwq] at hOq
 clear hwq HOW HB2
 refine z66 ?_
 refine bodyPost_ret (by simp [results, Tryz.results114, go_sem, u0, u1, u2, u3, u4]; try rfl) rfl ?_
 exact ⟨_, c1, rfl, hc1, hm1, hOq, hBq⟩
end Go.Proofs.YtpndjhelpoenpaaGreatDoor
namespace Go.Proofs.YtpndjhelpoenpaaGreatDoor
open Go.RowKit
attribute [local go_sem ↓] Go.wp_at_zero Go.wp_at_succ
theorem l2Sum_any (wa sa wb sb : Int) (w : World) :
  Calls Tryz.prog 182 #[.agg (jV wa sa), .agg (jV wb sb)] w fun e w' => e = .returned (.agg (jV (wrap64 (wa + wb)) (wrap64 (sa + sb)))) ∧ bW w w' := by
 go_enter Tryz.func182, Tryz.ntmps182
 exact z190
theorem l2Left_any (wa sa wb sb : Int) (w : World) :
  Calls Tryz.prog 184 #[.agg (jV wa sa), .agg (jV wb sb)] w fun e w' => e = .returned (.agg (jV (wrap64 (wa - wb)) (wrap64 (sa - sb)))) ∧ bW w w' := by
 go_enter Tryz.func184, Tryz.ntmps184
 exact z190
end Go.Proofs.YtpndjhelpoenpaaGreatDoor
namespace Go.Proofs.YtpndjhelpoenpaaGreatDoor
open Go.RowKit Go.Sort
attribute [local go_sem ↓] Go.wp_at_zero Go.wp_at_succ
def takeV (z : Int) : Int := wrap64 ((wrap64 (z * 35)).tdiv 1000)
theorem l25Pan_take (A : Option Addr) (n c lo hi : Nat) (f : Nat → Int) (I H S P : Int) (id tt0 z : Int) (i : Nat) (hi' : i < n) (w : World) (hs : Sl w lo hi 4 A n f) (hn : n ≤ 1048576) (hnc : n ≤ c) :
  Calls Tryz.prog 156 #[.agg (wB A n c I H S P), .agg (iV 2 id tt0 z), .int .i64 i] w (panPost w (setB f i (wrap64 (f (i * 4 + 2) + wrap64 (z - (takeV z)))) (wrap64 (f (i * 4 + 3) + (takeV z)))) n (wrap64 (I + (takeV z))) H S P true) := by
 unfold takeV
 have hX : bW w (((w.alloc (.cells (wB A n c I H S P) 32)).alloc (.cells (iV 2 id tt0 z) 107)).alloc (.cells (wB none 0 0 0 0 0 0) 32)) := (((Below.refl _ w).alloc nL _).alloc (by simp) _).alloc (by simp; omega) _
 have HS : Hid (Sl (((w.alloc (.cells (wB A n c I H S P) 32)).alloc (.cells (iV 2 id tt0 z) 107)).alloc (.cells (wB none 0 0 0 0 0 0) 32)) lo hi 4 A n f) := hs.below hX
 have HX := lh hX
 clear hs hX
 obtain ⟨b, off, rfl, hbw, _⟩ := HS.out.open_ (Below.refl _ _) (by omega)
 have HC : ∀ w', bW (((w.alloc (.cells (wB (some ⟨b, off, none⟩) n c I H S P) 32)).alloc (.cells (iV 2 id tt0 z) 107)).alloc (.cells (wB none 0 0 0 0 0 0) 32)) w' → cI w' b (off + i * 4 + 2) (f (i * 4 + 2)) ∧ cI w' b (off + i * 4 + 3) (f (i * 4 + 3)) := by
  intro w' hq
  obtain ⟨_, HC⟩ := HS.out.open_at hq (by omega)
  obtain ⟨c0, c1, c2, c3⟩ := cell4 HC hi'
  exact ⟨c2, c3⟩
 have HF : Hid (∀ w', bW (((w.alloc (.cells (wB (some ⟨b, off, none⟩) n c I H S P) 32)).alloc (.cells (iV 2 id tt0 z) 107)).alloc (.cells (wB none 0 0 0 0 0 0) 32)) w' → cE w' w.heap.size 0 (.slice (some ⟨b, off, none⟩) n c) ∧ cI w' w.heap.size 1 I ∧ cI w' w.heap.size 2 H ∧ cI w' w.heap.size 3 S ∧ cI w' w.heap.size 4 P ∧ cI w' b (off + i * 4 + 2) (f (i * 4 + 2)) ∧ cI w' b (off + i * 4 + 3) (f (i * 4 + 3))) := fun w' hq => ⟨(hq.cell (p := ⟨w.heap.size, 0, none⟩) (by simp; omega)).trans (by go_simp), (hq.cell (p := ⟨w.heap.size, 1, none⟩) (by simp; omega)).trans (by go_simp), (hq.cell (p := ⟨w.heap.size, 2, none⟩) (by simp; omega)).trans (by go_simp), (hq.cell (p := ⟨w.heap.size, 3, none⟩) (by simp; omega)).trans (by go_simp), (hq.cell (p := ⟨w.heap.size, 4, none⟩) (by simp; omega)).trans (by go_simp), (HC w' hq).1, (HC w' hq).2⟩
 refine z147 ?_
 intro hi0 hin
 clear HC
 go_enter Tryz.func156, Tryz.ntmps156
 go_wp2_with fail
 refine wp_region_held_drew (S := fun w' => bW (((w.alloc (.cells (wB (some ⟨b, off, none⟩) n c I H S P) 32)).alloc (.cells (iV 2 id tt0 z) 107)).alloc (.cells (wB none 0 0 0 0 0 0) 32)) w') (by exact z12) ((Below.refl _ (((w.alloc (.cells (wB (some ⟨b, off, none⟩) n c I H S P) 32)).alloc (.cells (iV 2 id tt0 z) 107)).alloc (.cells (wB none 0 0 0 0 0 0) 32))).drew) (fun jd => ?_)
 refine z148 ?_
 refine wpAnyH_three (fuel := 2) (i := 1) (j := 8) (k := 9) (di := 14) (dj := 8) (dk := 9) (skip := [14, 8, 9]) (Pi := (fun v w' => ∃ A' c', v = .agg (wB A' n c' I H S P) ∧ n ≤ c' ∧ c' ≤ maxLen ∧ w'.ownsRow (((w.alloc (.cells (wB (some ⟨b, off, none⟩) n c I H S P) 32)).alloc (.cells (iV 2 id tt0 z) 107)).alloc (.cells (wB none 0 0 0 0 0 0) 32)).heap.size 97 4 (.slice A' n c') n ((cellsL f n).map (Value.int .i64)))) rfl rfl rfl rfl rfl rfl (by decide) (by decide) (by decide) (by exact z12) (by exact z12) (by exact z12) (by exact z12) (by exact z12) (by exact z12) (by exact z12) ?jc (Job.alloc (nb := (((w.alloc (.cells (wB (some ⟨b, off, none⟩) n c I H S P) 32)).alloc (.cells (iV 2 id tt0 z) 107)).alloc (.cells (wB none 0 0 0 0 0 0) 32)).heap.size) (obj := .cells (wB none 0 0 0 0 0 0) 32) rfl (fun _ h => h.size) (fun a' w1 => by go_simp; try rfl)) (Job.alloc (nb := (((w.alloc (.cells (wB (some ⟨b, off, none⟩) n c I H S P) 32)).alloc (.cells (iV 2 id tt0 z) 107)).alloc (.cells (wB none 0 0 0 0 0 0) 32)).heap.size) (obj := .cells (jV 0 0) 95) rfl (fun _ h => h.size) (fun a' w1 => by go_simp; try rfl)) ?stc stays_alloc stays_alloc below_stays jd ?nx
 case stc =>
  exact z149
 case jc =>
  exact z150
 case nx =>
 rintro vi vj vk w4 ⟨A', c', rfl, hnc', hcm', hO⟩ ⟨g8, rfl, l8, h8⟩ ⟨g9, rfl, l9, h9⟩ hB4 _
 revert A' hO
 refine z151 ?_
 intro ga hO
 refine z15 ?_
 refine wS0 10 g8 (wB (some ⟨ga, 0, none⟩) n c' I H S P) 32 infoWorks h8 (fun w' hg => hB4.grown hg hB4.size (fun k hk => by cases hk; exact l8)) ?k8
 case k8 =>
 intro w5 h85 hg5 hB5
 refine z152 ?_
 intro ne89 h95 hO5
 refine wS0 11 g9 (jV (f (i * 4 + 2)) (f (i * 4 + 3))) 95 infoBrine h95 (fun w' hg => hB5.grown hg hB5.size (fun k hk => by cases hk; exact l9)) ?k9
 case k9 =>
 intro w6 h96 hg6 hB6
 refine z153 ?_
 intro h86 hO6
 refine z49 ?_
 refine z154 ?_
 intro b0 b1 b2 b3 b4 c2 c3 s0 s1 s2 s3
 have hr6 : w6.heap[w.heap.size + 1 + 1]? = some (.cells (wB none 0 0 0 0 0 0) 32) := (hB6.block (w.heap.size + 1 + 1) (by simp)).trans (by have := heap_alloc_new ((w.alloc (.cells (wB (some ⟨b, off, none⟩) n c I H S P) 32)).alloc (.cells (iV 2 id tt0 z) 107)) (.cells (wB none 0 0 0 0 0 0) 32); simpa using this)
 refine z155 ?_
 intro h86' h96' e0 e1 e2 e3 e4 ef d0 d1 a2 a3 af nga
 have lga : (((w.alloc (.cells (wB (some ⟨b, off, none⟩) n c I H S P) 32)).alloc (.cells (iV 2 id tt0 z) 107)).alloc (.cells (wB none 0 0 0 0 0 0) 32)).heap.size ≤ ga := (World.ownsRow.lt hO6 ga rfl).1
 revert l8 l9 lga
 refine z156 ?_
 intro nga9 lga l8 l9 nga0 mga0 nga1 mga1 nga2 mga2 ng80 mg80 ng81 mg81 ng82 mg82 ng90 mg90 ng91 mg91 ng92 mg92 nn1 nn2 nn3 HO6 HB6 H86 HR6
 clear hO6 hB6 h86 h86' h96 h96' hg6 hg5 hB5 hB4 hO hO5 h8 h9 h85 h95 HF HS hr6 jd
 go_wp2_with fail
 generalize wrap64 ((wrap64 (z * 35)).tdiv 1000) = sv at *
 obtain ⟨cur, hcur, hcs, hput⟩ := row_open HO6.out
 have hfit : i * 4 + 2 + 2 ≤ cur.size := by omega
 have HF : Hid (∀ w', w6.grownBy w' (some ga) → cE w' g8 0 (.slice (some ⟨ga, 0, none⟩) n c') ∧ cI w' g9 0 (f (i * 4 + 2)) ∧ cI w' g9 1 (f (i * 4 + 3)) ∧ cI w' (w.heap.size + 1) 3 z) := by
  intro w' hq
  have y8 := hq.block g8 (World.block_lt_of_cell? _ _ e0) (by simp; omega)
  have y9 := hq.block g9 (World.block_lt_of_cell? _ _ d0) (by simp; omega)
  have ys := hq.block (w.heap.size + 1) (World.block_lt_of_cell? _ _ s3) (by simp; omega)
  exact ⟨(World.cell?_of_block (a := ⟨g8, 0, none⟩) y8).trans e0, (World.cell?_of_block (a := ⟨g9, 0, none⟩) y9).trans d0, (World.cell?_of_block (a := ⟨g9, 1, none⟩) y9).trans d1, (World.cell?_of_block (a := ⟨w.heap.size + 1, 3, none⟩) ys).trans s3⟩
 refine wp_region_held_drew (S := fun w' => w6.grownBy w' (some ga)) (by exact z12) ⟨rfl, rfl, rfl, Nat.le_refl _, fun _ _ _ => rfl⟩ (fun jd => ?_)
 refine tj4 0 29 2 31 3 32 4 33 HF jd ?_
 refine tj4 6 35 8 37 1 30 5 34 HF jd ?_
 refine tj2 7 36 9 38 HF jd ?_
 refine wpAnyH_job (fuel := 3) (i := 10) (d := 39) (skip := []) (Post := fun v _ => v = (.agg (jV (wrap64 (f (i * 4 + 2) + wrap64 (z - sv))) (wrap64 (f (i * 4 + 3) + sv))))) rfl rfl (by exact z12) ?jm but_stays jd ?nm
 case jm =>
  intro a' w1 K hev hb hK
  have h1 : a'.eval (.tmp 32) = .agg (jV (f (i * 4 + 2)) (f (i * 4 + 3))) := (hev 32 (by decide)).trans rfl
  have h2 : a'.tmps[32]?.getD undef = .agg (jV (f (i * 4 + 2)) (f (i * 4 + 3))) := by simpa [Act.eval] using h1
  have h3 : a'.eval (.tmp 38) = .agg (jV (IntKind.i64.wrap (z - sv)) sv) := (hev 38 (by decide)).trans rfl
  rw [IntWalk.i64_left] at h3
  have h4 : a'.tmps[38]?.getD undef = .agg (jV (wrap64 (z - sv)) sv) := by simpa [Act.eval] using h3
  have HK := lh hK
  clear hev h1 h3 hK HF
  go_simp
  go_at_call 182
  refine (l2Sum_any _ _ _ _ w1).mono ?_
  exact z157
 case nm =>
 rintro v w8 rfl hS8 hb8
 refine z15 ?_
 have jd := hS8
 refine tj2 11 40 12 41 HF jd ?_
 have hcur8 : w8.heap[ga]? = some (.cells cur 97) := (hb8.block ga (gL hcur)).trans hcur
 refine wpAnyH_store (fuel := 0) (i := 13) rfl (by exact z12) ga (i * 4 + 2) (.agg (jV (wrap64 (f (i * 4 + 2) + wrap64 (z - sv))) (wrap64 (f (i * 4 + 3) + sv)))) 97 cur rfl rfl infoBrine hcur8 hfit (by exact z143) (fun w' hg => grown_trans hS8 hg) ?kt
 case kt =>
 intro w9 h9 hg9 hS9
 refine z49 ?_
 rw [show putRow cur (i * 4 + 2) ((.agg (jV (wrap64 (f (i * 4 + 2) + wrap64 (z - sv))) (wrap64 (f (i * 4 + 3) + sv)))) : Value).cells = _ from putRow_two cur _ _ _ hfit] at h9
 have t2 := hput w9 (i * 4 + 2) _ _ h9
 rw [cellsL_set, cellsL_set] at t2
 have h89 := (hS9.block g8 (gL H86.out) (by simp; omega)).trans H86.out
 have xr9 := (hS9.block (w.heap.size + 1 + 1) (gL HR6.out) (by simp; omega)).trans HR6.out
 have bx1 := (World.cell?_of_block (a := ⟨w.heap.size, 1, none⟩) (hS9.block w.heap.size (World.block_lt_of_cell? _ _ b1) (by simp; omega))).trans b1
 have B9 : bW w w9 := (HX.out.trans (HB6.out.mono HX.out.size)).grown hS9 (HX.out.trans (HB6.out.mono HX.out.size)).size (fun k hk => by cases hk; omega)
 clear e0 e1 e2 e3 e4 b0 b1 b2 b3 b4 s0 s1 s2 s3 c2 c3 d0 d1 a2 a3 af ef
 obtain ⟨e0, e1, e2, e3, e4⟩ := cells5 h89
 have ef := fz h89
 have T2 := lh t2
 have H89 := lh h89
 have XR9 := lh xr9
 have BB9 := lh B9
 clear t2 h89 xr9 B9 h9 hg9 hS9 hS8 hb8 jd HF hcur hcur8 hput hcs hfit HO6 H86 HR6 HB6
 go_upto_region 7 with fail
 refine z161 ?_
 intro w7 hw7'
 have hw7 : w7 = w9.setCell ⟨g8, 1, none⟩ (.int .i64 (wrap64 (I + sv))) := hw7'
 clear hw7' e0 e1 e2 e3 e4 ef bx1
 have x8 : w7.heap[g8]? = some (.cells (wB (some ⟨ga, 0, none⟩) n c' (wrap64 (I + sv)) H S P) 32) := by
  rw [hw7]
  exact heap_setCell_same _ g8 1 (wB (some ⟨ga, 0, none⟩) n c' I H S P) 32 _ H89.out
 have xr : w7.heap[w.heap.size + 1 + 1]? = some (.cells (wB none 0 0 0 0 0 0) 32) := by
  rw [hw7, heap_setCell_other _ _ _ _ mg82]
  exact XR9.out
 have B7 : bW w w7 := by
  rw [hw7]
  exact BB9.out.setCell (show w.heap.size ≤ g8 by omega) _
 have t3 := ownsRow_setCell_other (a := ⟨g8, 1, none⟩) T2.out (by simp [Value.ownBlock, nga]) (.int .i64 (wrap64 (I + sv)))
 rw [← hw7] at t3
 clear hw7 T2 H89 XR9 BB9
 have HO7 := lh t3
 have BB := lh B7
 clear t3 B7
 obtain ⟨e0, e1, e2, e3, e4⟩ := cells5 x8
 obtain ⟨r0, r1, r2, r3, r4⟩ := cells5 xr
 have rf := fz xr
 clear x8 xr
 go_wp2
 obtain ⟨wq, hwq⟩ : ∃ wq, wq = (((((w7.setCell ⟨w.heap.size + 1 + 1, 0, none⟩ (.slice (some ⟨ga, 0, none⟩) n c')).setCell ⟨w.heap.size + 1 + 1, 1, none⟩ (.int .i64 (wrap64 (I + sv)))).setCell ⟨w.heap.size + 1 + 1, 2, none⟩ (.int .i64 H)).setCell ⟨w.heap.size + 1 + 1, 3, none⟩ (.int .i64 S)).setCell ⟨w.heap.size + 1 + 1, 4, none⟩ (.int .i64 P)) := ⟨_, rfl⟩
 rw [← hwq]
 have q0 : cE wq (w.heap.size + 1 + 1) 0 (.slice (some ⟨ga, 0, none⟩) n c') := by rw [hwq]; go_simp
 have q1 : cI wq (w.heap.size + 1 + 1) 1 (wrap64 (I + sv)) := by rw [hwq]; go_simp
 refine z191 ?_
 intro q2 q3 q4 hBq no
 have hOq := (ownsRow_setCell_other (ownsRow_setCell_other (ownsRow_setCell_other (ownsRow_setCell_other (ownsRow_setCell_other HO7.out (no 0) (.slice (some ⟨ga, 0, none⟩) n c')) (no 1) (.int .i64 (wrap64 (I + sv)))) (no 2) (.int .i64 H)) (no 3) (.int .i64 S)) (no 4) (.int .i64 P))
 rw [← hwq] at hOq
 clear hwq HO7 BB
 refine z66 ?_
 refine z183 ?_
 exact z192
end Go.Proofs.YtpndjhelpoenpaaGreatDoor
namespace Go.Proofs.YtpndjhelpoenpaaGreatDoor
open Go.RowKit Go.Sort
attribute [local go_sem ↓] Go.wp_at_zero Go.wp_at_succ
theorem l25Pan_dry (A : Option Addr) (n c lo hi : Nat) (f : Nat → Int) (I H S P : Int) (id tt0 z : Int) (i : Nat) (hi' : i < n) (w : World) (hs : Sl w lo hi 4 A n f) (hn : n ≤ 1048576) (hnc : n ≤ c) :
  Calls Tryz.prog 156 #[.agg (wB A n c I H S P), .agg (iV 4 id tt0 z), .int .i64 i] w (panPost w (setB f i (wrap64 (f (i * 4 + 2) - z)) (f (i * 4 + 3))) n I H S P true) := by
 have hX : bW w (((w.alloc (.cells (wB A n c I H S P) 32)).alloc (.cells (iV 4 id tt0 z) 107)).alloc (.cells (wB none 0 0 0 0 0 0) 32)) := (((Below.refl _ w).alloc nL _).alloc (by simp) _).alloc (by simp; omega) _
 have HS : Hid (Sl (((w.alloc (.cells (wB A n c I H S P) 32)).alloc (.cells (iV 4 id tt0 z) 107)).alloc (.cells (wB none 0 0 0 0 0 0) 32)) lo hi 4 A n f) := hs.below hX
 have HX := lh hX
 clear hs hX
 obtain ⟨b, off, rfl, hbw, _⟩ := HS.out.open_ (Below.refl _ _) (by omega)
 have HC : ∀ w', bW (((w.alloc (.cells (wB (some ⟨b, off, none⟩) n c I H S P) 32)).alloc (.cells (iV 4 id tt0 z) 107)).alloc (.cells (wB none 0 0 0 0 0 0) 32)) w' → cI w' b (off + i * 4 + 2) (f (i * 4 + 2)) ∧ cI w' b (off + i * 4 + 3) (f (i * 4 + 3)) := by
  intro w' hq
  obtain ⟨_, HC⟩ := HS.out.open_at hq (by omega)
  obtain ⟨c0, c1, c2, c3⟩ := cell4 HC hi'
  exact ⟨c2, c3⟩
 have HF : Hid (∀ w', bW (((w.alloc (.cells (wB (some ⟨b, off, none⟩) n c I H S P) 32)).alloc (.cells (iV 4 id tt0 z) 107)).alloc (.cells (wB none 0 0 0 0 0 0) 32)) w' → cE w' w.heap.size 0 (.slice (some ⟨b, off, none⟩) n c) ∧ cI w' w.heap.size 1 I ∧ cI w' w.heap.size 2 H ∧ cI w' w.heap.size 3 S ∧ cI w' w.heap.size 4 P ∧ cI w' b (off + i * 4 + 2) (f (i * 4 + 2)) ∧ cI w' b (off + i * 4 + 3) (f (i * 4 + 3))) := fun w' hq => ⟨(hq.cell (p := ⟨w.heap.size, 0, none⟩) (by simp; omega)).trans (by go_simp), (hq.cell (p := ⟨w.heap.size, 1, none⟩) (by simp; omega)).trans (by go_simp), (hq.cell (p := ⟨w.heap.size, 2, none⟩) (by simp; omega)).trans (by go_simp), (hq.cell (p := ⟨w.heap.size, 3, none⟩) (by simp; omega)).trans (by go_simp), (hq.cell (p := ⟨w.heap.size, 4, none⟩) (by simp; omega)).trans (by go_simp), (HC w' hq).1, (HC w' hq).2⟩
 refine z147 ?_
 intro hi0 hin
 clear HC
 go_enter Tryz.func156, Tryz.ntmps156
 go_wp2_with fail
 refine wp_region_held_drew (S := fun w' => bW (((w.alloc (.cells (wB (some ⟨b, off, none⟩) n c I H S P) 32)).alloc (.cells (iV 4 id tt0 z) 107)).alloc (.cells (wB none 0 0 0 0 0 0) 32)) w') (by exact z12) ((Below.refl _ (((w.alloc (.cells (wB (some ⟨b, off, none⟩) n c I H S P) 32)).alloc (.cells (iV 4 id tt0 z) 107)).alloc (.cells (wB none 0 0 0 0 0 0) 32))).drew) (fun jd => ?_)
 refine z148 ?_
 refine wpAnyH_three (fuel := 2) (i := 1) (j := 8) (k := 9) (di := 14) (dj := 8) (dk := 9) (skip := [14, 8, 9]) (Pi := (fun v w' => ∃ A' c', v = .agg (wB A' n c' I H S P) ∧ n ≤ c' ∧ c' ≤ maxLen ∧ w'.ownsRow (((w.alloc (.cells (wB (some ⟨b, off, none⟩) n c I H S P) 32)).alloc (.cells (iV 4 id tt0 z) 107)).alloc (.cells (wB none 0 0 0 0 0 0) 32)).heap.size 97 4 (.slice A' n c') n ((cellsL f n).map (Value.int .i64)))) rfl rfl rfl rfl rfl rfl (by decide) (by decide) (by decide) (by exact z12) (by exact z12) (by exact z12) (by exact z12) (by exact z12) (by exact z12) (by exact z12) ?jc (Job.alloc (nb := (((w.alloc (.cells (wB (some ⟨b, off, none⟩) n c I H S P) 32)).alloc (.cells (iV 4 id tt0 z) 107)).alloc (.cells (wB none 0 0 0 0 0 0) 32)).heap.size) (obj := .cells (wB none 0 0 0 0 0 0) 32) rfl (fun _ h => h.size) (fun a' w1 => by go_simp; try rfl)) (Job.alloc (nb := (((w.alloc (.cells (wB (some ⟨b, off, none⟩) n c I H S P) 32)).alloc (.cells (iV 4 id tt0 z) 107)).alloc (.cells (wB none 0 0 0 0 0 0) 32)).heap.size) (obj := .cells (jV 0 0) 95) rfl (fun _ h => h.size) (fun a' w1 => by go_simp; try rfl)) ?stc stays_alloc stays_alloc below_stays jd ?nx
 case stc =>
  exact z149
 case jc =>
  exact z150
 case nx =>
 rintro vi vj vk w4 ⟨A', c', rfl, hnc', hcm', hO⟩ ⟨g8, rfl, l8, h8⟩ ⟨g9, rfl, l9, h9⟩ hB4 _
 revert A' hO
 refine z151 ?_
 intro ga hO
 refine z15 ?_
 refine wS0 10 g8 (wB (some ⟨ga, 0, none⟩) n c' I H S P) 32 infoWorks h8 (fun w' hg => hB4.grown hg hB4.size (fun k hk => by cases hk; exact l8)) ?k8
 case k8 =>
 intro w5 h85 hg5 hB5
 refine z152 ?_
 intro ne89 h95 hO5
 refine wS0 11 g9 (jV (f (i * 4 + 2)) (f (i * 4 + 3))) 95 infoBrine h95 (fun w' hg => hB5.grown hg hB5.size (fun k hk => by cases hk; exact l9)) ?k9
 case k9 =>
 intro w6 h96 hg6 hB6
 refine z153 ?_
 intro h86 hO6
 refine z49 ?_
 refine z154 ?_
 intro b0 b1 b2 b3 b4 c2 c3 s0 s1 s2 s3
 have hr6 : w6.heap[w.heap.size + 1 + 1]? = some (.cells (wB none 0 0 0 0 0 0) 32) := (hB6.block (w.heap.size + 1 + 1) (by simp)).trans (by have := heap_alloc_new ((w.alloc (.cells (wB (some ⟨b, off, none⟩) n c I H S P) 32)).alloc (.cells (iV 4 id tt0 z) 107)) (.cells (wB none 0 0 0 0 0 0) 32); simpa using this)
 refine z155 ?_
 intro h86' h96' e0 e1 e2 e3 e4 ef d0 d1 a2 a3 af nga
 have lga : (((w.alloc (.cells (wB (some ⟨b, off, none⟩) n c I H S P) 32)).alloc (.cells (iV 4 id tt0 z) 107)).alloc (.cells (wB none 0 0 0 0 0 0) 32)).heap.size ≤ ga := (World.ownsRow.lt hO6 ga rfl).1
 revert l8 l9 lga
 refine z156 ?_
 intro nga9 lga l8 l9 nga0 mga0 nga1 mga1 nga2 mga2 ng80 mg80 ng81 mg81 ng82 mg82 ng90 mg90 ng91 mg91 ng92 mg92 nn1 nn2 nn3 HO6 HB6 H86 HR6
 clear hO6 hB6 h86 h86' h96 h96' hg6 hg5 hB5 hB4 hO hO5 h8 h9 h85 h95 HF HS hr6 jd
 go_upto_region 17 with fail
 refine z161 ?_
 intro w7 hw7'
 have hw7 : w7 = ((w6.setCell ⟨ga, i * 4 + 2, none⟩ (.int .i64 (wrap64 (f (i * 4 + 2) - z)))).setCell ⟨ga, i * 4 + 2 + 1, none⟩ (.int .i64 (f (i * 4 + 3)))) := hw7'
 clear hw7' e0 e1 e2 e3 e4 b0 b1 b2 b3 b4 s0 s1 s2 s3 c2 c3
 have t1 := (World.ownsRow.stored HO6.out (i * 4 + 2) (.int .i64 (wrap64 (f (i * 4 + 2) - z)))).1
 have t2 := (World.ownsRow.stored t1 (i * 4 + 2 + 1) (.int .i64 (f (i * 4 + 3)))).1
 rw [← hw7, cellsL_set, cellsL_set] at t2
 have x8 : w7.heap[g8]? = some (.cells (wB (some ⟨ga, 0, none⟩) n c' I H S P) 32) := by
  rw [hw7, heap_setCell_other _ _ _ _ nn1, heap_setCell_other _ _ _ _ nn1]
  exact H86.out
 have xr : w7.heap[w.heap.size + 1 + 1]? = some (.cells (wB none 0 0 0 0 0 0) 32) := by
  rw [hw7, heap_setCell_other _ _ _ _ mga2, heap_setCell_other _ _ _ _ mga2]
  exact HR6.out
 have B7 : bW w w7 := by
  rw [hw7]
  exact ((HX.out.trans (HB6.out.mono HX.out.size)).setCell (show w.heap.size ≤ ga by omega) _).setCell (show w.heap.size ≤ ga by omega) _
 clear hw7 t1 a2 a3 af ef d0 d1 HO6 HB6 H86 HR6
 have HO7 := lh t2
 have BB := lh B7
 clear t2 B7
 obtain ⟨e0, e1, e2, e3, e4⟩ := cells5 x8
 obtain ⟨r0, r1, r2, r3, r4⟩ := cells5 xr
 have rf := fz xr
 clear x8 xr
 go_wp2
 refine z193 ?_
 intro wq hwq
 revert HO7 BB hwq
 refine z194 ?_
 intro q0 q1 q2 q3 q4 hBq no hOq
 exact z192
end Go.Proofs.YtpndjhelpoenpaaGreatDoor
namespace Go.Proofs.YtpndjhelpoenpaaGreatDoor
open Go.RowKit
attribute [local go_sem ↓] Go.wp_at_zero Go.wp_at_succ
def partV (wt s z : Int) : Int := wrap64 ((wrap64 (s * z)).tdiv (massV wt s))
theorem l2Part_any (wt s z : Int) (w : World) (hz : z ≠ 0) (hm : massV wt s ≠ 0) :
  Calls Tryz.prog 183 #[.agg (jV wt s), .int .i64 z] w fun e w' => e = .returned (.agg (jV (wrap64 (z - (partV wt s z))) (partV wt s z))) ∧ bW w w' := by
 refine z195 ?_
 intro HF HV
 go_enter Tryz.func183, Tryz.ntmps183
 go_wp2_with fail
 refine wp_region_held_drew (S := fun w' => bW (((w.alloc (.cells (jV wt s) 95)).alloc (.cells (jV 0 0) 95))) w') (by exact z12) ((Below.refl _ _).drew) (fun jd => ?_)
 refine tj4 0 9 1 10 2 11 3 12 HF jd ?_
 refine tj 4 13 HF rfl jd ?_
 refine wpAnyH_ready (rs := [5]) (by exact z12) (by simp) ?_
 refine z44 ?_
 intro K hK
 refine z51 ?_
 intro w2 hb2
 revert K hK hb2
 refine z45 ?_
 intro jd
 refine tj2 6 15 7 5 HF jd ?_
 refine z49 ?_
 revert HF HV jd
 refine z196 ?_
 intro r0 r1 f0 f1 BX sv HV
 go_wp2
 refine z197 ?_
 intro wq q0 q1 hBq
 refine z66 ?_
 refine bodyPost_ret (by simp [results, Tryz.results183, go_sem, q0, q1]; try rfl) rfl ?_
 rw [← HV.out]
 exact ⟨rfl, hBq⟩
end Go.Proofs.YtpndjhelpoenpaaGreatDoor
