/-
  Texts of this claim, merged.
-/
import Derived.Test.YtpndjhelpoenpaaGreatDoorXC7
import Derived.Test.YtpndjhelpoenpaaGreatDoorXC6
import Derived.Test.YtpndjhelpoenpaaGreatDoorXC2
set_option linter.unusedVariables false
set_option linter.unusedSimpArgs false
set_option maxRecDepth 100000
set_option maxHeartbeats 8000000
namespace Go.Proofs.YtpndjhelpoenpaaGreatDoor
open Go.RowKit
theorem sAppend_sz (D P : BA) (z : Int) (x y : BA) (h : D.size + P.size ≤ 30000) (hx : x.size ≤ 20) (hy : y.size ≤ 20) (w : World) :
  Calls Tryz.prog 45 #[.agg (lV D P z), .agg (sV x y)] w fun e w' => ∃ (P' : BA) (z' k : Int), e = .returned (.tuple #[.agg (lV D P' z'), .int .i64 k]) ∧ D.size + P'.size ≤ 30000 ∧ bW w w' := by
 refine (sAppendRecord_any D P z x y (by omega) (by omega) (by omega) (by omega) w).mono ?_
 rintro e w' ⟨rfl, hb⟩
 refine ⟨_, _, _, rfl, ?_, hb⟩
 unfold apP
 split
 ·rename_i h2
  simp only [apT, Bool.and_eq_true, decide_eq_true_eq] at h2
  have h3 := logOk_size h2.1.1
  have h4 := logOk_cnt h2.1.1
  have h5 := lineB_size (k := z) (by omega) (by omega) h2.1.2
  simp only [ByteArray.size_append']
  omega
 ·exact h
theorem sSync_sz (D P : BA) (z : Int) (h : D.size + P.size ≤ 30000) (w : World) :
  Calls Tryz.prog 180 #[.agg (lV D P z)] w fun e w' => ∃ (D' : BA) (z' : Int) (b : Bool), e = .returned (.tuple #[.agg (lV D' ⟨#[]⟩ z'), .bool b]) ∧ D'.size ≤ 30000 ∧ bW w w' := by
 refine (sSyncLog_any D P z (by omega) (by omega) w).mono ?_
 rintro e w' ⟨rfl, hb⟩
 refine ⟨_, _, _, rfl, ?_, hb⟩
 split
 ·simp only [ByteArray.size_append']; omega
 ·exact Nat.zero_le _
structure LogIn (w wr : World) (g : Nat) (A : Option Addr) (n c q b2 b3 : Nat) : Prop where
 log : ∃ (D P : BA) (z : Int), D.size + P.size ≤ 30000 ∧ wr.heap[b3]? = some (.cells (lV D P z) 33 (0, 0))
 zero : wr.heap[b2]? = some (.cells (lV ⟨#[]⟩ ⟨#[]⟩ 0) 33 (0, 0))
 cur : Cur wr g A n c q
 fr : Fr g (g + 1) w wr
theorem LogIn.weaken {w wr : World} {g n c q q' b2 b3 : Nat} {A : Option Addr} (h : LogIn w wr g A n c q b2 b3) (hq : q ≤ q') : LogIn w wr g A n c q' b2 b3 := ⟨h.log, h.zero, h.cur.weaken hq, h.fr⟩
theorem row3_far {w : World} {b b' : Nat} {D P D' P' : BA} {z z' : Int} (h : w.heap[b]? = some (.cells (lV D P z) 33 (0, 0))) (hne : b' ≠ b) :
  (((w.setCell ⟨b', 0, none⟩ (.string D')).setCell ⟨b', 1, none⟩ (.string P')).setCell ⟨b', 2, none⟩ (.int .i64 z')).heap[b]? = some (.cells (lV D P z) 33 (0, 0)) :=
 row_far (row_far (row_far h _ _ hne) _ _ hne) _ _ hne
theorem LogIn.store {w wr : World} {g n c q b2 b3 : Nat} {A : Option Addr} {D P D0 P0 : BA} {z z0 : Int} (hs : D.size + P.size ≤ 30000) (h3 : wr.heap[b3]? = some (.cells (lV D0 P0 z0) 33 (0, 0))) (h2 : wr.heap[b2]? = some (.cells (lV ⟨#[]⟩ ⟨#[]⟩ 0) 33 (0, 0))) (hC : Cur wr g A n c q) (hF : Fr g (g + 1) w wr) (hb2 : w.heap.size ≤ b2) (hb : b2 < b3) (hg : g < b2) :
  LogIn w (((wr.setCell ⟨b3, 0, none⟩ (.string D)).setCell ⟨b3, 1, none⟩ (.string P)).setCell ⟨b3, 2, none⟩ (.int .i64 z)) g A n c q b2 b3 :=
 ⟨⟨D, P, z, hs, row3_set h3⟩, row3_far h2 (by omega),
  ((hC.setOwn (q := ⟨b3, 0, none⟩) (by show g < b3; omega) _).setOwn (q := ⟨b3, 1, none⟩) (by show g < b3; omega) _).setOwn (q := ⟨b3, 2, none⟩) (by show g < b3; omega) _,
  ((hF.setOwn (j := 0) (p := ⟨b3, 0, none⟩) (by show _ ≤ b3; omega) _).setOwn (j := 0) (p := ⟨b3, 1, none⟩) (by show _ ≤ b3; omega) _).setOwn (j := 0) (p := ⟨b3, 2, none⟩) (by show _ ≤ b3; omega) _⟩
theorem log_any (g n c p : Nat) (A : Option Addr) (w : World) (hC : Cur w g A n c p) (hn : n ≤ 65536) (hp : p ≤ 90000000) :
  Calls Tryz.prog 149 #[.pointer (some ⟨g, 0, none⟩)] w fun e w' => ∃ (D P : BA) (z : Int), e = .returned (.agg (lV D P z)) ∧ D.size + P.size ≤ 30000 ∧ Cur w' g A n c (p + 70) ∧ Fr g (g + 1) w w' := by
 go_enter Tryz.func149, Tryz.ntmps149
 go_upto_region 1 with fail
 revert hC
 refine z348 ?_
 intro w0 h2 hC0 hF hg2
 go_upto_region 2 with fail
 refine nameW0 ?_
 intro w3 hw3
 have h3 := an hw3
 have hg3 : w.heap.size < w0.heap.size := rowLt h2
 have h2 := (by rw [hw3]; exact rowAl h2 _ : w3.heap[w.heap.size]? = some (.cells (lV ⟨#[]⟩ ⟨#[]⟩ 0) 33 (0, 0)))
 have hC3 := (by rw [hw3]; exact hC0.alloc _ : Cur w3 g A n c p)
 have hF := (by rw [hw3]; exact hF.alloc' _ : Fr g (g + 1) w w3)
 clear hw3 hC0
 generalize w0.heap.size = b3 at h3 hg3 ⊢
 go_wp2_with fail
 refine (pick_any g n c _ 7 A w3 hC3 hn (by omega) (by omega) (by omega)).mono ?_
 rintro e w4 ⟨m, rfl, hm, hC4, hF4⟩
 have hin : LogIn w w4 g A n c (p + 2) w.heap.size b3 := ⟨⟨⟨#[]⟩, ⟨#[]⟩, 0, by show 0 + 0 ≤ 30000; omega, rowFr h3 hF4 (by omega)⟩, rowFr h2 hF4 hg2, hC4, hF.trans hF4⟩
 clear h2 h3 hC3 hC4 hF hF4
 have hb2 : w.heap.size ≤ w.heap.size := Nat.le_refl _
 generalize hbb : w.heap.size = b2 at hin hg2 hg3 ⊢
 rw [hbb] at hb2
 have HBB := lh hbb
 clear hbb hb2
 go_wp2_with fail
 go_loopw [4] (fun nv wr => ∃ k : Nat, k ≤ 6 ∧ nv = .int .i64 k ∧ LogIn w wr g A n c (p + 2 + 10 * (6 - k)) b2 b3) (fun nv _ => (intOf nv).toNat)
 case atStart => exact ⟨m, by omega, rfl, hin.weaken (by omega)⟩
 case round =>
  obtain ⟨k, hk, rfl, hin2⟩ := hrel
  clear hin
  by_cases hlt : 0 < k
  ·have hki : (0 : Int) < (k : Int) := by omega
   obtain ⟨⟨D, P, z, hsz, h3⟩, h2, hC, hF⟩ := hin2
   obtain ⟨c0, c1, c2, f0, f1, f2⟩ := row3 h3
   have HB3 := lh hg3
   go_upto_region 5 with fail
   have hCd : Cur wr.drew g A n c (p + 2 + 10 * (6 - k)) := hC.drewN 1
   have hFd : Fr g (g + 1) w wr.drew := hF.trans (Fr.of_below _ _ (below_drewN (Below.refl _ wr) 1))
   have h3d : wr.drew.heap[b3]? = some (.cells (lV D P z) 33 (0, 0)) := h3
   have h2d : wr.drew.heap[b2]? = some (.cells (lV ⟨#[]⟩ ⟨#[]⟩ 0) 33 (0, 0)) := h2
   clear hC hF h3 h2
   go_region_with (first | (refine (logRecord_any g n c (p + 2 + 10 * (6 - k)) A wr.drew hCd hn ?_).mono ?_; (omega); rintro e wa ⟨x, y, rfl, hx, hy, hCa, hFa⟩; have h3a := rowFr h3d hFa (Nat.lt_trans hg2 hg3); obtain ⟨ca0, ca1, ca2, fa0, fa1, fa2⟩ := row3 h3a) | (refine (sAppend_sz D P z x y hsz hx hy wa).mono ?_; rintro e wb ⟨P', z', kk, rfl, hszb, hbb⟩; have h3b := rowB h3a hbb; obtain ⟨cb0, cb1, cb2, fb0, fb1, fb2⟩ := row3 h3b))
   all_goals
    obtain ⟨wc, hwc⟩ : ∃ wc, wc = (((wb.setCell ⟨b3, 0, none⟩ (.string D)).setCell ⟨b3, 1, none⟩ (.string P')).setCell ⟨b3, 2, none⟩ (.int .i64 z')) := ⟨_, rfl⟩
    rw [← hwc]
    have hin3 : LogIn w wc g A n c (p + 2 + 10 * (6 - k) + 8) b2 b3 := by
     rw [hwc]
     exact LogIn.store hszb h3b (rowB (rowFr h2d hFa hg2) hbb) (hCa.below hbb) ((hFd.trans hFa).trans (Fr.of_below _ _ hbb)) (Nat.le_of_eq HBB.out) hg3 hg2
    clear hwc hCd hFd h3d h2d h3a hCa hFa h3b hbb c0 c1 c2 f0 f1 f2 ca0 ca1 ca2 fa0 fa1 fa2 cb0 cb1 cb2 fb0 fb1 fb2
    obtain ⟨hlog, hz2, hC, hF⟩ := hin3
    go_wp2_with fail
    refine (one_any g n c _ 4 A wc hC hn (by omega) (by omega) (by omega)).mono ?_
    rintro e wd ⟨bq, rfl, hCq, hFq⟩
    obtain ⟨D1, P1, z1, hs1, h31⟩ := hlog
    have h3q := rowFr h31 hFq (Nat.lt_trans hg2 hg3)
    have h2q := rowFr hz2 hFq hg2
    have hFF := hF.trans hFq
    obtain ⟨d0, d1, d2, g0, g1, g2⟩ := row3 h3q
    clear hC hF hFq hz2 h31
    cases bq with
    | false =>
     have HIN : Hid (LogIn w wd g A n c (p + 2 + 10 * (6 - (k - 1))) b2 b3) := LogIn.weaken ⟨⟨D1, P1, z1, hs1, h3q⟩, h2q, hCq, hFF⟩ (by omega)
     clear h3q h2q hCq hFF d0 d1 d2 g0 g1 g2
     have hkw : IntKind.i64.wrap ((k : Int) - 1) = ((k - 1 : Nat) : Int) := by rw [IntWalk.i64_in _ (by omega)]; omega
     go_wp2
     go_roundw
     case rel => exact ⟨k - 1, by omega, by go_num, HIN.out⟩
     case measure => simp [intOf]; omega
    | true =>
     have hkw : IntKind.i64.wrap ((k : Int) - 1) = ((k - 1 : Nat) : Int) := by rw [IntWalk.i64_in _ (by omega)]; omega
     go_wp2_with fail
     refine (sSync_sz D1 P1 z1 hs1 wd).mono ?_
     rintro e we ⟨D2, z2, ok2, rfl, hs2, hbe⟩
     have h3e := rowB h3q hbe
     obtain ⟨e0, e1, e2, k0, k1, k2⟩ := row3 h3e
     have HIN : Hid (LogIn w (((we.setCell ⟨b3, 0, none⟩ (.string D2)).setCell ⟨b3, 1, none⟩ (.string ⟨#[]⟩)).setCell ⟨b3, 2, none⟩ (.int .i64 z2)) g A n c (p + 2 + 10 * (6 - (k - 1))) b2 b3) :=
      LogIn.weaken (LogIn.store (by show D2.size + 0 ≤ 30000; omega) h3e (rowB h2q hbe) (hCq.below hbe) (hFF.trans (Fr.of_below _ _ hbe)) (Nat.le_of_eq HBB.out) hg3 hg2) (by omega)
     clear h3q h2q hCq hFF d0 d1 d2 g0 g1 g2 h3e hbe
     go_wp2
     go_roundw
     case rel => exact ⟨k - 1, by omega, by go_num, HIN.out⟩
     case measure => simp [intOf]; omega
  ·have hki : ¬ ((0 : Int) < (k : Int)) := by omega
   obtain ⟨⟨D, P, z, hsz, h3⟩, h2, hC, hF⟩ := hin2
   obtain ⟨c0, c1, c2, f0, f1, f2⟩ := row3 h3
   obtain ⟨u0, u1, u2, v0, v1, v2⟩ := row3 h2
   have hne : b2 ≠ b3 := by omega
   have hne2 : b3 ≠ b2 := by omega
   have HC := lh hC
   have HF := lh hF
   have H2 := lh h2
   have HB := lh hg2
   clear h2 h3 hF hC
   go_wp2
   obtain ⟨wq, hwq⟩ : ∃ wq, wq = (((wr.setCell ⟨b2, 0, none⟩ (.string D)).setCell ⟨b2, 1, none⟩ (.string P)).setCell ⟨b2, 2, none⟩ (.int .i64 z)) := ⟨_, rfl⟩
   rw [← hwq]
   have q0 : cE wq b2 0 (.string D) := by rw [hwq]; go_simp
   have q1 : cE wq b2 1 (.string P) := by rw [hwq]; go_simp
   have q2 : cI wq b2 2 z := by rw [hwq]; go_simp
   have hFq : Fr g (g + 1) w wq := by rw [hwq]; exact ((HF.out.setOwn (j := 0) (p := ⟨b2, 0, none⟩) (Nat.le_of_eq HBB.out) _).setOwn (j := 0) (p := ⟨b2, 1, none⟩) (Nat.le_of_eq HBB.out) _).setOwn (j := 0) (p := ⟨b2, 2, none⟩) (Nat.le_of_eq HBB.out) _
   have hCq : Cur wq g A n c (p + 70) := by rw [hwq]; exact (((HC.out.weaken (by omega) : Cur wr g A n c (p + 70)).setOwn (q := ⟨b2, 0, none⟩) HB.out _).setOwn (q := ⟨b2, 1, none⟩) HB.out _).setOwn (q := ⟨b2, 2, none⟩) HB.out _
   clear hwq
   refine bodyPost_ret (by simp [results, Tryz.results149, go_sem, q0, q1, q2]; try rfl) rfl ?_
   exact ⟨D, P, ⟨z, rfl⟩, hsz, hCq, hFq⟩
end Go.Proofs.YtpndjhelpoenpaaGreatDoor
namespace Go.Proofs.YtpndjhelpoenpaaGreatDoor
open Go.RowKit
theorem anyLog_any (g n c p : Nat) (A : Option Addr) (w : World) (hC : Cur w g A n c p) (hn : n ≤ 65536) (hp : p ≤ 80000000) :
  Calls Tryz.prog 104 #[.pointer (some ⟨g, 0, none⟩)] w fun e w' => ∃ (D P : BA) (z : Int), e = .returned (.agg (lV D P z)) ∧ D.size + P.size ≤ 61000 ∧ Cur w' g A n c (p + 80) ∧ Fr g (g + 1) w w' := by
 go_enter Tryz.func104, Tryz.ntmps104
 go_upto_region 1 with fail
 revert hC
 refine z348 ?_
 intro w0 h2 hC0 hF hg2
 go_wp2_with fail
 refine (log_any g n c p A w0 hC0 hn (by omega)).mono ?_
 rintro e w2 ⟨D, P, z, rfl, hsz, hC2, hF2⟩
 have h2 := rowFr h2 hF2 hg2
 have hF := hF.trans hF2
 clear hC0 hF2
 go_upto_region 2 with fail
 refine nameW0 ?_
 intro w3 hw3
 have h3 := an hw3
 have hg3 : w.heap.size < w2.heap.size := rowLt h2
 have h2 := (by rw [hw3]; exact rowAl h2 _ : w3.heap[w.heap.size]? = some (.cells (lV ⟨#[]⟩ ⟨#[]⟩ 0) 33 (0, 0)))
 have hC3 := (by rw [hw3]; exact hC2.alloc _ : Cur w3 g A n c (p + 70))
 have hF := (by rw [hw3]; exact hF.alloc' _ : Fr g (g + 1) w w3)
 clear hw3 hC2
 generalize w2.heap.size = b3 at h3 hg3 ⊢
 go_wp2_with fail
 refine (pick_any g n c _ 24 A w3 hC3 hn (by omega) (by omega) (by omega)).mono ?_
 rintro e w4 ⟨m, rfl, hm, hC4, hF4⟩
 have h2 := rowFr h2 hF4 hg2
 have h3 := rowFr h3 hF4 (by omega)
 have hF := hF.trans hF4
 clear hC3 hF4
 by_cases m0 : m = 0
 ·subst m0
  obtain ⟨u0, u1, u2, uf0, uf1, uf2⟩ := row3 h2
  obtain ⟨v0, v1, v2, vf0, vf1, vf2⟩ := row3 h3
  refine z349 ?_
  intro hne hne2
  have HC := lh hC4
  have HF := lh hF
  have HG := lh hg2
  have HB3 := lh hg3
  clear h2 h3 hF hC4
  go_wp2
  obtain ⟨wq, hwq⟩ : ∃ wq, wq = ((((w4.setCell ⟨b3, 2, none⟩ (.int .i64 (wrap64 (z + 1)))).setCell ⟨w.heap.size, 0, none⟩ (.string D)).setCell ⟨w.heap.size, 1, none⟩ (.string P)).setCell ⟨w.heap.size, 2, none⟩ (.int .i64 (wrap64 (z + 1)))) := ⟨_, rfl⟩
  rw [← hwq]
  have q0 : cE wq w.heap.size 0 (.string D) := by rw [hwq]; go_simp
  have q1 : cE wq w.heap.size 1 (.string P) := by rw [hwq]; go_simp
  have q2 : cI wq w.heap.size 2 (wrap64 (z + 1)) := by rw [hwq]; go_simp
  have hFq : Fr g (g + 1) w wq := by rw [hwq]; exact ((((HF.out.setOwn (j := 0) (p := ⟨b3, 2, none⟩) (Nat.le_of_lt HB3.out) _).setOwn (j := 0) (p := ⟨w.heap.size, 0, none⟩) nL _).setOwn (j := 0) (p := ⟨w.heap.size, 1, none⟩) nL _).setOwn (j := 0) (p := ⟨w.heap.size, 2, none⟩) nL _)
  have hCq : Cur wq g A n c (p + 80) := by rw [hwq]; exact (((((HC.out.weaken (by omega) : Cur w4 g A n c (p + 80)).setOwn (q := ⟨b3, 2, none⟩) (Nat.lt_trans HG.out HB3.out) _).setOwn (q := ⟨w.heap.size, 0, none⟩) HG.out _).setOwn (q := ⟨w.heap.size, 1, none⟩) HG.out _).setOwn (q := ⟨w.heap.size, 2, none⟩) HG.out _)
  exact z351
 have m0i : ((m : Int) == 0) = false := by simp; omega
 by_cases m1 : m = 1
 ·subst m1
  obtain ⟨t0, t1, t2, tf0, tf1, tf2⟩ := row3 h3
  go_wp2_with fail
  clear t0 t1 t2 tf0 tf1 tf2
  refine (spoilt_any P (by omega) g n c _ A w4 hC4 hn (by omega)).mono ?_
  rintro e w5 ⟨s, rfl, hs, hC5, hF5⟩
  have h2 := rowFr h2 hF5 hg2
  have h3 := rowFr h3 hF5 (by omega)
  have hF := hF.trans hF5
  clear hC4 hF5
  obtain ⟨u0, u1, u2, uf0, uf1, uf2⟩ := row3 h2
  obtain ⟨v0, v1, v2, vf0, vf1, vf2⟩ := row3 h3
  refine z349 ?_
  intro hne hne2
  have HC := lh hC5
  have HF := lh hF
  have HG := lh hg2
  have HB3 := lh hg3
  clear h2 h3 hF hC5
  go_wp2
  obtain ⟨wq, hwq⟩ : ∃ wq, wq = ((((w5.setCell ⟨b3, 1, none⟩ (.string s)).setCell ⟨w.heap.size, 0, none⟩ (.string D)).setCell ⟨w.heap.size, 1, none⟩ (.string s)).setCell ⟨w.heap.size, 2, none⟩ (.int .i64 z)) := ⟨_, rfl⟩
  rw [← hwq]
  have q0 : cE wq w.heap.size 0 (.string D) := by rw [hwq]; go_simp
  have q1 : cE wq w.heap.size 1 (.string s) := by rw [hwq]; go_simp
  have q2 : cI wq w.heap.size 2 z := by rw [hwq]; go_simp
  have hFq : Fr g (g + 1) w wq := by rw [hwq]; exact ((((HF.out.setOwn (j := 0) (p := ⟨b3, 1, none⟩) (Nat.le_of_lt HB3.out) _).setOwn (j := 0) (p := ⟨w.heap.size, 0, none⟩) nL _).setOwn (j := 0) (p := ⟨w.heap.size, 1, none⟩) nL _).setOwn (j := 0) (p := ⟨w.heap.size, 2, none⟩) nL _)
  have hCq : Cur wq g A n c (p + 80) := by rw [hwq]; exact (((((HC.out.weaken (by omega) : Cur w5 g A n c (p + 80)).setOwn (q := ⟨b3, 1, none⟩) (Nat.lt_trans HG.out HB3.out) _).setOwn (q := ⟨w.heap.size, 0, none⟩) HG.out _).setOwn (q := ⟨w.heap.size, 1, none⟩) HG.out _).setOwn (q := ⟨w.heap.size, 2, none⟩) HG.out _)
  clear hwq
  refine z352 ?_
  have hbd : D.size + s.size ≤ 61000 := by omega
  first | exact ⟨D, s, _, rfl, hbd, hCq, hFq⟩ | exact ⟨D, s, ⟨_, rfl⟩, hbd, hCq, hFq⟩
 have m1i : ((m : Int) == 1) = false := by simp; omega
 by_cases m2 : m = 2
 ·subst m2
  have hszi : (D.size : Int) + (P.size : Int) ≤ 30000 := by omega
  obtain ⟨u0, u1, u2, uf0, uf1, uf2⟩ := row3 h2
  obtain ⟨v0, v1, v2, vf0, vf1, vf2⟩ := row3 h3
  refine z349 ?_
  intro hne hne2
  have HC := lh hC4
  have HF := lh hF
  have HG := lh hg2
  have HB3 := lh hg3
  clear h2 h3 hF hC4
  go_wp2
  obtain ⟨wq, hwq⟩ : ∃ wq, wq = ((((w4.setCell ⟨b3, 0, none⟩ (.string (D ++ P))).setCell ⟨w.heap.size, 0, none⟩ (.string (D ++ P))).setCell ⟨w.heap.size, 1, none⟩ (.string P)).setCell ⟨w.heap.size, 2, none⟩ (.int .i64 z)) := ⟨_, rfl⟩
  rw [← hwq]
  have q0 : cE wq w.heap.size 0 (.string (D ++ P)) := by rw [hwq]; go_simp
  have q1 : cE wq w.heap.size 1 (.string P) := by rw [hwq]; go_simp
  have q2 : cI wq w.heap.size 2 z := by rw [hwq]; go_simp
  have hFq : Fr g (g + 1) w wq := by rw [hwq]; exact ((((HF.out.setOwn (j := 0) (p := ⟨b3, 0, none⟩) (Nat.le_of_lt HB3.out) _).setOwn (j := 0) (p := ⟨w.heap.size, 0, none⟩) nL _).setOwn (j := 0) (p := ⟨w.heap.size, 1, none⟩) nL _).setOwn (j := 0) (p := ⟨w.heap.size, 2, none⟩) nL _)
  have hCq : Cur wq g A n c (p + 80) := by rw [hwq]; exact (((((HC.out.weaken (by omega) : Cur w4 g A n c (p + 80)).setOwn (q := ⟨b3, 0, none⟩) (Nat.lt_trans HG.out HB3.out) _).setOwn (q := ⟨w.heap.size, 0, none⟩) HG.out _).setOwn (q := ⟨w.heap.size, 1, none⟩) HG.out _).setOwn (q := ⟨w.heap.size, 2, none⟩) HG.out _)
  clear hwq
  refine z352 ?_
  have hbd : (D ++ P).size + P.size ≤ 61000 := by simp only [ByteArray.size_append']; omega
  first | exact ⟨(D ++ P), P, _, rfl, hbd, hCq, hFq⟩ | exact ⟨(D ++ P), P, ⟨_, rfl⟩, hbd, hCq, hFq⟩
 have m2i : ((m : Int) == 2) = false := by simp; omega
 obtain ⟨u0, u1, u2, uf0, uf1, uf2⟩ := row3 h2
 obtain ⟨v0, v1, v2, vf0, vf1, vf2⟩ := row3 h3
 refine z349 ?_
 intro hne hne2
 have HC := lh hC4
 have HF := lh hF
 have HG := lh hg2
 have HB3 := lh hg3
 clear h2 h3 hF hC4
 go_wp2
 obtain ⟨wq, hwq⟩ : ∃ wq, wq = (((w4.setCell ⟨w.heap.size, 0, none⟩ (.string D)).setCell ⟨w.heap.size, 1, none⟩ (.string P)).setCell ⟨w.heap.size, 2, none⟩ (.int .i64 z)) := ⟨_, rfl⟩
 rw [← hwq]
 have q0 : cE wq w.heap.size 0 (.string D) := by rw [hwq]; go_simp
 have q1 : cE wq w.heap.size 1 (.string P) := by rw [hwq]; go_simp
 have q2 : cI wq w.heap.size 2 z := by rw [hwq]; go_simp
 have hFq : Fr g (g + 1) w wq := by rw [hwq]; exact (((HF.out.setOwn (j := 0) (p := ⟨w.heap.size, 0, none⟩) nL _).setOwn (j := 0) (p := ⟨w.heap.size, 1, none⟩) nL _).setOwn (j := 0) (p := ⟨w.heap.size, 2, none⟩) nL _)
 have hCq : Cur wq g A n c (p + 80) := by rw [hwq]; exact ((((HC.out.weaken (by omega) : Cur w4 g A n c (p + 80)).setOwn (q := ⟨w.heap.size, 0, none⟩) HG.out _).setOwn (q := ⟨w.heap.size, 1, none⟩) HG.out _).setOwn (q := ⟨w.heap.size, 2, none⟩) HG.out _)
 exact z351
end Go.Proofs.YtpndjhelpoenpaaGreatDoor
namespace Go.Proofs.YtpndjhelpoenpaaGreatDoor
open Go.RowKit
theorem infoConK : (Tryz.prog.info? 35).map (·.size) = some 8 := by kernel_rfl
theorem sExec_draw (A : Option Addr) (n c lo hi : Nat) (L : List Int) (I H S P : Int) (D Q : ByteArray) (z : Int) (s : ByteArray) (w : World) (hs : Sl w lo hi 4 A n (lf L)) (hn : n ≤ 1048576) (hnc : n ≤ c) (hnone : A = none → n = 0 ∧ c = 0) (hD : D.size ≤ 1048576) (hQ : Q.size ≤ 1048576) (hsz : s.size ≤ 1048576) (hg : goodWorks (lf L) n I H S P = true) :
  Calls Tryz.prog 10 #[.agg (cB A n c I H S P D Q z), .string s] w fun e w' => ∃ (A2 : Option Addr) (m2 c2 : Nat) (L2 : List Int) (I2 H2 S2 P2 : Int) (Q2 : ByteArray) (z2 : Int) (r : ByteArray), e = .returned (.tuple #[.agg (cB A2 m2 c2 I2 H2 S2 P2 D Q2 z2), .string r]) ∧ goodWorks (lf L2) m2 I2 H2 S2 P2 = true ∧ Q2.size ≤ 1048576 ∧ m2 ≤ c2 ∧ w'.ownsRow w.heap.size 97 4 (.slice A2 m2 c2) m2 (L2.map (Value.int .i64)) ∧ bW w w' := by
 refine (sExecuteCommand_any A n c lo hi (lf L) I H S P D Q z s w hs hn hnc hnone hD hQ hsz).mono ?_
 rintro e w' ⟨A', c', he, hc, hown, hb⟩
 exact ⟨_, _, _, _, _, _, _, _, _, _, _, he, xc_good hg, (Fit.next (c := ⟨lf L, n, I, H, S, P, D, Q, z⟩) ⟨hn, hD, hQ⟩ s).2.2, hc, hown, hb⟩
structure KC (w W : World) (g b3 : Nat) (B' : Option Addr) (m c' : Nat) (L : List Int) (I H S P : Int) (D Q : ByteArray) (z : Int) : Prop where
 fr : Fr g (g + 1) w W
 box : W.heap[b3]? = some (.cells (cB B' m c' I H S P D Q z) 35 (0, 0))
 own : W.ownsRow w.heap.size 97 4 (.slice B' m c') m (L.map (Value.int .i64))
 zero : W.heap[w.heap.size]? = some (.cells (cB none 0 0 0 0 0 0 ⟨#[]⟩ ⟨#[]⟩ 0) 35 (0, 0))
 le : m ≤ c'
 m7 : m ≤ 7
 d : D.size ≤ 1048576
 q : Q.size ≤ 1048576
 bd : Hid (BD L m H)
theorem KC.step {w W W' : World} {g b3 : Nat} {B' : Option Addr} {m c' : Nat} {L : List Int} {I H S P : Int} {D Q : ByteArray} {z : Int} (h : KC w W g b3 B' m c' L I H S P D Q z) (hf : Fr g (g + 1) W W') (hg : g < w.heap.size) (hb3 : w.heap.size < b3) : KC w W' g b3 B' m c' L I H S P D Q z :=
 ⟨h.fr.trans hf, (hf.block _ (gL h.box) (Or.inr (by omega))).trans h.box, own_step h.own (by omega) hf, (hf.block _ (gL h.zero) (Or.inr (by omega))).trans h.zero, h.le, h.m7, h.d, h.q, h.bd⟩
theorem KC.below {w W W' : World} {g b3 : Nat} {B' : Option Addr} {m c' : Nat} {L : List Int} {I H S P : Int} {D Q : ByteArray} {z : Int} (h : KC w W g b3 B' m c' L I H S P D Q z) (hb : bW W W') : KC w W' g b3 B' m c' L I H S P D Q z :=
 ⟨h.fr.trans (Fr.of_below _ _ hb), rowB h.box hb, ownsRow_below h.own hb, rowB h.zero hb, h.le, h.m7, h.d, h.q, h.bd⟩
def KIn (w W : World) (g : Nat) (A : Option Addr) (n c q b3 : Nat) : Prop := ∃ (B' : Option Addr) (m c' : Nat) (L : List Int) (I H S P : Int) (D Q : ByteArray) (z : Int), KC w W g b3 B' m c' L I H S P D Q z ∧ Cur W g A n c q
theorem KIn.weaken {w W : World} {g n c q q' b3 : Nat} {A : Option Addr} (h : KIn w W g A n c q b3) (hq : q ≤ q') : KIn w W g A n c q' b3 := by
 exact y935
theorem console_any (g n c p : Nat) (A : Option Addr) (w : World) (hC0 : Cur w g A n c p) (hn : n ≤ 65536) (hp : p ≤ 1000000) :
  Calls Tryz.prog 60 #[.pointer (some ⟨g, 0, none⟩)] w fun e w' => ∃ (B' : Option Addr) (m c' : Nat) (L : List Int) (I H S P : Int) (D Q : ByteArray) (z : Int), e = .returned (.agg (cB B' m c' I H S P D Q z)) ∧ m ≤ 7 ∧ m ≤ c' ∧ D.size ≤ 1048576 ∧ Q.size ≤ 1048576 ∧ Hid (BD L m H) ∧ w'.ownsRow w.heap.size 97 4 (.slice B' m c') m (L.map (Value.int .i64)) ∧ Cur w' g A n c (p + 1500) ∧ Fr g (g + 1) w w' := by
 go_enter Tryz.func60, Tryz.ntmps60
 have hg : g < w.heap.size := hC0.lt
 go_upto_region 1 with fail
 refine y90 ?_
 intro w1 hw1 hz1 hF1 hC hs1
 clear hw1 hC0
 go_wp2_with fail
 refine (works_any g n c _ A w1 hC hn (by omega)).mono ?_
 rintro e w2 ⟨B', m, c', L, I, H, S, P, rfl, hm7, hle, hmx, hbd, hown, hC, hf⟩
 have hz1 := (hf.block _ hs1 (Or.inr (by omega))).trans hz1
 have hF1 := hF1.trans hf
 have hown := ownsRow_monoP hown (Nat.le_of_lt hs1)
 have hsz2 := hf.size
 clear hf hmx
 go_upto_region 2 with fail
 refine nameWS ?_
 intro w3 hw3
 have hb : bW w2 w3 := by rw [hw3]; exact (Below.refl _ w2).alloc nL _
 have hbx := an hw3
 have hC := hC.below hb
 have hin : KC w w3 g w2.heap.size B' m c' L I H S P ⟨#[]⟩ ⟨#[]⟩ 0 := ⟨hF1.trans (Fr.of_below _ _ hb), hbx, ownsRow_below hown hb, rowB hz1 hb, hle, hm7, by decide, by decide, hbd⟩
 obtain ⟨b3, hb3e⟩ : ∃ q, w2.heap.size = q := ⟨_, rfl⟩
 have hb3 : w.heap.size < b3 := by omega
 rw [hb3e] at hin
 try rw [hb3e]
 clear hw3 hb hbx hown hz1 hF1 hb3e hs1 hsz2 hbd
 go_wp2_with fail
 refine (pick_any g n c _ 7 A w3 hC hn (by omega) (by omega) (by omega)).mono ?_
 rintro e w4 ⟨k0, rfl, hk0, hC, hf⟩
 have hin : KIn w w4 g A n c (p + 1100) b3 := ⟨_, _, _, _, _, _, _, _, _, _, _, hin.step hf hg hb3, hC.weaken (by omega)⟩
 clear hC hf
 have HB3 := lh hb3
 go_wp2_with fail
 go_loopw [4] (fun nv wr => ∃ k : Nat, k ≤ 6 ∧ nv = .int .i64 k ∧ KIn w wr g A n c (p + 1100 + 40 * (6 - k)) b3) (fun nv _ => (intOf nv).toNat)
 case atStart => exact ⟨k0, by omega, rfl, hin.weaken (by omega)⟩
 case round =>
  obtain ⟨k, hk, rfl, hin2⟩ := hrel
  clear hin hle hm7
  obtain ⟨B', m, c', L, I, H, S, P, D, Q, z, hW, hC⟩ := hin2
  by_cases hlt : 0 < k
  ·have hki : (0 : Int) < (k : Int) := by omega
   have hkd : decide ((0 : Int) < (k : Int)) = true := decide_eq_true hki
   have hbx := hW.box
   obtain ⟨e0, e1, e2, e3, e4, e5, e6, e7⟩ := cells8 hbx
   clear hbx
   go_wp2_with fail
   refine (l28Good_any B' m c' w.heap.size wr.heap.size (lf L) I H S P D Q z wr (own_sl hW.own) (by have := hW.m7; omega) hW.le hW.d hW.q).mono ?_
   rintro e w5 ⟨rfl, hb⟩
   have hW := hW.below hb
   have hC := hC.below hb
   clear hb e0 e1 e2 e3 e4 e5 e6 e7
   cases hgl : (goodWorks (lf L) m I H S P && logOk D Q z) with
   | false =>
    clear hgl
    go_wp2_with fail
    refine (one_any g n c _ 24 A w5 hC hn (by omega) (by omega) (by omega)).mono ?_
    exact y936
   | true =>
    have HGS := lh (show goodWorks (lf L) m I H S P = true by rw [Bool.and_eq_true] at hgl; exact hgl.1)
    clear hgl
    go_upto_region 5 with fail
    have hFd : Fr g (g + 1) w w5.drew := hW.fr.trans (Fr.of_below _ _ (below_drewN (Below.refl _ _) 1))
    have hC := hC.drewN 1
    have hbx : (w5.drewN 1).heap[b3]? = some (.cells (cB B' m c' I H S P D Q z) 35 (0, 0)) := hW.box
    have hzr : (w5.drewN 1).heap[w.heap.size]? = some (.cells (cB none 0 0 0 0 0 0 ⟨#[]⟩ ⟨#[]⟩ 0) 35 (0, 0)) := hW.zero
    have hown := ownsRow_below hW.own (below_drewN (Below.refl _ w5) 1)
    have hmc := hW.le
    have hD := hW.d
    have hQ := hW.q
    have hm7 := hW.m7
    clear hW
    refine wp_region_held_drew (S := fun w' => Fr g (g + 1) w w') (by kernel_rfl) hFd (fun jd => ?_)
    clear hFd
    obtain ⟨v0, hv⟩ : ∃ v, w5.drewN 1 = v := ⟨_, rfl⟩
    have hv' : w5.drew = v0 := hv
    rw [hv] at hC hbx hzr hown
    rw [hv'] at jd ⊢
    clear hv hv'
    have HF : Hid (∀ w', Fr g (g + 1) w w' → True) := fun _ _ => trivial
    refine tj 1 20 HF rfl jd ?_
    refine wpAnyH_ready (rs := [0, 2]) (by kernel_rfl) (by simp) ?_
    refine (AllReadyH.cons rfl (fun K hK => ?_) (AllReadyH.cons rfl (fun K hK => ?_) AllReadyH.nil))
    ·revert jd K hK
     refine y939 ?_
     intro jd
     refine wpAnyH_ready (rs := [2]) (by kernel_rfl) (by simp) ?_
     refine y92 ?_
     intro K hK
     revert jd
     refine y940 ?_
     intro hS2
     revert K hK hS2
     refine y91 ?_
     intro jd
     refine y97 ?_
     refine y92 ?_
     intro K hK
     refine y941 ?_
     intro v1 s hs hC hf
     revert jd K hK hf
     refine y911 ?_
     intro hbx hzr hown jd
     revert jd
     refine y942 ?_
     intro hzl v2 A2 m2 c2 L2 I2 H2 S2 P2 Q2 z2 rr hq2 hmc2 HG2 hbx hzr hC hown jd
     refine wS0 8 b3 (cB A2 m2 c2 I2 H2 S2 P2 D Q2 z2) 35 infoConK hbx (fun w' hg' => fr_grown jd hg' (by omega)) ?ks1
     case ks1 =>
      exact y943
    ·revert jd K hK
     refine y939 ?_
     intro jd
     refine wpAnyH_ready (rs := [0, 3]) (by kernel_rfl) (by simp) ?_
     refine (AllReadyH.cons rfl (fun K hK => ?_) (AllReadyH.cons rfl (fun K hK => ?_) AllReadyH.nil))
     ·revert jd K hK
      refine y939 ?_
      intro jd
      refine y97 ?_
      refine y92 ?_
      intro K hK
      refine y941 ?_
      intro v1 s hs hC hf
      revert jd K hK hf
      refine y911 ?_
      intro hbx hzr hown jd
      revert jd
      refine y942 ?_
      intro hzl v2 A2 m2 c2 L2 I2 H2 S2 P2 Q2 z2 rr hq2 hmc2 HG2 hbx hzr hC hown jd
      refine wS0 8 b3 (cB A2 m2 c2 I2 H2 S2 P2 D Q2 z2) 35 infoConK hbx (fun w' hg' => fr_grown jd hg' (by omega)) ?ks2
      case ks2 =>
       exact y943
     ·refine y941 ?_
      intro v1 s hs hC hf
      revert jd K hK hf
      refine y911 ?_
      intro hbx hzr hown jd
      refine wpAnyH_ready (rs := [0]) (by kernel_rfl) (by simp) ?_
      refine y92 ?_
      intro K hK
      revert jd
      refine y940 ?_
      intro hS2
      revert K hK hS2
      refine y91 ?_
      intro jd
      revert jd
      refine y942 ?_
      intro hzl v2 A2 m2 c2 L2 I2 H2 S2 P2 Q2 z2 rr hq2 hmc2 HG2 hbx hzr hC hown jd
      refine wS0 8 b3 (cB A2 m2 c2 I2 H2 S2 P2 D Q2 z2) 35 infoConK hbx (fun w' hg' => fr_grown jd hg' (by omega)) ?ks3
      case ks3 =>
       exact y943
  ·have hki : ¬ ((0 : Int) < (k : Int)) := by omega
   go_wp2_with fail
   refine (one_any g n c _ 24 A wr hC hn (by omega) (by omega) (by omega)).mono ?_
   exact y936
end Go.Proofs.YtpndjhelpoenpaaGreatDoor
