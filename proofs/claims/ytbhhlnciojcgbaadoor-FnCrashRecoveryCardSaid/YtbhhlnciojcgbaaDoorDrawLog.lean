/-
  The draws of logs: some log, not long.
-/
import Derived.Test.YtbhhlnciojcgbaaDoorDrawL
import Derived.Test.YtbhhlnciojcgbaaDoorLogH
import Derived.Test.YtbhhlnciojcgbaaDoorLogI
import Derived.Deep.Cut
import Derived.Deep.RegionWith
namespace Go.Proofs.YtbhhlnciojcgbaaDoor
open Go.RowKit
set_option linter.unusedVariables false
set_option linter.unusedSimpArgs false
theorem sAppend_sz (D P : BA) (z : Int) (x y : BA) (h : D.size + P.size ≤ 30000) (hx : x.size ≤ 20) (hy : y.size ≤ 20) (w : World) :
    Calls Tryd.prog 9 #[.agg #[.string D, .string P, .int .i64 z], .agg #[.string x, .string y]] w fun e w' => ∃ (P' : BA) (z' k : Int), e = .returned (.tuple #[.agg #[.string D, .string P', .int .i64 z'], .int .i64 k]) ∧ D.size + P'.size ≤ 30000 ∧ Below w.heap.size w w' := by
  refine (sAppendRecord_any D P z x y (by omega) (by omega) (by omega) (by omega) w).mono ?_
  rintro e w' ⟨rfl, hb⟩
  refine ⟨_, _, _, rfl, ?_, hb⟩
  unfold apP
  split
  · rename_i h2
    simp only [apT, Bool.and_eq_true, decide_eq_true_eq] at h2
    have h3 := logOk_size h2.1.1
    have h4 := logOk_cnt h2.1.1
    have h5 := lineB_size (k := z) (by omega) (by omega) h2.1.2
    simp only [ByteArray.size_append']
    omega
  · exact h
theorem sSync_sz (D P : BA) (z : Int) (h : D.size + P.size ≤ 30000) (w : World) :
    Calls Tryd.prog 56 #[.agg #[.string D, .string P, .int .i64 z]] w fun e w' => ∃ (D' : BA) (z' : Int) (b : Bool), e = .returned (.tuple #[.agg #[.string D', .string ⟨#[]⟩, .int .i64 z'], .bool b]) ∧ D'.size ≤ 30000 ∧ Below w.heap.size w w' := by
  refine (sSyncLog_any D P z (by omega) (by omega) w).mono ?_
  rintro e w' ⟨rfl, hb⟩
  refine ⟨_, _, _, rfl, ?_, hb⟩
  split
  · simp only [ByteArray.size_append']; omega
  · exact Nat.zero_le _
/-- What stands between two rounds: a log that is not long in block b3, zeros in block b2. -/
structure LogIn (w wr : World) (g : Nat) (A : Option Addr) (n c q b2 b3 : Nat) : Prop where
  log : ∃ (D P : BA) (z : Int), D.size + P.size ≤ 30000 ∧ wr.heap[b3]? = some (.cells #[.string D, .string P, .int .i64 z] 25 (0, 0))
  zero : wr.heap[b2]? = some (.cells #[.string ⟨#[]⟩, .string ⟨#[]⟩, .int .i64 0] 25 (0, 0))
  cur : Cur wr g A n c q
  fr : Fr g (g + 1) w wr
theorem LogIn.weaken {w wr : World} {g n c q q' b2 b3 : Nat} {A : Option Addr} (h : LogIn w wr g A n c q b2 b3) (hq : q ≤ q') : LogIn w wr g A n c q' b2 b3 := ⟨h.log, h.zero, h.cur.weaken hq, h.fr⟩
theorem row3_far {w : World} {b b' : Nat} {D P D' P' : BA} {z z' : Int} (h : w.heap[b]? = some (.cells #[.string D, .string P, .int .i64 z] 25 (0, 0))) (hne : b' ≠ b) :
    (((w.setCell ⟨b', 0, none⟩ (.string D')).setCell ⟨b', 1, none⟩ (.string P')).setCell ⟨b', 2, none⟩ (.int .i64 z')).heap[b]? = some (.cells #[.string D, .string P, .int .i64 z] 25 (0, 0)) :=
  row_far (row_far (row_far h _ _ hne) _ _ hne) _ _ hne
theorem LogIn.store {w wr : World} {g n c q b2 b3 : Nat} {A : Option Addr} {D P D0 P0 : BA} {z z0 : Int} (hs : D.size + P.size ≤ 30000) (h3 : wr.heap[b3]? = some (.cells #[.string D0, .string P0, .int .i64 z0] 25 (0, 0))) (h2 : wr.heap[b2]? = some (.cells #[.string ⟨#[]⟩, .string ⟨#[]⟩, .int .i64 0] 25 (0, 0))) (hC : Cur wr g A n c q) (hF : Fr g (g + 1) w wr) (hb2 : w.heap.size ≤ b2) (hb : b2 < b3) (hg : g < b2) :
    LogIn w (((wr.setCell ⟨b3, 0, none⟩ (.string D)).setCell ⟨b3, 1, none⟩ (.string P)).setCell ⟨b3, 2, none⟩ (.int .i64 z)) g A n c q b2 b3 :=
  ⟨⟨D, P, z, hs, row3_set h3⟩, row3_far h2 (by omega),
   ((hC.setOwn (q := ⟨b3, 0, none⟩) (by show g < b3; omega) _).setOwn (q := ⟨b3, 1, none⟩) (by show g < b3; omega) _).setOwn (q := ⟨b3, 2, none⟩) (by show g < b3; omega) _,
   ((hF.setOwn (j := 0) (p := ⟨b3, 0, none⟩) (by show _ ≤ b3; omega) _).setOwn (j := 0) (p := ⟨b3, 1, none⟩) (by show _ ≤ b3; omega) _).setOwn (j := 0) (p := ⟨b3, 2, none⟩) (by show _ ≤ b3; omega) _⟩
set_option maxHeartbeats 4000000 in
theorem log_any (g n c p : Nat) (A : Option Addr) (w : World) (hC : Cur w g A n c p) (hn : n ≤ 65536) (hp : p ≤ 90000000) :
    Calls Tryd.prog 42 #[.pointer (some ⟨g, 0, none⟩)] w fun e w' => ∃ (D P : BA) (z : Int), e = .returned (.agg #[.string D, .string P, .int .i64 z]) ∧ D.size + P.size ≤ 30000 ∧ Cur w' g A n c (p + 70) ∧ Fr g (g + 1) w w' := by
  go_enter Tryd.func42, Tryd.ntmps42
  go_upto_region 1 with fail
  refine nameW0 ?_
  intro w0 hw0
  have h2 : w0.heap[w.heap.size]? = some (.cells #[.string ⟨#[]⟩, .string ⟨#[]⟩, .int .i64 0] 25 (0, 0)) := by rw [hw0]; exact heap_alloc_new w _
  have hC0 : Cur w0 g A n c p := by rw [hw0]; exact hC.alloc _
  have hF : Fr g (g + 1) w w0 := by rw [hw0]; exact Fr.of_below g (g + 1) ((Below.refl _ w).alloc (Nat.le_refl _) _)
  have hg2 : g < w.heap.size := hC.lt
  clear hw0 hC
  go_upto_region 2 with fail
  refine nameW0 ?_
  intro w3 hw3
  have h3 : w3.heap[w0.heap.size]? = some (.cells #[.string ⟨#[]⟩, .string ⟨#[]⟩, .int .i64 0] 25 (0, 0)) := by rw [hw3]; exact heap_alloc_new w0 _
  have hg3 : w.heap.size < w0.heap.size := rowLt h2
  have h2 := (by rw [hw3]; exact rowAl h2 _ : w3.heap[w.heap.size]? = some (.cells #[.string ⟨#[]⟩, .string ⟨#[]⟩, .int .i64 0] 25 (0, 0)))
  have hC3 := (by rw [hw3]; exact hC0.alloc _ : Cur w3 g A n c p)
  have hF := (by rw [hw3]; exact hF.alloc' _ : Fr g (g + 1) w w3)
  clear hw3 hC0
  generalize w0.heap.size = b3 at h3 hg3 ⊢
  go_wp2_with fail
  refine (pick_any g n c _ 7 A w3 hC3 hn (by omega) (by omega) (by omega)).mono ?_
  rintro e w4 ⟨m, rfl, hm, hC4, hF4⟩
  have hin : LogIn w w4 g A n c (p + 2) w.heap.size b3 := ⟨⟨⟨#[]⟩, ⟨#[]⟩, 0, by show 0 + 0 ≤ 30000; omega, rowFr h3 hF4 (by omega)⟩, rowFr h2 hF4 hg2, hC4, hF.trans hF4⟩
  clear h2 h3 hC3 hC4 hF hF4
  have hb2 : w.heap.size ≤ w.heap.size := Nat.le_refl _
  generalize hbb : w.heap.size = b2 at hin hg2 hg3 ⊢
  rw [hbb] at hb2
  have HBB := Lib.hid hbb
  clear hbb hb2
  go_wp2_with fail
  go_loopw [4] (fun nv wr => ∃ k : Nat, k ≤ 6 ∧ nv = .int .i64 k ∧ LogIn w wr g A n c (p + 2 + 10 * (6 - k)) b2 b3) (fun nv _ => (intOf nv).toNat)
  case atStart => exact ⟨m, by omega, rfl, hin.weaken (by omega)⟩
  case round =>
    obtain ⟨k, hk, rfl, hin2⟩ := hrel
    clear hin
    by_cases hlt : 0 < k
    · have hki : (0 : Int) < (k : Int) := by omega
      obtain ⟨⟨D, P, z, hsz, h3⟩, h2, hC, hF⟩ := hin2
      obtain ⟨c0, c1, c2, f0, f1, f2⟩ := row3 h3
      have HB3 := Lib.hid hg3
      go_upto_region 5 with fail
      have hCd : Cur wr.drew g A n c (p + 2 + 10 * (6 - k)) := hC.drewN 1
      have hFd : Fr g (g + 1) w wr.drew := hF.trans (Fr.of_below _ _ (below_drewN (Below.refl _ wr) 1))
      have h3d : wr.drew.heap[b3]? = some (.cells #[.string D, .string P, .int .i64 z] 25 (0, 0)) := h3
      have h2d : wr.drew.heap[b2]? = some (.cells #[.string ⟨#[]⟩, .string ⟨#[]⟩, .int .i64 0] 25 (0, 0)) := h2
      clear hC hF h3 h2
      go_region_with (first | (refine (logRecord_any g n c (p + 2 + 10 * (6 - k)) A wr.drew hCd hn ?_).mono ?_; (omega); rintro e wa ⟨x, y, rfl, hx, hy, hCa, hFa⟩; have h3a := rowFr h3d hFa (Nat.lt_trans hg2 hg3); obtain ⟨ca0, ca1, ca2, fa0, fa1, fa2⟩ := row3 h3a) | (refine (sAppend_sz D P z x y hsz hx hy wa).mono ?_; rintro e wb ⟨P', z', kk, rfl, hszb, hbb⟩; have h3b := rowB h3a hbb; obtain ⟨cb0, cb1, cb2, fb0, fb1, fb2⟩ := row3 h3b))
      all_goals
        obtain ⟨wc, hwc⟩ : ∃ wc, wc = (((wb.setCell ⟨b3, 0, none⟩ (.string D)).setCell ⟨b3, 1, none⟩ (.string P')).setCell ⟨b3, 2, none⟩ (.int .i64 z')) := ⟨_, rfl⟩
        rw [← hwc]
        have hin3 : LogIn w wc g A n c (p + 2 + 10 * (6 - k) + 8) b2 b3 := by
          rw [hwc]
          exact LogIn.store hszb h3b (rowB (rowFr h2d hFa hg2) hbb) (hCa.below hbb) ((hFd.trans hFa).trans (Fr.of_below _ _ hbb)) (Nat.le_of_eq HBB.out) hg3 hg2
        clear hwc hCd hFd h3d h2d h3a hCa hFa h3b hbb c0 c1 c2 f0 f1 f2 ca0 ca1 ca2 fa0 fa1 fa2 cb0 cb1 cb2 fb0 fb1 fb2
        obtain ⟨hlog, hz2, hC, hF⟩ := hin3
        go_wp2_with fail
        refine (one_any g n c _ 4 A wc hC hn (by omega) (by omega) (by omega)).mono ?_
        rintro e wd ⟨bq, rfl, hCq, hFq⟩
        obtain ⟨D1, P1, z1, hs1, h31⟩ := hlog
        have h3q := rowFr h31 hFq (Nat.lt_trans hg2 hg3)
        have h2q := rowFr hz2 hFq hg2
        have hFF := hF.trans hFq
        obtain ⟨d0, d1, d2, g0, g1, g2⟩ := row3 h3q
        clear hC hF hFq hz2 h31
        cases bq with
        | false =>
          have HIN : Hid (LogIn w wd g A n c (p + 2 + 10 * (6 - (k - 1))) b2 b3) := LogIn.weaken ⟨⟨D1, P1, z1, hs1, h3q⟩, h2q, hCq, hFF⟩ (by omega)
          clear h3q h2q hCq hFF d0 d1 d2 g0 g1 g2
          have hkw : IntKind.i64.wrap ((k : Int) - 1) = ((k - 1 : Nat) : Int) := by rw [IntWalk.i64_in _ (by omega)]; omega
          go_wp2
          go_roundw
          case rel => exact ⟨k - 1, by omega, by go_num, HIN.out⟩
          case measure => simp [intOf]; omega
        | true =>
          have hkw : IntKind.i64.wrap ((k : Int) - 1) = ((k - 1 : Nat) : Int) := by rw [IntWalk.i64_in _ (by omega)]; omega
          go_wp2_with fail
          refine (sSync_sz D1 P1 z1 hs1 wd).mono ?_
          rintro e we ⟨D2, z2, ok2, rfl, hs2, hbe⟩
          have h3e := rowB h3q hbe
          obtain ⟨e0, e1, e2, k0, k1, k2⟩ := row3 h3e
          have HIN : Hid (LogIn w (((we.setCell ⟨b3, 0, none⟩ (.string D2)).setCell ⟨b3, 1, none⟩ (.string ⟨#[]⟩)).setCell ⟨b3, 2, none⟩ (.int .i64 z2)) g A n c (p + 2 + 10 * (6 - (k - 1))) b2 b3) :=
            LogIn.weaken (LogIn.store (by show D2.size + 0 ≤ 30000; omega) h3e (rowB h2q hbe) (hCq.below hbe) (hFF.trans (Fr.of_below _ _ hbe)) (Nat.le_of_eq HBB.out) hg3 hg2) (by omega)
          clear h3q h2q hCq hFF d0 d1 d2 g0 g1 g2 h3e hbe
          go_wp2
          go_roundw
          case rel => exact ⟨k - 1, by omega, by go_num, HIN.out⟩
          case measure => simp [intOf]; omega
    · have hki : ¬ ((0 : Int) < (k : Int)) := by omega
      obtain ⟨⟨D, P, z, hsz, h3⟩, h2, hC, hF⟩ := hin2
      obtain ⟨c0, c1, c2, f0, f1, f2⟩ := row3 h3
      obtain ⟨u0, u1, u2, v0, v1, v2⟩ := row3 h2
      have hne : b2 ≠ b3 := by omega
      have hne2 : b3 ≠ b2 := by omega
      have HC := Lib.hid hC
      have HF := Lib.hid hF
      have H2 := Lib.hid h2
      have HB := Lib.hid hg2
      clear h2 h3 hF hC
      go_wp2
      obtain ⟨wq, hwq⟩ : ∃ wq, wq = (((wr.setCell ⟨b2, 0, none⟩ (.string D)).setCell ⟨b2, 1, none⟩ (.string P)).setCell ⟨b2, 2, none⟩ (.int .i64 z)) := ⟨_, rfl⟩
      rw [← hwq]
      have q0 : wq.cell? ⟨b2, 0, none⟩ = some (.string D) := by rw [hwq]; go_simp
      have q1 : wq.cell? ⟨b2, 1, none⟩ = some (.string P) := by rw [hwq]; go_simp
      have q2 : wq.cell? ⟨b2, 2, none⟩ = some (.int .i64 z) := by rw [hwq]; go_simp
      have hFq : Fr g (g + 1) w wq := by rw [hwq]; exact ((HF.out.setOwn (j := 0) (p := ⟨b2, 0, none⟩) (Nat.le_of_eq HBB.out) _).setOwn (j := 0) (p := ⟨b2, 1, none⟩) (Nat.le_of_eq HBB.out) _).setOwn (j := 0) (p := ⟨b2, 2, none⟩) (Nat.le_of_eq HBB.out) _
      have hCq : Cur wq g A n c (p + 70) := by rw [hwq]; exact (((HC.out.weaken (by omega) : Cur wr g A n c (p + 70)).setOwn (q := ⟨b2, 0, none⟩) HB.out _).setOwn (q := ⟨b2, 1, none⟩) HB.out _).setOwn (q := ⟨b2, 2, none⟩) HB.out _
      clear hwq
      refine bodyPost_ret (by simp [results, Tryd.results42, go_sem, q0, q1, q2]; try rfl) rfl ?_
      exact ⟨D, P, ⟨z, rfl⟩, hsz, hCq, hFq⟩
end Go.Proofs.YtbhhlnciojcgbaaDoor
