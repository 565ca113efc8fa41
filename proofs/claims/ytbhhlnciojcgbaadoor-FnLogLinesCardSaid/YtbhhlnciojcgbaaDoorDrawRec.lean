/-
  The draws of a record to encode, of a log's text to recover.
-/
import Derived.Test.YtbhhlnciojcgbaaDoorDrawLog
import Derived.Laws.MakeOwn
namespace Go.Proofs.YtbhhlnciojcgbaaDoor
open Go.RowKit
set_option linter.unusedVariables false
set_option linter.unusedSimpArgs false
theorem infoU8 : (Tryd.prog.info? 5).map (fun i => (i.zero, i.size, i.bytes)) = some (some (.int .u8 0), 1, 1) := by kernel_rfl
theorem make_zero (w : World) (n : Nat) (hn : n ≤ 40000) : ∃ wb, (Instr.makeSlice 22 (.int .i64 (n : Int)) (.int .i64 (n : Int))).run Tryd.prog w = .ok (.slice (some ⟨w.heap.size, 0, none⟩) n n) wb ∧
    (convert 22 9 (.slice (some ⟨w.heap.size, 0, none⟩) n n)).run Tryd.prog wb = .ok (.string ⟨(List.replicate n (0 : UInt8)).toArray⟩) wb ∧ Below w.heap.size w wb := by
  obtain ⟨i, hi, h2⟩ := Option.map_eq_some_iff.1 infoU8
  simp only [Prod.mk.injEq] at h2
  obtain ⟨h3, h4, h5⟩ := h2
  have h := run_makeSlice (P := Tryd.prog) (w := w) 22 5 i (.int .u8 0) Tryd.underlying22 hi h3 .i64 .i64 (n : Int) (n : Int) (by omega) (Int.le_refl _) (by rw [h4]; simp; omega) (by rw [h5]; omega) (by omega)
  simp only [Int.toNat_natCast, h4, Nat.mul_one] at h
  refine ⟨_, h, ?_, (Below.refl _ w).alloc (Nat.le_refl _) _⟩
  have hl : (List.replicate n (0 : UInt8)).length = n := by simp
  have hb := run_convert_bytes_back (P := Tryd.prog) (w.alloc (.cells (madeCells (Value.cells (.int .u8 0)) n) 5)) 22 9 5 ⟨w.heap.size, 0, none⟩ n (List.replicate n (0 : UInt8)) Tryd.underlying22 Tryd.underlying5 Tryd.underlying9 (fun j hj => ?_)
  · rw [hl] at hb; exact hb
  · have he : (⟨w.heap.size, 0, none⟩ : Addr).add j = ⟨w.heap.size, j, none⟩ := by unfold Addr.add; split <;> simp_all
    rw [he]
    have hj2 : j < n := by simpa using hj
    simp [madeCells, Value.cells, hj2, Nat.mod_one]
set_option maxHeartbeats 2000000 in
theorem DrawEncodeRecord_any (A : Option Addr) (n c : Nat) (w : World) (hc : Code w A n) (hn : n ≤ 65536) :
    Calls Tryd.prog 17 #[.slice A n c] w fun e w' => ∃ (k : Int) (x y : BA), e = .returned (.tuple #[.int .i64 k, .agg #[.string x, .string y]]) ∧ x.size ≤ 20 ∧ y.size ≤ 20 ∧ Below w.heap.size w w' := by
  go_enter Tryd.func17, Tryd.ntmps17
  go_upto_region 1 with fail
  refine nameW0 ?_
  intro w0 hw0
  have h2 : w0.heap[w.heap.size]? = some (.cells #[.string ⟨#[]⟩, .string ⟨#[]⟩] 27 (0, 0)) := by rw [hw0]; exact heap_alloc_new w _
  have hB : Below w.heap.size w w0 := by rw [hw0]; exact (Below.refl _ w).alloc (Nat.le_refl _) _
  have hc0 := hc.below hB
  clear hw0 hc
  go_upto_region 2 with fail
  refine nameW0 ?_
  intro w1 hw1
  have hC1 : Cur w1 w0.heap.size A n c 0 := by rw [hw1]; exact hc0.cur
  have hB := (by rw [hw1]; exact hB.alloc hB.size _ : Below w.heap.size w w1)
  have hlt := rowLt h2
  have h2 := (by rw [hw1]; exact rowAl h2 _ : w1.heap[w.heap.size]? = some (.cells #[.string ⟨#[]⟩, .string ⟨#[]⟩] 27 (0, 0)))
  clear hw1 hc0
  generalize w0.heap.size = g at hC1 hlt ⊢
  go_wp2_with fail
  refine (among_lit g n c _ _ A w1 [0, 1, 12, 59, 60, -1] _ _ _ rfl rfl (by simp) (by simp) hC1 hn (by omega)).mono ?_
  rintro e w4 ⟨k, rfl, hC4, hF4⟩
  have hB := hB.trans (hF4.below (by omega) hB.size)
  have h2 := (hF4.block _ (rowLt h2) (Or.inl hlt)).trans h2
  clear hC1 hF4
  go_wp2_with fail
  refine (logRecord_any g n c _ A w4 hC4 hn (by omega)).mono ?_
  rintro e w5 ⟨x, y, rfl, hx, hy, hC5, hF5⟩
  have hB := hB.trans (hF5.below (by omega) hB.size)
  have h2 := (hF5.block _ (rowLt h2) (Or.inl hlt)).trans h2
  obtain ⟨u0, u1, uf0, uf1⟩ := row2 h2
  clear hC4 hF5 hC5 h2
  go_wp2
  obtain ⟨wq, hwq⟩ : ∃ wq, wq = (w5.setCell ⟨w.heap.size, 0, none⟩ (.string x)).setCell ⟨w.heap.size, 1, none⟩ (.string y) := ⟨_, rfl⟩
  rw [← hwq]
  have q0 : wq.cell? ⟨w.heap.size, 0, none⟩ = some (.string x) := by rw [hwq]; go_simp
  have q1 : wq.cell? ⟨w.heap.size, 1, none⟩ = some (.string y) := by rw [hwq]; go_simp
  have hBq : Below w.heap.size w wq := by rw [hwq]; exact (hB.setCell (Nat.le_refl _) _).setCell (Nat.le_refl _) _
  clear hwq
  refine bodyPost_ret (by simp [results, Tryd.results17, go_sem, q0, q1]; try rfl) rfl ?_
  exact ⟨k, x, y, rfl, hx, hy, hBq⟩
set_option maxHeartbeats 4000000 in
theorem DrawRecoverLog_any (A : Option Addr) (n c : Nat) (w : World) (hc : Code w A n) (hn : n ≤ 65536) :
    Calls Tryd.prog 20 #[.slice A n c] w fun e w' => ∃ s : BA, e = .returned (.string s) ∧ s.size ≤ 4000000 ∧ Below w.heap.size w w' := by
  go_enter Tryd.func20, Tryd.ntmps20
  go_upto_region 2 with fail
  refine nameW0 ?_
  intro w1 hw1
  have hC1 : Cur w1 w.heap.size A n c 0 := by rw [hw1]; exact hc.cur
  have hB : Below w.heap.size w w1 := by rw [hw1]; exact (Below.refl _ w).alloc (Nat.le_refl _) _
  clear hw1 hc
  go_wp2_with fail
  refine (log_any w.heap.size n c 0 A w1 hC1 hn (by omega)).mono ?_
  rintro e w2 ⟨D, P, z, rfl, hsz, hC2, hF2⟩
  have hB := hB.trans (hF2.below (Nat.le_refl _) hB.size)
  clear hC1 hF2
  go_upto_region 3 with fail
  refine nameW0 ?_
  intro w3 hw3
  have h3 : w3.heap[w2.heap.size]? = some (.cells #[.string D, .string P, .int .i64 z] 25 (0, 0)) := by rw [hw3]; exact heap_alloc_new w2 _
  have hC3 := (by rw [hw3]; exact hC2.alloc _ : Cur w3 w.heap.size A n c (0 + 70))
  have hB := (by rw [hw3]; exact hB.alloc hB.size _ : Below w.heap.size w w3)
  clear hw3 hC2
  obtain ⟨c0, c1, c2, f0, f1, f2⟩ := row3 h3
  clear h3
  generalize w2.heap.size = b4 at *
  have hszi : (D.size : Int) + (P.size : Int) ≤ 30000 := by omega
  go_wp2_with fail
  refine (pick_any w.heap.size n c _ 4 A w3 hC3 hn (by omega) (by omega) (by omega)).mono ?_
  rintro e w4 ⟨m, rfl, hm, hC4, hF4⟩
  have hB := hB.trans (hF4.below (Nat.le_refl _) hB.size)
  clear hC3 hF4 c0 c1 c2 f0 f1 f2
  have hS : (D ++ P).size ≤ 30000 := by simp only [ByteArray.size_append']; omega
  generalize D ++ P = S at hS ⊢
  clear hszi hsz
  by_cases m0 : m = 0
  · subst m0
    go_wp2_with fail
    refine (spoilt_any S (by omega) w.heap.size n c _ A w4 hC4 hn (by omega)).mono ?_
    rintro e w5 ⟨s, rfl, hs, hC5, hF5⟩
    have hB := hB.trans (hF5.below (Nat.le_refl _) hB.size)
    clear hC4 hF5
    go_wp2_with fail
    refine (one_any w.heap.size n c _ 40 A w5 hC5 hn (by omega) (by omega) (by omega)).mono ?_
    rintro e v1 ⟨bq, rfl, hCq, hFq⟩
    have hB := hB.trans (hFq.below (Nat.le_refl _) hB.size)
    clear hFq hC5
    cases bq with
    | false =>
      clear hCq
      go_wp2
      go_ret
      exact ⟨_, rfl, by omega, hB⟩
    | true =>
      go_wp2_with fail
      refine (pick_any w.heap.size n c _ 2 A v1 hCq hn (by omega) (by omega) (by omega)).mono ?_
      rintro e v2 ⟨q, rfl, hq, hCq2, hFq2⟩
      have hB := hB.trans (hFq2.below (Nat.le_refl _) hB.size)
      clear hFq2 hCq2 hCq
      obtain ⟨vb, hmk, hcv, hbv⟩ := make_zero v2 (30000 + q) (by omega)
      have hB := below_of hB hbv hB.size
      have hqw : IntKind.i64.wrap (30000 + (q : Int)) = ((30000 + q : Nat) : Int) := by rw [IntWalk.i64_in _ (by omega)]; omega
      have hqc : ((30000 + q : Nat) : Int) = 30000 + (q : Int) := by omega
      rw [hqc] at hmk hqw
      clear hqc
      go_wp2
      go_ret
      exact ⟨_, rfl, by show (List.replicate (30000 + q) (0 : UInt8)).toArray.size ≤ 4000000; simp; omega, hB⟩
  have m0i : ((m : Int) == 0) = false := by simp; omega
  by_cases m1 : m = 1
  · subst m1
    have hSw : IntKind.i64.wrap ((S.size : Int) + 1) = (S.size : Int) + 1 := by rw [IntWalk.i64_in _ (by omega)]
    go_wp2_with fail
    have hpk := pick_any w.heap.size n c _ (S.size + 1) A w4 hC4 hn (by omega) (by omega) (by omega)
    rw [show ((S.size + 1 : Nat) : Int) = (S.size : Int) + 1 by omega] at hpk
    refine hpk.mono ?_
    rintro e w5 ⟨i, rfl, hi, hC5, hF5⟩
    have hB := hB.trans (hF5.below (Nat.le_refl _) hB.size)
    have hii : (i : Int) ≤ (S.size : Int) := by omega
    have hss : (S.extract 0 i).size ≤ 30000 := by simp [ByteArray.size_extract]; omega
    clear hC4 hF5 hpk
    go_wp2_with fail
    refine (one_any w.heap.size n c _ 40 A w5 hC5 hn (by omega) (by omega) (by omega)).mono ?_
    rintro e v1 ⟨bq, rfl, hCq, hFq⟩
    have hB := hB.trans (hFq.below (Nat.le_refl _) hB.size)
    clear hFq hC5
    cases bq with
    | false =>
      clear hCq
      go_wp2
      go_ret
      exact ⟨_, rfl, by omega, hB⟩
    | true =>
      go_wp2_with fail
      refine (pick_any w.heap.size n c _ 2 A v1 hCq hn (by omega) (by omega) (by omega)).mono ?_
      rintro e v2 ⟨q, rfl, hq, hCq2, hFq2⟩
      have hB := hB.trans (hFq2.below (Nat.le_refl _) hB.size)
      clear hFq2 hCq2 hCq
      obtain ⟨vb, hmk, hcv, hbv⟩ := make_zero v2 (30000 + q) (by omega)
      have hB := below_of hB hbv hB.size
      have hqw : IntKind.i64.wrap (30000 + (q : Int)) = ((30000 + q : Nat) : Int) := by rw [IntWalk.i64_in _ (by omega)]; omega
      have hqc : ((30000 + q : Nat) : Int) = 30000 + (q : Int) := by omega
      rw [hqc] at hmk hqw
      clear hqc
      go_wp2
      go_ret
      exact ⟨_, rfl, by show (List.replicate (30000 + q) (0 : UInt8)).toArray.size ≤ 4000000; simp; omega, hB⟩
  have m1i : ((m : Int) == 1) = false := by simp; omega
  by_cases m2 : m = 2
  · subst m2
    go_wp2_with fail
    refine (pick_any w.heap.size n c _ 4 A w4 hC4 hn (by omega) (by omega) (by omega)).mono ?_
    rintro e w5 ⟨k, rfl, hk, hC5, hF5⟩
    have hB := hB.trans (hF5.below (Nat.le_refl _) hB.size)
    clear hC4 hF5
    go_wp2_with fail
    refine (logRecord_any w.heap.size n c _ A w5 hC5 hn (by omega)).mono ?_
    rintro e w6 ⟨x, y, rfl, hx, hy, hC6, hF6⟩
    have hB := hB.trans (hF6.below (Nat.le_refl _) hB.size)
    clear hC5 hF6
    go_wp2_with fail
    refine (l27Line_any k x y (by omega) (by omega) (by omega) (by omega) w6).mono ?_
    rintro e w7 ⟨rfl, hb7⟩
    have hB := below_of hB hb7 hB.size
    have hC7 := hC6.below hb7
    clear hC6 hb7
    have hl : (lineB k x y).size ≤ 3000100 := by
      have hz := numB_size (n := (k : Int)) (by omega) (by omega)
      have hss := sealB_size (bodyB k x y)
      have hsz : (bodyB k x y).size ≤ 3000000 := by
        simp only [bodyB, ByteArray.size_append', ByteArray.size_mk', List.size_toArray, List.length_cons, List.length_nil]; omega
      simp only [lineB, ByteArray.size_append', ByteArray.size_mk', List.size_toArray, List.length_cons, List.length_nil]; omega
    generalize lineB k x y = LN at hl ⊢
    have hsum : (S ++ LN).size ≤ 4000000 := by simp only [ByteArray.size_append']; omega
    go_wp2_with fail
    refine (one_any w.heap.size n c _ 40 A w7 hC7 hn (by omega) (by omega) (by omega)).mono ?_
    rintro e v1 ⟨bq, rfl, hCq, hFq⟩
    have hB := hB.trans (hFq.below (Nat.le_refl _) hB.size)
    clear hFq hC7
    cases bq with
    | false =>
      clear hCq
      go_wp2
      go_ret
      exact ⟨_, rfl, hsum, hB⟩
    | true =>
      go_wp2_with fail
      refine (pick_any w.heap.size n c _ 2 A v1 hCq hn (by omega) (by omega) (by omega)).mono ?_
      rintro e v2 ⟨q, rfl, hq, hCq2, hFq2⟩
      have hB := hB.trans (hFq2.below (Nat.le_refl _) hB.size)
      clear hFq2 hCq2 hCq
      obtain ⟨vb, hmk, hcv, hbv⟩ := make_zero v2 (30000 + q) (by omega)
      have hB := below_of hB hbv hB.size
      have hqw : IntKind.i64.wrap (30000 + (q : Int)) = ((30000 + q : Nat) : Int) := by rw [IntWalk.i64_in _ (by omega)]; omega
      have hqc : ((30000 + q : Nat) : Int) = 30000 + (q : Int) := by omega
      rw [hqc] at hmk hqw
      clear hqc
      go_wp2
      go_ret
      exact ⟨_, rfl, by show (List.replicate (30000 + q) (0 : UInt8)).toArray.size ≤ 4000000; simp; omega, hB⟩
  have m2i : ((m : Int) == 2) = false := by simp; omega
  go_wp2_with fail
  refine (one_any w.heap.size n c _ 40 A w4 hC4 hn (by omega) (by omega) (by omega)).mono ?_
  rintro e v1 ⟨bq, rfl, hCq, hFq⟩
  have hB := hB.trans (hFq.below (Nat.le_refl _) hB.size)
  clear hFq hC4
  cases bq with
  | false =>
    clear hCq
    go_wp2
    go_ret
    exact ⟨_, rfl, by omega, hB⟩
  | true =>
    go_wp2_with fail
    refine (pick_any w.heap.size n c _ 2 A v1 hCq hn (by omega) (by omega) (by omega)).mono ?_
    rintro e v2 ⟨q, rfl, hq, hCq2, hFq2⟩
    have hB := hB.trans (hFq2.below (Nat.le_refl _) hB.size)
    clear hFq2 hCq2 hCq
    obtain ⟨vb, hmk, hcv, hbv⟩ := make_zero v2 (30000 + q) (by omega)
    have hB := below_of hB hbv hB.size
    have hqw : IntKind.i64.wrap (30000 + (q : Int)) = ((30000 + q : Nat) : Int) := by rw [IntWalk.i64_in _ (by omega)]; omega
    have hqc : ((30000 + q : Nat) : Int) = 30000 + (q : Int) := by omega
    rw [hqc] at hmk hqw
    clear hqc
    go_wp2
    go_ret
    exact ⟨_, rfl, by show (List.replicate (30000 + q) (0 : UInt8)).toArray.size ≤ 4000000; simp; omega, hB⟩
end Go.Proofs.YtbhhlnciojcgbaaDoor
