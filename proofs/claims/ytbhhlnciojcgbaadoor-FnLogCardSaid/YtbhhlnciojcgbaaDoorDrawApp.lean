/-
  The draw of a log and of a record to append.
-/
import Derived.Test.YtbhhlnciojcgbaaDoorDrawAny
import Derived.Deep.Cut
namespace Go.Proofs.YtbhhlnciojcgbaaDoor
open Go.RowKit
set_option linter.unusedVariables false
set_option linter.unusedSimpArgs false
/-- What stands between the steps: a log that is not long in block b5, zeros in the blocks of the results. -/
structure AppIn (w wr : World) (g : Nat) (A : Option Addr) (n c q b2 b3 b5 B : Nat) : Prop where
  log : ∃ (D P : BA) (z : Int), D.size + P.size ≤ B ∧ wr.heap[b5]? = some (.cells #[.string D, .string P, .int .i64 z] 25 (0, 0))
  z2 : wr.heap[b2]? = some (.cells #[.string ⟨#[]⟩, .string ⟨#[]⟩, .int .i64 0] 25 (0, 0))
  z3 : wr.heap[b3]? = some (.cells #[.string ⟨#[]⟩, .string ⟨#[]⟩] 27 (0, 0))
  cur : Cur wr g A n c q
  below : Below w.heap.size w wr
theorem AppIn.weaken {w wr : World} {g n c q q' b2 b3 b5 B B' : Nat} {A : Option Addr} (h : AppIn w wr g A n c q b2 b3 b5 B) (hq : q ≤ q') (hB : B ≤ B') : AppIn w wr g A n c q' b2 b3 b5 B' :=
  ⟨by obtain ⟨D, P, z, h1, h2⟩ := h.log; exact ⟨D, P, z, Nat.le_trans h1 hB, h2⟩, h.z2, h.z3, h.cur.weaken hq, h.below⟩
theorem AppIn.store {w wr : World} {g n c q b2 b3 b5 B : Nat} {A : Option Addr} {D P D0 P0 : BA} {z z0 : Int} (hs : D.size + P.size ≤ B) (h5 : wr.heap[b5]? = some (.cells #[.string D0, .string P0, .int .i64 z0] 25 (0, 0))) (h2 : wr.heap[b2]? = some (.cells #[.string ⟨#[]⟩, .string ⟨#[]⟩, .int .i64 0] 25 (0, 0))) (h3 : wr.heap[b3]? = some (.cells #[.string ⟨#[]⟩, .string ⟨#[]⟩] 27 (0, 0))) (hC : Cur wr g A n c q) (hB : Below w.heap.size w wr) (hw : w.heap.size ≤ b5) (n2 : b5 ≠ b2) (n3 : b5 ≠ b3) (hg : g < b5) :
    AppIn w (((wr.setCell ⟨b5, 0, none⟩ (.string D)).setCell ⟨b5, 1, none⟩ (.string P)).setCell ⟨b5, 2, none⟩ (.int .i64 z)) g A n c q b2 b3 b5 B :=
  ⟨⟨D, P, z, hs, row3_set h5⟩, row3_far h2 n2, row_far (row_far (row_far h3 _ _ n3) _ _ n3) _ _ n3,
   ((hC.setOwn (q := ⟨b5, 0, none⟩) hg _).setOwn (q := ⟨b5, 1, none⟩) hg _).setOwn (q := ⟨b5, 2, none⟩) hg _,
   ((hB.setCell (p := ⟨b5, 0, none⟩) hw _).setCell (p := ⟨b5, 1, none⟩) hw _).setCell (p := ⟨b5, 2, none⟩) hw _⟩
set_option maxHeartbeats 4000000 in
theorem DrawAppendRecord_any (A : Option Addr) (n c : Nat) (w : World) (hc : Code w A n) (hn : n ≤ 65536) :
    Calls Tryd.prog 7 #[.slice A n c] w fun e w' => ∃ (D P : BA) (z : Int) (x y : BA), e = .returned (.tuple #[.agg #[.string D, .string P, .int .i64 z], .agg #[.string x, .string y]]) ∧ D.size + P.size ≤ 61000 ∧ x.size ≤ 20 ∧ y.size ≤ 20 ∧ Below w.heap.size w w' := by
  go_enter Tryd.func7, Tryd.ntmps7
  go_upto_region 1 with fail
  refine nameW0 ?_
  intro w0 hw0
  have h2 : w0.heap[w.heap.size]? = some (.cells #[.string ⟨#[]⟩, .string ⟨#[]⟩, .int .i64 0] 25 (0, 0)) := by rw [hw0]; exact heap_alloc2 w _ _
  have h3 : w0.heap[(w.heap.size + 1)]? = some (.cells #[.string ⟨#[]⟩, .string ⟨#[]⟩] 27 (0, 0)) := by
    rw [hw0]
    have h := heap_alloc_new (w.alloc (.cells #[.string ⟨#[]⟩, .string ⟨#[]⟩, .int .i64 0] 25)) (.cells #[.string ⟨#[]⟩, .string ⟨#[]⟩] 27)
    simpa using h
  have hB : Below w.heap.size w w0 := by rw [hw0]; exact ((Below.refl _ w).alloc (Nat.le_refl _) _).alloc (by simp) _
  have hc0 := hc.below hB
  clear hw0 hc
  obtain ⟨b2, hb2⟩ : ∃ b2, b2 = w.heap.size := ⟨_, rfl⟩
  obtain ⟨b3, hb3⟩ : ∃ b3, b3 = w.heap.size + 1 := ⟨_, rfl⟩
  rw [← hb3] at h3 ⊢
  rw [← hb2] at h2 ⊢
  have hle2 : w.heap.size ≤ b2 := by omega
  have hle3 : w.heap.size ≤ b3 := by omega
  have n23 : b2 ≠ b3 := by omega
  have n32 : b3 ≠ b2 := by omega
  have HB2 := Lib.hid hb2
  clear hb2 hb3
  go_upto_region 2 with fail
  refine nameW0 ?_
  intro w1 hw1
  have hC1 : Cur w1 w0.heap.size A n c 0 := by rw [hw1]; exact hc0.cur
  have hB := (by rw [hw1]; exact hB.alloc hB.size _ : Below w.heap.size w w1)
  have hl2 := rowLt h2
  have hl3 := rowLt h3
  have h2 := (by rw [hw1]; exact rowAl h2 _ : w1.heap[b2]? = some (.cells #[.string ⟨#[]⟩, .string ⟨#[]⟩, .int .i64 0] 25 (0, 0)))
  have h3 := (by rw [hw1]; exact rowAl h3 _ : w1.heap[b3]? = some (.cells #[.string ⟨#[]⟩, .string ⟨#[]⟩] 27 (0, 0)))
  clear hw1 hc0
  generalize w0.heap.size = g at hC1 hl2 hl3 ⊢
  go_wp2_with fail
  refine (anyLog_any g n c 0 A w1 hC1 hn (by omega)).mono ?_
  rintro e w2 ⟨D, P, z, rfl, hsz, hC2, hF2⟩
  have h2 := (hF2.block _ (rowLt h2) (Or.inl hl2)).trans h2
  have h3 := (hF2.block _ (rowLt h3) (Or.inl hl3)).trans h3
  have hB := hB.trans (hF2.below (by omega) hB.size)
  clear hC1 hF2
  go_upto_region 3 with fail
  refine nameW0 ?_
  intro w3 hw3
  have h5 : w3.heap[w2.heap.size]? = some (.cells #[.string D, .string P, .int .i64 z] 25 (0, 0)) := by rw [hw3]; exact heap_alloc_new w2 _
  have hg5 : g < w2.heap.size := hC2.lt
  have h2 := (by rw [hw3]; exact rowAl h2 _ : w3.heap[b2]? = some (.cells #[.string ⟨#[]⟩, .string ⟨#[]⟩, .int .i64 0] 25 (0, 0)))
  have h3 := (by rw [hw3]; exact rowAl h3 _ : w3.heap[b3]? = some (.cells #[.string ⟨#[]⟩, .string ⟨#[]⟩] 27 (0, 0)))
  have hC3 := (by rw [hw3]; exact hC2.alloc _ : Cur w3 g A n c (0 + 80))
  have hB := (by rw [hw3]; exact hB.alloc hB.size _ : Below w.heap.size w w3)
  clear hw3 hC2
  generalize w2.heap.size = b5 at h5 hg5 ⊢
  go_wp2_with fail
  refine (one_any g n c _ 40 A w3 hC3 hn (by omega) (by omega) (by omega)).mono ?_
  rintro e w4 ⟨bq, rfl, hC4, hF4⟩
  have hin : AppIn w w4 g A n c 202 b2 b3 b5 61000 :=
    ⟨⟨D, P, z, hsz, rowFr h5 hF4 hg5⟩, (hF4.block _ (rowLt h2) (Or.inl hl2)).trans h2, (hF4.block _ (rowLt h3) (Or.inl hl3)).trans h3, hC4.weaken (by omega), hB.trans (hF4.below (by omega) hB.size)⟩
  clear h2 h3 h5 hC3 hC4 hF4 hB hsz
  cases bq with
  | false =>
    have hin := hin.weaken (q' := 204) (B' := 61000) (by omega) (Nat.le_refl _)
    obtain ⟨wz, hwz⟩ : ∃ wz, wz = w4 := ⟨_, rfl⟩
    rw [← hwz] at hin ⊢
    clear hwz
    obtain ⟨⟨D, P, z, hsz, h5⟩, h2, h3, hC, hB⟩ := hin
    obtain ⟨a0, a1, a2, af0, af1, af2⟩ := row3 h5
    obtain ⟨u0, u1, u2, uf0, uf1, uf2⟩ := row3 h2
    obtain ⟨v0, v1, vf0, vf1⟩ := row2 h3
    have hCd : Cur wz.drew g A n c 204 := hC.drewN 1
    have hBd : Below w.heap.size w wz.drew := below_drewN hB 1
    have h2d : wz.drew.heap[b2]? = some (.cells #[.string ⟨#[]⟩, .string ⟨#[]⟩, .int .i64 0] 25 (0, 0)) := h2
    have h3d : wz.drew.heap[b3]? = some (.cells #[.string ⟨#[]⟩, .string ⟨#[]⟩] 27 (0, 0)) := h3
    have h5d : wz.drew.heap[b5]? = some (.cells #[.string D, .string P, .int .i64 z] 25 (0, 0)) := h5
    clear hC hB h2 h3 h5
    go_upto_region 9 with fail
    go_region_with (first | (refine (logRecord_any g n c 204 A wz.drew hCd hn ?_).mono ?_; (omega); rintro e wa ⟨x, y, rfl, hx, hy, hCa, hFa⟩; have h5a := rowFr h5d hFa hg5; obtain ⟨ca0, ca1, ca2, cf0, cf1, cf2⟩ := row3 h5a; have h2a := (hFa.block _ (rowLt h2d) (Or.inl hl2)).trans h2d; obtain ⟨da0, da1, da2, df0, df1, df2⟩ := row3 h2a; have h3a := (hFa.block _ (rowLt h3d) (Or.inl hl3)).trans h3d; obtain ⟨ea0, ea1, ef0, ef1⟩ := row2 h3a))
    all_goals
      obtain ⟨wq, hwq⟩ : ∃ wq, wq = ((((wa.setCell ⟨b2, 0, none⟩ (.string D)).setCell ⟨b2, 1, none⟩ (.string P)).setCell ⟨b2, 2, none⟩ (.int .i64 z)).setCell ⟨b3, 0, none⟩ (.string x)).setCell ⟨b3, 1, none⟩ (.string y) := ⟨_, rfl⟩
      rw [← hwq]
      have q0 : wq.cell? ⟨b2, 0, none⟩ = some (.string D) := by rw [hwq]; go_simp
      have q1 : wq.cell? ⟨b2, 1, none⟩ = some (.string P) := by rw [hwq]; go_simp
      have q2 : wq.cell? ⟨b2, 2, none⟩ = some (.int .i64 z) := by rw [hwq]; go_simp
      have q3 : wq.cell? ⟨b3, 0, none⟩ = some (.string x) := by rw [hwq]; go_simp
      have q4 : wq.cell? ⟨b3, 1, none⟩ = some (.string y) := by rw [hwq]; go_simp
      have hBa : Below w.heap.size w wa := hBd.trans (hFa.below (by omega) hBd.size)
      have hBq : Below w.heap.size w wq := by rw [hwq]; exact ((((hBa.setCell (p := ⟨b2, 0, none⟩) (by show _ ≤ b2; omega) _).setCell (p := ⟨b2, 1, none⟩) (by show _ ≤ b2; omega) _).setCell (p := ⟨b2, 2, none⟩) (by show _ ≤ b2; omega) _).setCell (p := ⟨b3, 0, none⟩) (by show _ ≤ b3; omega) _).setCell (p := ⟨b3, 1, none⟩) (by show _ ≤ b3; omega) _
      have hBq2 : Below b2 w wq := by rw [HB2.out]; exact hBq
      clear hwq
      go_wp2
      refine bodyPost_ret (by simp [results, Tryd.results7, go_sem, q0, q1, q2, q3, q4]; try rfl) rfl ?_
      first | exact ⟨D, P, z, x, y, rfl, hsz, hx, hy, (by first | exact hBq | exact hBq2)⟩ | exact ⟨D, P, z, ⟨x, y, rfl, hsz, hx, hy, (by first | exact hBq | exact hBq2)⟩⟩
  | true =>
    obtain ⟨⟨D, P, z, hsz, h5⟩, h2, h3, hC, hB⟩ := hin
    obtain ⟨a0, a1, a2, af0, af1, af2⟩ := row3 h5
    have n52 : b5 ≠ b2 := by omega
    have n53 : b5 ≠ b3 := by omega
    have hw5 : w.heap.size ≤ b5 := by omega
    go_upto_region 5 with fail
    refine nameW0 ?_
    intro w5 hw5e
    have hin : AppIn w w5 g A n c 202 b2 b3 b5 30000 := by rw [hw5e]; exact AppIn.store (by show 0 + 0 ≤ 30000; omega) h5 h2 h3 hC hB hw5 n52 n53 hg5
    clear hw5e h5 h2 h3 hC hB a0 a1 a2 af0 af1 af2 hsz
    obtain ⟨hlog, h2, h3, hC, hB⟩ := hin
    go_wp2_with fail
    refine (pick_any g n c 202 2 A w5 hC hn (by omega) (by omega) (by omega)).mono ?_
    rintro e w6 ⟨q, rfl, hq, hC6, hF6⟩
    have hin : AppIn w w6 g A n c 204 b2 b3 b5 30000 :=
      ⟨by obtain ⟨D, P, z, h1, h5⟩ := hlog; exact ⟨D, P, z, h1, rowFr h5 hF6 hg5⟩, (hF6.block _ (rowLt h2) (Or.inl hl2)).trans h2, (hF6.block _ (rowLt h3) (Or.inl hl3)).trans h3, hC6, hB.trans (hF6.below (by omega) hB.size)⟩
    clear hlog h2 h3 hC hB hC6 hF6
    have hqw : IntKind.i64.wrap (59 + (q : Int)) = ((59 + q : Nat) : Int) := by rw [IntWalk.i64_in _ (by omega)]; omega
    go_wp2_with fail
    go_loopw [6] (fun nv wr => ∃ k : Nat, k ≤ 61 ∧ nv = .int .i64 k ∧ AppIn w wr g A n c 204 b2 b3 b5 30000) (fun nv _ => (intOf nv).toNat)
    case atStart => exact ⟨59 + q, by omega, by first | rfl | (simp; done) | (congr 1; omega), hin⟩
    case round =>
      obtain ⟨k, hk, rfl, hin2⟩ := hrel
      clear hin
      by_cases hlt : 0 < k
      · have hki : (0 : Int) < (k : Int) := by omega
        have hkw : IntKind.i64.wrap ((k : Int) - 1) = ((k - 1 : Nat) : Int) := by rw [IntWalk.i64_in _ (by omega)]; omega
        obtain ⟨⟨D, P, z, hsz, h5⟩, h2, h3, hC, hB⟩ := hin2
        obtain ⟨a0, a1, a2, af0, af1, af2⟩ := row3 h5
        go_wp2_with fail
        refine (sAppend_sz D P z ⟨#[120]⟩ ⟨#[]⟩ hsz (by decide) (by decide) wr).mono ?_
        rintro e wb ⟨P', z', kk, rfl, hszb, hbb⟩
        have h5b := rowB h5 hbb
        obtain ⟨e0, e1, e2, ef0, ef1, ef2⟩ := row3 h5b
        have HIN := Lib.hid (AppIn.store (D := D) (P := P') (z := z') hszb h5b (rowB h2 hbb) (rowB h3 hbb) (hC.below hbb) (below_of hB hbb hB.size) hw5 n52 n53 hg5)
        clear a0 a1 a2 af0 af1 af2 h5 h2 h3 hC hB hbb h5b
        go_wp2
        go_roundw
        case rel => exact ⟨k - 1, by omega, by go_num, HIN.out⟩
        case measure => simp [intOf]; omega
      · have hki : ¬ ((0 : Int) < (k : Int)) := by omega
        have hin := hin2.weaken (q' := 204) (B' := 61000) (Nat.le_refl _) (by omega)
        clear hin2
        obtain ⟨wz, hwz⟩ : ∃ wz, wz = wr := ⟨_, rfl⟩
        rw [← hwz] at hin ⊢
        clear hwz
        obtain ⟨⟨D, P, z, hsz, h5⟩, h2, h3, hC, hB⟩ := hin
        obtain ⟨a0, a1, a2, af0, af1, af2⟩ := row3 h5
        obtain ⟨u0, u1, u2, uf0, uf1, uf2⟩ := row3 h2
        obtain ⟨v0, v1, vf0, vf1⟩ := row2 h3
        have hCd : Cur wz.drew g A n c 204 := hC.drewN 1
        have hBd : Below w.heap.size w wz.drew := below_drewN hB 1
        have h2d : wz.drew.heap[b2]? = some (.cells #[.string ⟨#[]⟩, .string ⟨#[]⟩, .int .i64 0] 25 (0, 0)) := h2
        have h3d : wz.drew.heap[b3]? = some (.cells #[.string ⟨#[]⟩, .string ⟨#[]⟩] 27 (0, 0)) := h3
        have h5d : wz.drew.heap[b5]? = some (.cells #[.string D, .string P, .int .i64 z] 25 (0, 0)) := h5
        clear hC hB h2 h3 h5
        go_upto_region 9 with fail
        go_region_with (first | (refine (logRecord_any g n c 204 A wz.drew hCd hn ?_).mono ?_; (omega); rintro e wa ⟨x, y, rfl, hx, hy, hCa, hFa⟩; have h5a := rowFr h5d hFa hg5; obtain ⟨ca0, ca1, ca2, cf0, cf1, cf2⟩ := row3 h5a; have h2a := (hFa.block _ (rowLt h2d) (Or.inl hl2)).trans h2d; obtain ⟨da0, da1, da2, df0, df1, df2⟩ := row3 h2a; have h3a := (hFa.block _ (rowLt h3d) (Or.inl hl3)).trans h3d; obtain ⟨ea0, ea1, ef0, ef1⟩ := row2 h3a))
        all_goals
          obtain ⟨wq, hwq⟩ : ∃ wq, wq = ((((wa.setCell ⟨b2, 0, none⟩ (.string D)).setCell ⟨b2, 1, none⟩ (.string P)).setCell ⟨b2, 2, none⟩ (.int .i64 z)).setCell ⟨b3, 0, none⟩ (.string x)).setCell ⟨b3, 1, none⟩ (.string y) := ⟨_, rfl⟩
          rw [← hwq]
          have q0 : wq.cell? ⟨b2, 0, none⟩ = some (.string D) := by rw [hwq]; go_simp
          have q1 : wq.cell? ⟨b2, 1, none⟩ = some (.string P) := by rw [hwq]; go_simp
          have q2 : wq.cell? ⟨b2, 2, none⟩ = some (.int .i64 z) := by rw [hwq]; go_simp
          have q3 : wq.cell? ⟨b3, 0, none⟩ = some (.string x) := by rw [hwq]; go_simp
          have q4 : wq.cell? ⟨b3, 1, none⟩ = some (.string y) := by rw [hwq]; go_simp
          have hBa : Below w.heap.size w wa := hBd.trans (hFa.below (by omega) hBd.size)
          have hBq : Below w.heap.size w wq := by rw [hwq]; exact ((((hBa.setCell (p := ⟨b2, 0, none⟩) (by show _ ≤ b2; omega) _).setCell (p := ⟨b2, 1, none⟩) (by show _ ≤ b2; omega) _).setCell (p := ⟨b2, 2, none⟩) (by show _ ≤ b2; omega) _).setCell (p := ⟨b3, 0, none⟩) (by show _ ≤ b3; omega) _).setCell (p := ⟨b3, 1, none⟩) (by show _ ≤ b3; omega) _
          have hBq2 : Below b2 w wq := by rw [HB2.out]; exact hBq
          clear hwq
          go_wp2
          refine bodyPost_ret (by simp [results, Tryd.results7, go_sem, q0, q1, q2, q3, q4]; try rfl) rfl ?_
          first | exact ⟨D, P, z, x, y, rfl, hsz, hx, hy, (by first | exact hBq | exact hBq2)⟩ | exact ⟨D, P, z, ⟨x, y, rfl, hsz, hx, hy, (by first | exact hBq | exact hBq2)⟩⟩
end Go.Proofs.YtbhhlnciojcgbaaDoor
