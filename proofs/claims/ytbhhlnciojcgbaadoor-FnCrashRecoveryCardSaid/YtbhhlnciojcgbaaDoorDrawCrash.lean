/-
  The draw of a log that crashes.
-/
import Derived.Test.YtbhhlnciojcgbaaDoorDrawAny
import Derived.Deep.Cut
namespace Go.Proofs.YtbhhlnciojcgbaaDoor
open Go.RowKit
set_option linter.unusedVariables false
set_option linter.unusedSimpArgs false
set_option maxHeartbeats 4000000 in
theorem DrawCrashLog_any (A : Option Addr) (n c : Nat) (w : World) (hc : Code w A n) (hn : n ≤ 65536) :
    Calls Tryd.prog 22 #[.slice A n c] w fun e w' => ∃ (D P : BA) (z k : Int) (torn : Bool), e = .returned (.tuple #[.agg #[.string D, .string P, .int .i64 z], .int .i64 k, .bool torn]) ∧ D.size + P.size ≤ 61000 ∧ Below w.heap.size w w' := by
  go_enter Tryd.func22, Tryd.ntmps22
  go_upto_region 1 with fail
  refine nameW0 ?_
  intro w0 hw0
  have h2 : w0.heap[w.heap.size]? = some (.cells #[.string ⟨#[]⟩, .string ⟨#[]⟩, .int .i64 0] 25 (0, 0)) := by rw [hw0]; exact heap_alloc_new w _
  have hB : Below w.heap.size w w0 := by rw [hw0]; exact (Below.refl _ w).alloc (Nat.le_refl _) _
  have hc0 := hc.below hB
  clear hw0 hc
  obtain ⟨b2, hb2⟩ : ∃ b2, b2 = w.heap.size := ⟨_, rfl⟩
  rw [← hb2] at h2 ⊢
  have hle2 : w.heap.size ≤ b2 := by omega
  have HB2 := Lib.hid hb2
  clear hb2
  go_upto_region 2 with fail
  refine nameW0 ?_
  intro w1 hw1
  have hC1 : Cur w1 w0.heap.size A n c 0 := by rw [hw1]; exact hc0.cur
  have hB := (by rw [hw1]; exact hB.alloc hB.size _ : Below w.heap.size w w1)
  have hl2 := rowLt h2
  have h2 := (by rw [hw1]; exact rowAl h2 _ : w1.heap[b2]? = some (.cells #[.string ⟨#[]⟩, .string ⟨#[]⟩, .int .i64 0] 25 (0, 0)))
  clear hw1 hc0
  generalize w0.heap.size = g at hC1 hl2 ⊢
  go_wp2_with fail
  refine (anyLog_any g n c 0 A w1 hC1 hn (by omega)).mono ?_
  rintro e w2 ⟨D, P, z, rfl, hsz, hC2, hF2⟩
  have h2 := (hF2.block _ (rowLt h2) (Or.inl hl2)).trans h2
  have hB := hB.trans (hF2.below (by omega) hB.size)
  clear hC1 hF2
  go_upto_region 3 with fail
  refine nameW0 ?_
  intro w3 hw3
  have h5 : w3.heap[w2.heap.size]? = some (.cells #[.string D, .string P, .int .i64 z] 25 (0, 0)) := by rw [hw3]; exact heap_alloc_new w2 _
  have hg5 : g < w2.heap.size := hC2.lt
  have h2 := (by rw [hw3]; exact rowAl h2 _ : w3.heap[b2]? = some (.cells #[.string ⟨#[]⟩, .string ⟨#[]⟩, .int .i64 0] 25 (0, 0)))
  have hC3 := (by rw [hw3]; exact hC2.alloc _ : Cur w3 g A n c (0 + 80))
  have hB := (by rw [hw3]; exact hB.alloc hB.size _ : Below w.heap.size w w3)
  clear hw3 hC2
  generalize w2.heap.size = b5 at h5 hg5 ⊢
  obtain ⟨a0, a1, a2, af0, af1, af2⟩ := row3 h5
  have hsz3 : (P.size : Int) ≤ 61000 := by omega
  go_wp2_with fail
  rw [show (P.size : Int) + 3 = ((P.size + 3 : Nat) : Int) by omega]
  refine (pick_any g n c _ (P.size + 3) A w3 hC3 hn (by omega) (by omega) (by omega)).mono ?_
  rintro e w4 ⟨q, rfl, hq, hC4, hF4⟩
  have h5 := rowFr h5 hF4 hg5
  have h2 := (hF4.block _ (rowLt h2) (Or.inl hl2)).trans h2
  have hB := hB.trans (hF4.below (by omega) hB.size)
  clear hC3 hF4 a0 a1 a2 af0 af1 af2
  have hCd : Cur w4.drew g A n c (0 + 80 + 2) := hC4.drewN 1
  have hBd : Below w.heap.size w w4.drew := below_drewN hB 1
  have h2d : w4.drew.heap[b2]? = some (.cells #[.string ⟨#[]⟩, .string ⟨#[]⟩, .int .i64 0] 25 (0, 0)) := h2
  have h5d : w4.drew.heap[b5]? = some (.cells #[.string D, .string P, .int .i64 z] 25 (0, 0)) := h5
  obtain ⟨t0, t1, t2, tf0, tf1, tf2⟩ := row3 h5d
  obtain ⟨u0, u1, u2, uf0, uf1, uf2⟩ := row3 h2d
  have hkw : ∃ k : Int, k = (q : Int) - 1 := ⟨_, rfl⟩
  have hne : b5 ≠ b2 := by omega
  have hge : g ≠ b2 := by omega
  clear hC4 h2 h5 hB
  go_upto_region 4 with fail
  go_region_with (first | (refine (one_any g n c _ 2 A w4.drew hCd hn (by omega) (by omega) (by omega)).mono ?_; rintro e wa ⟨bq, rfl, hCa, hFa⟩; have h5a := rowFr h5d hFa hg5; obtain ⟨ca0, ca1, ca2, cf0, cf1, cf2⟩ := row3 h5a; have h2a := (hFa.block _ (rowLt h2d) (Or.inl hl2)).trans h2d; obtain ⟨da0, da1, da2, df0, df1, df2⟩ := row3 h2a))
  all_goals
    obtain ⟨wq, hwq⟩ : ∃ wq, wq = (((wa.setCell ⟨b2, 0, none⟩ (.string D)).setCell ⟨b2, 1, none⟩ (.string P)).setCell ⟨b2, 2, none⟩ (.int .i64 z)) := ⟨_, rfl⟩
    rw [← hwq]
    have q0 : wq.cell? ⟨b2, 0, none⟩ = some (.string D) := by rw [hwq]; go_simp
    have q1 : wq.cell? ⟨b2, 1, none⟩ = some (.string P) := by rw [hwq]; go_simp
    have q2 : wq.cell? ⟨b2, 2, none⟩ = some (.int .i64 z) := by rw [hwq]; go_simp
    have hBa : Below w.heap.size w wa := hBd.trans (hFa.below (by omega) hBd.size)
    have hBq : Below w.heap.size w wq := by rw [hwq]; exact ((hBa.setCell (p := ⟨b2, 0, none⟩) hle2 _).setCell (p := ⟨b2, 1, none⟩) hle2 _).setCell (p := ⟨b2, 2, none⟩) hle2 _
    clear hwq
    go_wp2
    refine bodyPost_ret (by simp [results, Tryd.results22, go_sem, q0, q1, q2]; try rfl) rfl ?_
    first | exact ⟨D, P, z, _, bq, rfl, hsz, hBq⟩ | exact ⟨D, P, z, ⟨_, bq, rfl, hsz, hBq⟩⟩
end Go.Proofs.YtbhhlnciojcgbaaDoor
