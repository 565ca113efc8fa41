/-
  The draw of any log: one that may be spoilt.
-/
import Derived.Test.YtbhhlnciojcgbaaDoorDrawLog
import Derived.Deep.Cut
namespace Go.Proofs.YtbhhlnciojcgbaaDoor
open Go.RowKit
set_option linter.unusedVariables false
set_option linter.unusedSimpArgs false
set_option maxHeartbeats 4000000 in
theorem anyLog_any (g n c p : Nat) (A : Option Addr) (w : World) (hC : Cur w g A n c p) (hn : n ≤ 65536) (hp : p ≤ 80000000) :
    Calls Tryd.prog 26 #[.pointer (some ⟨g, 0, none⟩)] w fun e w' => ∃ (D P : BA) (z : Int), e = .returned (.agg #[.string D, .string P, .int .i64 z]) ∧ D.size + P.size ≤ 61000 ∧ Cur w' g A n c (p + 80) ∧ Fr g (g + 1) w w' := by
  go_enter Tryd.func26, Tryd.ntmps26
  go_upto_region 1 with fail
  refine nameW0 ?_
  intro w0 hw0
  have h2 : w0.heap[w.heap.size]? = some (.cells #[.string ⟨#[]⟩, .string ⟨#[]⟩, .int .i64 0] 25 (0, 0)) := by rw [hw0]; exact heap_alloc_new w _
  have hC0 : Cur w0 g A n c p := by rw [hw0]; exact hC.alloc _
  have hF : Fr g (g + 1) w w0 := by rw [hw0]; exact Fr.of_below g (g + 1) ((Below.refl _ w).alloc (Nat.le_refl _) _)
  have hg2 : g < w.heap.size := hC.lt
  clear hw0 hC
  go_wp2_with fail
  refine (log_any g n c p A w0 hC0 hn (by omega)).mono ?_
  rintro e w2 ⟨D, P, z, rfl, hsz, hC2, hF2⟩
  have h2 := rowFr h2 hF2 hg2
  have hF := hF.trans hF2
  clear hC0 hF2
  go_upto_region 2 with fail
  refine nameW0 ?_
  intro w3 hw3
  have h3 : w3.heap[w2.heap.size]? = some (.cells #[.string D, .string P, .int .i64 z] 25 (0, 0)) := by rw [hw3]; exact heap_alloc_new w2 _
  have hg3 : w.heap.size < w2.heap.size := rowLt h2
  have h2 := (by rw [hw3]; exact rowAl h2 _ : w3.heap[w.heap.size]? = some (.cells #[.string ⟨#[]⟩, .string ⟨#[]⟩, .int .i64 0] 25 (0, 0)))
  have hC3 := (by rw [hw3]; exact hC2.alloc _ : Cur w3 g A n c (p + 70))
  have hF := (by rw [hw3]; exact hF.alloc' _ : Fr g (g + 1) w w3)
  clear hw3 hC2
  generalize w2.heap.size = b3 at h3 hg3 ⊢
  go_wp2_with fail
  refine (pick_any g n c _ 24 A w3 hC3 hn (by omega) (by omega) (by omega)).mono ?_
  rintro e w4 ⟨m, rfl, hm, hC4, hF4⟩
  have h2 := rowFr h2 hF4 hg2
  have h3 := rowFr h3 hF4 (by omega)
  have hF := hF.trans hF4
  clear hC3 hF4
  by_cases m0 : m = 0
  · subst m0
    obtain ⟨u0, u1, u2, uf0, uf1, uf2⟩ := row3 h2
    obtain ⟨v0, v1, v2, vf0, vf1, vf2⟩ := row3 h3
    have hne : w.heap.size ≠ b3 := by omega
    have hne2 : b3 ≠ w.heap.size := by omega
    have HC := Lib.hid hC4
    have HF := Lib.hid hF
    have HG := Lib.hid hg2
    have HB3 := Lib.hid hg3
    clear h2 h3 hF hC4
    go_wp2
    obtain ⟨wq, hwq⟩ : ∃ wq, wq = ((((w4.setCell ⟨b3, 2, none⟩ (.int .i64 (wrap64 (z + 1)))).setCell ⟨w.heap.size, 0, none⟩ (.string D)).setCell ⟨w.heap.size, 1, none⟩ (.string P)).setCell ⟨w.heap.size, 2, none⟩ (.int .i64 (wrap64 (z + 1)))) := ⟨_, rfl⟩
    rw [← hwq]
    have q0 : wq.cell? ⟨w.heap.size, 0, none⟩ = some (.string D) := by rw [hwq]; go_simp
    have q1 : wq.cell? ⟨w.heap.size, 1, none⟩ = some (.string P) := by rw [hwq]; go_simp
    have q2 : wq.cell? ⟨w.heap.size, 2, none⟩ = some (.int .i64 (wrap64 (z + 1))) := by rw [hwq]; go_simp
    have hFq : Fr g (g + 1) w wq := by rw [hwq]; exact ((((HF.out.setOwn (j := 0) (p := ⟨b3, 2, none⟩) (Nat.le_of_lt HB3.out) _).setOwn (j := 0) (p := ⟨w.heap.size, 0, none⟩) (Nat.le_refl _) _).setOwn (j := 0) (p := ⟨w.heap.size, 1, none⟩) (Nat.le_refl _) _).setOwn (j := 0) (p := ⟨w.heap.size, 2, none⟩) (Nat.le_refl _) _)
    have hCq : Cur wq g A n c (p + 80) := by rw [hwq]; exact (((((HC.out.weaken (by omega) : Cur w4 g A n c (p + 80)).setOwn (q := ⟨b3, 2, none⟩) (Nat.lt_trans HG.out HB3.out) _).setOwn (q := ⟨w.heap.size, 0, none⟩) HG.out _).setOwn (q := ⟨w.heap.size, 1, none⟩) HG.out _).setOwn (q := ⟨w.heap.size, 2, none⟩) HG.out _)
    clear hwq
    refine bodyPost_ret (by simp [results, Tryd.results26, go_sem, q0, q1, q2]; try rfl) rfl ?_
    have hbd : D.size + P.size ≤ 61000 := by omega
    first | exact ⟨D, P, _, rfl, hbd, hCq, hFq⟩ | exact ⟨D, P, ⟨_, rfl⟩, hbd, hCq, hFq⟩
  have m0i : ((m : Int) == 0) = false := by simp; omega
  by_cases m1 : m = 1
  · subst m1
    obtain ⟨t0, t1, t2, tf0, tf1, tf2⟩ := row3 h3
    go_wp2_with fail
    clear t0 t1 t2 tf0 tf1 tf2
    refine (spoilt_any P (by omega) g n c _ A w4 hC4 hn (by omega)).mono ?_
    rintro e w5 ⟨s, rfl, hs, hC5, hF5⟩
    have h2 := rowFr h2 hF5 hg2
    have h3 := rowFr h3 hF5 (by omega)
    have hF := hF.trans hF5
    clear hC4 hF5
    obtain ⟨u0, u1, u2, uf0, uf1, uf2⟩ := row3 h2
    obtain ⟨v0, v1, v2, vf0, vf1, vf2⟩ := row3 h3
    have hne : w.heap.size ≠ b3 := by omega
    have hne2 : b3 ≠ w.heap.size := by omega
    have HC := Lib.hid hC5
    have HF := Lib.hid hF
    have HG := Lib.hid hg2
    have HB3 := Lib.hid hg3
    clear h2 h3 hF hC5
    go_wp2
    obtain ⟨wq, hwq⟩ : ∃ wq, wq = ((((w5.setCell ⟨b3, 1, none⟩ (.string s)).setCell ⟨w.heap.size, 0, none⟩ (.string D)).setCell ⟨w.heap.size, 1, none⟩ (.string s)).setCell ⟨w.heap.size, 2, none⟩ (.int .i64 z)) := ⟨_, rfl⟩
    rw [← hwq]
    have q0 : wq.cell? ⟨w.heap.size, 0, none⟩ = some (.string D) := by rw [hwq]; go_simp
    have q1 : wq.cell? ⟨w.heap.size, 1, none⟩ = some (.string s) := by rw [hwq]; go_simp
    have q2 : wq.cell? ⟨w.heap.size, 2, none⟩ = some (.int .i64 z) := by rw [hwq]; go_simp
    have hFq : Fr g (g + 1) w wq := by rw [hwq]; exact ((((HF.out.setOwn (j := 0) (p := ⟨b3, 1, none⟩) (Nat.le_of_lt HB3.out) _).setOwn (j := 0) (p := ⟨w.heap.size, 0, none⟩) (Nat.le_refl _) _).setOwn (j := 0) (p := ⟨w.heap.size, 1, none⟩) (Nat.le_refl _) _).setOwn (j := 0) (p := ⟨w.heap.size, 2, none⟩) (Nat.le_refl _) _)
    have hCq : Cur wq g A n c (p + 80) := by rw [hwq]; exact (((((HC.out.weaken (by omega) : Cur w5 g A n c (p + 80)).setOwn (q := ⟨b3, 1, none⟩) (Nat.lt_trans HG.out HB3.out) _).setOwn (q := ⟨w.heap.size, 0, none⟩) HG.out _).setOwn (q := ⟨w.heap.size, 1, none⟩) HG.out _).setOwn (q := ⟨w.heap.size, 2, none⟩) HG.out _)
    clear hwq
    refine bodyPost_ret (by simp [results, Tryd.results26, go_sem, q0, q1, q2]; try rfl) rfl ?_
    have hbd : D.size + s.size ≤ 61000 := by omega
    first | exact ⟨D, s, _, rfl, hbd, hCq, hFq⟩ | exact ⟨D, s, ⟨_, rfl⟩, hbd, hCq, hFq⟩
  have m1i : ((m : Int) == 1) = false := by simp; omega
  by_cases m2 : m = 2
  · subst m2
    have hszi : (D.size : Int) + (P.size : Int) ≤ 30000 := by omega
    obtain ⟨u0, u1, u2, uf0, uf1, uf2⟩ := row3 h2
    obtain ⟨v0, v1, v2, vf0, vf1, vf2⟩ := row3 h3
    have hne : w.heap.size ≠ b3 := by omega
    have hne2 : b3 ≠ w.heap.size := by omega
    have HC := Lib.hid hC4
    have HF := Lib.hid hF
    have HG := Lib.hid hg2
    have HB3 := Lib.hid hg3
    clear h2 h3 hF hC4
    go_wp2
    obtain ⟨wq, hwq⟩ : ∃ wq, wq = ((((w4.setCell ⟨b3, 0, none⟩ (.string (D ++ P))).setCell ⟨w.heap.size, 0, none⟩ (.string (D ++ P))).setCell ⟨w.heap.size, 1, none⟩ (.string P)).setCell ⟨w.heap.size, 2, none⟩ (.int .i64 z)) := ⟨_, rfl⟩
    rw [← hwq]
    have q0 : wq.cell? ⟨w.heap.size, 0, none⟩ = some (.string (D ++ P)) := by rw [hwq]; go_simp
    have q1 : wq.cell? ⟨w.heap.size, 1, none⟩ = some (.string P) := by rw [hwq]; go_simp
    have q2 : wq.cell? ⟨w.heap.size, 2, none⟩ = some (.int .i64 z) := by rw [hwq]; go_simp
    have hFq : Fr g (g + 1) w wq := by rw [hwq]; exact ((((HF.out.setOwn (j := 0) (p := ⟨b3, 0, none⟩) (Nat.le_of_lt HB3.out) _).setOwn (j := 0) (p := ⟨w.heap.size, 0, none⟩) (Nat.le_refl _) _).setOwn (j := 0) (p := ⟨w.heap.size, 1, none⟩) (Nat.le_refl _) _).setOwn (j := 0) (p := ⟨w.heap.size, 2, none⟩) (Nat.le_refl _) _)
    have hCq : Cur wq g A n c (p + 80) := by rw [hwq]; exact (((((HC.out.weaken (by omega) : Cur w4 g A n c (p + 80)).setOwn (q := ⟨b3, 0, none⟩) (Nat.lt_trans HG.out HB3.out) _).setOwn (q := ⟨w.heap.size, 0, none⟩) HG.out _).setOwn (q := ⟨w.heap.size, 1, none⟩) HG.out _).setOwn (q := ⟨w.heap.size, 2, none⟩) HG.out _)
    clear hwq
    refine bodyPost_ret (by simp [results, Tryd.results26, go_sem, q0, q1, q2]; try rfl) rfl ?_
    have hbd : (D ++ P).size + P.size ≤ 61000 := by simp only [ByteArray.size_append']; omega
    first | exact ⟨(D ++ P), P, _, rfl, hbd, hCq, hFq⟩ | exact ⟨(D ++ P), P, ⟨_, rfl⟩, hbd, hCq, hFq⟩
  have m2i : ((m : Int) == 2) = false := by simp; omega
  obtain ⟨u0, u1, u2, uf0, uf1, uf2⟩ := row3 h2
  obtain ⟨v0, v1, v2, vf0, vf1, vf2⟩ := row3 h3
  have hne : w.heap.size ≠ b3 := by omega
  have hne2 : b3 ≠ w.heap.size := by omega
  have HC := Lib.hid hC4
  have HF := Lib.hid hF
  have HG := Lib.hid hg2
  have HB3 := Lib.hid hg3
  clear h2 h3 hF hC4
  go_wp2
  obtain ⟨wq, hwq⟩ : ∃ wq, wq = (((w4.setCell ⟨w.heap.size, 0, none⟩ (.string D)).setCell ⟨w.heap.size, 1, none⟩ (.string P)).setCell ⟨w.heap.size, 2, none⟩ (.int .i64 z)) := ⟨_, rfl⟩
  rw [← hwq]
  have q0 : wq.cell? ⟨w.heap.size, 0, none⟩ = some (.string D) := by rw [hwq]; go_simp
  have q1 : wq.cell? ⟨w.heap.size, 1, none⟩ = some (.string P) := by rw [hwq]; go_simp
  have q2 : wq.cell? ⟨w.heap.size, 2, none⟩ = some (.int .i64 z) := by rw [hwq]; go_simp
  have hFq : Fr g (g + 1) w wq := by rw [hwq]; exact (((HF.out.setOwn (j := 0) (p := ⟨w.heap.size, 0, none⟩) (Nat.le_refl _) _).setOwn (j := 0) (p := ⟨w.heap.size, 1, none⟩) (Nat.le_refl _) _).setOwn (j := 0) (p := ⟨w.heap.size, 2, none⟩) (Nat.le_refl _) _)
  have hCq : Cur wq g A n c (p + 80) := by rw [hwq]; exact ((((HC.out.weaken (by omega) : Cur w4 g A n c (p + 80)).setOwn (q := ⟨w.heap.size, 0, none⟩) HG.out _).setOwn (q := ⟨w.heap.size, 1, none⟩) HG.out _).setOwn (q := ⟨w.heap.size, 2, none⟩) HG.out _)
  clear hwq
  refine bodyPost_ret (by simp [results, Tryd.results26, go_sem, q0, q1, q2]; try rfl) rfl ?_
  have hbd : D.size + P.size ≤ 61000 := by omega
  first | exact ⟨D, P, _, rfl, hbd, hCq, hFq⟩ | exact ⟨D, P, ⟨_, rfl⟩, hbd, hCq, hFq⟩
end Go.Proofs.YtbhhlnciojcgbaaDoor
