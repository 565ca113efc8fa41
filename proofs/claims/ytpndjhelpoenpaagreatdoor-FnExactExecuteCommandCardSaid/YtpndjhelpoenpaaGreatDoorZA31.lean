/-
  Texts of this claim, merged.
-/
import Derived.Test.YtpndjhelpoenpaaGreatDoorZA30
set_option linter.unusedVariables false
set_option linter.unusedSimpArgs false
set_option maxRecDepth 100000
set_option maxHeartbeats 8000000
namespace Go.Proofs.YtpndjhelpoenpaaGreatDoor
open Go.RowKit
theorem toConsole_any (A : Option Addr) (n c lo hi : Nat) (f : Nat → Int) (I H S P : Int) (D Q : ByteArray) (z : Int) (w : World) (hs : Sl w lo hi 4 A n f) (hn : n ≤ 1048576) (hnc : n ≤ c) :
  Calls Tryz.prog 11 #[.agg #[.slice A n c, .int .i64 I, .int .i64 H, .int .i64 S, .int .i64 P, .string D, .string Q, .int .i64 z]] w fun e w' => ∃ g, e = .returned (.agg #[.slice (some ⟨g, 0, none⟩) n n, .int .i64 I, .int .i64 H, .int .i64 S, .int .i64 P, .string D, .string Q, .int .i64 z]) ∧ w.heap.size ≤ g ∧ g < w'.heap.size ∧ Own w' g (g + 1) 97 4 (some ⟨g, 0, none⟩) n f ∧ Below w.heap.size w w' := by
 obtain ⟨hX, h0, h1, h2⟩ := bl3 w (.cells #[.slice A n c, .int .i64 I, .int .i64 H, .int .i64 S, .int .i64 P, .string D, .string Q, .int .i64 z] 28) (.cells #[.slice none 0 0, .int .i64 0, .int .i64 0, .int .i64 0, .int .i64 0, .string ⟨#[]⟩, .string ⟨#[]⟩, .int .i64 0] 35) (.cells #[.slice none 0 0, .int .i64 0, .int .i64 0, .int .i64 0, .int .i64 0, .string ⟨#[]⟩, .string ⟨#[]⟩, .int .i64 0] 35)
 have hS := hs.below hX
 clear hs
 go_enter Tryz.func11, Tryz.ntmps11
 go_upto_region 2 with fail
 refine name_wp ?_
 intro w1 hw1
 rw [← hw1] at hX h0 h1 h2 hS
 have hz1 : w1.heap.size = w.heap.size + 3 := by rw [hw1]; simp
 clear hw1
 generalize hRq : w.heap.size + 1 = R1 at *
 generalize hOq : R1 + 1 = O1 at *
 have hwR : w.heap.size < R1 := by omega
 have hRO : R1 < O1 := by omega
 have hwO : w.heap.size < O1 := by omega
 have hOz : O1 < w1.heap.size := by omega
 have HRq := lh hRq
 have HOq := lh hOq
 have HZ1 := lh hz1
 clear hRq hOq hz1
 obtain ⟨e0, e1, e2, e3, e4, e5, e6, e7⟩ := cells8 h0
 go_wp2_with fail
 refine (toWorks_any A n c lo hi f I H S P w1 hS hn hnc).mono ?_
 rintro e w2 ⟨gt, rfl, lt2, kt2, hot, hb⟩
 have h0 := rowC h0 hb
 have h1 := rowC h1 hb
 have h2 := rowC h2 hb
 have hX := below_of hX hb hX.size
 have hgt : O1 < gt := by omega
 have hgw : w.heap.size ≤ gt := by omega
 clear hb hS e0 e1 e2 e3 e4 e5 e6 e7
 obtain ⟨e0, e1, e2, e3, e4, e5, e6, e7⟩ := cells8 h0
 obtain ⟨o0, o1, o2, o3, o4, o5, o6, o7⟩ := cells8 h2
 have of := fz h2
 go_upto_region 3 with fail
 refine name_wp ?_
 intro w3 hw3'
 have hw3 : w3 = (((((w2.setCell ⟨O1, 0, none⟩ (.slice (some ⟨gt, 0, none⟩) n n)).setCell ⟨O1, 1, none⟩ (.int .i64 I)).setCell ⟨O1, 2, none⟩ (.int .i64 H)).setCell ⟨O1, 3, none⟩ (.int .i64 S)).setCell ⟨O1, 4, none⟩ (.int .i64 P)) := hw3'
 have hF : Fr (O1) (O1 + 1) w2 w3 := by
  rw [hw3]
  exact (frS (frS (frS (frS (frS (Fr.refl _ _ _) _ _) _ _) _ _) _ _) _ _)
 have h23 : w3.heap[O1]? = some (.cells #[.slice (some ⟨gt, 0, none⟩) n n, .int .i64 I, .int .i64 H, .int .i64 S, .int .i64 P, .string ⟨#[]⟩, .string ⟨#[]⟩, .int .i64 0] 35 (0, 0)) := by
  rw [hw3]
  exact (heap_setCell_same _ (O1) 4 #[.slice (some ⟨gt, 0, none⟩) n n, .int .i64 I, .int .i64 H, .int .i64 S, .int .i64 0, .string ⟨#[]⟩, .string ⟨#[]⟩, .int .i64 0] 35 (.int .i64 P) (heap_setCell_same _ (O1) 3 #[.slice (some ⟨gt, 0, none⟩) n n, .int .i64 I, .int .i64 H, .int .i64 0, .int .i64 0, .string ⟨#[]⟩, .string ⟨#[]⟩, .int .i64 0] 35 (.int .i64 S) (heap_setCell_same _ (O1) 2 #[.slice (some ⟨gt, 0, none⟩) n n, .int .i64 I, .int .i64 0, .int .i64 0, .int .i64 0, .string ⟨#[]⟩, .string ⟨#[]⟩, .int .i64 0] 35 (.int .i64 H) (heap_setCell_same _ (O1) 1 #[.slice (some ⟨gt, 0, none⟩) n n, .int .i64 0, .int .i64 0, .int .i64 0, .int .i64 0, .string ⟨#[]⟩, .string ⟨#[]⟩, .int .i64 0] 35 (.int .i64 I) (heap_setCell_same _ (O1) 0 #[.slice none 0 0, .int .i64 0, .int .i64 0, .int .i64 0, .int .i64 0, .string ⟨#[]⟩, .string ⟨#[]⟩, .int .i64 0] 35 (.slice (some ⟨gt, 0, none⟩) n n) h2)))))
 have h03 := rowG h0 hF (Or.inl (by omega))
 have h13 := rowG h1 hF (Or.inl (by omega))
 have hot3 := hot.fr hF (Or.inr (by omega))
 have hX3 : Below w.heap.size w w3 := hX.trans (hF.below (by omega) hX.size)
 clear hw3' hw3 hF h0 h1 h2 hot hX e0 e1 e2 e3 e4 e5 e6 e7 of o0 o1 o2 o3 o4 o5 o6 o7
 obtain ⟨e0, e1, e2, e3, e4, e5, e6, e7⟩ := cells8 h03
 go_wp2_with fail
 refine (toLog_any D Q z w3).mono ?_
 rintro e w4 ⟨rfl, hb⟩
 have h04 := rowC h03 hb
 have h14 := rowC h13 hb
 have h24 := rowC h23 hb
 have hX4 := below_of hX3 hb hX3.size
 have hot4 := hot3.below hb
 clear hb h03 h13 h23 hot3 hX3 h04 e0 e1 e2 e3 e4 e5 e6 e7
 obtain ⟨o0, o1, o2, o3, o4, o5, o6, o7⟩ := cells8 h24
 have of := fz h24
 have HO5 := lh h24
 go_upto_region 4 with fail
 refine name_wp ?_
 intro w5 hw5'
 have hw5 : w5 = (((w4.setCell ⟨O1, 5, none⟩ (.string D)).setCell ⟨O1, 6, none⟩ (.string Q)).setCell ⟨O1, 7, none⟩ (.int .i64 z)) := hw5'
 have hF : Fr (O1) (O1 + 1) w4 w5 := by
  rw [hw5]
  exact (frS (frS (frS (Fr.refl _ _ _) _ _) _ _) _ _)
 have h25 : w5.heap[O1]? = some (.cells #[.slice (some ⟨gt, 0, none⟩) n n, .int .i64 I, .int .i64 H, .int .i64 S, .int .i64 P, .string D, .string Q, .int .i64 z] 35 (0, 0)) := by
  rw [hw5]
  exact (heap_setCell_same _ (O1) 7 #[.slice (some ⟨gt, 0, none⟩) n n, .int .i64 I, .int .i64 H, .int .i64 S, .int .i64 P, .string D, .string Q, .int .i64 0] 35 (.int .i64 z) (heap_setCell_same _ (O1) 6 #[.slice (some ⟨gt, 0, none⟩) n n, .int .i64 I, .int .i64 H, .int .i64 S, .int .i64 P, .string D, .string ⟨#[]⟩, .int .i64 0] 35 (.string Q) (heap_setCell_same _ (O1) 5 #[.slice (some ⟨gt, 0, none⟩) n n, .int .i64 I, .int .i64 H, .int .i64 S, .int .i64 P, .string ⟨#[]⟩, .string ⟨#[]⟩, .int .i64 0] 35 (.string D) HO5.out)))
 have h15 := rowG h14 hF (Or.inl (by omega))
 have hot5 := hot4.fr hF (Or.inr (by omega))
 have hX5 : Below w.heap.size w w5 := hX4.trans (hF.below (by omega) hX4.size)
 clear hw5' hw5 hF h14 h24 hot4 hX4 HO5 of o0 o1 o2 o3 o4 o5 o6 o7
 obtain ⟨o0, o1, o2, o3, o4, o5, o6, o7⟩ := cells8 h25
 obtain ⟨r0, r1, r2, r3, r4, r5, r6, r7⟩ := cells8 h15
 have rf := fz h15
 have nRO : R1 ≠ O1 := by omega
 have nOR : O1 ≠ R1 := by omega
 have HLE := lh (⟨hwR, hRO, hgt, hgw⟩ : w.heap.size < R1 ∧ R1 < O1 ∧ O1 < gt ∧ w.heap.size ≤ gt)
 clear hRO hwR hwO hOz hgt hgw
 have HX5 := lh hX5
 have HOT := lh hot5
 clear h25 h15 hX5 hot5
 go_wp2
 obtain ⟨wq, hwq⟩ : ∃ wq, wq = ((((((((w5.setCell ⟨R1, 0, none⟩ (.slice (some ⟨gt, 0, none⟩) n n)).setCell ⟨R1, 1, none⟩ (.int .i64 I)).setCell ⟨R1, 2, none⟩ (.int .i64 H)).setCell ⟨R1, 3, none⟩ (.int .i64 S)).setCell ⟨R1, 4, none⟩ (.int .i64 P)).setCell ⟨R1, 5, none⟩ (.string D)).setCell ⟨R1, 6, none⟩ (.string Q)).setCell ⟨R1, 7, none⟩ (.int .i64 z)) := ⟨_, rfl⟩
 rw [← hwq]
 have u0 : wq.cell? ⟨R1, 0, none⟩ = some (.slice (some ⟨gt, 0, none⟩) n n) := by rw [hwq]; go_simp
 have u1 : wq.cell? ⟨R1, 1, none⟩ = some (.int .i64 I) := by rw [hwq]; go_simp
 have u2 : wq.cell? ⟨R1, 2, none⟩ = some (.int .i64 H) := by rw [hwq]; go_simp
 have u3 : wq.cell? ⟨R1, 3, none⟩ = some (.int .i64 S) := by rw [hwq]; go_simp
 have u4 : wq.cell? ⟨R1, 4, none⟩ = some (.int .i64 P) := by rw [hwq]; go_simp
 have u5 : wq.cell? ⟨R1, 5, none⟩ = some (.string D) := by rw [hwq]; go_simp
 have u6 : wq.cell? ⟨R1, 6, none⟩ = some (.string Q) := by rw [hwq]; go_simp
 have u7 : wq.cell? ⟨R1, 7, none⟩ = some (.int .i64 z) := by rw [hwq]; go_simp
 have hF : Fr (R1) (R1 + 1) w5 wq := by
  rw [hwq]
  exact (frS (frS (frS (frS (frS (frS (frS (frS (Fr.refl _ _ _) _ _) _ _) _ _) _ _) _ _) _ _) _ _) _ _)
 clear hwq
 try simp only [Exit.inBlock, Exit.then]
 refine bodyPost_ret (by simp [results, Tryz.results11, go_sem, u0, u1, u2, u3, u4, u5, u6, u7]; try rfl) rfl ?_
 obtain ⟨q1, q2, q3, q4⟩ := HLE.out
 refine ⟨gt, rfl, by omega, ?_, HOT.out.fr hF (Or.inr (by omega)), HX5.out.trans (hF.below (by omega) HX5.out.size)⟩
 have h1 := HOT.out.hi_le
 have h2 := hF.size
 omega
theorem szLog_at (D Q : ByteArray) (z L : Int) (w : World) (hL : 0 ≤ L) (hM : L ≤ 1048576) (h : (D.size : Int) + (Q.size : Int) ≤ L) :
  Calls Tryz.prog 21 #[.agg #[.string D, .string Q, .int .i64 z], .int .i64 L] w fun e w' => e = .returned (.int .i64 (L - D.size - Q.size)) ∧ Below w.heap.size w w' := by
 go_enter Tryz.func21, Tryz.ntmps21
 go_wp2
 go_ret
 exact ⟨rfl, by go_grown⟩
theorem szLog_no (D Q : ByteArray) (z L : Int) (w : World) (hL : 0 ≤ L) (hM : L ≤ 1048576) (hc : (D.size : Int) ≤ 9223372036854775807) (hr : (Q.size : Int) ≤ 9223372036854775807) (h : L < (D.size : Int) + (Q.size : Int)) :
  Calls Tryz.prog 21 #[.agg #[.string D, .string Q, .int .i64 z], .int .i64 L] w fun e w' => e = .returned (.int .i64 (-1)) ∧ Below w.heap.size w w' := by
 by_cases h1 : L < (D.size : Int)
 ·go_enter Tryz.func21, Tryz.ntmps21
  go_wp2
  go_ret
  exact ⟨rfl, by go_grown⟩
 ·go_enter Tryz.func21, Tryz.ntmps21
  go_wp2
  go_ret
  exact ⟨rfl, by go_grown⟩
theorem szConsole_works (A : Option Addr) (n c : Nat) (I H S P : Int) (D Q : ByteArray) (z : Int) (w : World) (hm0 : (n : Int) ≤ 9223372036854775807) (h : 1048576 < (n : Int)) :
  Calls Tryz.prog 9 #[.agg #[.slice A n c, .int .i64 I, .int .i64 H, .int .i64 S, .int .i64 P, .string D, .string Q, .int .i64 z], .int .i64 1048576] w fun e w' => e = .returned (.int .i64 (-1)) ∧ Below w.heap.size w w' := by
 obtain ⟨hX, h0⟩ := bl1 w (.cells #[.slice A n c, .int .i64 I, .int .i64 H, .int .i64 S, .int .i64 P, .string D, .string Q, .int .i64 z] 28)
 go_enter Tryz.func9, Tryz.ntmps9
 go_upto_region 1 with fail
 refine name_wp ?_
 intro w1 hw1
 rw [← hw1] at hX h0
 clear hw1
 obtain ⟨e0, e1, e2, e3, e4, e5, e6, e7⟩ := cells8 h0
 go_wp2_with fail
 refine (szWorks_big A n c I H S P 1048576 w1 hm0 (by omega) (by omega) h).mono ?_
 rintro e w2 ⟨rfl, hb⟩
 have hX := below_of hX hb hX.size
 go_wp2
 go_ret
 exact ⟨rfl, hX⟩
theorem szConsole_log (A : Option Addr) (n c : Nat) (I H S P : Int) (D Q : ByteArray) (z : Int) (w : World) (hn : (n : Int) ≤ 1048576) (hc : (D.size : Int) ≤ 9223372036854775807) (hr : (Q.size : Int) ≤ 9223372036854775807) (h : 1048576 - (n : Int) < (D.size : Int) + (Q.size : Int)) :
  Calls Tryz.prog 9 #[.agg #[.slice A n c, .int .i64 I, .int .i64 H, .int .i64 S, .int .i64 P, .string D, .string Q, .int .i64 z], .int .i64 1048576] w fun e w' => e = .returned (.int .i64 (-1)) ∧ Below w.heap.size w w' := by
 obtain ⟨hX, h0⟩ := bl1 w (.cells #[.slice A n c, .int .i64 I, .int .i64 H, .int .i64 S, .int .i64 P, .string D, .string Q, .int .i64 z] 28)
 go_enter Tryz.func9, Tryz.ntmps9
 go_upto_region 1 with fail
 refine name_wp ?_
 intro w1 hw1
 rw [← hw1] at hX h0
 clear hw1
 obtain ⟨e0, e1, e2, e3, e4, e5, e6, e7⟩ := cells8 h0
 go_wp2_with fail
 refine (szWorks_ok A n c I H S P 1048576 w1 (by omega) (by omega) hn).mono ?_
 rintro e w2 ⟨rfl, hb⟩
 have h0 := rowC h0 hb
 have hX := below_of hX hb hX.size
 clear hb e0 e1 e2 e3 e4 e5 e6 e7
 obtain ⟨e0, e1, e2, e3, e4, e5, e6, e7⟩ := cells8 h0
 have hL0 : ¬ (1048576 - (n : Int) < 0) := by omega
 go_wp2_with fail
 refine (szLog_no D Q z (1048576 - (n : Int)) w2 (by omega) (by omega) hc hr h).mono ?_
 rintro e w3 ⟨rfl, hb⟩
 have hX := below_of hX hb hX.size
 go_wp2
 go_ret
 exact ⟨rfl, hX⟩
theorem szConsole_ok (A : Option Addr) (n c : Nat) (I H S P : Int) (D Q : ByteArray) (z : Int) (w : World) (hn : (n : Int) ≤ 1048576) (h : (D.size : Int) + (Q.size : Int) ≤ 1048576 - (n : Int)) :
  Calls Tryz.prog 9 #[.agg #[.slice A n c, .int .i64 I, .int .i64 H, .int .i64 S, .int .i64 P, .string D, .string Q, .int .i64 z], .int .i64 1048576] w fun e w' => e = .returned (.int .i64 (1048576 - (n : Int) - D.size - Q.size)) ∧ Below w.heap.size w w' := by
 obtain ⟨hX, h0⟩ := bl1 w (.cells #[.slice A n c, .int .i64 I, .int .i64 H, .int .i64 S, .int .i64 P, .string D, .string Q, .int .i64 z] 28)
 go_enter Tryz.func9, Tryz.ntmps9
 go_upto_region 1 with fail
 refine name_wp ?_
 intro w1 hw1
 rw [← hw1] at hX h0
 clear hw1
 obtain ⟨e0, e1, e2, e3, e4, e5, e6, e7⟩ := cells8 h0
 go_wp2_with fail
 refine (szWorks_ok A n c I H S P 1048576 w1 (by omega) (by omega) hn).mono ?_
 rintro e w2 ⟨rfl, hb⟩
 have h0 := rowC h0 hb
 have hX := below_of hX hb hX.size
 clear hb e0 e1 e2 e3 e4 e5 e6 e7
 obtain ⟨e0, e1, e2, e3, e4, e5, e6, e7⟩ := cells8 h0
 have hL0 : ¬ (1048576 - (n : Int) < 0) := by omega
 go_wp2_with fail
 refine (szLog_at D Q z (1048576 - (n : Int)) w2 (by omega) (by omega) h).mono ?_
 rintro e w3 ⟨rfl, hb⟩
 have hX := below_of hX hb hX.size
 have hL1 : ¬ (1048576 - (n : Int) - (D.size : Int) - (Q.size : Int) < 0) := by omega
 go_wp2
 go_ret
 exact ⟨rfl, hX⟩
theorem eqConsole_same (A A' : Option Addr) (n c d lo hi lo' hi' : Nat) (f : Nat → Int) (I H S P : Int) (D Q : ByteArray) (z : Int) (w : World) (hs : Sl w lo hi 4 A n f) (ht : Sl w lo' hi' 4 A' n f) (hn : n ≤ 1048576) (hnc : n ≤ c) (hnd : n ≤ d) :
  Calls Tryz.prog 13 #[.agg #[.slice A n c, .int .i64 I, .int .i64 H, .int .i64 S, .int .i64 P, .string D, .string Q, .int .i64 z], .agg #[.slice A' n d, .int .i64 I, .int .i64 H, .int .i64 S, .int .i64 P, .string D, .string Q, .int .i64 z]] w fun e w' => e = .returned (.bool true) ∧ Below w.heap.size w w' := by
 have hX : Below w.heap.size w ((w.alloc (.cells #[.slice A n c, .int .i64 I, .int .i64 H, .int .i64 S, .int .i64 P, .string D, .string Q, .int .i64 z] 35)).alloc (.cells #[.slice A' n d, .int .i64 I, .int .i64 H, .int .i64 S, .int .i64 P, .string D, .string Q, .int .i64 z] 35)) := ((Below.refl _ w).alloc (Nat.le_refl _) _).alloc (by simp) _
 have HS := lh (hs.below hX)
 have HT := lh (ht.below hX)
 have h1 : ((w.alloc (.cells #[.slice A n c, .int .i64 I, .int .i64 H, .int .i64 S, .int .i64 P, .string D, .string Q, .int .i64 z] 35)).alloc (.cells #[.slice A' n d, .int .i64 I, .int .i64 H, .int .i64 S, .int .i64 P, .string D, .string Q, .int .i64 z] 35)).heap[w.heap.size]? = some (.cells #[.slice A n c, .int .i64 I, .int .i64 H, .int .i64 S, .int .i64 P, .string D, .string Q, .int .i64 z] 35 (0, 0)) := by
  rw [heap_alloc_old _ _ (by simp)]
  exact heap_alloc_new w _
 have h2 : ((w.alloc (.cells #[.slice A n c, .int .i64 I, .int .i64 H, .int .i64 S, .int .i64 P, .string D, .string Q, .int .i64 z] 35)).alloc (.cells #[.slice A' n d, .int .i64 I, .int .i64 H, .int .i64 S, .int .i64 P, .string D, .string Q, .int .i64 z] 35)).heap[w.heap.size + 1]? = some (.cells #[.slice A' n d, .int .i64 I, .int .i64 H, .int .i64 S, .int .i64 P, .string D, .string Q, .int .i64 z] 35 (0, 0)) := by
  have h := heap_alloc_new (w.alloc (.cells #[.slice A n c, .int .i64 I, .int .i64 H, .int .i64 S, .int .i64 P, .string D, .string Q, .int .i64 z] 35)) (.cells #[.slice A' n d, .int .i64 I, .int .i64 H, .int .i64 S, .int .i64 P, .string D, .string Q, .int .i64 z] 35)
  simpa using h
 clear hs ht
 go_enter Tryz.func13, Tryz.ntmps13
 go_upto_region 1 with fail
 refine name_wp ?_
 intro w1 hw1
 rw [← hw1] at HS HT hX h1 h2
 clear hw1
 obtain ⟨e0, e1, e2, e3, e4, e5, e6, e7⟩ := cells8 h1
 obtain ⟨y0, y1, y2, y3, y4, y5, y6, y7⟩ := cells8 h2
 go_wp2_with fail
 refine (eqWorks_same A A' n c d lo hi lo' hi' f I H S P w1 HS.out HT.out hn hnc hnd).mono ?_
 rintro e w2 ⟨rfl, hb⟩
 have h1 := rowC h1 hb
 have h2 := rowC h2 hb
 have B2 := below_of hX hb hX.size
 clear hb hX e0 e1 e2 e3 e4 e5 e6 e7 y0 y1 y2 y3 y4 y5 y6 y7
 obtain ⟨e0, e1, e2, e3, e4, e5, e6, e7⟩ := cells8 h1
 obtain ⟨y0, y1, y2, y3, y4, y5, y6, y7⟩ := cells8 h2
 have HB := lh B2
 clear h1 h2 B2
 go_wp2_with fail
 refine (eqLog_same D Q z w2).mono ?_
 rintro e w3 ⟨rfl, hb⟩
 have B3 := below_of HB.out hb HB.out.size
 go_wp2
 go_ret
 exact ⟨rfl, B3⟩
theorem markWorks_any (A : Option Addr) (n c lo hi : Nat) (k0 : Int) (f : Nat → Int) (I H S P : Int) (w : World) (hs : Own w lo hi 97 4 A n f) (hn : n ≤ 1048576) (hnc : n ≤ c) (h0 : 0 ≤ k0) (h1 : k0 ≤ 1000000) :
  Calls Tryz.prog 54 #[.agg #[.slice A n c, .int .i64 I, .int .i64 H, .int .i64 S, .int .i64 P], .int .i64 k0] w fun e w' => e = .returned (.int .i64 (k0 + (n : Int) * 4)) ∧ Own w' lo hi 97 4 A n (fun j => k0 + j) ∧ Fr lo hi w w' := by
 have hal := (Below.refl _ w).alloc (Nat.le_refl _) (.cells #[.slice A n c, .int .i64 I, .int .i64 H, .int .i64 S, .int .i64 P] 32)
 have HS := lh (hs.below hal)
 have HF := lh (Fr.of_below lo hi hal)
 clear hs hal
 go_enter Tryz.func54, Tryz.ntmps54
 go_wp2_with fail
 refine (markPanS_any A n c lo hi k0 f _ HS.out hn hnc h0 (by omega)).mono ?_
 rintro e w2 ⟨rfl, ho, hr⟩
 have HO := lh ho
 have HR := lh (HF.out.trans hr)
 clear ho hr
 go_wp2
 go_ret
 exact ⟨rfl, HO.out, HR.out⟩
theorem own_tight {w : World} {base n c B : Nat} {A' : Option Addr} {zs : List Int} (h : w.ownsRow base 97 4 (.slice A' n c) n (zs.map (Value.int .i64))) (hB : B ≤ base) (hb : base ≤ w.heap.size) :
  ∃ lo hi, Own w lo hi 97 4 A' n (lf zs) ∧ B ≤ lo := by
 obtain ⟨A2, c2, e, _, _, ho⟩ := own_of_row h
 cases e
 by_cases hn : 0 < n
 ·obtain ⟨g, cur, e1, h1, h2, h3, h4, h5⟩ := ho.here hn
  exact ⟨g, g + 1, ⟨(Array.getElem?_eq_some_iff.1 h3).1, fun _ => ⟨g, cur, e1, Nat.le_refl _, Nat.lt_succ_self _, h3, h4, h5⟩⟩, by omega⟩
 ·have h0 : n = 0 := by omega
  subst h0
  exact ⟨base, base, Own.none_ hb, hB⟩
theorem rowF {w w' : World} {lo hi g : Nat} {o : Obj} (h : w.heap[g]? = some o) (hf : Fr lo hi w w') (hd : g < lo ∨ hi ≤ g) : w'.heap[g]? = some o := (hf.block g (Array.getElem?_eq_some_iff.1 h).1 hd).trans h
theorem heldWorks_any (A' : Option Addr) (n c lo hi : Nat) (k0 : Int) (I H S P : Int) (w : World) (hs : Sl w lo hi 4 A' n (fun j => k0 + j)) (hn : n ≤ 1048576) (hnc : n ≤ c) (h0 : 0 ≤ k0) (h1 : k0 ≤ 1000000) :
  Calls Tryz.prog 55 #[.agg #[.slice A' n c, .int .i64 I, .int .i64 H, .int .i64 S, .int .i64 P], .int .i64 k0] w fun e w' => e = .returned (.int .i64 (k0 + (n : Int) * 4)) ∧ Below w.heap.size w w' := by
 have hal := (Below.refl _ w).alloc (Nat.le_refl _) (.cells #[.slice A' n c, .int .i64 I, .int .i64 H, .int .i64 S, .int .i64 P] 32)
 have HS := lh (hs.below hal)
 have HA := lh hal
 clear hs hal
 have hnn : ¬ (k0 + (n : Int) * 4 < 0) := by omega
 go_enter Tryz.func55, Tryz.ntmps55
 go_wp2_with fail
 refine (heldPanS_any A' n c lo hi k0 _ HS.out hn hnc h0 (by omega)).mono ?_
 rintro e w2 ⟨rfl, rfl⟩
 go_wp2
 go_ret
 exact ⟨rfl, HA.out⟩
theorem markConsole_any (A' : Option Addr) (n c lo hi : Nat) (k0 : Int) (f : Nat → Int) (I H S P : Int) (D Q : ByteArray) (z : Int) (w : World) (hs : Own w lo hi 97 4 A' n f) (hn : n ≤ 1048576) (hnc : n ≤ c) (h0 : 0 ≤ k0) (h1 : k0 ≤ 1000000) :
  Calls Tryz.prog 14 #[.agg #[.slice A' n c, .int .i64 I, .int .i64 H, .int .i64 S, .int .i64 P, .string D, .string Q, .int .i64 z], .int .i64 k0] w fun e w' => e = .returned (.int .i64 (k0 + (n : Int) * 4)) ∧ Own w' lo hi 97 4 A' n (fun j => k0 + j) ∧ Fr lo hi w w' := by
 have hal := (Below.refl _ w).alloc (Nat.le_refl _) (.cells #[.slice A' n c, .int .i64 I, .int .i64 H, .int .i64 S, .int .i64 P, .string D, .string Q, .int .i64 z] 35)
 have HS := lh (hs.below hal)
 have HF := lh (Fr.of_below lo hi hal)
 clear hs hal
 go_enter Tryz.func14, Tryz.ntmps14
 go_wp2_with fail
 refine (markWorks_any A' n c lo hi k0 f I H S P _ HS.out hn hnc h0 (by omega)).mono ?_
 rintro e w2 ⟨rfl, ho, hr⟩
 have HO := lh ho
 have HR := lh (HF.out.trans hr)
 clear ho hr
 go_wp2
 go_ret
 exact ⟨rfl, HO.out, HR.out⟩
theorem heldConsole_any (A' : Option Addr) (n c lo hi : Nat) (k0 : Int) (I H S P : Int) (D Q : ByteArray) (z : Int) (w : World) (hs : Sl w lo hi 4 A' n (fun j => k0 + j)) (hn : n ≤ 1048576) (hnc : n ≤ c) (h0 : 0 ≤ k0) (h1 : k0 ≤ 1000000) :
  Calls Tryz.prog 15 #[.agg #[.slice A' n c, .int .i64 I, .int .i64 H, .int .i64 S, .int .i64 P, .string D, .string Q, .int .i64 z], .int .i64 k0] w fun e w' => e = .returned (.int .i64 (k0 + (n : Int) * 4)) ∧ Below w.heap.size w w' := by
 have hal := (Below.refl _ w).alloc (Nat.le_refl _) (.cells #[.slice A' n c, .int .i64 I, .int .i64 H, .int .i64 S, .int .i64 P, .string D, .string Q, .int .i64 z] 35)
 have HS := lh (hs.below hal)
 have HA := lh hal
 clear hs hal
 have hnn : ¬ (k0 + (n : Int) * 4 < 0) := by omega
 go_enter Tryz.func15, Tryz.ntmps15
 go_wp2_with fail
 refine (heldWorks_any A' n c lo hi k0 I H S P _ HS.out hn hnc h0 (by omega)).mono ?_
 rintro e w2 ⟨rfl, hb2⟩
 go_wp2
 go_ret
 exact ⟨rfl, HA.out.trans (hb2.mono HA.out.size)⟩
theorem FnExactExecuteCommand_walk (A0 : Option Addr) (n0 c0 : Nat) (f0 : Nat → Int) (I0 H0 S0 P0 : Int) (s0 t0 : ByteArray) (z0 : Int) (u0 : ByteArray) (w : World) (hnc0 : n0 ≤ c0) (hcm0 : c0 ≤ maxLen) (hs0 : Sl w 0 w.heap.size 4 A0 n0 f0) (hss0 : s0.size ≤ maxLen) (hst0 : t0.size ≤ maxLen) (hsu0 : u0.size ≤ maxLen) (ht : Tab w) (hm : Mx w) (he : Er w) :
  Calls Tryz.prog 3 #[.agg #[.slice A0 n0 c0, .int .i64 I0, .int .i64 H0, .int .i64 S0, .int .i64 P0, .string s0, .string t0, .int .i64 z0], .string u0] w fun e w' => e = .returned (.bool true) ∧ Below w.heap.size w w' := by
 have hm0 : (n0 : Int) ≤ 9223372036854775807 := by unfold maxLen at hcm0; omega
 have hd0 : (s0.size : Int) ≤ 9223372036854775807 := by unfold maxLen at hss0; omega
 have hq0 : (t0.size : Int) ≤ 9223372036854775807 := by unfold maxLen at hst0; omega
 have hu0 : (u0.size : Int) ≤ 9223372036854775807 := by unfold maxLen at hsu0; omega
 have HAL : Below w.heap.size w (w.alloc (.cells #[.slice A0 n0 c0, .int .i64 I0, .int .i64 H0, .int .i64 S0, .int .i64 P0, .string s0, .string t0, .int .i64 z0] 28)) := (Below.refl _ w).alloc (Nat.le_refl _) _
 have hz0 : (w.alloc (.cells #[.slice A0 n0 c0, .int .i64 I0, .int .i64 H0, .int .i64 S0, .int .i64 P0, .string s0, .string t0, .int .i64 z0] 28)).heap.size = w.heap.size + 1 := by simp
 have hA : (w.alloc (.cells #[.slice A0 n0 c0, .int .i64 I0, .int .i64 H0, .int .i64 S0, .int .i64 P0, .string s0, .string t0, .int .i64 z0] 28)).heap[w.heap.size]? = some (.cells #[.slice A0 n0 c0, .int .i64 I0, .int .i64 H0, .int .i64 S0, .int .i64 P0, .string s0, .string t0, .int .i64 z0] 28 (0, 0)) := heap_alloc_new w _
 have HB0 : Hid (∀ w', Below (w.alloc (.cells #[.slice A0 n0 c0, .int .i64 I0, .int .i64 H0, .int .i64 S0, .int .i64 P0, .string s0, .string t0, .int .i64 z0] 28)).heap.size (w.alloc (.cells #[.slice A0 n0 c0, .int .i64 I0, .int .i64 H0, .int .i64 S0, .int .i64 P0, .string s0, .string t0, .int .i64 z0] 28)) w' → w'.cell? ⟨w.heap.size, 0, none⟩ = some (.slice A0 n0 c0) ∧ w'.cell? ⟨w.heap.size, 1, none⟩ = some (.int .i64 I0) ∧ w'.cell? ⟨w.heap.size, 2, none⟩ = some (.int .i64 H0) ∧ w'.cell? ⟨w.heap.size, 3, none⟩ = some (.int .i64 S0) ∧ w'.cell? ⟨w.heap.size, 4, none⟩ = some (.int .i64 P0) ∧ w'.cell? ⟨w.heap.size, 5, none⟩ = some (.string s0) ∧ w'.cell? ⟨w.heap.size, 6, none⟩ = some (.string t0) ∧ w'.cell? ⟨w.heap.size, 7, none⟩ = some (.int .i64 z0)) := by
  intro w' hq
  have h1 := rowB hA hq
  exact (cells8 h1)
 have HSL : Hid (∀ w', Below (w.alloc (.cells #[.slice A0 n0 c0, .int .i64 I0, .int .i64 H0, .int .i64 S0, .int .i64 P0, .string s0, .string t0, .int .i64 z0] 28)).heap.size (w.alloc (.cells #[.slice A0 n0 c0, .int .i64 I0, .int .i64 H0, .int .i64 S0, .int .i64 P0, .string s0, .string t0, .int .i64 z0] 28)) w' → Sl w' 0 w.heap.size 4 A0 n0 f0) := fun w' hq => hs0.below (HAL.trans (hq.mono HAL.size))
 have HT : Hid (Tab (w.alloc (.cells #[.slice A0 n0 c0, .int .i64 I0, .int .i64 H0, .int .i64 S0, .int .i64 P0, .string s0, .string t0, .int .i64 z0] 28))) := ht.below HAL
 have HM : Hid (Mx (w.alloc (.cells #[.slice A0 n0 c0, .int .i64 I0, .int .i64 H0, .int .i64 S0, .int .i64 P0, .string s0, .string t0, .int .i64 z0] 28))) := hm.below HAL
 have HE : Hid (Er (w.alloc (.cells #[.slice A0 n0 c0, .int .i64 I0, .int .i64 H0, .int .i64 S0, .int .i64 P0, .string s0, .string t0, .int .i64 z0] 28))) := he.below HAL
 clear hA hs0 hcm0 hss0 hst0 hsu0 ht hm he
 by_cases hlu : (1048576 : Int) < (u0.size : Int)
 ·go_enter Tryz.func3, Tryz.ntmps3
  go_wp2
  go_ret
  exact ⟨rfl, HAL⟩
 by_cases hbig : n0 ≤ 1048576
 rotate_left
 ·go_enter Tryz.func3, Tryz.ntmps3
  go_wp2_with fail
  refine (szConsole_works A0 n0 c0 I0 H0 S0 P0 s0 t0 z0 _ hm0 (by omega)).mono ?_
  rintro e w1 ⟨rfl, B1⟩
  go_wp2
  go_ret
  exact ⟨rfl, HAL.trans (B1.mono HAL.size)⟩
 by_cases hlog : (s0.size : Int) + (t0.size : Int) ≤ 1048576 - (n0 : Int)
 rotate_left
 ·go_enter Tryz.func3, Tryz.ntmps3
  go_wp2_with fail
  refine (szConsole_log A0 n0 c0 I0 H0 S0 P0 s0 t0 z0 _ (by omega) hd0 hq0 (by omega)).mono ?_
  rintro e w1 ⟨rfl, B1⟩
  go_wp2
  go_ret
  exact ⟨rfl, HAL.trans (B1.mono HAL.size)⟩
 obtain ⟨L, m, I', H', S', P', Q', z', R, hm7, HSP, HIP⟩ : ∃ (L : List Int) (m : Nat) (I' H' S' P' : Int) (Q' : ByteArray) (z' : Int) (R : ByteArray), m ≤ 1048576 ∧ Hid (∀ (Aq : Option Addr) (cq lo hi : Nat) (W : World), Sl W lo hi 4 Aq n0 f0 → (Aq = none → n0 = 0 ∧ cq = 0) → n0 ≤ cq → Calls Tryz.prog 10 #[.agg #[.slice Aq n0 cq, .int .i64 I0, .int .i64 H0, .int .i64 S0, .int .i64 P0, .string s0, .string t0, .int .i64 z0], .string u0] W fun e w' => ∃ A' c', e = .returned (.tuple #[.agg #[.slice A' m c', .int .i64 I', .int .i64 H', .int .i64 S', .int .i64 P', .string s0, .string Q', .int .i64 z'], .string R]) ∧ m ≤ c' ∧ w'.ownsRow W.heap.size 97 4 (.slice A' m c') m (L.map (Value.int .i64)) ∧ Below W.heap.size W w') ∧ Hid (∀ (Aq : Option Addr) (cq lo hi : Nat) (W : World), Sl W lo hi 4 Aq n0 f0 → (Aq = none → n0 = 0 ∧ cq = 0) → n0 ≤ cq → Tab W → Mx W → Er W → Calls Tryz.prog 12 #[.agg #[.slice Aq n0 cq, .int .i64 I0, .int .i64 H0, .int .i64 S0, .int .i64 P0, .string s0, .string t0, .int .i64 z0], .string u0] W fun e w' => ∃ A' c', e = .returned (.tuple #[.agg #[.slice A' m c', .int .i64 I', .int .i64 H', .int .i64 S', .int .i64 P', .string s0, .string Q', .int .i64 z'], .string R]) ∧ m ≤ c' ∧ w'.ownsRow W.heap.size 97 4 (.slice A' m c') m (L.map (Value.int .i64)) ∧ Below W.heap.size W w') :=
  ⟨xcL f0 n0 I0 H0 S0 P0 s0 t0 z0 u0, xcN f0 n0 I0 H0 S0 P0 s0 t0 z0 u0, xcI f0 n0 I0 H0 S0 P0 s0 t0 z0 u0, xcH f0 n0 I0 H0 S0 P0 s0 t0 z0 u0, xcS f0 n0 I0 H0 S0 P0 s0 t0 z0 u0, xcP f0 n0 I0 H0 S0 P0 s0 t0 z0 u0, xcQ f0 n0 I0 H0 S0 P0 s0 t0 z0 u0, xcZ f0 n0 I0 H0 S0 P0 s0 t0 z0 u0, xcR f0 n0 I0 H0 S0 P0 s0 t0 z0 u0, xcN_len hbig, fun Aq cq lo hi W hs h1 h2 => sExecuteCommand_any Aq n0 cq lo hi f0 I0 H0 S0 P0 s0 t0 z0 u0 W hs hbig h2 h1 (by omega) (by omega) (by omega), fun Aq cq lo hi W hs h1 h2 ht hm he => ExecuteCommand_any Aq n0 cq lo hi f0 I0 H0 S0 P0 s0 t0 z0 u0 W hs hbig h2 h1 (by omega) (by omega) (by omega) ht hm he⟩
 go_enter Tryz.func3, Tryz.ntmps3
 go_wp2_with fail
 refine (szConsole_ok A0 n0 c0 I0 H0 S0 P0 s0 t0 z0 _ (by omega) (by omega)).mono ?_
 rintro e v0 ⟨rfl, BX⟩
 have z0_ := BX.size
 have hL : ¬ (1048576 - (n0 : Int) - (s0.size : Int) - (t0.size : Int) < 0) := by omega
 obtain ⟨b0, b1, b2, b3, b4, b5, b6, b7⟩ := HB0.out _ BX
 go_wp2_with fail
 refine (toConsole_any A0 n0 c0 0 w.heap.size f0 I0 H0 S0 P0 s0 t0 z0 v0 (HSL.out _ BX) hbig hnc0).mono ?_
 rintro e v1 ⟨g2, rfl, l2, k2, ho2, hb⟩
 clear b0 b1 b2 b3 b4 b5 b6 b7
 have z2_ := hb.size
 have BX := below_of BX hb BX.size
 clear hb
 go_wp2_with fail
 refine (HSP.out _ _ _ _ v1 ho2.sl (fun h => by cases h) (Nat.le_refl _)).mono ?_
 rintro e v3 ⟨Aa, ca, rfl, ma, hown, hb⟩
 obtain ⟨la, ua, hoa, qa⟩ := own_tight hown (Nat.le_refl _) hb.size
 clear hown
 have z4_ := hb.size
 have BX := below_of BX hb BX.size
 have ho2 := ho2.below hb
 clear hb
 have ia := hoa.hi_le
 clear ho2
 clear hL
 go_upto_region 8 with fail
 refine name_wp ?_
 intro v5 hw
 have hb := ba hw
 have hra := an hw
 clear hw
 have z6_ := hb.size
 have BX := below_of BX hb BX.size
 have hoa := hoa.below hb
 clear hb
 have ja := rowLt hra
 generalize hqa : v3.heap.size = xa at *
 have HQa := lh hqa
 clear hqa
 obtain ⟨b0, b1, b2, b3, b4, b5, b6, b7⟩ := HB0.out _ BX
 go_wp2_with fail
 refine (toConsole_any A0 n0 c0 0 w.heap.size f0 I0 H0 S0 P0 s0 t0 z0 v5 (HSL.out _ BX) hbig hnc0).mono ?_
 rintro e v7 ⟨g4, rfl, l4, k4, ho4, hb⟩
 clear b0 b1 b2 b3 b4 b5 b6 b7
 have z8_ := hb.size
 have BX := below_of BX hb BX.size
 have hra := rowB hra hb
 have hoa := hoa.below hb
 clear hb
 go_upto_region 9 with fail
 refine name_wp ?_
 intro v9 hw
 have hb := ba hw
 have hrx := an hw
 clear hw
 have z10_ := hb.size
 have BX := below_of BX hb BX.size
 have hra := rowB hra hb
 have hoa := hoa.below hb
 have ho4 := ho4.below hb
 clear hb
 have jx := rowLt hrx
 generalize hqx : v7.heap.size = xx at *
 have HQx := lh hqx
 clear hqx
 obtain ⟨e0, e1, e2, e3, e4, e5, e6, e7⟩ := cells8 hrx
 go_wp2_with fail
 refine (HIP.out _ _ _ _ v9 ho4.sl (fun h => by cases h) (Nat.le_refl _) (HT.out.below BX) (HM.out.below BX) (HE.out.below BX)).mono ?_
 rintro e v11 ⟨Ab, cb, rfl, mb, hown, hb⟩
 obtain ⟨lb, ub, hob, qb⟩ := own_tight hown (Nat.le_refl _) hb.size
 clear hown
 have z12_ := hb.size
 have BX := below_of BX hb BX.size
 have hra := rowB hra hb
 have hrx := rowB hrx hb
 have hoa := hoa.below hb
 have ho4 := ho4.below hb
 clear hb
 have ib := hob.hi_le
 clear e0 e1 e2 e3 e4 e5 e6 e7
 go_upto_region 10 with fail
 refine name_wp ?_
 intro v13 hw
 have hb := ba hw
 have hrb := an hw
 clear hw
 have z14_ := hb.size
 have BX := below_of BX hb BX.size
 have hra := rowB hra hb
 have hrx := rowB hrx hb
 have hoa := hoa.below hb
 have ho4 := ho4.below hb
 have hob := hob.below hb
 clear hb
 have jb := rowLt hrb
 generalize hqb : v11.heap.size = xb at *
 have HQb := lh hqb
 clear hqb
 obtain ⟨e0, e1, e2, e3, e4, e5, e6, e7⟩ := cells8 hrb
 obtain ⟨d0, d1, d2, d3, d4, d5, d6, d7⟩ := cells8 hra
 go_wp2_with fail
 refine (eqConsole_same Ab Aa m cb ca lb ub la ua (lf L) I' H' S' P' s0 Q' z' v13 hob.sl hoa.sl hm7 mb ma).mono ?_
 rintro e v15 ⟨rfl, hb⟩
 have z16_ := hb.size
 have BX := below_of BX hb BX.size
 have hra := rowB hra hb
 have hrx := rowB hrx hb
 have hrb := rowB hrb hb
 have hoa := hoa.below hb
 have ho4 := ho4.below hb
 have hob := hob.below hb
 clear hb
 clear e0 e1 e2 e3 e4 e5 e6 e7 d0 d1 d2 d3 d4 d5 d6 d7
 have HF : Hid (∀ w', Below v15.heap.size v15 w' → (w'.cell? ⟨xx, 0, none⟩ = some (.slice (some ⟨g4, 0, none⟩) n0 n0) ∧ w'.cell? ⟨xx, 1, none⟩ = some (.int .i64 I0) ∧ w'.cell? ⟨xx, 2, none⟩ = some (.int .i64 H0) ∧ w'.cell? ⟨xx, 3, none⟩ = some (.int .i64 S0) ∧ w'.cell? ⟨xx, 4, none⟩ = some (.int .i64 P0) ∧ w'.cell? ⟨xx, 5, none⟩ = some (.string s0) ∧ w'.cell? ⟨xx, 6, none⟩ = some (.string t0) ∧ w'.cell? ⟨xx, 7, none⟩ = some (.int .i64 z0)) ∧ w'.cell? ⟨w.heap.size, 0, none⟩ = some (.slice A0 n0 c0) ∧ w'.cell? ⟨w.heap.size, 1, none⟩ = some (.int .i64 I0) ∧ w'.cell? ⟨w.heap.size, 2, none⟩ = some (.int .i64 H0) ∧ w'.cell? ⟨w.heap.size, 3, none⟩ = some (.int .i64 S0) ∧ w'.cell? ⟨w.heap.size, 4, none⟩ = some (.int .i64 P0) ∧ w'.cell? ⟨w.heap.size, 5, none⟩ = some (.string s0) ∧ w'.cell? ⟨w.heap.size, 6, none⟩ = some (.string t0) ∧ w'.cell? ⟨w.heap.size, 7, none⟩ = some (.int .i64 z0)) := fun w' hq => by
  have hx := rowB hrx hq
  exact ⟨(cells8 hx), HB0.out w' (BX.trans (hq.mono BX.size))⟩
 go_wp2_with fail
 refine wp_region_held_drew (S := fun w' => Below (v15).heap.size (v15) w') (by kernel_rfl) ((Below.refl _ _).drew) (fun jd => ?_)
 refine tj2 0 48 1 49 HF jd ?_
 refine wpAnyH_ready (rs := [2]) (by kernel_rfl) (by simp) ?_
 refine AllReadyH.cons rfl (fun K hK => ?_) AllReadyH.nil
 go_simp
 (go_at_call 11; refine (toConsole_any A0 n0 c0 0 w.heap.size f0 I0 H0 S0 P0 s0 t0 z0 _ (HSL.out _ (BX.trans (jd.mono BX.size))) hbig hnc0).mono ?_; rintro e wt ⟨gt, rfl, lt2, kt2, hot, hb2⟩)
 refine hK.out _ _ (jd.trans (hb2.mono jd.size)) (fun jd => ?_)
 clear hK K hb2
 refine wpAnyH_ready (rs := [3]) (by kernel_rfl) (by simp) ?_
 refine AllReadyH.cons rfl (fun K hK => ?_) AllReadyH.nil
 go_simp
 (go_at_call 13; refine (eqConsole_same _ _ n0 n0 n0 _ _ _ _ f0 I0 H0 S0 P0 s0 t0 z0 wt (ho4.below jd).sl hot.sl hbig (Nat.le_refl _) (Nat.le_refl _)).mono ?_; rintro e v50 ⟨rfl, hb2⟩)
 refine hK.out _ _ (jd.trans (hb2.mono jd.size)) (fun jd => ?_)
 clear hK K hb2
 refine tj 4 52 HF rfl jd ?_
 refine wpAnyH_done (by kernel_rfl) ?_ _
 clear hot HF
 have z17_ := jd.size
 have BX := below_of BX jd BX.size
 have hra := rowB hra jd
 have hrx := rowB hrx jd
 have hrb := rowB hrb jd
 have hoa := hoa.below jd
 have ho4 := ho4.below jd
 have hob := hob.below jd
 clear jd
 obtain ⟨e0, e1, e2, e3, e4, e5, e6, e7⟩ := cells8 hrx
 go_wp2_with fail
 refine (markConsole_any _ n0 n0 g4 (g4 + 1) 1 f0 I0 H0 S0 P0 s0 t0 z0 v50 ho4 hbig (Nat.le_refl _) (by omega) (by omega)).mono ?_
 rintro e v18 ⟨rfl, _, hfr⟩
 have z19_ := hfr.size
 have BX : Below (w.alloc (.cells #[.slice A0 n0 c0, .int .i64 I0, .int .i64 H0, .int .i64 S0, .int .i64 P0, .string s0, .string t0, .int .i64 z0] 28)).heap.size (w.alloc (.cells #[.slice A0 n0 c0, .int .i64 I0, .int .i64 H0, .int .i64 S0, .int .i64 P0, .string s0, .string t0, .int .i64 z0] 28)) v18 := BX.trans (hfr.below (by have := BX.size; omega) BX.size)
 have hra := rowF hra hfr (by omega)
 have hrx := rowF hrx hfr (by omega)
 have hrb := rowF hrb hfr (by omega)
 have hoa := hoa.fr hfr (by omega)
 have hob := hob.fr hfr (by omega)
 clear hfr
 clear ho4
 clear e0 e1 e2 e3 e4 e5 e6 e7
 have hn4 : ¬ ((1 : Int) + (n0 : Int) * 4 < 0) := by omega
 obtain ⟨e0, e1, e2, e3, e4, e5, e6, e7⟩ := cells8 hrb
 obtain ⟨d0, d1, d2, d3, d4, d5, d6, d7⟩ := cells8 hra
 go_wp2_with fail
 refine (eqConsole_same Ab Aa m cb ca lb ub la ua (lf L) I' H' S' P' s0 Q' z' v18 hob.sl hoa.sl hm7 mb ma).mono ?_
 rintro e v20 ⟨rfl, hb⟩
 have z21_ := hb.size
 have BX := below_of BX hb BX.size
 have hra := rowB hra hb
 have hrx := rowB hrx hb
 have hrb := rowB hrb hb
 have hoa := hoa.below hb
 have hob := hob.below hb
 clear hb
 clear e0 e1 e2 e3 e4 e5 e6 e7 d0 d1 d2 d3 d4 d5 d6 d7
 obtain ⟨e0, e1, e2, e3, e4, e5, e6, e7⟩ := cells8 hrb
 go_wp2_with fail
 refine (markConsole_any Ab m cb lb ub 1 (lf L) I' H' S' P' s0 Q' z' v20 hob hm7 mb (by omega) (by omega)).mono ?_
 rintro e v22 ⟨rfl, hob2, hfr⟩
 have z23_ := hfr.size
 have BX : Below (w.alloc (.cells #[.slice A0 n0 c0, .int .i64 I0, .int .i64 H0, .int .i64 S0, .int .i64 P0, .string s0, .string t0, .int .i64 z0] 28)).heap.size (w.alloc (.cells #[.slice A0 n0 c0, .int .i64 I0, .int .i64 H0, .int .i64 S0, .int .i64 P0, .string s0, .string t0, .int .i64 z0] 28)) v22 := BX.trans (hfr.below (by have := BX.size; omega) BX.size)
 have hra := rowF hra hfr (by omega)
 have hrx := rowF hrx hfr (by omega)
 have hrb := rowF hrb hfr (by omega)
 have hoa := hoa.fr hfr (by omega)
 clear hfr
 clear hob
 have hob := hob2
 clear hob2
 clear e0 e1 e2 e3 e4 e5 e6 e7
 obtain ⟨e0, e1, e2, e3, e4, e5, e6, e7⟩ := cells8 hrb
 go_wp2_with fail
 refine (heldConsole_any Ab m cb lb ub 1 I' H' S' P' s0 Q' z' v22 hob.sl hm7 mb (by omega) (by omega)).mono ?_
 rintro e v24 ⟨rfl, hb⟩
 have z25_ := hb.size
 have BX := below_of BX hb BX.size
 have hra := rowB hra hb
 have hrx := rowB hrx hb
 have hrb := rowB hrb hb
 have hoa := hoa.below hb
 have hob := hob.below hb
 clear hb
 clear e0 e1 e2 e3 e4 e5 e6 e7
 have hm4 : ¬ ((1 : Int) + (m : Int) * 4 < 0) := by omega
 obtain ⟨b0, b1, b2, b3, b4, b5, b6, b7⟩ := HB0.out _ BX
 go_wp2_with fail
 refine (toConsole_any A0 n0 c0 0 w.heap.size f0 I0 H0 S0 P0 s0 t0 z0 v24 (HSL.out _ BX) hbig hnc0).mono ?_
 rintro e v26 ⟨g5, rfl, l5, k5, ho5, hb⟩
 clear b0 b1 b2 b3 b4 b5 b6 b7
 have z27_ := hb.size
 have BX := below_of BX hb BX.size
 have hra := rowB hra hb
 have hrx := rowB hrx hb
 have hrb := rowB hrb hb
 have hoa := hoa.below hb
 have hob := hob.below hb
 clear hb
 go_wp2_with fail
 refine (HIP.out _ _ _ _ v26 ho5.sl (fun h => by cases h) (Nat.le_refl _) (HT.out.below BX) (HM.out.below BX) (HE.out.below BX)).mono ?_
 rintro e v28 ⟨Ac, cc, rfl, mc, hown, hb⟩
 obtain ⟨lc, uc, hoc, qc⟩ := own_tight hown (Nat.le_refl _) hb.size
 clear hown
 have z29_ := hb.size
 have BX := below_of BX hb BX.size
 have hra := rowB hra hb
 have hrx := rowB hrx hb
 have hrb := rowB hrb hb
 have hoa := hoa.below hb
 have hob := hob.below hb
 have ho5 := ho5.below hb
 clear hb
 have ic := hoc.hi_le
 clear ho5
 go_upto_region 27 with fail
 refine name_wp ?_
 intro v30 hw
 have hb := ba hw
 have hrc := an hw
 clear hw
 have z31_ := hb.size
 have BX := below_of BX hb BX.size
 have hra := rowB hra hb
 have hrx := rowB hrx hb
 have hrb := rowB hrb hb
 have hoa := hoa.below hb
 have hob := hob.below hb
 have hoc := hoc.below hb
 clear hb
 have jc := rowLt hrc
 generalize hqc : v28.heap.size = xc at *
 have HQc := lh hqc
 clear hqc
 obtain ⟨e0, e1, e2, e3, e4, e5, e6, e7⟩ := cells8 hrc
 obtain ⟨d0, d1, d2, d3, d4, d5, d6, d7⟩ := cells8 hra
 go_wp2_with fail
 refine (eqConsole_same Ac Aa m cc ca lc uc la ua (lf L) I' H' S' P' s0 Q' z' v30 hoc.sl hoa.sl hm7 mc ma).mono ?_
 rintro e v32 ⟨rfl, hb⟩
 have z33_ := hb.size
 have BX := below_of BX hb BX.size
 have hra := rowB hra hb
 have hrx := rowB hrx hb
 have hrb := rowB hrb hb
 have hrc := rowB hrc hb
 have hoa := hoa.below hb
 have hob := hob.below hb
 have hoc := hoc.below hb
 clear hb
 clear e0 e1 e2 e3 e4 e5 e6 e7 d0 d1 d2 d3 d4 d5 d6 d7
 obtain ⟨e0, e1, e2, e3, e4, e5, e6, e7⟩ := cells8 hrb
 go_wp2_with fail
 refine (heldConsole_any Ab m cb lb ub 1 I' H' S' P' s0 Q' z' v32 hob.sl hm7 mb (by omega) (by omega)).mono ?_
 rintro e v34 ⟨rfl, hb⟩
 have z35_ := hb.size
 have BX := below_of BX hb BX.size
 have hra := rowB hra hb
 have hrx := rowB hrx hb
 have hrb := rowB hrb hb
 have hrc := rowB hrc hb
 have hoa := hoa.below hb
 have hob := hob.below hb
 have hoc := hoc.below hb
 clear hb
 clear e0 e1 e2 e3 e4 e5 e6 e7
 have BW := HAL.trans (BX.mono HAL.size)
 clear BX hoa hob hoc
 go_wp2
 go_ret
 exact ⟨rfl, BW⟩
end Go.Proofs.YtpndjhelpoenpaaGreatDoor
