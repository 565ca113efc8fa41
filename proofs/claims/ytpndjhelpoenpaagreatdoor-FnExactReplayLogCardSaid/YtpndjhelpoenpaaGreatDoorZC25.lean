/-
  Texts of this claim, merged.
-/
import Derived.Test.YtpndjhelpoenpaaGreatDoorZC24
set_option linter.unusedVariables false
set_option linter.unusedSimpArgs false
set_option maxRecDepth 100000
set_option maxHeartbeats 8000000
namespace Go.Proofs.YtpndjhelpoenpaaGreatDoor
open Go.RowKit
attribute [local go_sem ↓] Go.wp_at_zero Go.wp_at_succ
def apT (D P : BA) (z : Int) (c r : BA) : Bool := (logOk D P z && goodRec c r) && decide (z ≠ 60)
def apP (D P : BA) (z : Int) (c r : BA) : BA := if apT D P z c r then P ++ lineB z c r else P
def apZ (D P : BA) (z : Int) (c r : BA) : Int := if apT D P z c r then z + 1 else z
def apK (D P : BA) (z : Int) (c r : BA) : Int := if logOk D P z && goodRec c r then (if z = 60 then 2 else 0) else 1
theorem logOk_cnt {D P : BA} {z : Int} (h : logOk D P z = true) : 0 ≤ z ∧ z ≤ 60 := by
 simp only [logOk, Bool.and_eq_true, decide_eq_true_eq] at h
 have := readN_len (D ++ P) 60
 omega
theorem lineB_size {k : Int} {c r : BA} (h0 : 0 ≤ k) (h1 : k ≤ 59) (h : goodRec c r = true) : (lineB k c r).size ≤ 500 := by
 have h2 := bodyB_size h0 h1 h
 have h3 := sealB_size (bodyB k c r)
 simp only [lineB, ByteArray.size_append', ByteArray.size_mk', List.size_toArray, List.length_cons, List.length_nil]
 omega
theorem heap_alloc3a (w : World) (o1 o2 o3 : Obj) : (((w.alloc o1).alloc o2).alloc o3).heap[w.heap.size]? = some o1 :=
 ((((Below.refl (w.alloc o1).heap.size (w.alloc o1)).alloc (Nat.le_refl _) o2).alloc (by simp) o3).block w.heap.size (by simp)).trans (heap_alloc_new w o1)
theorem heap_alloc3b (w : World) (o1 o2 o3 : Obj) : (((w.alloc o1).alloc o2).alloc o3).heap[w.heap.size + 1]? = some o2 := by
 have h := heap_alloc2 (w.alloc o1) o2 o3
 simpa using h
theorem heap_alloc3c (w : World) (o1 o2 o3 : Obj) : (((w.alloc o1).alloc o2).alloc o3).heap[w.heap.size + 2]? = some o3 := by
 have h := heap_alloc_new ((w.alloc o1).alloc o2) o3
 simpa using h
theorem row_far {W : World} {g : Nat} {o : Obj} (hX : W.heap[g]? = some o) (a : Addr) (v : Value) (h : a.block ≠ g) : (W.setCell a v).heap[g]? = some o := by
 simp [World.setCell, Array.getElem?_modify, h, hX]
theorem row3_set1 {w : World} {g : Nat} {p q y : BA} {z : Int} (h : w.heap[g]? = some (.cells #[.string p, .string q, .int .i64 z] 33 (0, 0))) : (w.setCell ⟨g, 1, none⟩ (.string y)).heap[g]? = some (.cells #[.string p, .string y, .int .i64 z] 33 (0, 0)) := by
 simp [World.setCell, Array.getElem?_modify, h]
theorem row3_set2 {w : World} {g : Nat} {p q : BA} {z u : Int} (h : w.heap[g]? = some (.cells #[.string p, .string q, .int .i64 z] 33 (0, 0))) : (w.setCell ⟨g, 2, none⟩ (.int .i64 u)).heap[g]? = some (.cells #[.string p, .string q, .int .i64 u] 33 (0, 0)) := by
 simp [World.setCell, Array.getElem?_modify, h]
theorem AppendRecord_any (D P : BA) (z : Int) (c r : BA) (hD : D.size ≤ 1048576) (hP : P.size ≤ 1048576) (hc : c.size ≤ 1048576) (hr : r.size ≤ 1048576) (w : World) (ht : Tab w) (hm : Mx w) :
  Calls Tryz.prog 51 #[.agg #[.string D, .string P, .int .i64 z], .agg #[.string c, .string r]] w fun e w' => e = .returned (.tuple #[.agg #[.string D, .string (apP D P z c r), .int .i64 (apZ D P z c r)], .int .i64 (apK D P z c r)]) ∧ Below w.heap.size w w' := by
 have AL1 : Below w.heap.size w (w.alloc (.cells #[.string D, .string P, .int .i64 z] 33)) := (Below.refl _ w).alloc (Nat.le_refl _) _
 have AL2 : Below w.heap.size w ((w.alloc (.cells #[.string D, .string P, .int .i64 z] 33)).alloc (.cells #[.string c, .string r] 70)) := AL1.alloc AL1.size _
 have HAL : Below w.heap.size w (((w.alloc (.cells #[.string D, .string P, .int .i64 z] 33)).alloc (.cells #[.string c, .string r] 70)).alloc (.cells #[.string ⟨#[]⟩, .string ⟨#[]⟩, .int .i64 0] 33)) := AL2.alloc AL2.size _
 have hXL : (((w.alloc (.cells #[.string D, .string P, .int .i64 z] 33)).alloc (.cells #[.string c, .string r] 70)).alloc (.cells #[.string ⟨#[]⟩, .string ⟨#[]⟩, .int .i64 0] 33)).heap[w.heap.size]? = some (.cells #[.string D, .string P, .int .i64 z] 33 (0, 0)) := heap_alloc3a w _ _ _
 have hXR : (((w.alloc (.cells #[.string D, .string P, .int .i64 z] 33)).alloc (.cells #[.string c, .string r] 70)).alloc (.cells #[.string ⟨#[]⟩, .string ⟨#[]⟩, .int .i64 0] 33)).heap[w.heap.size + 1]? = some (.cells #[.string c, .string r] 70 (0, 0)) := heap_alloc3b w _ _ _
 have hXZ : (((w.alloc (.cells #[.string D, .string P, .int .i64 z] 33)).alloc (.cells #[.string c, .string r] 70)).alloc (.cells #[.string ⟨#[]⟩, .string ⟨#[]⟩, .int .i64 0] 33)).heap[w.heap.size + 2]? = some (.cells #[.string ⟨#[]⟩, .string ⟨#[]⟩, .int .i64 0] 33 (0, 0)) := heap_alloc3c w _ _ _
 have hci : (c.size : Int) ≤ 9223372036854775807 := by omega
 have hri : (r.size : Int) ≤ 9223372036854775807 := by omega
 have HC := lh (IsValidLog_any D P z hD hP (((w.alloc (.cells #[.string D, .string P, .int .i64 z] 33)).alloc (.cells #[.string c, .string r] 70)).alloc (.cells #[.string ⟨#[]⟩, .string ⟨#[]⟩, .int .i64 0] 33)) (ht.below HAL) (hm.below HAL))
 cases hk : logOk D P z with
 | false =>
  have e1 : apP D P z c r = P := by simp [apP, apT, hk]
  have e2 : apZ D P z c r = z := by simp [apZ, apT, hk]
  have e3 : apK D P z c r = 1 := by simp [apK, hk]
  rw [e1, e2, e3]
  rw [hk] at HC
  go_enter Tryz.func51, Tryz.ntmps51
  go_wp2_with fail
  refine HC.out.mono ?_
  rintro e w1 ⟨rfl, hb1⟩
  have hL_w1 := rowB hXL hb1
  have hR_w1 := rowB hXR hb1
  have hZ_w1 := rowB hXZ hb1
  have B_w1 := HAL.trans (hb1.mono (by simp; omega))
  clear e1 e2 e3 hk ht hm hD hP hc hr hci hri
  clear HC HAL hXL hXR hXZ AL1 AL2 hb1
  obtain ⟨l0, l1, l2, lf0, lf1, lf2⟩ := row3 hL_w1
  obtain ⟨z0, z1, z2, z3, z4, z5⟩ := row3 hZ_w1
  go_wp2_with fail
  obtain ⟨a0, a1, a2, _, _, _⟩ := row3 (row3_set (x := D) (y := P) (u := z) hZ_w1)
  have BZ := below3 (b := w.heap.size + 2) (x := D) (y := P) (u := z) B_w1 (by omega)
  generalize ((w1.setCell ⟨(w.heap.size + 2), 0, none⟩ (.string D)).setCell ⟨(w.heap.size + 2), 1, none⟩ (.string P)).setCell ⟨(w.heap.size + 2), 2, none⟩ (.int .i64 z) = WZ at *
  (try simp only [Exit.inBlock, Exit.then]); refine bodyPost_ret (by simp [results, Tryz.results51, go_sem, a0, a1, a2]; try rfl) rfl ?_
  exact ⟨rfl, BZ⟩
 | true =>
  have hcnt := logOk_cnt hk
  have hsz := logOk_size hk
  rw [hk] at HC
  cases hg : goodRec c r with
  | false =>
   have e1 : apP D P z c r = P := by simp [apP, apT, hk, hg]
   have e2 : apZ D P z c r = z := by simp [apZ, apT, hk, hg]
   have e3 : apK D P z c r = 1 := by simp [apK, hk, hg]
   rw [e1, e2, e3]
   go_enter Tryz.func51, Tryz.ntmps51
   go_wp2_with fail
   refine HC.out.mono ?_
   rintro e w1 ⟨rfl, hb1⟩
   have hL_w1 := rowB hXL hb1
   have hR_w1 := rowB hXR hb1
   have hZ_w1 := rowB hXZ hb1
   have B_w1 := HAL.trans (hb1.mono (by simp; omega))
   clear HC HAL hXL hXR hXZ AL1 AL2 hb1
   obtain ⟨r0, r1, _, _⟩ := row2 hR_w1
   go_wp2_with fail
   refine (IsValidRecord_any c r hci hri w1).mono ?_
   rw [hg]
   rintro e w2 ⟨rfl, hb2⟩
   have hL_w2 := rowB hL_w1 hb2
   have hR_w2 := rowB hR_w1 hb2
   have hZ_w2 := rowB hZ_w1 hb2
   have B_w2 := below_of B_w1 hb2 B_w1.size
   clear hL_w1 hR_w1 hZ_w1 hb2 r0 r1
   clear e1 e2 e3 hk hg ht hm hD hP hc hr hci hri hsz hcnt
   obtain ⟨l0, l1, l2, lf0, lf1, lf2⟩ := row3 hL_w2
   obtain ⟨z0, z1, z2, z3, z4, z5⟩ := row3 hZ_w2
   go_wp2_with fail
   obtain ⟨a0, a1, a2, _, _, _⟩ := row3 (row3_set (x := D) (y := P) (u := z) hZ_w2)
   have BZ := below3 (b := w.heap.size + 2) (x := D) (y := P) (u := z) B_w2 (by omega)
   generalize ((w2.setCell ⟨(w.heap.size + 2), 0, none⟩ (.string D)).setCell ⟨(w.heap.size + 2), 1, none⟩ (.string P)).setCell ⟨(w.heap.size + 2), 2, none⟩ (.int .i64 z) = WZ at *
   (try simp only [Exit.inBlock, Exit.then]); refine bodyPost_ret (by simp [results, Tryz.results51, go_sem, a0, a1, a2]; try rfl) rfl ?_
   exact ⟨rfl, BZ⟩
  | true =>
   by_cases hz : z = 60
   ·subst hz
    have e1 : apP D P 60 c r = P := by simp [apP, apT, hk, hg]
    have e2 : apZ D P 60 c r = 60 := by simp [apZ, apT, hk, hg]
    have e3 : apK D P 60 c r = 2 := by simp [apK, hk, hg]
    rw [e1, e2, e3]
    go_enter Tryz.func51, Tryz.ntmps51
    go_wp2_with fail
    refine HC.out.mono ?_
    rintro e w1 ⟨rfl, hb1⟩
    have hL_w1 := rowB hXL hb1
    have hR_w1 := rowB hXR hb1
    have hZ_w1 := rowB hXZ hb1
    have B_w1 := HAL.trans (hb1.mono (by simp; omega))
    clear HC HAL hXL hXR hXZ AL1 AL2 hb1
    obtain ⟨r0, r1, _, _⟩ := row2 hR_w1
    go_wp2_with fail
    refine (IsValidRecord_any c r hci hri w1).mono ?_
    rw [hg]
    rintro e w2 ⟨rfl, hb2⟩
    have hL_w2 := rowB hL_w1 hb2
    have hR_w2 := rowB hR_w1 hb2
    have hZ_w2 := rowB hZ_w1 hb2
    have B_w2 := below_of B_w1 hb2 B_w1.size
    clear hL_w1 hR_w1 hZ_w1 hb2 r0 r1
    clear e1 e2 e3 hk hg ht hm hD hP hc hr hci hri hsz hcnt
    obtain ⟨l0, l1, l2, lf0, lf1, lf2⟩ := row3 hL_w2
    obtain ⟨z0, z1, z2, z3, z4, z5⟩ := row3 hZ_w2
    go_wp2_with fail
    obtain ⟨a0, a1, a2, _, _, _⟩ := row3 (row3_set (x := D) (y := P) (u := 60) hZ_w2)
    have BZ := below3 (b := w.heap.size + 2) (x := D) (y := P) (u := 60) B_w2 (by omega)
    generalize ((w2.setCell ⟨(w.heap.size + 2), 0, none⟩ (.string D)).setCell ⟨(w.heap.size + 2), 1, none⟩ (.string P)).setCell ⟨(w.heap.size + 2), 2, none⟩ (.int .i64 60) = WZ at *
    (try simp only [Exit.inBlock, Exit.then]); refine bodyPost_ret (by simp [results, Tryz.results51, go_sem, a0, a1, a2]; try rfl) rfl ?_
    exact ⟨rfl, BZ⟩
   ·have e1 : apP D P z c r = P ++ lineB z c r := by simp [apP, apT, hk, hg, hz]
    have e2 : apZ D P z c r = z + 1 := by simp [apZ, apT, hk, hg, hz]
    have e3 : apK D P z c r = 0 := by simp [apK, hk, hg, hz]
    rw [e1, e2, e3]
    have hz9 : z ≤ 59 := by omega
    have hz0 := hcnt.1
    have hls := lineB_size hz0 hz9 hg
    have hsum : P.size + (lineB z c r).size ≤ 4000000 := by omega
    have HE := lh (fun W hT => EncodeRecord_any z c r hci hri W hT)
    have hin : (inR z 0 59 && goodRec c r) = true := by simp [inR, hz0, hz9, hg]
    rw [hin] at HE
    simp only [if_true] at HE
    generalize lineB z c r = Ln at *
    clear e1 e2 e3 hls
    go_enter Tryz.func51, Tryz.ntmps51
    go_wp2_with fail
    refine HC.out.mono ?_
    rintro e w1 ⟨rfl, hb1⟩
    have hL_w1 := rowB hXL hb1
    have hR_w1 := rowB hXR hb1
    have hZ_w1 := rowB hXZ hb1
    have B_w1 := HAL.trans (hb1.mono (by simp; omega))
    have ht1 := ht.below B_w1
    clear HC HAL hXL hXR hXZ AL1 AL2 hb1
    obtain ⟨r0, r1, _, _⟩ := row2 hR_w1
    go_wp2_with fail
    refine (IsValidRecord_any c r hci hri w1).mono ?_
    rw [hg]
    rintro e w2 ⟨rfl, hb2⟩
    have hL_w2 := rowB hL_w1 hb2
    have hR_w2 := rowB hR_w1 hb2
    have hZ_w2 := rowB hZ_w1 hb2
    have B_w2 := below_of B_w1 hb2 B_w1.size
    clear hL_w1 hR_w1 hZ_w1 hb2 r0 r1
    clear hk hg hD hP hc hr hci hri hsz hcnt
    have ht2 := lh (ht.below B_w2)
    clear ht hm ht1
    obtain ⟨l0, l1, l2, lf0, lf1, lf2⟩ := row3 hL_w2
    obtain ⟨r0, r1, _, _⟩ := row2 hR_w2
    go_wp2_with fail
    refine (HE.out w2 ht2.out).mono ?_
    rintro e w3 ⟨rfl, hb3⟩
    have hL_w3 := rowB hL_w2 hb3
    have hR_w3 := rowB hR_w2 hb3
    have hZ_w3 := rowB hZ_w2 hb3
    have B_w3 := below_of B_w2 hb3 B_w2.size
    clear hL_w2 hR_w2 hZ_w2 hb3 r0 r1 l0 l1 l2 lf0 lf1 lf2 HE ht2
    obtain ⟨l0, l1, l2, lf0, lf1, lf2⟩ := row3 hL_w3
    obtain ⟨z0, z1, z2, z3, z4, z5⟩ := row3 hZ_w3
    go_wp2_with fail
    obtain ⟨a0, a1, a2, _, _, _⟩ := row3 (row3_set (x := D) (y := (P ++ Ln)) (u := (z + 1)) hZ_w3)
    have BZ := below3 (b := w.heap.size + 2) (x := D) (y := (P ++ Ln)) (u := (z + 1)) B_w3 (by omega)
    generalize ((w3.setCell ⟨(w.heap.size + 2), 0, none⟩ (.string D)).setCell ⟨(w.heap.size + 2), 1, none⟩ (.string (P ++ Ln))).setCell ⟨(w.heap.size + 2), 2, none⟩ (.int .i64 (z + 1)) = WZ at *
    (try simp only [Exit.inBlock, Exit.then]); refine bodyPost_ret (by simp [results, Tryz.results51, go_sem, a0, a1, a2]; try rfl) rfl ?_
    exact ⟨rfl, BZ⟩
theorem sAppendRecord_any (D P : BA) (z : Int) (c r : BA) (hD : D.size ≤ 1048576) (hP : P.size ≤ 1048576) (hc : c.size ≤ 1048576) (hr : r.size ≤ 1048576) (w : World) :
  Calls Tryz.prog 45 #[.agg #[.string D, .string P, .int .i64 z], .agg #[.string c, .string r]] w fun e w' => e = .returned (.tuple #[.agg #[.string D, .string (apP D P z c r), .int .i64 (apZ D P z c r)], .int .i64 (apK D P z c r)]) ∧ Below w.heap.size w w' := by
 have AL1 : Below w.heap.size w (w.alloc (.cells #[.string D, .string P, .int .i64 z] 33)) := (Below.refl _ w).alloc (Nat.le_refl _) _
 have AL2 : Below w.heap.size w ((w.alloc (.cells #[.string D, .string P, .int .i64 z] 33)).alloc (.cells #[.string c, .string r] 70)) := AL1.alloc AL1.size _
 have HAL : Below w.heap.size w (((w.alloc (.cells #[.string D, .string P, .int .i64 z] 33)).alloc (.cells #[.string c, .string r] 70)).alloc (.cells #[.string ⟨#[]⟩, .string ⟨#[]⟩, .int .i64 0] 33)) := AL2.alloc AL2.size _
 have hXL : (((w.alloc (.cells #[.string D, .string P, .int .i64 z] 33)).alloc (.cells #[.string c, .string r] 70)).alloc (.cells #[.string ⟨#[]⟩, .string ⟨#[]⟩, .int .i64 0] 33)).heap[w.heap.size]? = some (.cells #[.string D, .string P, .int .i64 z] 33 (0, 0)) := heap_alloc3a w _ _ _
 have hXR : (((w.alloc (.cells #[.string D, .string P, .int .i64 z] 33)).alloc (.cells #[.string c, .string r] 70)).alloc (.cells #[.string ⟨#[]⟩, .string ⟨#[]⟩, .int .i64 0] 33)).heap[w.heap.size + 1]? = some (.cells #[.string c, .string r] 70 (0, 0)) := heap_alloc3b w _ _ _
 have hXZ : (((w.alloc (.cells #[.string D, .string P, .int .i64 z] 33)).alloc (.cells #[.string c, .string r] 70)).alloc (.cells #[.string ⟨#[]⟩, .string ⟨#[]⟩, .int .i64 0] 33)).heap[w.heap.size + 2]? = some (.cells #[.string ⟨#[]⟩, .string ⟨#[]⟩, .int .i64 0] 33 (0, 0)) := heap_alloc3c w _ _ _
 have hci : (c.size : Int) ≤ 9223372036854775807 := by omega
 have hri : (r.size : Int) ≤ 9223372036854775807 := by omega
 have HC := lh (l27Log_any D P z hD hP (((w.alloc (.cells #[.string D, .string P, .int .i64 z] 33)).alloc (.cells #[.string c, .string r] 70)).alloc (.cells #[.string ⟨#[]⟩, .string ⟨#[]⟩, .int .i64 0] 33)))
 cases hk : logOk D P z with
 | false =>
  have e1 : apP D P z c r = P := by simp [apP, apT, hk]
  have e2 : apZ D P z c r = z := by simp [apZ, apT, hk]
  have e3 : apK D P z c r = 1 := by simp [apK, hk]
  rw [e1, e2, e3]
  rw [hk] at HC
  go_enter Tryz.func45, Tryz.ntmps45
  go_wp2_with fail
  refine HC.out.mono ?_
  rintro e w1 ⟨rfl, hb1⟩
  have hL_w1 := rowB hXL hb1
  have hR_w1 := rowB hXR hb1
  have hZ_w1 := rowB hXZ hb1
  have B_w1 := HAL.trans (hb1.mono (by simp; omega))
  clear e1 e2 e3 hk hD hP hc hr hci hri
  clear HC HAL hXL hXR hXZ AL1 AL2 hb1
  obtain ⟨l0, l1, l2, lf0, lf1, lf2⟩ := row3 hL_w1
  obtain ⟨z0, z1, z2, z3, z4, z5⟩ := row3 hZ_w1
  go_wp2_with fail
  obtain ⟨a0, a1, a2, _, _, _⟩ := row3 (row3_set (x := D) (y := P) (u := z) hZ_w1)
  have BZ := below3 (b := w.heap.size + 2) (x := D) (y := P) (u := z) B_w1 (by omega)
  generalize ((w1.setCell ⟨(w.heap.size + 2), 0, none⟩ (.string D)).setCell ⟨(w.heap.size + 2), 1, none⟩ (.string P)).setCell ⟨(w.heap.size + 2), 2, none⟩ (.int .i64 z) = WZ at *
  (try simp only [Exit.inBlock, Exit.then]); refine bodyPost_ret (by simp [results, Tryz.results45, go_sem, a0, a1, a2]; try rfl) rfl ?_
  exact ⟨rfl, BZ⟩
 | true =>
  have hcnt := logOk_cnt hk
  have hsz := logOk_size hk
  rw [hk] at HC
  cases hg : goodRec c r with
  | false =>
   have e1 : apP D P z c r = P := by simp [apP, apT, hk, hg]
   have e2 : apZ D P z c r = z := by simp [apZ, apT, hk, hg]
   have e3 : apK D P z c r = 1 := by simp [apK, hk, hg]
   rw [e1, e2, e3]
   go_enter Tryz.func45, Tryz.ntmps45
   go_wp2_with fail
   refine HC.out.mono ?_
   rintro e w1 ⟨rfl, hb1⟩
   have hL_w1 := rowB hXL hb1
   have hR_w1 := rowB hXR hb1
   have hZ_w1 := rowB hXZ hb1
   have B_w1 := HAL.trans (hb1.mono (by simp; omega))
   clear HC HAL hXL hXR hXZ AL1 AL2 hb1
   obtain ⟨r0, r1, _, _⟩ := row2 hR_w1
   go_wp2_with fail
   refine (l27Good_any c r hci hri w1).mono ?_
   rw [hg]
   rintro e w2 ⟨rfl, hb2⟩
   have hL_w2 := rowB hL_w1 hb2
   have hR_w2 := rowB hR_w1 hb2
   have hZ_w2 := rowB hZ_w1 hb2
   have B_w2 := below_of B_w1 hb2 B_w1.size
   clear hL_w1 hR_w1 hZ_w1 hb2 r0 r1
   clear e1 e2 e3 hk hg hD hP hc hr hci hri hsz hcnt
   obtain ⟨l0, l1, l2, lf0, lf1, lf2⟩ := row3 hL_w2
   obtain ⟨z0, z1, z2, z3, z4, z5⟩ := row3 hZ_w2
   go_wp2_with fail
   obtain ⟨a0, a1, a2, _, _, _⟩ := row3 (row3_set (x := D) (y := P) (u := z) hZ_w2)
   have BZ := below3 (b := w.heap.size + 2) (x := D) (y := P) (u := z) B_w2 (by omega)
   generalize ((w2.setCell ⟨(w.heap.size + 2), 0, none⟩ (.string D)).setCell ⟨(w.heap.size + 2), 1, none⟩ (.string P)).setCell ⟨(w.heap.size + 2), 2, none⟩ (.int .i64 z) = WZ at *
   (try simp only [Exit.inBlock, Exit.then]); refine bodyPost_ret (by simp [results, Tryz.results45, go_sem, a0, a1, a2]; try rfl) rfl ?_
   exact ⟨rfl, BZ⟩
  | true =>
   by_cases hz : z = 60
   ·subst hz
    have e1 : apP D P 60 c r = P := by simp [apP, apT, hk, hg]
    have e2 : apZ D P 60 c r = 60 := by simp [apZ, apT, hk, hg]
    have e3 : apK D P 60 c r = 2 := by simp [apK, hk, hg]
    rw [e1, e2, e3]
    go_enter Tryz.func45, Tryz.ntmps45
    go_wp2_with fail
    refine HC.out.mono ?_
    rintro e w1 ⟨rfl, hb1⟩
    have hL_w1 := rowB hXL hb1
    have hR_w1 := rowB hXR hb1
    have hZ_w1 := rowB hXZ hb1
    have B_w1 := HAL.trans (hb1.mono (by simp; omega))
    clear HC HAL hXL hXR hXZ AL1 AL2 hb1
    obtain ⟨r0, r1, _, _⟩ := row2 hR_w1
    go_wp2_with fail
    refine (l27Good_any c r hci hri w1).mono ?_
    rw [hg]
    rintro e w2 ⟨rfl, hb2⟩
    have hL_w2 := rowB hL_w1 hb2
    have hR_w2 := rowB hR_w1 hb2
    have hZ_w2 := rowB hZ_w1 hb2
    have B_w2 := below_of B_w1 hb2 B_w1.size
    clear hL_w1 hR_w1 hZ_w1 hb2 r0 r1
    clear e1 e2 e3 hk hg hD hP hc hr hci hri hsz hcnt
    obtain ⟨l0, l1, l2, lf0, lf1, lf2⟩ := row3 hL_w2
    obtain ⟨z0, z1, z2, z3, z4, z5⟩ := row3 hZ_w2
    go_wp2_with fail
    obtain ⟨a0, a1, a2, _, _, _⟩ := row3 (row3_set (x := D) (y := P) (u := 60) hZ_w2)
    have BZ := below3 (b := w.heap.size + 2) (x := D) (y := P) (u := 60) B_w2 (by omega)
    generalize ((w2.setCell ⟨(w.heap.size + 2), 0, none⟩ (.string D)).setCell ⟨(w.heap.size + 2), 1, none⟩ (.string P)).setCell ⟨(w.heap.size + 2), 2, none⟩ (.int .i64 60) = WZ at *
    (try simp only [Exit.inBlock, Exit.then]); refine bodyPost_ret (by simp [results, Tryz.results45, go_sem, a0, a1, a2]; try rfl) rfl ?_
    exact ⟨rfl, BZ⟩
   ·have e1 : apP D P z c r = P ++ lineB z c r := by simp [apP, apT, hk, hg, hz]
    have e2 : apZ D P z c r = z + 1 := by simp [apZ, apT, hk, hg, hz]
    have e3 : apK D P z c r = 0 := by simp [apK, hk, hg, hz]
    rw [e1, e2, e3]
    have hz9 : z ≤ 59 := by omega
    have hz0 := hcnt.1
    have hls := lineB_size hz0 hz9 hg
    have hsum : P.size + (lineB z c r).size ≤ 4000000 := by omega
    have HE := lh (fun W => l27Line_any z c r hz0 (by omega) hc hr W)
    generalize lineB z c r = Ln at *
    clear e1 e2 e3 hls
    go_enter Tryz.func45, Tryz.ntmps45
    go_wp2_with fail
    refine HC.out.mono ?_
    rintro e w1 ⟨rfl, hb1⟩
    have hL_w1 := rowB hXL hb1
    have hR_w1 := rowB hXR hb1
    have hZ_w1 := rowB hXZ hb1
    have B_w1 := HAL.trans (hb1.mono (by simp; omega))
    clear HC HAL hXL hXR hXZ AL1 AL2 hb1
    obtain ⟨r0, r1, _, _⟩ := row2 hR_w1
    go_wp2_with fail
    refine (l27Good_any c r hci hri w1).mono ?_
    rw [hg]
    rintro e w2 ⟨rfl, hb2⟩
    have hL_w2 := rowB hL_w1 hb2
    have hR_w2 := rowB hR_w1 hb2
    have hZ_w2 := rowB hZ_w1 hb2
    have B_w2 := below_of B_w1 hb2 B_w1.size
    clear hL_w1 hR_w1 hZ_w1 hb2 r0 r1
    clear hk hg hD hP hc hr hci hri hsz hcnt
    obtain ⟨l0, l1, l2, lf0, lf1, lf2⟩ := row3 hL_w2
    obtain ⟨r0, r1, _, _⟩ := row2 hR_w2
    go_wp2_with fail
    refine wp_region_held_drew (S := fun w' => w'.cell? ⟨w.heap.size, 2, none⟩ = some (.int .i64 z) ∧ w'.cell? ⟨w.heap.size + 1, 0, none⟩ = some (.string c) ∧ w'.cell? ⟨w.heap.size + 1, 1, none⟩ = some (.string r)) (by kernel_rfl) ⟨l2, r0, r1⟩ (fun jd => ?_)
    have hL_w2 : w2.drew.heap[w.heap.size]? = _ := hL_w2
    have hR_w2 : w2.drew.heap[w.heap.size + 1]? = _ := hR_w2
    have hZ_w2 : w2.drew.heap[w.heap.size + 2]? = _ := hZ_w2
    have B_w2 : Below w.heap.size w w2.drew := B_w2.drew
    clear l0 l1 l2 lf0 lf1 lf2 r0 r1
    generalize w2.drew = w2 at *
    refine tj 0 19 (lh fun _ h => h) rfl jd ?_
    refine tj 2 21 (lh fun _ h => h) rfl jd ?_
    refine tj 3 22 (lh fun _ h => h) rfl jd ?_
    refine tj 4 23 (lh fun _ h => h) rfl jd ?_
    refine wpAnyH_ready (rs := [1, 5]) (by kernel_rfl) (by simp) ?_
    refine (AllReadyH.cons rfl (fun K hK => ?_) (AllReadyH.cons rfl (fun K hK => ?_) AllReadyH.nil))
    ·have l1 := (row3 hL_w2).2.1
     go_simp
     refine hK.out _ _ jd (fun jd => ?_)
     clear hK K l1
     refine wpAnyH_ready (rs := [5]) (by kernel_rfl) (by simp) ?_
     refine (AllReadyH.cons rfl (fun K hK => ?_) AllReadyH.nil)
     go_simp
     refine (HE.out _).mono ?_
     rintro e wa ⟨rfl, hb_wa⟩
     have hL_wa := rowB hL_w2 hb_wa
     have hR_wa := rowB hR_w2 hb_wa
     have hZ_wa := rowB hZ_w2 hb_wa
     have B_wa := below_of B_w2 hb_wa B_w2.size
     have S_wa : (fun w' => w'.cell? ⟨w.heap.size, 2, none⟩ = some (.int .i64 z) ∧ w'.cell? ⟨w.heap.size + 1, 0, none⟩ = some (.string c) ∧ w'.cell? ⟨w.heap.size + 1, 1, none⟩ = some (.string r)) wa := ⟨(row3 hL_wa).2.2.1, (row2 hR_wa).1, (row2 hR_wa).2.1⟩
     refine hK.out _ _ S_wa (fun jd => ?_)
     clear hK K
     refine wpAnyH_takeD (i := 6) (d := 25) (v := ?_) rfl (by kernel_rfl) (by kernel_rfl) (by kernel_rfl) (fun _ _ _ h => h) (by rfl) ?_ jd ?_
     rotate_left
     ·intro wS hS
      refine run_add_strP ⟨_, _, rfl, rfl, by omega, ?_⟩
      with_reducible rfl
     simp only [Act.put, p1, p2, p3]
     refine tj 7 26 (lh fun _ h => h) rfl jd ?_
     refine wpAnyH_ready (rs := [8]) (by kernel_rfl) (by simp) ?_
     refine (AllReadyH.cons rfl (fun K hK => ?_) AllReadyH.nil)
     obtain ⟨l0, l1, l2, lf0, lf1, lf2⟩ := row3 hL_wa
     have hLx := row3_set1 (y := P ++ Ln) hL_wa
     have hRx := row_far hR_wa ⟨w.heap.size, 1, none⟩ (.string (P ++ Ln)) (by simp)
     have hZx := row_far hZ_wa ⟨w.heap.size, 1, none⟩ (.string (P ++ Ln)) (by simp)
     have Bx : Below w.heap.size w (wa.setCell ⟨w.heap.size, 1, none⟩ (.string (P ++ Ln))) := B_wa.setCell (Nat.le_refl _) _
     go_simp
     generalize (wa.setCell ⟨w.heap.size, 1, none⟩ (.string (P ++ Ln))) = wb at *
     have hL_wb := hLx
     have hR_wb := hRx
     have hZ_wb := hZx
     have B_wb := Bx
     refine hK.out _ _ ⟨(row3 hL_wb).2.2.1, (row2 hR_wb).1, (row2 hR_wb).2.1⟩ (fun jd => ?_)
     clear hK K hLx hRx hZx Bx l0 l1 l2 lf0 lf1 lf2
     refine wpAnyH_done (by kernel_rfl) ?_ _
     have hLy := row3_set2 (u := z + 1) hL_wb
     have hZy := row_far hZ_wb ⟨w.heap.size, 2, none⟩ (.int .i64 (z + 1)) (by simp)
     have By : Below w.heap.size w (wb.setCell ⟨w.heap.size, 2, none⟩ (.int .i64 (z + 1))) := B_wb.setCell (Nat.le_refl _) _
     obtain ⟨m0, m1, m2, m3, m4, m5⟩ := row3 hL_wb
     go_upto_region 7 with fail
     generalize (wb.setCell ⟨w.heap.size, 2, none⟩ (.int .i64 (z + 1))) = wy at *
     have hL_wy := hLy
     have hZ_wy := hZy
     clear m0 m1 m2 m3 m4 m5 hLy hZy
     obtain ⟨l0, l1, l2, lf0, lf1, lf2⟩ := row3 hL_wy
     obtain ⟨z0, z1, z2, z3, z4, z5⟩ := row3 hZ_wy
     go_wp2_with fail
     obtain ⟨a0, a1, a2, _, _, _⟩ := row3 (row3_set (x := D) (y := (P ++ Ln)) (u := (z + 1)) hZ_wy)
     have BZ := below3 (b := w.heap.size + 2) (x := D) (y := (P ++ Ln)) (u := (z + 1)) By (by omega)
     generalize ((wy.setCell ⟨(w.heap.size + 2), 0, none⟩ (.string D)).setCell ⟨(w.heap.size + 2), 1, none⟩ (.string (P ++ Ln))).setCell ⟨(w.heap.size + 2), 2, none⟩ (.int .i64 (z + 1)) = WZ at *
     (try simp only [Exit.inBlock, Exit.then]); refine bodyPost_ret (by simp [results, Tryz.results45, go_sem, a0, a1, a2]; try rfl) rfl ?_
     exact ⟨rfl, BZ⟩
    ·go_simp
     refine (HE.out _).mono ?_
     rintro e wa ⟨rfl, hb_wa⟩
     have hL_wa := rowB hL_w2 hb_wa
     have hR_wa := rowB hR_w2 hb_wa
     have hZ_wa := rowB hZ_w2 hb_wa
     have B_wa := below_of B_w2 hb_wa B_w2.size
     have S_wa : (fun w' => w'.cell? ⟨w.heap.size, 2, none⟩ = some (.int .i64 z) ∧ w'.cell? ⟨w.heap.size + 1, 0, none⟩ = some (.string c) ∧ w'.cell? ⟨w.heap.size + 1, 1, none⟩ = some (.string r)) wa := ⟨(row3 hL_wa).2.2.1, (row2 hR_wa).1, (row2 hR_wa).2.1⟩
     refine hK.out _ _ S_wa (fun jd => ?_)
     clear hK K
     refine wpAnyH_ready (rs := [1]) (by kernel_rfl) (by simp) ?_
     refine (AllReadyH.cons rfl (fun K hK => ?_) AllReadyH.nil)
     have l1 := (row3 hL_wa).2.1
     go_simp
     refine hK.out _ _ jd (fun jd => ?_)
     clear hK K l1
     refine wpAnyH_takeD (i := 6) (d := 25) (v := ?_) rfl (by kernel_rfl) (by kernel_rfl) (by kernel_rfl) (fun _ _ _ h => h) (by rfl) ?_ jd ?_
     rotate_left
     ·intro wS hS
      refine run_add_strP ⟨_, _, rfl, rfl, by omega, ?_⟩
      with_reducible rfl
     simp only [Act.put, p1, p2, p3]
     refine tj 7 26 (lh fun _ h => h) rfl jd ?_
     refine wpAnyH_ready (rs := [8]) (by kernel_rfl) (by simp) ?_
     refine (AllReadyH.cons rfl (fun K hK => ?_) AllReadyH.nil)
     obtain ⟨l0, l1, l2, lf0, lf1, lf2⟩ := row3 hL_wa
     have hLx := row3_set1 (y := P ++ Ln) hL_wa
     have hRx := row_far hR_wa ⟨w.heap.size, 1, none⟩ (.string (P ++ Ln)) (by simp)
     have hZx := row_far hZ_wa ⟨w.heap.size, 1, none⟩ (.string (P ++ Ln)) (by simp)
     have Bx : Below w.heap.size w (wa.setCell ⟨w.heap.size, 1, none⟩ (.string (P ++ Ln))) := B_wa.setCell (Nat.le_refl _) _
     go_simp
     generalize (wa.setCell ⟨w.heap.size, 1, none⟩ (.string (P ++ Ln))) = wb at *
     have hL_wb := hLx
     have hR_wb := hRx
     have hZ_wb := hZx
     have B_wb := Bx
     refine hK.out _ _ ⟨(row3 hL_wb).2.2.1, (row2 hR_wb).1, (row2 hR_wb).2.1⟩ (fun jd => ?_)
     clear hK K hLx hRx hZx Bx l0 l1 l2 lf0 lf1 lf2
     refine wpAnyH_done (by kernel_rfl) ?_ _
     have hLy := row3_set2 (u := z + 1) hL_wb
     have hZy := row_far hZ_wb ⟨w.heap.size, 2, none⟩ (.int .i64 (z + 1)) (by simp)
     have By : Below w.heap.size w (wb.setCell ⟨w.heap.size, 2, none⟩ (.int .i64 (z + 1))) := B_wb.setCell (Nat.le_refl _) _
     obtain ⟨m0, m1, m2, m3, m4, m5⟩ := row3 hL_wb
     go_upto_region 7 with fail
     generalize (wb.setCell ⟨w.heap.size, 2, none⟩ (.int .i64 (z + 1))) = wy at *
     have hL_wy := hLy
     have hZ_wy := hZy
     clear m0 m1 m2 m3 m4 m5 hLy hZy
     obtain ⟨l0, l1, l2, lf0, lf1, lf2⟩ := row3 hL_wy
     obtain ⟨z0, z1, z2, z3, z4, z5⟩ := row3 hZ_wy
     go_wp2_with fail
     obtain ⟨a0, a1, a2, _, _, _⟩ := row3 (row3_set (x := D) (y := (P ++ Ln)) (u := (z + 1)) hZ_wy)
     have BZ := below3 (b := w.heap.size + 2) (x := D) (y := (P ++ Ln)) (u := (z + 1)) By (by omega)
     generalize ((wy.setCell ⟨(w.heap.size + 2), 0, none⟩ (.string D)).setCell ⟨(w.heap.size + 2), 1, none⟩ (.string (P ++ Ln))).setCell ⟨(w.heap.size + 2), 2, none⟩ (.int .i64 (z + 1)) = WZ at *
     (try simp only [Exit.inBlock, Exit.then]); refine bodyPost_ret (by simp [results, Tryz.results45, go_sem, a0, a1, a2]; try rfl) rfl ?_
     exact ⟨rfl, BZ⟩
end Go.Proofs.YtpndjhelpoenpaaGreatDoor
namespace Go.Proofs.YtpndjhelpoenpaaGreatDoor
open Go.RowKit
noncomputable section
def wsV (s : ByteArray) (j : Nat) : ByteArray := (wordsV 32 s).getD j ⟨#[]⟩
def mV (s : ByteArray) : Nat := (wordsV 32 s).length - 1
def cV (s : ByteArray) : Int := cmdN (wsV s 0) (mV s)
def xV (s : ByteArray) (i : Nat) : Int := (numL (wsV s) (mV s)).getD i 0
def xcGo (f : Nat → Int) (n : Nat) (I H S P : Int) (D Q : ByteArray) (z : Int) (s : ByteArray) : Bool := (goodWorks f n I H S P && logOk D Q z) && (goodRec s ⟨#[]⟩ && decide (z ≠ 60))
def xcA (f : Nat → Int) (n : Nat) (I H S P : Int) (s : ByteArray) : Bool := allTo (okN (wsV s)) (mV s) && exOk (lf (cellsL f n)) n I H S P (cV s) (xV s 0) (xV s 1) (xV s 2)
def xcUp (f : Nat → Int) (n : Nat) (I H S P : Int) (D Q : ByteArray) (z : Int) (s : ByteArray) : Bool := xcGo f n I H S P D Q z s && xcA f n I H S P s
def xcL (f : Nat → Int) (n : Nat) (I H S P : Int) (D Q : ByteArray) (z : Int) (s : ByteArray) : List Int := if xcUp f n I H S P D Q z s then exL (lf (cellsL f n)) n I H S P (cV s) (xV s 0) (xV s 1) (xV s 2) else cellsL f n
def xcN (f : Nat → Int) (n : Nat) (I H S P : Int) (D Q : ByteArray) (z : Int) (s : ByteArray) : Nat := if xcUp f n I H S P D Q z s then exN (lf (cellsL f n)) n I H S P (cV s) (xV s 0) (xV s 1) (xV s 2) else n
def xcI (f : Nat → Int) (n : Nat) (I H S P : Int) (D Q : ByteArray) (z : Int) (s : ByteArray) : Int := if xcUp f n I H S P D Q z s then exI (lf (cellsL f n)) n I H S P (cV s) (xV s 0) (xV s 1) (xV s 2) else I
def xcH (f : Nat → Int) (n : Nat) (I H S P : Int) (D Q : ByteArray) (z : Int) (s : ByteArray) : Int := if xcUp f n I H S P D Q z s then exH (lf (cellsL f n)) n I H S P (cV s) (xV s 0) (xV s 1) (xV s 2) else H
def xcS (f : Nat → Int) (n : Nat) (I H S P : Int) (D Q : ByteArray) (z : Int) (s : ByteArray) : Int := if xcUp f n I H S P D Q z s then exS (lf (cellsL f n)) n I H S P (cV s) (xV s 0) (xV s 1) (xV s 2) else S
def xcP (f : Nat → Int) (n : Nat) (I H S P : Int) (D Q : ByteArray) (z : Int) (s : ByteArray) : Int := if xcUp f n I H S P D Q z s then exP (lf (cellsL f n)) n I H S P (cV s) (xV s 0) (xV s 1) (xV s 2) else P
def longV (r : ByteArray) : ByteArray := if 200 < r.size then ⟨#[108, 111, 110, 103]⟩ else r
def xcT (f : Nat → Int) (n : Nat) (I H S P : Int) (s : ByteArray) : ByteArray := longV (if xcA f n I H S P s then exR (lf (cellsL f n)) n I H S P (cV s) (xV s 0) (xV s 1) (xV s 2) else ⟨#[63]⟩)
def xcR (f : Nat → Int) (n : Nat) (I H S P : Int) (D Q : ByteArray) (z : Int) (s : ByteArray) : ByteArray :=
 if goodWorks f n I H S P && logOk D Q z then (if goodRec s ⟨#[]⟩ then (if z = 60 then ⟨#[102, 117, 108, 108]⟩ else xcT f n I H S P s) else ⟨#[98, 97, 100]⟩) else ⟨#[110, 111]⟩
def xcQ (f : Nat → Int) (n : Nat) (I H S P : Int) (D Q : ByteArray) (z : Int) (s : ByteArray) : ByteArray := if xcGo f n I H S P D Q z s then apP D Q z s (xcT f n I H S P s) else Q
def xcZ (f : Nat → Int) (n : Nat) (I H S P : Int) (D Q : ByteArray) (z : Int) (s : ByteArray) : Int := if xcGo f n I H S P D Q z s then apZ D Q z s (xcT f n I H S P s) else z
end
theorem longV_size (r : ByteArray) : (longV r).size ≤ 200 := by
 unfold longV
 split
 ·decide
 ·omega
theorem ws_len (s : ByteArray) : (wordsV 32 s).length = mV s + 1 := by
 have := wordsV_pos 32 s
 unfold mV
 omega
theorem wsV_size (s : ByteArray) (j : Nat) : (wsV s j).size ≤ s.size := by
 unfold wsV
 by_cases h : j < (wordsV 32 s).length
 ·rw [List.getD_eq_getElem?_getD, List.getElem?_eq_getElem h]
  exact wordsV_size (List.getElem_mem h)
 ·rw [List.getD_eq_getElem?_getD, List.getElem?_eq_none (by omega)]
  exact Nat.zero_le _
theorem allTo_congr' {p q : Nat → Bool} : ∀ {n : Nat}, (∀ k, k < n → p k = q k) → allTo p n = allTo q n
 | 0, _ => rfl
 | n + 1, h => by
  unfold allTo
  rw [allTo_congr' (n := n) (fun k hk => h k (by omega)), h n (by omega)]
theorem goodWorks_congr' {f g : Nat → Int} {n : Nat} {I H S P : Int} (h : ∀ j, j < n * 4 → f j = g j) : goodWorks f n I H S P = goodWorks g n I H S P := by
 have h1 : pansOk f n = pansOk g n := by
  unfold pansOk
  congr 1
  refine allTo_congr' fun k hk => ?_
  simp only [panStep, okPanAt]
  rw [h (k * 4) (by omega), h (k * 4 + 1) (by omega), h (k * 4 + 2) (by omega), h (k * 4 + 3) (by omega), h ((k - 1) * 4) (by omega)]
 have h2 : ∀ m, m ≤ n → sumW (saltAt f) m = sumW (saltAt g) m := by
  intro m
  induction m with
  | zero => intro _; rfl
  | succ m ih =>
   intro hm
   simp only [sumW, saltAt]
   rw [ih (by omega)]
   have := h (m * 4 + 3) (by omega)
   simp only [this]
 unfold goodWorks totalV
 rw [h1, h2 n (Nat.le_refl _)]
theorem good_cells {f : Nat → Int} {n : Nat} {I H S P : Int} : goodWorks (lf (cellsL f n)) n I H S P = goodWorks f n I H S P :=
 goodWorks_congr' (fun j hj => lf_cells f n hj)
theorem salt_ge {f : Nat → Int} {n : Nat} {I H S P : Int} (hg : goodWorks f n I H S P = true) : 0 ≤ sumW (saltAt f) n ∧ sumW (saltAt f) n ≤ 9223372036854775807 := by
 have h6 := good_len hg
 have h := sumW_bounds (g := saltAt f) n h6 (fun k hk => ⟨(good_brine hg hk).2.2.1, (good_brine hg hk).2.2.2.1⟩) n (Nat.le_refl n)
 omega
theorem good_kilos {f : Nat → Int} {n : Nat} {I H S P : Int} (hg : goodWorks f n I H S P = true) : (0 ≤ I ∧ I ≤ 1000000) ∧ (0 ≤ H ∧ H ≤ 1000000) ∧ (0 ≤ S ∧ S ≤ 1000000) ∧ (0 ≤ P ∧ P ≤ 1000000) := by
 simp only [goodWorks, kilosOk, inR, Bool.and_eq_true, decide_eq_true_eq] at hg
 obtain ⟨⟨_, h⟩, _⟩ := hg
 exact ⟨h.1.1.1, h.1.1.2, h.1.2, h.2⟩
theorem l28Number_any (n : Int) (ok : Bool) (h0 : ok = true → 0 ≤ n) (h1 : n ≤ 9223372036854775807) (w : World) :
  Calls Tryz.prog 132 #[.int .i64 n, .bool ok] w fun e w' => e = .returned (.string (if ok then numB n else ⟨#[63]⟩)) ∧ Below w.heap.size w w' := by
 cases ok with
 | true =>
  have hz := h0 rfl
  clear h0
  go_enter Tryz.func132, Tryz.ntmps132
  go_wp2_with fail
  refine (l1Num_any n hz h1 w).mono ?_
  rintro e w2 ⟨rfl, hb2⟩
  go_wp2_with fail
  go_returns
  exact ⟨rfl, hb2⟩
 | false =>
  go_enter Tryz.func132, Tryz.ntmps132
  go_wp2_with fail
  go_returns
  exact ⟨rfl, Below.refl _ _⟩
theorem l28Pan_any (x : Int) (A : Option Addr) (n c lo hi : Nat) (f : Nat → Int) (I H S P : Int) (w : World) (hs : Sl w lo hi 4 A n f) (hn : n ≤ 1048576) (hnc : n ≤ c) (hgd : goodWorks f n I H S P = true) :
  Calls Tryz.prog 133 #[.agg #[.slice A n c, .int .i64 I, .int .i64 H, .int .i64 S, .int .i64 P], .int .i64 x] w fun e w' => e = .returned (.string (if 0 ≤ findV (pid f) x n 0 then panX f n x else ⟨#[63]⟩)) ∧ Below w.heap.size w w' := by
 by_cases hv : 0 ≤ findV (pid f) x n 0
 ·obtain ⟨j, hj, hfd, hpj⟩ := findV_mem hv
  have hat := lh (atN_eq (f := f) hfd)
  obtain ⟨r, hr⟩ : ∃ r, (if 0 ≤ findV (pid f) x n 0 then panX f n x else ⟨#[63]⟩ : ByteArray) = r := ⟨_, rfl⟩
  simp only [hr]
  have HR : Hid (panX f n x = r) := by show _ = _; rw [← hr]; simp [hv, panX]
  clear hr
  have HFD := lh hfd
  clear hv hfd
  obtain ⟨hX, h0⟩ := bl1 w (.cells #[.slice A n c, .int .i64 I, .int .i64 H, .int .i64 S, .int .i64 P] 32)
  have hS := hs.below hX
  go_enter Tryz.func133, Tryz.ntmps133
  go_upto_region 1 with fail
  refine name_wp ?_
  intro w1 hw1
  rw [← hw1] at hX h0 hS
  clear hw1
  obtain ⟨e0, e1, e2, e3, e4⟩ := cells5 h0
  have HX := lh hX
  have HS := lh hS
  clear hX hS h0 hs
  go_wp2_with fail
  refine (sPanText_yes A n c lo hi f I H S P x w1 HS.out hn hnc hgd j hj HFD.out).mono ?_
  rintro e w2 ⟨rfl, hb2⟩
  go_wp2_with fail
  go_returns
  exact ⟨(by rw [← HR.out, panX, hat.out]; try rfl), HX.out.trans (hb2.mono HX.out.size)⟩
 ·have hfd := findV_none hv
  obtain ⟨r, hr⟩ : ∃ r, (if 0 ≤ findV (pid f) x n 0 then panX f n x else ⟨#[63]⟩ : ByteArray) = r := ⟨_, rfl⟩
  simp only [hr]
  have HR : Hid (⟨#[63]⟩ = r) := by show _ = _; rw [← hr]; simp [hv, panX]
  clear hr
  have HFD := lh hfd
  clear hv hfd
  obtain ⟨hX, h0⟩ := bl1 w (.cells #[.slice A n c, .int .i64 I, .int .i64 H, .int .i64 S, .int .i64 P] 32)
  have hS := hs.below hX
  go_enter Tryz.func133, Tryz.ntmps133
  go_upto_region 1 with fail
  refine name_wp ?_
  intro w1 hw1
  rw [← hw1] at hX h0 hS
  clear hw1
  obtain ⟨e0, e1, e2, e3, e4⟩ := cells5 h0
  have HX := lh hX
  have HS := lh hS
  clear hX hS h0 hs
  go_wp2_with fail
  refine (sPanText_no A n c lo hi f I H S P x w1 HS.out hn hnc (Or.inr HFD.out)).mono ?_
  rintro e w2 ⟨rfl, hb2⟩
  go_wp2_with fail
  go_returns
  exact ⟨(by rw [← HR.out]; try rfl), HX.out.trans (hb2.mono HX.out.size)⟩
theorem l28Word_8 (u : ByteArray) (hu : u = wd8) (A : Option Addr) (n c lo hi : Nat) (f : Nat → Int) (I H S P : Int) (w : World) (hs : Sl w lo hi 4 A n f) (hn : n ≤ 1048576) (hnc : n ≤ c) (hgd : goodWorks f n I H S P = true) (hI : 0 ≤ I ∧ I ≤ 9223372036854775807) (hH : 0 ≤ H ∧ H ≤ 9223372036854775807) :
  Calls Tryz.prog 84 #[.agg #[.slice A n c, .int .i64 I, .int .i64 H, .int .i64 S, .int .i64 P], .string u] w fun e w' => e = .returned (.string (rpR f n I H S P 8 0 0)) ∧ Below w.heap.size w w' := by
 have q8 : (u.toList == ([105, 110] : List UInt8)) = true := by rw [hu]; decide +kernel
 clear hu
 obtain ⟨hX, h0⟩ := bl1 w (.cells #[.slice A n c, .int .i64 I, .int .i64 H, .int .i64 S, .int .i64 P] 32)
 have hS := hs.below hX
 go_enter Tryz.func84, Tryz.ntmps84
 go_upto_region 2 with fail
 refine name_wp ?_
 intro w1 hw1
 rw [← hw1] at hX h0 hS
 clear hw1
 obtain ⟨e0, e1, e2, e3, e4⟩ := cells5 h0
 have HX := lh hX
 have HS := lh hS
 clear hX hS h0 hs
 go_wp2_with fail
 refine (l1Num_any I (by omega) (by omega) w1).mono ?_
 rintro e w2 ⟨rfl, hb2⟩
 go_wp2_with fail
 go_returns
 exact ⟨(by simp [rpR]; try rfl), HX.out.trans (hb2.mono HX.out.size)⟩
theorem l28Word_9 (u : ByteArray) (hu : u = wd9) (A : Option Addr) (n c lo hi : Nat) (f : Nat → Int) (I H S P : Int) (w : World) (hs : Sl w lo hi 4 A n f) (hn : n ≤ 1048576) (hnc : n ≤ c) (hgd : goodWorks f n I H S P = true) (hI : 0 ≤ I ∧ I ≤ 9223372036854775807) (hH : 0 ≤ H ∧ H ≤ 9223372036854775807) :
  Calls Tryz.prog 84 #[.agg #[.slice A n c, .int .i64 I, .int .i64 H, .int .i64 S, .int .i64 P], .string u] w fun e w' => e = .returned (.string (rpR f n I H S P 9 0 0)) ∧ Below w.heap.size w w' := by
 have q8 := wq7 hu (by decide +kernel)
 have q9 : (u.toList == ([104, 101, 97, 112] : List UInt8)) = true := by rw [hu]; decide +kernel
 clear hu
 obtain ⟨hX, h0⟩ := bl1 w (.cells #[.slice A n c, .int .i64 I, .int .i64 H, .int .i64 S, .int .i64 P] 32)
 have hS := hs.below hX
 go_enter Tryz.func84, Tryz.ntmps84
 go_upto_region 2 with fail
 refine name_wp ?_
 intro w1 hw1
 rw [← hw1] at hX h0 hS
 clear hw1
 obtain ⟨e0, e1, e2, e3, e4⟩ := cells5 h0
 have HX := lh hX
 have HS := lh hS
 clear hX hS h0 hs
 go_wp2_with fail
 refine (l1Num_any H (by omega) (by omega) w1).mono ?_
 rintro e w2 ⟨rfl, hb2⟩
 go_wp2_with fail
 go_returns
 exact ⟨(by simp [rpR]; try rfl), HX.out.trans (hb2.mono HX.out.size)⟩
theorem l28Word_10 (u : ByteArray) (hu : u = wd10) (A : Option Addr) (n c lo hi : Nat) (f : Nat → Int) (I H S P : Int) (w : World) (hs : Sl w lo hi 4 A n f) (hn : n ≤ 1048576) (hnc : n ≤ c) (hgd : goodWorks f n I H S P = true) (hI : 0 ≤ I ∧ I ≤ 9223372036854775807) (hH : 0 ≤ H ∧ H ≤ 9223372036854775807) :
  Calls Tryz.prog 84 #[.agg #[.slice A n c, .int .i64 I, .int .i64 H, .int .i64 S, .int .i64 P], .string u] w fun e w' => e = .returned (.string (rpR f n I H S P 10 0 0)) ∧ Below w.heap.size w w' := by
 have q8 := wq7 hu (by decide +kernel)
 have q9 := wq6 hu (by decide +kernel)
 have q10 : (u.toList == ([112, 97, 110, 115] : List UInt8)) = true := by rw [hu]; decide +kernel
 clear hu
 obtain ⟨hX, h0⟩ := bl1 w (.cells #[.slice A n c, .int .i64 I, .int .i64 H, .int .i64 S, .int .i64 P] 32)
 have hS := hs.below hX
 go_enter Tryz.func84, Tryz.ntmps84
 go_upto_region 2 with fail
 refine name_wp ?_
 intro w1 hw1
 rw [← hw1] at hX h0 hS
 clear hw1
 obtain ⟨e0, e1, e2, e3, e4⟩ := cells5 h0
 have HX := lh hX
 have HS := lh hS
 clear hX hS h0 hs
 have hsb := salt_ge hgd
 go_wp2_with fail
 refine (l25Salt_any A n c lo hi f I H S P w1 HS.out hn hnc).mono ?_
 rintro e w2 ⟨rfl, hb2⟩
 go_wp2_with fail
 refine (l1Num_any _ (by omega) (by omega) w2).mono ?_
 rintro e w3 ⟨rfl, hb3⟩
 go_wp2_with fail
 go_returns
 exact ⟨(by simp [rpR]; try rfl), HX.out.trans ((below_of hb2 hb3 hb2.size).mono HX.out.size)⟩
theorem l28Word_11 (u : ByteArray) (hu : u = wd11) (A : Option Addr) (n c lo hi : Nat) (f : Nat → Int) (I H S P : Int) (w : World) (hs : Sl w lo hi 4 A n f) (hn : n ≤ 1048576) (hnc : n ≤ c) (hgd : goodWorks f n I H S P = true) (hI : 0 ≤ I ∧ I ≤ 9223372036854775807) (hH : 0 ≤ H ∧ H ≤ 9223372036854775807) :
  Calls Tryz.prog 84 #[.agg #[.slice A n c, .int .i64 I, .int .i64 H, .int .i64 S, .int .i64 P], .string u] w fun e w' => e = .returned (.string (rpR f n I H S P 11 0 0)) ∧ Below w.heap.size w w' := by
 have q8 := wq7 hu (by decide +kernel)
 have q9 := wq6 hu (by decide +kernel)
 have q10 := wq9 hu (by decide +kernel)
 have q11 : (u.toList == ([109, 97, 121] : List UInt8)) = true := by rw [hu]; decide +kernel
 clear hu
 obtain ⟨hX, h0⟩ := bl1 w (.cells #[.slice A n c, .int .i64 I, .int .i64 H, .int .i64 S, .int .i64 P] 32)
 have hS := hs.below hX
 go_enter Tryz.func84, Tryz.ntmps84
 go_upto_region 2 with fail
 refine name_wp ?_
 intro w1 hw1
 rw [← hw1] at hX h0 hS
 clear hw1
 obtain ⟨e0, e1, e2, e3, e4⟩ := cells5 h0
 have HX := lh hX
 have HS := lh hS
 clear hX hS h0 hs
 have HR : Hid (rpR f n I H S P 11 0 0 = listB (fun j => (rakeRes f n true).getD j 0) (rakeRes f n true).length) := by show _ = _; simp [rpR]
 have hsm := lh (rake_small hgd)
 have hln := rakeRes_len f n true
 have hn6 := con_len hgd
 have HM := sMayRake_any A n c lo hi f I H S P w1 HS.out hn hnc
 rw [hgd] at HM
 generalize rakeRes f n true = L at HM hsm hln HR
 have HMM := lh HM
 clear HM
 go_wp2_with fail
 refine HMM.out.mono ?_
 rintro e w2 ⟨Ar, cr, rfl, hcr, _, hor, hb2⟩
 have HOR := lh hor
 clear hor
 go_wp2_with fail
 refine (l28List_any Ar L.length cr _ _ _ w2 HOR.out.sl (by omega) hcr hsm.out).mono ?_
 rintro e w3 ⟨rfl, hb3⟩
 go_wp2_with fail
 go_returns
 exact ⟨(by rw [HR.out]; try rfl), HX.out.trans ((below_of hb2 hb3 hb2.size).mono HX.out.size)⟩
theorem l28Word_12 (u : ByteArray) (hu : u = wd12) (A : Option Addr) (n c lo hi : Nat) (f : Nat → Int) (I H S P : Int) (w : World) (hs : Sl w lo hi 4 A n f) (hn : n ≤ 1048576) (hnc : n ≤ c) (hgd : goodWorks f n I H S P = true) (hI : 0 ≤ I ∧ I ≤ 9223372036854775807) (hH : 0 ≤ H ∧ H ≤ 9223372036854775807) :
  Calls Tryz.prog 84 #[.agg #[.slice A n c, .int .i64 I, .int .i64 H, .int .i64 S, .int .i64 P], .string u] w fun e w' => e = .returned (.string (rpR f n I H S P 12 0 0)) ∧ Below w.heap.size w w' := by
 have q8 := wq7 hu (by decide +kernel)
 have q9 := wq6 hu (by decide +kernel)
 have q10 := wq9 hu (by decide +kernel)
 have q11 := wq10 hu (by decide +kernel)
 have q12 : (u.toList == ([111, 114, 100, 101, 114] : List UInt8)) = true := by rw [hu]; decide +kernel
 clear hu
 obtain ⟨hX, h0⟩ := bl1 w (.cells #[.slice A n c, .int .i64 I, .int .i64 H, .int .i64 S, .int .i64 P] 32)
 have hS := hs.below hX
 go_enter Tryz.func84, Tryz.ntmps84
 go_upto_region 2 with fail
 refine name_wp ?_
 intro w1 hw1
 rw [← hw1] at hX h0 hS
 clear hw1
 obtain ⟨e0, e1, e2, e3, e4⟩ := cells5 h0
 have HX := lh hX
 have HS := lh hS
 clear hX hS h0 hs
 have HR : Hid (rpR f n I H S P 12 0 0 = listB (fun j => (ordRes f n true).getD j 0) (ordRes f n true).length) := by show _ = _; simp [rpR]
 have hsm := lh (ord_small hgd)
 have hln := ordRes_len f n true
 have hn6 := con_len hgd
 have HM := sPanOrder_any A n c lo hi f I H S P w1 HS.out hn hnc
 rw [hgd] at HM
 generalize ordRes f n true = L at HM hsm hln HR
 have HMM := lh HM
 clear HM
 go_wp2_with fail
 refine HMM.out.mono ?_
 rintro e w2 ⟨Ar, cr, rfl, hcr, _, hor, hb2⟩
 have HOR := lh hor
 clear hor
 go_wp2_with fail
 refine (l28List_any Ar L.length cr _ _ _ w2 HOR.out.sl (by omega) hcr hsm.out).mono ?_
 rintro e w3 ⟨rfl, hb3⟩
 go_wp2_with fail
 go_returns
 exact ⟨(by rw [HR.out]; try rfl), HX.out.trans ((below_of hb2 hb3 hb2.size).mono HX.out.size)⟩
theorem l28Word_no (u : ByteArray) (h8 : u ≠ wd8) (h9 : u ≠ wd9) (h10 : u ≠ wd10) (h11 : u ≠ wd11) (h12 : u ≠ wd12) (A : Option Addr) (n c lo hi : Nat) (f : Nat → Int) (I H S P : Int) (w : World) (hs : Sl w lo hi 4 A n f) (hn : n ≤ 1048576) (hnc : n ≤ c) (hgd : goodWorks f n I H S P = true) :
  Calls Tryz.prog 84 #[.agg #[.slice A n c, .int .i64 I, .int .i64 H, .int .i64 S, .int .i64 P], .string u] w fun e w' => e = .returned (.string ⟨#[63]⟩) ∧ Below w.heap.size w w' := by
 have q8 : (u.toList == ([105, 110] : List UInt8)) = false := by
  rw [show ([105, 110] : List UInt8) = wd8.toList by decide +kernel, toList_beq]
  exact decide_eq_false h8
 have q9 : (u.toList == ([104, 101, 97, 112] : List UInt8)) = false := by
  rw [show ([104, 101, 97, 112] : List UInt8) = wd9.toList by decide +kernel, toList_beq]
  exact decide_eq_false h9
 have q10 : (u.toList == ([112, 97, 110, 115] : List UInt8)) = false := by
  rw [show ([112, 97, 110, 115] : List UInt8) = wd10.toList by decide +kernel, toList_beq]
  exact decide_eq_false h10
 have q11 : (u.toList == ([109, 97, 121] : List UInt8)) = false := by
  rw [show ([109, 97, 121] : List UInt8) = wd11.toList by decide +kernel, toList_beq]
  exact decide_eq_false h11
 have q12 : (u.toList == ([111, 114, 100, 101, 114] : List UInt8)) = false := by
  rw [show ([111, 114, 100, 101, 114] : List UInt8) = wd12.toList by decide +kernel, toList_beq]
  exact decide_eq_false h12
 clear h8 h9 h10 h11 h12
 obtain ⟨hX, h0⟩ := bl1 w (.cells #[.slice A n c, .int .i64 I, .int .i64 H, .int .i64 S, .int .i64 P] 32)
 have hS := hs.below hX
 go_enter Tryz.func84, Tryz.ntmps84
 go_upto_region 2 with fail
 refine name_wp ?_
 intro w1 hw1
 rw [← hw1] at hX h0 hS
 clear hw1
 obtain ⟨e0, e1, e2, e3, e4⟩ := cells5 h0
 have HX := lh hX
 have HS := lh hS
 clear hX hS h0 hs
 go_wp2_with fail
 go_returns
 exact ⟨rfl, HX.out⟩
end Go.Proofs.YtpndjhelpoenpaaGreatDoor
