/-
  Texts of this claim, merged.
-/
import Derived.Test.YtpndjhelpoenpaaGreatDoorZB13
import Derived.Deep.CutBlock
set_option linter.unusedVariables false
set_option linter.unusedSimpArgs false
set_option maxRecDepth 100000
set_option maxHeartbeats 8000000
namespace Go.Proofs.YtpndjhelpoenpaaGreatDoor
open Go.RowKit
attribute [local go_sem ↓] Go.wp_at_zero Go.wp_at_succ
def apT (D P : BA) (z : Int) (c r : BA) : Bool := (logOk D P z && goodRec c r) && decide (z ≠ 60)
def apP (D P : BA) (z : Int) (c r : BA) : BA := if apT D P z c r then P ++ lineB z c r else P
def apZ (D P : BA) (z : Int) (c r : BA) : Int := if apT D P z c r then z + 1 else z
def apK (D P : BA) (z : Int) (c r : BA) : Int := if logOk D P z && goodRec c r then (if z = 60 then 2 else 0) else 1
theorem logOk_cnt {D P : BA} {z : Int} (h : logOk D P z = true) : 0 ≤ z ∧ z ≤ 60 := by
 simp only [logOk, Bool.and_eq_true, decide_eq_true_eq] at h
 have := readN_len (D ++ P) 60
 omega
theorem lineB_size {k : Int} {c r : BA} (h0 : 0 ≤ k) (h1 : k ≤ 59) (h : goodRec c r = true) : (lineB k c r).size ≤ 500 := by
 have h2 := bodyB_size h0 h1 h
 have h3 := sealB_size (bodyB k c r)
 simp only [lineB, ByteArray.size_append', ByteArray.size_mk', List.size_toArray, List.length_cons, List.length_nil]
 omega
theorem heap_alloc3a (w : World) (o1 o2 o3 : Obj) : (((w.alloc o1).alloc o2).alloc o3).heap[w.heap.size]? = some o1 :=
 ((((Below.refl (w.alloc o1).heap.size (w.alloc o1)).alloc (Nat.le_refl _) o2).alloc (by simp) o3).block w.heap.size (by simp)).trans (heap_alloc_new w o1)
theorem heap_alloc3b (w : World) (o1 o2 o3 : Obj) : (((w.alloc o1).alloc o2).alloc o3).heap[w.heap.size + 1]? = some o2 := by
 have h := heap_alloc2 (w.alloc o1) o2 o3
 simpa using h
theorem heap_alloc3c (w : World) (o1 o2 o3 : Obj) : (((w.alloc o1).alloc o2).alloc o3).heap[w.heap.size + 2]? = some o3 := by
 have h := heap_alloc_new ((w.alloc o1).alloc o2) o3
 simpa using h
theorem row_far {W : World} {g : Nat} {o : Obj} (hX : W.heap[g]? = some o) (a : Addr) (v : Value) (h : a.block ≠ g) : (W.setCell a v).heap[g]? = some o := by
 simp [World.setCell, Array.getElem?_modify, h, hX]
theorem row3_set1 {w : World} {g : Nat} {p q y : BA} {z : Int} (h : w.heap[g]? = some (.cells #[.string p, .string q, .int .i64 z] 33 (0, 0))) : (w.setCell ⟨g, 1, none⟩ (.string y)).heap[g]? = some (.cells #[.string p, .string y, .int .i64 z] 33 (0, 0)) := by
 simp [World.setCell, Array.getElem?_modify, h]
theorem row3_set2 {w : World} {g : Nat} {p q : BA} {z u : Int} (h : w.heap[g]? = some (.cells #[.string p, .string q, .int .i64 z] 33 (0, 0))) : (w.setCell ⟨g, 2, none⟩ (.int .i64 u)).heap[g]? = some (.cells #[.string p, .string q, .int .i64 u] 33 (0, 0)) := by
 simp [World.setCell, Array.getElem?_modify, h]
theorem AppendRecord_any (D P : BA) (z : Int) (c r : BA) (hD : D.size ≤ 1048576) (hP : P.size ≤ 1048576) (hc : c.size ≤ 1048576) (hr : r.size ≤ 1048576) (w : World) (ht : Tab w) (hm : Mx w) :
  Calls Tryz.prog 51 #[.agg #[.string D, .string P, .int .i64 z], .agg #[.string c, .string r]] w fun e w' => e = .returned (.tuple #[.agg #[.string D, .string (apP D P z c r), .int .i64 (apZ D P z c r)], .int .i64 (apK D P z c r)]) ∧ Below w.heap.size w w' := by
 have AL1 : Below w.heap.size w (w.alloc (.cells #[.string D, .string P, .int .i64 z] 33)) := (Below.refl _ w).alloc (Nat.le_refl _) _
 have AL2 : Below w.heap.size w ((w.alloc (.cells #[.string D, .string P, .int .i64 z] 33)).alloc (.cells #[.string c, .string r] 70)) := AL1.alloc AL1.size _
 have HAL : Below w.heap.size w (((w.alloc (.cells #[.string D, .string P, .int .i64 z] 33)).alloc (.cells #[.string c, .string r] 70)).alloc (.cells #[.string ⟨#[]⟩, .string ⟨#[]⟩, .int .i64 0] 33)) := AL2.alloc AL2.size _
 have hXL : (((w.alloc (.cells #[.string D, .string P, .int .i64 z] 33)).alloc (.cells #[.string c, .string r] 70)).alloc (.cells #[.string ⟨#[]⟩, .string ⟨#[]⟩, .int .i64 0] 33)).heap[w.heap.size]? = some (.cells #[.string D, .string P, .int .i64 z] 33 (0, 0)) := heap_alloc3a w _ _ _
 have hXR : (((w.alloc (.cells #[.string D, .string P, .int .i64 z] 33)).alloc (.cells #[.string c, .string r] 70)).alloc (.cells #[.string ⟨#[]⟩, .string ⟨#[]⟩, .int .i64 0] 33)).heap[w.heap.size + 1]? = some (.cells #[.string c, .string r] 70 (0, 0)) := heap_alloc3b w _ _ _
 have hXZ : (((w.alloc (.cells #[.string D, .string P, .int .i64 z] 33)).alloc (.cells #[.string c, .string r] 70)).alloc (.cells #[.string ⟨#[]⟩, .string ⟨#[]⟩, .int .i64 0] 33)).heap[w.heap.size + 2]? = some (.cells #[.string ⟨#[]⟩, .string ⟨#[]⟩, .int .i64 0] 33 (0, 0)) := heap_alloc3c w _ _ _
 have hci : (c.size : Int) ≤ 9223372036854775807 := by omega
 have hri : (r.size : Int) ≤ 9223372036854775807 := by omega
 have HC := lh (IsValidLog_any D P z hD hP (((w.alloc (.cells #[.string D, .string P, .int .i64 z] 33)).alloc (.cells #[.string c, .string r] 70)).alloc (.cells #[.string ⟨#[]⟩, .string ⟨#[]⟩, .int .i64 0] 33)) (ht.below HAL) (hm.below HAL))
 cases hk : logOk D P z with
 | false =>
  have e1 : apP D P z c r = P := by simp [apP, apT, hk]
  have e2 : apZ D P z c r = z := by simp [apZ, apT, hk]
  have e3 : apK D P z c r = 1 := by simp [apK, hk]
  rw [e1, e2, e3]
  rw [hk] at HC
  go_enter Tryz.func51, Tryz.ntmps51
  go_wp2_with fail
  refine HC.out.mono ?_
  rintro e w1 ⟨rfl, hb1⟩
  have hL_w1 := rowB hXL hb1
  have hR_w1 := rowB hXR hb1
  have hZ_w1 := rowB hXZ hb1
  have B_w1 := HAL.trans (hb1.mono (by simp; omega))
  clear e1 e2 e3 hk ht hm hD hP hc hr hci hri
  clear HC HAL hXL hXR hXZ AL1 AL2 hb1
  obtain ⟨l0, l1, l2, lf0, lf1, lf2⟩ := row3 hL_w1
  obtain ⟨z0, z1, z2, z3, z4, z5⟩ := row3 hZ_w1
  go_wp2_with fail
  obtain ⟨a0, a1, a2, _, _, _⟩ := row3 (row3_set (x := D) (y := P) (u := z) hZ_w1)
  have BZ := below3 (b := w.heap.size + 2) (x := D) (y := P) (u := z) B_w1 (by omega)
  generalize ((w1.setCell ⟨(w.heap.size + 2), 0, none⟩ (.string D)).setCell ⟨(w.heap.size + 2), 1, none⟩ (.string P)).setCell ⟨(w.heap.size + 2), 2, none⟩ (.int .i64 z) = WZ at *
  (try simp only [Exit.inBlock, Exit.then]); refine bodyPost_ret (by simp [results, Tryz.results51, go_sem, a0, a1, a2]; try rfl) rfl ?_
  exact ⟨rfl, BZ⟩
 | true =>
  have hcnt := logOk_cnt hk
  have hsz := logOk_size hk
  rw [hk] at HC
  cases hg : goodRec c r with
  | false =>
   have e1 : apP D P z c r = P := by simp [apP, apT, hk, hg]
   have e2 : apZ D P z c r = z := by simp [apZ, apT, hk, hg]
   have e3 : apK D P z c r = 1 := by simp [apK, hk, hg]
   rw [e1, e2, e3]
   go_enter Tryz.func51, Tryz.ntmps51
   go_wp2_with fail
   refine HC.out.mono ?_
   rintro e w1 ⟨rfl, hb1⟩
   have hL_w1 := rowB hXL hb1
   have hR_w1 := rowB hXR hb1
   have hZ_w1 := rowB hXZ hb1
   have B_w1 := HAL.trans (hb1.mono (by simp; omega))
   clear HC HAL hXL hXR hXZ AL1 AL2 hb1
   obtain ⟨r0, r1, _, _⟩ := row2 hR_w1
   go_wp2_with fail
   refine (IsValidRecord_any c r hci hri w1).mono ?_
   rw [hg]
   rintro e w2 ⟨rfl, hb2⟩
   have hL_w2 := rowB hL_w1 hb2
   have hR_w2 := rowB hR_w1 hb2
   have hZ_w2 := rowB hZ_w1 hb2
   have B_w2 := below_of B_w1 hb2 B_w1.size
   clear hL_w1 hR_w1 hZ_w1 hb2 r0 r1
   clear e1 e2 e3 hk hg ht hm hD hP hc hr hci hri hsz hcnt
   obtain ⟨l0, l1, l2, lf0, lf1, lf2⟩ := row3 hL_w2
   obtain ⟨z0, z1, z2, z3, z4, z5⟩ := row3 hZ_w2
   go_wp2_with fail
   obtain ⟨a0, a1, a2, _, _, _⟩ := row3 (row3_set (x := D) (y := P) (u := z) hZ_w2)
   have BZ := below3 (b := w.heap.size + 2) (x := D) (y := P) (u := z) B_w2 (by omega)
   generalize ((w2.setCell ⟨(w.heap.size + 2), 0, none⟩ (.string D)).setCell ⟨(w.heap.size + 2), 1, none⟩ (.string P)).setCell ⟨(w.heap.size + 2), 2, none⟩ (.int .i64 z) = WZ at *
   (try simp only [Exit.inBlock, Exit.then]); refine bodyPost_ret (by simp [results, Tryz.results51, go_sem, a0, a1, a2]; try rfl) rfl ?_
   exact ⟨rfl, BZ⟩
  | true =>
   by_cases hz : z = 60
   ·subst hz
    have e1 : apP D P 60 c r = P := by simp [apP, apT, hk, hg]
    have e2 : apZ D P 60 c r = 60 := by simp [apZ, apT, hk, hg]
    have e3 : apK D P 60 c r = 2 := by simp [apK, hk, hg]
    rw [e1, e2, e3]
    go_enter Tryz.func51, Tryz.ntmps51
    go_wp2_with fail
    refine HC.out.mono ?_
    rintro e w1 ⟨rfl, hb1⟩
    have hL_w1 := rowB hXL hb1
    have hR_w1 := rowB hXR hb1
    have hZ_w1 := rowB hXZ hb1
    have B_w1 := HAL.trans (hb1.mono (by simp; omega))
    clear HC HAL hXL hXR hXZ AL1 AL2 hb1
    obtain ⟨r0, r1, _, _⟩ := row2 hR_w1
    go_wp2_with fail
    refine (IsValidRecord_any c r hci hri w1).mono ?_
    rw [hg]
    rintro e w2 ⟨rfl, hb2⟩
    have hL_w2 := rowB hL_w1 hb2
    have hR_w2 := rowB hR_w1 hb2
    have hZ_w2 := rowB hZ_w1 hb2
    have B_w2 := below_of B_w1 hb2 B_w1.size
    clear hL_w1 hR_w1 hZ_w1 hb2 r0 r1
    clear e1 e2 e3 hk hg ht hm hD hP hc hr hci hri hsz hcnt
    obtain ⟨l0, l1, l2, lf0, lf1, lf2⟩ := row3 hL_w2
    obtain ⟨z0, z1, z2, z3, z4, z5⟩ := row3 hZ_w2
    go_wp2_with fail
    obtain ⟨a0, a1, a2, _, _, _⟩ := row3 (row3_set (x := D) (y := P) (u := 60) hZ_w2)
    have BZ := below3 (b := w.heap.size + 2) (x := D) (y := P) (u := 60) B_w2 (by omega)
    generalize ((w2.setCell ⟨(w.heap.size + 2), 0, none⟩ (.string D)).setCell ⟨(w.heap.size + 2), 1, none⟩ (.string P)).setCell ⟨(w.heap.size + 2), 2, none⟩ (.int .i64 60) = WZ at *
    (try simp only [Exit.inBlock, Exit.then]); refine bodyPost_ret (by simp [results, Tryz.results51, go_sem, a0, a1, a2]; try rfl) rfl ?_
    exact ⟨rfl, BZ⟩
   ·have e1 : apP D P z c r = P ++ lineB z c r := by simp [apP, apT, hk, hg, hz]
    have e2 : apZ D P z c r = z + 1 := by simp [apZ, apT, hk, hg, hz]
    have e3 : apK D P z c r = 0 := by simp [apK, hk, hg, hz]
    rw [e1, e2, e3]
    have hz9 : z ≤ 59 := by omega
    have hz0 := hcnt.1
    have hls := lineB_size hz0 hz9 hg
    have hsum : P.size + (lineB z c r).size ≤ 4000000 := by omega
    have HE := lh (fun W hT => EncodeRecord_any z c r hci hri W hT)
    have hin : (inR z 0 59 && goodRec c r) = true := by simp [inR, hz0, hz9, hg]
    rw [hin] at HE
    simp only [if_true] at HE
    generalize lineB z c r = Ln at *
    clear e1 e2 e3 hls
    go_enter Tryz.func51, Tryz.ntmps51
    go_wp2_with fail
    refine HC.out.mono ?_
    rintro e w1 ⟨rfl, hb1⟩
    have hL_w1 := rowB hXL hb1
    have hR_w1 := rowB hXR hb1
    have hZ_w1 := rowB hXZ hb1
    have B_w1 := HAL.trans (hb1.mono (by simp; omega))
    have ht1 := ht.below B_w1
    clear HC HAL hXL hXR hXZ AL1 AL2 hb1
    obtain ⟨r0, r1, _, _⟩ := row2 hR_w1
    go_wp2_with fail
    refine (IsValidRecord_any c r hci hri w1).mono ?_
    rw [hg]
    rintro e w2 ⟨rfl, hb2⟩
    have hL_w2 := rowB hL_w1 hb2
    have hR_w2 := rowB hR_w1 hb2
    have hZ_w2 := rowB hZ_w1 hb2
    have B_w2 := below_of B_w1 hb2 B_w1.size
    clear hL_w1 hR_w1 hZ_w1 hb2 r0 r1
    clear hk hg hD hP hc hr hci hri hsz hcnt
    have ht2 := lh (ht.below B_w2)
    clear ht hm ht1
    obtain ⟨l0, l1, l2, lf0, lf1, lf2⟩ := row3 hL_w2
    obtain ⟨r0, r1, _, _⟩ := row2 hR_w2
    go_wp2_with fail
    refine (HE.out w2 ht2.out).mono ?_
    rintro e w3 ⟨rfl, hb3⟩
    have hL_w3 := rowB hL_w2 hb3
    have hR_w3 := rowB hR_w2 hb3
    have hZ_w3 := rowB hZ_w2 hb3
    have B_w3 := below_of B_w2 hb3 B_w2.size
    clear hL_w2 hR_w2 hZ_w2 hb3 r0 r1 l0 l1 l2 lf0 lf1 lf2 HE ht2
    obtain ⟨l0, l1, l2, lf0, lf1, lf2⟩ := row3 hL_w3
    obtain ⟨z0, z1, z2, z3, z4, z5⟩ := row3 hZ_w3
    go_wp2_with fail
    obtain ⟨a0, a1, a2, _, _, _⟩ := row3 (row3_set (x := D) (y := (P ++ Ln)) (u := (z + 1)) hZ_w3)
    have BZ := below3 (b := w.heap.size + 2) (x := D) (y := (P ++ Ln)) (u := (z + 1)) B_w3 (by omega)
    generalize ((w3.setCell ⟨(w.heap.size + 2), 0, none⟩ (.string D)).setCell ⟨(w.heap.size + 2), 1, none⟩ (.string (P ++ Ln))).setCell ⟨(w.heap.size + 2), 2, none⟩ (.int .i64 (z + 1)) = WZ at *
    (try simp only [Exit.inBlock, Exit.then]); refine bodyPost_ret (by simp [results, Tryz.results51, go_sem, a0, a1, a2]; try rfl) rfl ?_
    exact ⟨rfl, BZ⟩
theorem sAppendRecord_any (D P : BA) (z : Int) (c r : BA) (hD : D.size ≤ 1048576) (hP : P.size ≤ 1048576) (hc : c.size ≤ 1048576) (hr : r.size ≤ 1048576) (w : World) :
  Calls Tryz.prog 45 #[.agg #[.string D, .string P, .int .i64 z], .agg #[.string c, .string r]] w fun e w' => e = .returned (.tuple #[.agg #[.string D, .string (apP D P z c r), .int .i64 (apZ D P z c r)], .int .i64 (apK D P z c r)]) ∧ Below w.heap.size w w' := by
 have AL1 : Below w.heap.size w (w.alloc (.cells #[.string D, .string P, .int .i64 z] 33)) := (Below.refl _ w).alloc (Nat.le_refl _) _
 have AL2 : Below w.heap.size w ((w.alloc (.cells #[.string D, .string P, .int .i64 z] 33)).alloc (.cells #[.string c, .string r] 70)) := AL1.alloc AL1.size _
 have HAL : Below w.heap.size w (((w.alloc (.cells #[.string D, .string P, .int .i64 z] 33)).alloc (.cells #[.string c, .string r] 70)).alloc (.cells #[.string ⟨#[]⟩, .string ⟨#[]⟩, .int .i64 0] 33)) := AL2.alloc AL2.size _
 have hXL : (((w.alloc (.cells #[.string D, .string P, .int .i64 z] 33)).alloc (.cells #[.string c, .string r] 70)).alloc (.cells #[.string ⟨#[]⟩, .string ⟨#[]⟩, .int .i64 0] 33)).heap[w.heap.size]? = some (.cells #[.string D, .string P, .int .i64 z] 33 (0, 0)) := heap_alloc3a w _ _ _
 have hXR : (((w.alloc (.cells #[.string D, .string P, .int .i64 z] 33)).alloc (.cells #[.string c, .string r] 70)).alloc (.cells #[.string ⟨#[]⟩, .string ⟨#[]⟩, .int .i64 0] 33)).heap[w.heap.size + 1]? = some (.cells #[.string c, .string r] 70 (0, 0)) := heap_alloc3b w _ _ _
 have hXZ : (((w.alloc (.cells #[.string D, .string P, .int .i64 z] 33)).alloc (.cells #[.string c, .string r] 70)).alloc (.cells #[.string ⟨#[]⟩, .string ⟨#[]⟩, .int .i64 0] 33)).heap[w.heap.size + 2]? = some (.cells #[.string ⟨#[]⟩, .string ⟨#[]⟩, .int .i64 0] 33 (0, 0)) := heap_alloc3c w _ _ _
 have hci : (c.size : Int) ≤ 9223372036854775807 := by omega
 have hri : (r.size : Int) ≤ 9223372036854775807 := by omega
 have HC := lh (l27Log_any D P z hD hP (((w.alloc (.cells #[.string D, .string P, .int .i64 z] 33)).alloc (.cells #[.string c, .string r] 70)).alloc (.cells #[.string ⟨#[]⟩, .string ⟨#[]⟩, .int .i64 0] 33)))
 cases hk : logOk D P z with
 | false =>
  have e1 : apP D P z c r = P := by simp [apP, apT, hk]
  have e2 : apZ D P z c r = z := by simp [apZ, apT, hk]
  have e3 : apK D P z c r = 1 := by simp [apK, hk]
  rw [e1, e2, e3]
  rw [hk] at HC
  go_enter Tryz.func45, Tryz.ntmps45
  go_wp2_with fail
  refine HC.out.mono ?_
  rintro e w1 ⟨rfl, hb1⟩
  have hL_w1 := rowB hXL hb1
  have hR_w1 := rowB hXR hb1
  have hZ_w1 := rowB hXZ hb1
  have B_w1 := HAL.trans (hb1.mono (by simp; omega))
  clear e1 e2 e3 hk hD hP hc hr hci hri
  clear HC HAL hXL hXR hXZ AL1 AL2 hb1
  obtain ⟨l0, l1, l2, lf0, lf1, lf2⟩ := row3 hL_w1
  obtain ⟨z0, z1, z2, z3, z4, z5⟩ := row3 hZ_w1
  go_wp2_with fail
  obtain ⟨a0, a1, a2, _, _, _⟩ := row3 (row3_set (x := D) (y := P) (u := z) hZ_w1)
  have BZ := below3 (b := w.heap.size + 2) (x := D) (y := P) (u := z) B_w1 (by omega)
  generalize ((w1.setCell ⟨(w.heap.size + 2), 0, none⟩ (.string D)).setCell ⟨(w.heap.size + 2), 1, none⟩ (.string P)).setCell ⟨(w.heap.size + 2), 2, none⟩ (.int .i64 z) = WZ at *
  (try simp only [Exit.inBlock, Exit.then]); refine bodyPost_ret (by simp [results, Tryz.results45, go_sem, a0, a1, a2]; try rfl) rfl ?_
  exact ⟨rfl, BZ⟩
 | true =>
  have hcnt := logOk_cnt hk
  have hsz := logOk_size hk
  rw [hk] at HC
  cases hg : goodRec c r with
  | false =>
   have e1 : apP D P z c r = P := by simp [apP, apT, hk, hg]
   have e2 : apZ D P z c r = z := by simp [apZ, apT, hk, hg]
   have e3 : apK D P z c r = 1 := by simp [apK, hk, hg]
   rw [e1, e2, e3]
   go_enter Tryz.func45, Tryz.ntmps45
   go_wp2_with fail
   refine HC.out.mono ?_
   rintro e w1 ⟨rfl, hb1⟩
   have hL_w1 := rowB hXL hb1
   have hR_w1 := rowB hXR hb1
   have hZ_w1 := rowB hXZ hb1
   have B_w1 := HAL.trans (hb1.mono (by simp; omega))
   clear HC HAL hXL hXR hXZ AL1 AL2 hb1
   obtain ⟨r0, r1, _, _⟩ := row2 hR_w1
   go_wp2_with fail
   refine (l27Good_any c r hci hri w1).mono ?_
   rw [hg]
   rintro e w2 ⟨rfl, hb2⟩
   have hL_w2 := rowB hL_w1 hb2
   have hR_w2 := rowB hR_w1 hb2
   have hZ_w2 := rowB hZ_w1 hb2
   have B_w2 := below_of B_w1 hb2 B_w1.size
   clear hL_w1 hR_w1 hZ_w1 hb2 r0 r1
   clear e1 e2 e3 hk hg hD hP hc hr hci hri hsz hcnt
   obtain ⟨l0, l1, l2, lf0, lf1, lf2⟩ := row3 hL_w2
   obtain ⟨z0, z1, z2, z3, z4, z5⟩ := row3 hZ_w2
   go_wp2_with fail
   obtain ⟨a0, a1, a2, _, _, _⟩ := row3 (row3_set (x := D) (y := P) (u := z) hZ_w2)
   have BZ := below3 (b := w.heap.size + 2) (x := D) (y := P) (u := z) B_w2 (by omega)
   generalize ((w2.setCell ⟨(w.heap.size + 2), 0, none⟩ (.string D)).setCell ⟨(w.heap.size + 2), 1, none⟩ (.string P)).setCell ⟨(w.heap.size + 2), 2, none⟩ (.int .i64 z) = WZ at *
   (try simp only [Exit.inBlock, Exit.then]); refine bodyPost_ret (by simp [results, Tryz.results45, go_sem, a0, a1, a2]; try rfl) rfl ?_
   exact ⟨rfl, BZ⟩
  | true =>
   by_cases hz : z = 60
   ·subst hz
    have e1 : apP D P 60 c r = P := by simp [apP, apT, hk, hg]
    have e2 : apZ D P 60 c r = 60 := by simp [apZ, apT, hk, hg]
    have e3 : apK D P 60 c r = 2 := by simp [apK, hk, hg]
    rw [e1, e2, e3]
    go_enter Tryz.func45, Tryz.ntmps45
    go_wp2_with fail
    refine HC.out.mono ?_
    rintro e w1 ⟨rfl, hb1⟩
    have hL_w1 := rowB hXL hb1
    have hR_w1 := rowB hXR hb1
    have hZ_w1 := rowB hXZ hb1
    have B_w1 := HAL.trans (hb1.mono (by simp; omega))
    clear HC HAL hXL hXR hXZ AL1 AL2 hb1
    obtain ⟨r0, r1, _, _⟩ := row2 hR_w1
    go_wp2_with fail
    refine (l27Good_any c r hci hri w1).mono ?_
    rw [hg]
    rintro e w2 ⟨rfl, hb2⟩
    have hL_w2 := rowB hL_w1 hb2
    have hR_w2 := rowB hR_w1 hb2
    have hZ_w2 := rowB hZ_w1 hb2
    have B_w2 := below_of B_w1 hb2 B_w1.size
    clear hL_w1 hR_w1 hZ_w1 hb2 r0 r1
    clear e1 e2 e3 hk hg hD hP hc hr hci hri hsz hcnt
    obtain ⟨l0, l1, l2, lf0, lf1, lf2⟩ := row3 hL_w2
    obtain ⟨z0, z1, z2, z3, z4, z5⟩ := row3 hZ_w2
    go_wp2_with fail
    obtain ⟨a0, a1, a2, _, _, _⟩ := row3 (row3_set (x := D) (y := P) (u := 60) hZ_w2)
    have BZ := below3 (b := w.heap.size + 2) (x := D) (y := P) (u := 60) B_w2 (by omega)
    generalize ((w2.setCell ⟨(w.heap.size + 2), 0, none⟩ (.string D)).setCell ⟨(w.heap.size + 2), 1, none⟩ (.string P)).setCell ⟨(w.heap.size + 2), 2, none⟩ (.int .i64 60) = WZ at *
    (try simp only [Exit.inBlock, Exit.then]); refine bodyPost_ret (by simp [results, Tryz.results45, go_sem, a0, a1, a2]; try rfl) rfl ?_
    exact ⟨rfl, BZ⟩
   ·have e1 : apP D P z c r = P ++ lineB z c r := by simp [apP, apT, hk, hg, hz]
    have e2 : apZ D P z c r = z + 1 := by simp [apZ, apT, hk, hg, hz]
    have e3 : apK D P z c r = 0 := by simp [apK, hk, hg, hz]
    rw [e1, e2, e3]
    have hz9 : z ≤ 59 := by omega
    have hz0 := hcnt.1
    have hls := lineB_size hz0 hz9 hg
    have hsum : P.size + (lineB z c r).size ≤ 4000000 := by omega
    have HE := lh (fun W => l27Line_any z c r hz0 (by omega) hc hr W)
    generalize lineB z c r = Ln at *
    clear e1 e2 e3 hls
    go_enter Tryz.func45, Tryz.ntmps45
    go_wp2_with fail
    refine HC.out.mono ?_
    rintro e w1 ⟨rfl, hb1⟩
    have hL_w1 := rowB hXL hb1
    have hR_w1 := rowB hXR hb1
    have hZ_w1 := rowB hXZ hb1
    have B_w1 := HAL.trans (hb1.mono (by simp; omega))
    clear HC HAL hXL hXR hXZ AL1 AL2 hb1
    obtain ⟨r0, r1, _, _⟩ := row2 hR_w1
    go_wp2_with fail
    refine (l27Good_any c r hci hri w1).mono ?_
    rw [hg]
    rintro e w2 ⟨rfl, hb2⟩
    have hL_w2 := rowB hL_w1 hb2
    have hR_w2 := rowB hR_w1 hb2
    have hZ_w2 := rowB hZ_w1 hb2
    have B_w2 := below_of B_w1 hb2 B_w1.size
    clear hL_w1 hR_w1 hZ_w1 hb2 r0 r1
    clear hk hg hD hP hc hr hci hri hsz hcnt
    obtain ⟨l0, l1, l2, lf0, lf1, lf2⟩ := row3 hL_w2
    obtain ⟨r0, r1, _, _⟩ := row2 hR_w2
    go_wp2_with fail
    refine wp_region_held_drew (S := fun w' => w'.cell? ⟨w.heap.size, 2, none⟩ = some (.int .i64 z) ∧ w'.cell? ⟨w.heap.size + 1, 0, none⟩ = some (.string c) ∧ w'.cell? ⟨w.heap.size + 1, 1, none⟩ = some (.string r)) (by kernel_rfl) ⟨l2, r0, r1⟩ (fun jd => ?_)
    have hL_w2 : w2.drew.heap[w.heap.size]? = _ := hL_w2
    have hR_w2 : w2.drew.heap[w.heap.size + 1]? = _ := hR_w2
    have hZ_w2 : w2.drew.heap[w.heap.size + 2]? = _ := hZ_w2
    have B_w2 : Below w.heap.size w w2.drew := B_w2.drew
    clear l0 l1 l2 lf0 lf1 lf2 r0 r1
    generalize w2.drew = w2 at *
    refine tj 0 19 (lh fun _ h => h) rfl jd ?_
    refine tj 2 21 (lh fun _ h => h) rfl jd ?_
    refine tj 3 22 (lh fun _ h => h) rfl jd ?_
    refine tj 4 23 (lh fun _ h => h) rfl jd ?_
    refine wpAnyH_ready (rs := [1, 5]) (by kernel_rfl) (by simp) ?_
    refine (AllReadyH.cons rfl (fun K hK => ?_) (AllReadyH.cons rfl (fun K hK => ?_) AllReadyH.nil))
    ·have l1 := (row3 hL_w2).2.1
     go_simp
     refine hK.out _ _ jd (fun jd => ?_)
     clear hK K l1
     refine wpAnyH_ready (rs := [5]) (by kernel_rfl) (by simp) ?_
     refine (AllReadyH.cons rfl (fun K hK => ?_) AllReadyH.nil)
     go_simp
     refine (HE.out _).mono ?_
     rintro e wa ⟨rfl, hb_wa⟩
     have hL_wa := rowB hL_w2 hb_wa
     have hR_wa := rowB hR_w2 hb_wa
     have hZ_wa := rowB hZ_w2 hb_wa
     have B_wa := below_of B_w2 hb_wa B_w2.size
     have S_wa : (fun w' => w'.cell? ⟨w.heap.size, 2, none⟩ = some (.int .i64 z) ∧ w'.cell? ⟨w.heap.size + 1, 0, none⟩ = some (.string c) ∧ w'.cell? ⟨w.heap.size + 1, 1, none⟩ = some (.string r)) wa := ⟨(row3 hL_wa).2.2.1, (row2 hR_wa).1, (row2 hR_wa).2.1⟩
     refine hK.out _ _ S_wa (fun jd => ?_)
     clear hK K
     refine wpAnyH_takeD (i := 6) (d := 25) (v := ?_) rfl (by kernel_rfl) (by kernel_rfl) (by kernel_rfl) (fun _ _ _ h => h) (by rfl) ?_ jd ?_
     rotate_left
     ·intro wS hS
      refine run_add_strP ⟨_, _, rfl, rfl, by omega, ?_⟩
      with_reducible rfl
     simp only [Act.put, p1, p2, p3]
     refine tj 7 26 (lh fun _ h => h) rfl jd ?_
     refine wpAnyH_ready (rs := [8]) (by kernel_rfl) (by simp) ?_
     refine (AllReadyH.cons rfl (fun K hK => ?_) AllReadyH.nil)
     obtain ⟨l0, l1, l2, lf0, lf1, lf2⟩ := row3 hL_wa
     have hLx := row3_set1 (y := P ++ Ln) hL_wa
     have hRx := row_far hR_wa ⟨w.heap.size, 1, none⟩ (.string (P ++ Ln)) (by simp)
     have hZx := row_far hZ_wa ⟨w.heap.size, 1, none⟩ (.string (P ++ Ln)) (by simp)
     have Bx : Below w.heap.size w (wa.setCell ⟨w.heap.size, 1, none⟩ (.string (P ++ Ln))) := B_wa.setCell (Nat.le_refl _) _
     go_simp
     generalize (wa.setCell ⟨w.heap.size, 1, none⟩ (.string (P ++ Ln))) = wb at *
     have hL_wb := hLx
     have hR_wb := hRx
     have hZ_wb := hZx
     have B_wb := Bx
     refine hK.out _ _ ⟨(row3 hL_wb).2.2.1, (row2 hR_wb).1, (row2 hR_wb).2.1⟩ (fun jd => ?_)
     clear hK K hLx hRx hZx Bx l0 l1 l2 lf0 lf1 lf2
     refine wpAnyH_done (by kernel_rfl) ?_ _
     have hLy := row3_set2 (u := z + 1) hL_wb
     have hZy := row_far hZ_wb ⟨w.heap.size, 2, none⟩ (.int .i64 (z + 1)) (by simp)
     have By : Below w.heap.size w (wb.setCell ⟨w.heap.size, 2, none⟩ (.int .i64 (z + 1))) := B_wb.setCell (Nat.le_refl _) _
     obtain ⟨m0, m1, m2, m3, m4, m5⟩ := row3 hL_wb
     go_upto_region 7 with fail
     generalize (wb.setCell ⟨w.heap.size, 2, none⟩ (.int .i64 (z + 1))) = wy at *
     have hL_wy := hLy
     have hZ_wy := hZy
     clear m0 m1 m2 m3 m4 m5 hLy hZy
     obtain ⟨l0, l1, l2, lf0, lf1, lf2⟩ := row3 hL_wy
     obtain ⟨z0, z1, z2, z3, z4, z5⟩ := row3 hZ_wy
     go_wp2_with fail
     obtain ⟨a0, a1, a2, _, _, _⟩ := row3 (row3_set (x := D) (y := (P ++ Ln)) (u := (z + 1)) hZ_wy)
     have BZ := below3 (b := w.heap.size + 2) (x := D) (y := (P ++ Ln)) (u := (z + 1)) By (by omega)
     generalize ((wy.setCell ⟨(w.heap.size + 2), 0, none⟩ (.string D)).setCell ⟨(w.heap.size + 2), 1, none⟩ (.string (P ++ Ln))).setCell ⟨(w.heap.size + 2), 2, none⟩ (.int .i64 (z + 1)) = WZ at *
     (try simp only [Exit.inBlock, Exit.then]); refine bodyPost_ret (by simp [results, Tryz.results45, go_sem, a0, a1, a2]; try rfl) rfl ?_
     exact ⟨rfl, BZ⟩
    ·go_simp
     refine (HE.out _).mono ?_
     rintro e wa ⟨rfl, hb_wa⟩
     have hL_wa := rowB hL_w2 hb_wa
     have hR_wa := rowB hR_w2 hb_wa
     have hZ_wa := rowB hZ_w2 hb_wa
     have B_wa := below_of B_w2 hb_wa B_w2.size
     have S_wa : (fun w' => w'.cell? ⟨w.heap.size, 2, none⟩ = some (.int .i64 z) ∧ w'.cell? ⟨w.heap.size + 1, 0, none⟩ = some (.string c) ∧ w'.cell? ⟨w.heap.size + 1, 1, none⟩ = some (.string r)) wa := ⟨(row3 hL_wa).2.2.1, (row2 hR_wa).1, (row2 hR_wa).2.1⟩
     refine hK.out _ _ S_wa (fun jd => ?_)
     clear hK K
     refine wpAnyH_ready (rs := [1]) (by kernel_rfl) (by simp) ?_
     refine (AllReadyH.cons rfl (fun K hK => ?_) AllReadyH.nil)
     have l1 := (row3 hL_wa).2.1
     go_simp
     refine hK.out _ _ jd (fun jd => ?_)
     clear hK K l1
     refine wpAnyH_takeD (i := 6) (d := 25) (v := ?_) rfl (by kernel_rfl) (by kernel_rfl) (by kernel_rfl) (fun _ _ _ h => h) (by rfl) ?_ jd ?_
     rotate_left
     ·intro wS hS
      refine run_add_strP ⟨_, _, rfl, rfl, by omega, ?_⟩
      with_reducible rfl
     simp only [Act.put, p1, p2, p3]
     refine tj 7 26 (lh fun _ h => h) rfl jd ?_
     refine wpAnyH_ready (rs := [8]) (by kernel_rfl) (by simp) ?_
     refine (AllReadyH.cons rfl (fun K hK => ?_) AllReadyH.nil)
     obtain ⟨l0, l1, l2, lf0, lf1, lf2⟩ := row3 hL_wa
     have hLx := row3_set1 (y := P ++ Ln) hL_wa
     have hRx := row_far hR_wa ⟨w.heap.size, 1, none⟩ (.string (P ++ Ln)) (by simp)
     have hZx := row_far hZ_wa ⟨w.heap.size, 1, none⟩ (.string (P ++ Ln)) (by simp)
     have Bx : Below w.heap.size w (wa.setCell ⟨w.heap.size, 1, none⟩ (.string (P ++ Ln))) := B_wa.setCell (Nat.le_refl _) _
     go_simp
     generalize (wa.setCell ⟨w.heap.size, 1, none⟩ (.string (P ++ Ln))) = wb at *
     have hL_wb := hLx
     have hR_wb := hRx
     have hZ_wb := hZx
     have B_wb := Bx
     refine hK.out _ _ ⟨(row3 hL_wb).2.2.1, (row2 hR_wb).1, (row2 hR_wb).2.1⟩ (fun jd => ?_)
     clear hK K hLx hRx hZx Bx l0 l1 l2 lf0 lf1 lf2
     refine wpAnyH_done (by kernel_rfl) ?_ _
     have hLy := row3_set2 (u := z + 1) hL_wb
     have hZy := row_far hZ_wb ⟨w.heap.size, 2, none⟩ (.int .i64 (z + 1)) (by simp)
     have By : Below w.heap.size w (wb.setCell ⟨w.heap.size, 2, none⟩ (.int .i64 (z + 1))) := B_wb.setCell (Nat.le_refl _) _
     obtain ⟨m0, m1, m2, m3, m4, m5⟩ := row3 hL_wb
     go_upto_region 7 with fail
     generalize (wb.setCell ⟨w.heap.size, 2, none⟩ (.int .i64 (z + 1))) = wy at *
     have hL_wy := hLy
     have hZ_wy := hZy
     clear m0 m1 m2 m3 m4 m5 hLy hZy
     obtain ⟨l0, l1, l2, lf0, lf1, lf2⟩ := row3 hL_wy
     obtain ⟨z0, z1, z2, z3, z4, z5⟩ := row3 hZ_wy
     go_wp2_with fail
     obtain ⟨a0, a1, a2, _, _, _⟩ := row3 (row3_set (x := D) (y := (P ++ Ln)) (u := (z + 1)) hZ_wy)
     have BZ := below3 (b := w.heap.size + 2) (x := D) (y := (P ++ Ln)) (u := (z + 1)) By (by omega)
     generalize ((wy.setCell ⟨(w.heap.size + 2), 0, none⟩ (.string D)).setCell ⟨(w.heap.size + 2), 1, none⟩ (.string (P ++ Ln))).setCell ⟨(w.heap.size + 2), 2, none⟩ (.int .i64 (z + 1)) = WZ at *
     (try simp only [Exit.inBlock, Exit.then]); refine bodyPost_ret (by simp [results, Tryz.results45, go_sem, a0, a1, a2]; try rfl) rfl ?_
     exact ⟨rfl, BZ⟩
end Go.Proofs.YtpndjhelpoenpaaGreatDoor
namespace Go.Proofs.YtpndjhelpoenpaaGreatDoor
open Go.RowKit
noncomputable section
def wsV (s : ByteArray) (j : Nat) : ByteArray := (wordsV 32 s).getD j ⟨#[]⟩
def mV (s : ByteArray) : Nat := (wordsV 32 s).length - 1
def cV (s : ByteArray) : Int := cmdN (wsV s 0) (mV s)
def xV (s : ByteArray) (i : Nat) : Int := (numL (wsV s) (mV s)).getD i 0
def xcGo (f : Nat → Int) (n : Nat) (I H S P : Int) (D Q : ByteArray) (z : Int) (s : ByteArray) : Bool := (goodWorks f n I H S P && logOk D Q z) && (goodRec s ⟨#[]⟩ && decide (z ≠ 60))
def xcA (f : Nat → Int) (n : Nat) (I H S P : Int) (s : ByteArray) : Bool := allTo (okN (wsV s)) (mV s) && exOk (lf (cellsL f n)) n I H S P (cV s) (xV s 0) (xV s 1) (xV s 2)
def xcUp (f : Nat → Int) (n : Nat) (I H S P : Int) (D Q : ByteArray) (z : Int) (s : ByteArray) : Bool := xcGo f n I H S P D Q z s && xcA f n I H S P s
def xcL (f : Nat → Int) (n : Nat) (I H S P : Int) (D Q : ByteArray) (z : Int) (s : ByteArray) : List Int := if xcUp f n I H S P D Q z s then exL (lf (cellsL f n)) n I H S P (cV s) (xV s 0) (xV s 1) (xV s 2) else cellsL f n
def xcN (f : Nat → Int) (n : Nat) (I H S P : Int) (D Q : ByteArray) (z : Int) (s : ByteArray) : Nat := if xcUp f n I H S P D Q z s then exN (lf (cellsL f n)) n I H S P (cV s) (xV s 0) (xV s 1) (xV s 2) else n
def xcI (f : Nat → Int) (n : Nat) (I H S P : Int) (D Q : ByteArray) (z : Int) (s : ByteArray) : Int := if xcUp f n I H S P D Q z s then exI (lf (cellsL f n)) n I H S P (cV s) (xV s 0) (xV s 1) (xV s 2) else I
def xcH (f : Nat → Int) (n : Nat) (I H S P : Int) (D Q : ByteArray) (z : Int) (s : ByteArray) : Int := if xcUp f n I H S P D Q z s then exH (lf (cellsL f n)) n I H S P (cV s) (xV s 0) (xV s 1) (xV s 2) else H
def xcS (f : Nat → Int) (n : Nat) (I H S P : Int) (D Q : ByteArray) (z : Int) (s : ByteArray) : Int := if xcUp f n I H S P D Q z s then exS (lf (cellsL f n)) n I H S P (cV s) (xV s 0) (xV s 1) (xV s 2) else S
def xcP (f : Nat → Int) (n : Nat) (I H S P : Int) (D Q : ByteArray) (z : Int) (s : ByteArray) : Int := if xcUp f n I H S P D Q z s then exP (lf (cellsL f n)) n I H S P (cV s) (xV s 0) (xV s 1) (xV s 2) else P
def longV (r : ByteArray) : ByteArray := if 200 < r.size then ⟨#[108, 111, 110, 103]⟩ else r
def xcT (f : Nat → Int) (n : Nat) (I H S P : Int) (s : ByteArray) : ByteArray := longV (if xcA f n I H S P s then exR (lf (cellsL f n)) n I H S P (cV s) (xV s 0) (xV s 1) (xV s 2) else ⟨#[63]⟩)
def xcR (f : Nat → Int) (n : Nat) (I H S P : Int) (D Q : ByteArray) (z : Int) (s : ByteArray) : ByteArray :=
 if goodWorks f n I H S P && logOk D Q z then (if goodRec s ⟨#[]⟩ then (if z = 60 then ⟨#[102, 117, 108, 108]⟩ else xcT f n I H S P s) else ⟨#[98, 97, 100]⟩) else ⟨#[110, 111]⟩
def xcQ (f : Nat → Int) (n : Nat) (I H S P : Int) (D Q : ByteArray) (z : Int) (s : ByteArray) : ByteArray := if xcGo f n I H S P D Q z s then apP D Q z s (xcT f n I H S P s) else Q
def xcZ (f : Nat → Int) (n : Nat) (I H S P : Int) (D Q : ByteArray) (z : Int) (s : ByteArray) : Int := if xcGo f n I H S P D Q z s then apZ D Q z s (xcT f n I H S P s) else z
end
theorem longV_size (r : ByteArray) : (longV r).size ≤ 200 := by
 unfold longV
 split
 ·decide
 ·omega
theorem ws_len (s : ByteArray) : (wordsV 32 s).length = mV s + 1 := by
 have := wordsV_pos 32 s
 unfold mV
 omega
theorem wsV_size (s : ByteArray) (j : Nat) : (wsV s j).size ≤ s.size := by
 unfold wsV
 by_cases h : j < (wordsV 32 s).length
 ·rw [List.getD_eq_getElem?_getD, List.getElem?_eq_getElem h]
  exact wordsV_size (List.getElem_mem h)
 ·rw [List.getD_eq_getElem?_getD, List.getElem?_eq_none (by omega)]
  exact Nat.zero_le _
theorem allTo_congr' {p q : Nat → Bool} : ∀ {n : Nat}, (∀ k, k < n → p k = q k) → allTo p n = allTo q n
 | 0, _ => rfl
 | n + 1, h => by
  unfold allTo
  rw [allTo_congr' (n := n) (fun k hk => h k (by omega)), h n (by omega)]
theorem goodWorks_congr' {f g : Nat → Int} {n : Nat} {I H S P : Int} (h : ∀ j, j < n * 4 → f j = g j) : goodWorks f n I H S P = goodWorks g n I H S P := by
 have h1 : pansOk f n = pansOk g n := by
  unfold pansOk
  congr 1
  refine allTo_congr' fun k hk => ?_
  simp only [panStep, okPanAt]
  rw [h (k * 4) (by omega), h (k * 4 + 1) (by omega), h (k * 4 + 2) (by omega), h (k * 4 + 3) (by omega), h ((k - 1) * 4) (by omega)]
 have h2 : ∀ m, m ≤ n → sumW (saltAt f) m = sumW (saltAt g) m := by
  intro m
  induction m with
  | zero => intro _; rfl
  | succ m ih =>
   intro hm
   simp only [sumW, saltAt]
   rw [ih (by omega)]
   have := h (m * 4 + 3) (by omega)
   simp only [this]
 unfold goodWorks totalV
 rw [h1, h2 n (Nat.le_refl _)]
theorem good_cells {f : Nat → Int} {n : Nat} {I H S P : Int} : goodWorks (lf (cellsL f n)) n I H S P = goodWorks f n I H S P :=
 goodWorks_congr' (fun j hj => lf_cells f n hj)
theorem salt_ge {f : Nat → Int} {n : Nat} {I H S P : Int} (hg : goodWorks f n I H S P = true) : 0 ≤ sumW (saltAt f) n ∧ sumW (saltAt f) n ≤ 9223372036854775807 := by
 have h6 := good_len hg
 have h := sumW_bounds (g := saltAt f) n h6 (fun k hk => ⟨(good_brine hg hk).2.2.1, (good_brine hg hk).2.2.2.1⟩) n (Nat.le_refl n)
 omega
theorem good_kilos {f : Nat → Int} {n : Nat} {I H S P : Int} (hg : goodWorks f n I H S P = true) : (0 ≤ I ∧ I ≤ 1000000) ∧ (0 ≤ H ∧ H ≤ 1000000) ∧ (0 ≤ S ∧ S ≤ 1000000) ∧ (0 ≤ P ∧ P ≤ 1000000) := by
 simp only [goodWorks, kilosOk, inR, Bool.and_eq_true, decide_eq_true_eq] at hg
 obtain ⟨⟨_, h⟩, _⟩ := hg
 exact ⟨h.1.1.1, h.1.1.2, h.1.2, h.2⟩
theorem l28Number_any (n : Int) (ok : Bool) (h0 : ok = true → 0 ≤ n) (h1 : n ≤ 9223372036854775807) (w : World) :
  Calls Tryz.prog 132 #[.int .i64 n, .bool ok] w fun e w' => e = .returned (.string (if ok then numB n else ⟨#[63]⟩)) ∧ Below w.heap.size w w' := by
 cases ok with
 | true =>
  have hz := h0 rfl
  clear h0
  go_enter Tryz.func132, Tryz.ntmps132
  go_wp2_with fail
  refine (l1Num_any n hz h1 w).mono ?_
  rintro e w2 ⟨rfl, hb2⟩
  go_wp2_with fail
  go_returns
  exact ⟨rfl, hb2⟩
 | false =>
  go_enter Tryz.func132, Tryz.ntmps132
  go_wp2_with fail
  go_returns
  exact ⟨rfl, Below.refl _ _⟩
theorem l28Pan_any (x : Int) (A : Option Addr) (n c lo hi : Nat) (f : Nat → Int) (I H S P : Int) (w : World) (hs : Sl w lo hi 4 A n f) (hn : n ≤ 1048576) (hnc : n ≤ c) (hgd : goodWorks f n I H S P = true) :
  Calls Tryz.prog 133 #[.agg #[.slice A n c, .int .i64 I, .int .i64 H, .int .i64 S, .int .i64 P], .int .i64 x] w fun e w' => e = .returned (.string (if 0 ≤ findV (pid f) x n 0 then panX f n x else ⟨#[63]⟩)) ∧ Below w.heap.size w w' := by
 by_cases hv : 0 ≤ findV (pid f) x n 0
 ·obtain ⟨j, hj, hfd, hpj⟩ := findV_mem hv
  have hat := lh (atN_eq (f := f) hfd)
  obtain ⟨r, hr⟩ : ∃ r, (if 0 ≤ findV (pid f) x n 0 then panX f n x else ⟨#[63]⟩ : ByteArray) = r := ⟨_, rfl⟩
  simp only [hr]
  have HR : Hid (panX f n x = r) := by show _ = _; rw [← hr]; simp [hv, panX]
  clear hr
  have HFD := lh hfd
  clear hv hfd
  obtain ⟨hX, h0⟩ := bl1 w (.cells #[.slice A n c, .int .i64 I, .int .i64 H, .int .i64 S, .int .i64 P] 32)
  have hS := hs.below hX
  go_enter Tryz.func133, Tryz.ntmps133
  go_upto_region 1 with fail
  refine name_wp ?_
  intro w1 hw1
  rw [← hw1] at hX h0 hS
  clear hw1
  obtain ⟨e0, e1, e2, e3, e4⟩ := cells5 h0
  have HX := lh hX
  have HS := lh hS
  clear hX hS h0 hs
  go_wp2_with fail
  refine (sPanText_yes A n c lo hi f I H S P x w1 HS.out hn hnc hgd j hj HFD.out).mono ?_
  rintro e w2 ⟨rfl, hb2⟩
  go_wp2_with fail
  go_returns
  exact ⟨(by rw [← HR.out, panX, hat.out]; try rfl), HX.out.trans (hb2.mono HX.out.size)⟩
 ·have hfd := findV_none hv
  obtain ⟨r, hr⟩ : ∃ r, (if 0 ≤ findV (pid f) x n 0 then panX f n x else ⟨#[63]⟩ : ByteArray) = r := ⟨_, rfl⟩
  simp only [hr]
  have HR : Hid (⟨#[63]⟩ = r) := by show _ = _; rw [← hr]; simp [hv, panX]
  clear hr
  have HFD := lh hfd
  clear hv hfd
  obtain ⟨hX, h0⟩ := bl1 w (.cells #[.slice A n c, .int .i64 I, .int .i64 H, .int .i64 S, .int .i64 P] 32)
  have hS := hs.below hX
  go_enter Tryz.func133, Tryz.ntmps133
  go_upto_region 1 with fail
  refine name_wp ?_
  intro w1 hw1
  rw [← hw1] at hX h0 hS
  clear hw1
  obtain ⟨e0, e1, e2, e3, e4⟩ := cells5 h0
  have HX := lh hX
  have HS := lh hS
  clear hX hS h0 hs
  go_wp2_with fail
  refine (sPanText_no A n c lo hi f I H S P x w1 HS.out hn hnc (Or.inr HFD.out)).mono ?_
  rintro e w2 ⟨rfl, hb2⟩
  go_wp2_with fail
  go_returns
  exact ⟨(by rw [← HR.out]; try rfl), HX.out.trans (hb2.mono HX.out.size)⟩
theorem l28Word_8 (u : ByteArray) (hu : u = wd8) (A : Option Addr) (n c lo hi : Nat) (f : Nat → Int) (I H S P : Int) (w : World) (hs : Sl w lo hi 4 A n f) (hn : n ≤ 1048576) (hnc : n ≤ c) (hgd : goodWorks f n I H S P = true) (hI : 0 ≤ I ∧ I ≤ 9223372036854775807) (hH : 0 ≤ H ∧ H ≤ 9223372036854775807) :
  Calls Tryz.prog 84 #[.agg #[.slice A n c, .int .i64 I, .int .i64 H, .int .i64 S, .int .i64 P], .string u] w fun e w' => e = .returned (.string (rpR f n I H S P 8 0 0)) ∧ Below w.heap.size w w' := by
 have q8 : (u.toList == ([105, 110] : List UInt8)) = true := by rw [hu]; decide +kernel
 clear hu
 obtain ⟨hX, h0⟩ := bl1 w (.cells #[.slice A n c, .int .i64 I, .int .i64 H, .int .i64 S, .int .i64 P] 32)
 have hS := hs.below hX
 go_enter Tryz.func84, Tryz.ntmps84
 go_upto_region 2 with fail
 refine name_wp ?_
 intro w1 hw1
 rw [← hw1] at hX h0 hS
 clear hw1
 obtain ⟨e0, e1, e2, e3, e4⟩ := cells5 h0
 have HX := lh hX
 have HS := lh hS
 clear hX hS h0 hs
 go_wp2_with fail
 refine (l1Num_any I (by omega) (by omega) w1).mono ?_
 rintro e w2 ⟨rfl, hb2⟩
 go_wp2_with fail
 go_returns
 exact ⟨(by simp [rpR]; try rfl), HX.out.trans (hb2.mono HX.out.size)⟩
theorem l28Word_9 (u : ByteArray) (hu : u = wd9) (A : Option Addr) (n c lo hi : Nat) (f : Nat → Int) (I H S P : Int) (w : World) (hs : Sl w lo hi 4 A n f) (hn : n ≤ 1048576) (hnc : n ≤ c) (hgd : goodWorks f n I H S P = true) (hI : 0 ≤ I ∧ I ≤ 9223372036854775807) (hH : 0 ≤ H ∧ H ≤ 9223372036854775807) :
  Calls Tryz.prog 84 #[.agg #[.slice A n c, .int .i64 I, .int .i64 H, .int .i64 S, .int .i64 P], .string u] w fun e w' => e = .returned (.string (rpR f n I H S P 9 0 0)) ∧ Below w.heap.size w w' := by
 have q8 := wq7 hu (by decide +kernel)
 have q9 : (u.toList == ([104, 101, 97, 112] : List UInt8)) = true := by rw [hu]; decide +kernel
 clear hu
 obtain ⟨hX, h0⟩ := bl1 w (.cells #[.slice A n c, .int .i64 I, .int .i64 H, .int .i64 S, .int .i64 P] 32)
 have hS := hs.below hX
 go_enter Tryz.func84, Tryz.ntmps84
 go_upto_region 2 with fail
 refine name_wp ?_
 intro w1 hw1
 rw [← hw1] at hX h0 hS
 clear hw1
 obtain ⟨e0, e1, e2, e3, e4⟩ := cells5 h0
 have HX := lh hX
 have HS := lh hS
 clear hX hS h0 hs
 go_wp2_with fail
 refine (l1Num_any H (by omega) (by omega) w1).mono ?_
 rintro e w2 ⟨rfl, hb2⟩
 go_wp2_with fail
 go_returns
 exact ⟨(by simp [rpR]; try rfl), HX.out.trans (hb2.mono HX.out.size)⟩
theorem l28Word_10 (u : ByteArray) (hu : u = wd10) (A : Option Addr) (n c lo hi : Nat) (f : Nat → Int) (I H S P : Int) (w : World) (hs : Sl w lo hi 4 A n f) (hn : n ≤ 1048576) (hnc : n ≤ c) (hgd : goodWorks f n I H S P = true) (hI : 0 ≤ I ∧ I ≤ 9223372036854775807) (hH : 0 ≤ H ∧ H ≤ 9223372036854775807) :
  Calls Tryz.prog 84 #[.agg #[.slice A n c, .int .i64 I, .int .i64 H, .int .i64 S, .int .i64 P], .string u] w fun e w' => e = .returned (.string (rpR f n I H S P 10 0 0)) ∧ Below w.heap.size w w' := by
 have q8 := wq7 hu (by decide +kernel)
 have q9 := wq6 hu (by decide +kernel)
 have q10 : (u.toList == ([112, 97, 110, 115] : List UInt8)) = true := by rw [hu]; decide +kernel
 clear hu
 obtain ⟨hX, h0⟩ := bl1 w (.cells #[.slice A n c, .int .i64 I, .int .i64 H, .int .i64 S, .int .i64 P] 32)
 have hS := hs.below hX
 go_enter Tryz.func84, Tryz.ntmps84
 go_upto_region 2 with fail
 refine name_wp ?_
 intro w1 hw1
 rw [← hw1] at hX h0 hS
 clear hw1
 obtain ⟨e0, e1, e2, e3, e4⟩ := cells5 h0
 have HX := lh hX
 have HS := lh hS
 clear hX hS h0 hs
 have hsb := salt_ge hgd
 go_wp2_with fail
 refine (l25Salt_any A n c lo hi f I H S P w1 HS.out hn hnc).mono ?_
 rintro e w2 ⟨rfl, hb2⟩
 go_wp2_with fail
 refine (l1Num_any _ (by omega) (by omega) w2).mono ?_
 rintro e w3 ⟨rfl, hb3⟩
 go_wp2_with fail
 go_returns
 exact ⟨(by simp [rpR]; try rfl), HX.out.trans ((below_of hb2 hb3 hb2.size).mono HX.out.size)⟩
theorem l28Word_11 (u : ByteArray) (hu : u = wd11) (A : Option Addr) (n c lo hi : Nat) (f : Nat → Int) (I H S P : Int) (w : World) (hs : Sl w lo hi 4 A n f) (hn : n ≤ 1048576) (hnc : n ≤ c) (hgd : goodWorks f n I H S P = true) (hI : 0 ≤ I ∧ I ≤ 9223372036854775807) (hH : 0 ≤ H ∧ H ≤ 9223372036854775807) :
  Calls Tryz.prog 84 #[.agg #[.slice A n c, .int .i64 I, .int .i64 H, .int .i64 S, .int .i64 P], .string u] w fun e w' => e = .returned (.string (rpR f n I H S P 11 0 0)) ∧ Below w.heap.size w w' := by
 have q8 := wq7 hu (by decide +kernel)
 have q9 := wq6 hu (by decide +kernel)
 have q10 := wq9 hu (by decide +kernel)
 have q11 : (u.toList == ([109, 97, 121] : List UInt8)) = true := by rw [hu]; decide +kernel
 clear hu
 obtain ⟨hX, h0⟩ := bl1 w (.cells #[.slice A n c, .int .i64 I, .int .i64 H, .int .i64 S, .int .i64 P] 32)
 have hS := hs.below hX
 go_enter Tryz.func84, Tryz.ntmps84
 go_upto_region 2 with fail
 refine name_wp ?_
 intro w1 hw1
 rw [← hw1] at hX h0 hS
 clear hw1
 obtain ⟨e0, e1, e2, e3, e4⟩ := cells5 h0
 have HX := lh hX
 have HS := lh hS
 clear hX hS h0 hs
 have HR : Hid (rpR f n I H S P 11 0 0 = listB (fun j => (rakeRes f n true).getD j 0) (rakeRes f n true).length) := by show _ = _; simp [rpR]
 have hsm := lh (rake_small hgd)
 have hln := rakeRes_len f n true
 have hn6 := con_len hgd
 have HM := sMayRake_any A n c lo hi f I H S P w1 HS.out hn hnc
 rw [hgd] at HM
 generalize rakeRes f n true = L at HM hsm hln HR
 have HMM := lh HM
 clear HM
 go_wp2_with fail
 refine HMM.out.mono ?_
 rintro e w2 ⟨Ar, cr, rfl, hcr, _, hor, hb2⟩
 have HOR := lh hor
 clear hor
 go_wp2_with fail
 refine (l28List_any Ar L.length cr _ _ _ w2 HOR.out.sl (by omega) hcr hsm.out).mono ?_
 rintro e w3 ⟨rfl, hb3⟩
 go_wp2_with fail
 go_returns
 exact ⟨(by rw [HR.out]; try rfl), HX.out.trans ((below_of hb2 hb3 hb2.size).mono HX.out.size)⟩
theorem l28Word_12 (u : ByteArray) (hu : u = wd12) (A : Option Addr) (n c lo hi : Nat) (f : Nat → Int) (I H S P : Int) (w : World) (hs : Sl w lo hi 4 A n f) (hn : n ≤ 1048576) (hnc : n ≤ c) (hgd : goodWorks f n I H S P = true) (hI : 0 ≤ I ∧ I ≤ 9223372036854775807) (hH : 0 ≤ H ∧ H ≤ 9223372036854775807) :
  Calls Tryz.prog 84 #[.agg #[.slice A n c, .int .i64 I, .int .i64 H, .int .i64 S, .int .i64 P], .string u] w fun e w' => e = .returned (.string (rpR f n I H S P 12 0 0)) ∧ Below w.heap.size w w' := by
 have q8 := wq7 hu (by decide +kernel)
 have q9 := wq6 hu (by decide +kernel)
 have q10 := wq9 hu (by decide +kernel)
 have q11 := wq10 hu (by decide +kernel)
 have q12 : (u.toList == ([111, 114, 100, 101, 114] : List UInt8)) = true := by rw [hu]; decide +kernel
 clear hu
 obtain ⟨hX, h0⟩ := bl1 w (.cells #[.slice A n c, .int .i64 I, .int .i64 H, .int .i64 S, .int .i64 P] 32)
 have hS := hs.below hX
 go_enter Tryz.func84, Tryz.ntmps84
 go_upto_region 2 with fail
 refine name_wp ?_
 intro w1 hw1
 rw [← hw1] at hX h0 hS
 clear hw1
 obtain ⟨e0, e1, e2, e3, e4⟩ := cells5 h0
 have HX := lh hX
 have HS := lh hS
 clear hX hS h0 hs
 have HR : Hid (rpR f n I H S P 12 0 0 = listB (fun j => (ordRes f n true).getD j 0) (ordRes f n true).length) := by show _ = _; simp [rpR]
 have hsm := lh (ord_small hgd)
 have hln := ordRes_len f n true
 have hn6 := con_len hgd
 have HM := sPanOrder_any A n c lo hi f I H S P w1 HS.out hn hnc
 rw [hgd] at HM
 generalize ordRes f n true = L at HM hsm hln HR
 have HMM := lh HM
 clear HM
 go_wp2_with fail
 refine HMM.out.mono ?_
 rintro e w2 ⟨Ar, cr, rfl, hcr, _, hor, hb2⟩
 have HOR := lh hor
 clear hor
 go_wp2_with fail
 refine (l28List_any Ar L.length cr _ _ _ w2 HOR.out.sl (by omega) hcr hsm.out).mono ?_
 rintro e w3 ⟨rfl, hb3⟩
 go_wp2_with fail
 go_returns
 exact ⟨(by rw [HR.out]; try rfl), HX.out.trans ((below_of hb2 hb3 hb2.size).mono HX.out.size)⟩
theorem l28Word_no (u : ByteArray) (h8 : u ≠ wd8) (h9 : u ≠ wd9) (h10 : u ≠ wd10) (h11 : u ≠ wd11) (h12 : u ≠ wd12) (A : Option Addr) (n c lo hi : Nat) (f : Nat → Int) (I H S P : Int) (w : World) (hs : Sl w lo hi 4 A n f) (hn : n ≤ 1048576) (hnc : n ≤ c) (hgd : goodWorks f n I H S P = true) :
  Calls Tryz.prog 84 #[.agg #[.slice A n c, .int .i64 I, .int .i64 H, .int .i64 S, .int .i64 P], .string u] w fun e w' => e = .returned (.string ⟨#[63]⟩) ∧ Below w.heap.size w w' := by
 have q8 : (u.toList == ([105, 110] : List UInt8)) = false := by
  rw [show ([105, 110] : List UInt8) = wd8.toList by decide +kernel, toList_beq]
  exact decide_eq_false h8
 have q9 : (u.toList == ([104, 101, 97, 112] : List UInt8)) = false := by
  rw [show ([104, 101, 97, 112] : List UInt8) = wd9.toList by decide +kernel, toList_beq]
  exact decide_eq_false h9
 have q10 : (u.toList == ([112, 97, 110, 115] : List UInt8)) = false := by
  rw [show ([112, 97, 110, 115] : List UInt8) = wd10.toList by decide +kernel, toList_beq]
  exact decide_eq_false h10
 have q11 : (u.toList == ([109, 97, 121] : List UInt8)) = false := by
  rw [show ([109, 97, 121] : List UInt8) = wd11.toList by decide +kernel, toList_beq]
  exact decide_eq_false h11
 have q12 : (u.toList == ([111, 114, 100, 101, 114] : List UInt8)) = false := by
  rw [show ([111, 114, 100, 101, 114] : List UInt8) = wd12.toList by decide +kernel, toList_beq]
  exact decide_eq_false h12
 clear h8 h9 h10 h11 h12
 obtain ⟨hX, h0⟩ := bl1 w (.cells #[.slice A n c, .int .i64 I, .int .i64 H, .int .i64 S, .int .i64 P] 32)
 have hS := hs.below hX
 go_enter Tryz.func84, Tryz.ntmps84
 go_upto_region 2 with fail
 refine name_wp ?_
 intro w1 hw1
 rw [← hw1] at hX h0 hS
 clear hw1
 obtain ⟨e0, e1, e2, e3, e4⟩ := cells5 h0
 have HX := lh hX
 have HS := lh hS
 clear hX hS h0 hs
 go_wp2_with fail
 go_returns
 exact ⟨rfl, HX.out⟩
attribute [local go_sem ↓] Go.wp_at_zero Go.wp_at_succ
def rfPost (base : Nat) (L : List Int) (n : Nat) (I H S P : Int) (D Q : ByteArray) (z : Int) (c x0 x1 x2 : Int) (w : World) (e : Ending) (w' : World) : Prop :=
 ∃ A1 c1, e = .returned (.tuple #[.agg #[.slice A1 (exN (lf L) n I H S P c x0 x1 x2) c1, .int .i64 (exI (lf L) n I H S P c x0 x1 x2), .int .i64 (exH (lf L) n I H S P c x0 x1 x2), .int .i64 (exS (lf L) n I H S P c x0 x1 x2), .int .i64 (exP (lf L) n I H S P c x0 x1 x2), .string D, .string Q, .int .i64 z], .string (exR (lf L) n I H S P c x0 x1 x2)]) ∧ (exN (lf L) n I H S P c x0 x1 x2) ≤ c1 ∧ w'.ownsRow base 97 4 (.slice A1 (exN (lf L) n I H S P c x0 x1 x2) c1) (exN (lf L) n I H S P c x0 x1 x2) ((exL (lf L) n I H S P c x0 x1 x2).map (Value.int .i64)) ∧ Below w.heap.size w w'
section
variable {base n cp n1 c1 : Nat} {A A1 : Option Addr} {L L1 : List Int} {I H S P I1 H1 S1 P1 z c x0 x1 x2 : Int} {D Q r : ByteArray} {w w' : World}
theorem rf_no (hgo : exGo (lf L) n I H S P c x0 x1 x2 = false) (hr : exR (lf L) n I H S P c x0 x1 x2 = r) (hLL : cellsL (lf L) n = L) (hnc : n ≤ cp)
  (hO : w'.ownsRow base 97 4 (.slice A n cp) n (L.map (Value.int .i64))) (hB : Below w.heap.size w w') :
  rfPost base L n I H S P D Q z c x0 x1 x2 w (.returned (.tuple #[.agg #[.slice A n cp, .int .i64 I, .int .i64 H, .int .i64 S, .int .i64 P, .string D, .string Q, .int .i64 z], .string r])) w' := by
 have e1 : (exL (lf L) n I H S P c x0 x1 x2) = L := by rw [exL, hgo]; exact hLL
 have e2 : (exN (lf L) n I H S P c x0 x1 x2) = n := by rw [exN, hgo]; rfl
 have e3 : (exI (lf L) n I H S P c x0 x1 x2) = I := by rw [exI, hgo]; rfl
 have e4 : (exH (lf L) n I H S P c x0 x1 x2) = H := by rw [exH, hgo]; rfl
 have e5 : (exS (lf L) n I H S P c x0 x1 x2) = S := by rw [exS, hgo]; rfl
 have e6 : (exP (lf L) n I H S P c x0 x1 x2) = P := by rw [exP, hgo]; rfl
 unfold rfPost
 rw [e1, e2, e3, e4, e5, e6, hr]
 exact ⟨A, cp, rfl, hnc, hO, hB⟩
theorem rf_yes (hgo : exGo (lf L) n I H S P c x0 x1 x2 = true)
  (hv : L1 = stL (lf L) n c (exId c x0) (exTo c x1) (exZ c x0 x1 x2) ∧ n1 = stN n c ∧ I1 = stI I c (exZ c x0 x1 x2) ∧ H1 = stH H c (exZ c x0 x1 x2) ∧ S1 = stS S c (exZ c x0 x1 x2) ∧ P1 = stP (lf L) n P c (exId c x0)) (hr : exR (lf L) n I H S P c x0 x1 x2 = r) (hnc : n1 ≤ c1)
  (hO : w'.ownsRow base 97 4 (.slice A1 n1 c1) n1 (L1.map (Value.int .i64))) (hB : Below w.heap.size w w') :
  rfPost base L n I H S P D Q z c x0 x1 x2 w (.returned (.tuple #[.agg #[.slice A1 n1 c1, .int .i64 I1, .int .i64 H1, .int .i64 S1, .int .i64 P1, .string D, .string Q, .int .i64 z], .string r])) w' := by
 obtain ⟨v1, v2, v3, v4, v5, v6⟩ := hv
 have e1 : (exL (lf L) n I H S P c x0 x1 x2) = L1 := by rw [exL, hgo, v1]; rfl
 have e2 : (exN (lf L) n I H S P c x0 x1 x2) = n1 := by rw [exN, hgo, v2]; rfl
 have e3 : (exI (lf L) n I H S P c x0 x1 x2) = I1 := by rw [exI, hgo, v3]; rfl
 have e4 : (exH (lf L) n I H S P c x0 x1 x2) = H1 := by rw [exH, hgo, v4]; rfl
 have e5 : (exS (lf L) n I H S P c x0 x1 x2) = S1 := by rw [exS, hgo, v5]; rfl
 have e6 : (exP (lf L) n I H S P c x0 x1 x2) = P1 := by rw [exP, hgo, v6]; rfl
 clear v1 v2 v3 v4 v5 v6
 unfold rfPost
 rw [e1, e2, e3, e4, e5, e6, hr]
 exact ⟨A1, c1, rfl, hnc, hO, hB⟩
theorem go_no (h : exOk (lf L) n I H S P c x0 x1 x2 = false) : exGo (lf L) n I H S P c x0 x1 x2 = false := by
 unfold exGo
 unfold exOk at h
 by_cases h0 : c = 0
 ·subst h0; rfl
 ·rw [if_neg h0] at h
  cases hs : isStep c with
  | false => rfl
  | true => rw [hs] at h; exact h
theorem exR_none (h : exOk (lf L) n I H S P c x0 x1 x2 = false) : exR (lf L) n I H S P c x0 x1 x2 = ⟨#[63]⟩ := by unfold exR; rw [h]; rfl
theorem exR_step (hc : isStep c = true) (hs : stOk (lf L) n I H S P c (exId c x0) (exTo c x1) (exZ c x0 x1 x2) = true)
  (hv : L1 = stL (lf L) n c (exId c x0) (exTo c x1) (exZ c x0 x1 x2) ∧ n1 = stN n c ∧ I1 = stI I c (exZ c x0 x1 x2) ∧ H1 = stH H c (exZ c x0 x1 x2) ∧ S1 = stS S c (exZ c x0 x1 x2) ∧ P1 = stP (lf L) n P c (exId c x0)) :
  exR (lf L) n I H S P c x0 x1 x2 = rpR (lf L1) n1 I1 H1 S1 P1 c x0 x1 := by
 obtain ⟨v1, v2, v3, v4, v5, v6⟩ := hv
 have hgo : exGo (lf L) n I H S P c x0 x1 x2 = true := by unfold exGo; rw [hc, hs]; rfl
 have hok : exOk (lf L) n I H S P c x0 x1 x2 = true := by
  unfold exOk
  by_cases h0 : c = 0
  ·subst h0; cases hc
  ·rw [if_neg h0, if_pos hc]; exact hs
 have e1 : (exL (lf L) n I H S P c x0 x1 x2) = L1 := by rw [exL, hgo, v1]; rfl
 have e2 : (exN (lf L) n I H S P c x0 x1 x2) = n1 := by rw [exN, hgo, v2]; rfl
 have e3 : (exI (lf L) n I H S P c x0 x1 x2) = I1 := by rw [exI, hgo, v3]; rfl
 have e4 : (exH (lf L) n I H S P c x0 x1 x2) = H1 := by rw [exH, hgo, v4]; rfl
 have e5 : (exS (lf L) n I H S P c x0 x1 x2) = S1 := by rw [exS, hgo, v5]; rfl
 have e6 : (exP (lf L) n I H S P c x0 x1 x2) = P1 := by rw [exP, hgo, v6]; rfl
 unfold exR
 rw [hok, e1, e2, e3, e4, e5, e6]
 rfl
theorem exR_ask (h0 : c ≠ 0) (hc : isStep c = false) (hLL : cellsL (lf L) n = L) (hr : rpOk (lf L) n c x0 x1 = true) : exR (lf L) n I H S P c x0 x1 x2 = rpR (lf L) n I H S P c x0 x1 := by
 have hgo : exGo (lf L) n I H S P c x0 x1 x2 = false := by unfold exGo; rw [hc]; rfl
 have hok : exOk (lf L) n I H S P c x0 x1 x2 = true := by
  unfold exOk
  rw [if_neg h0, hc]
  exact hr
 have e1 : (exL (lf L) n I H S P c x0 x1 x2) = L := by rw [exL, hgo]; exact hLL
 have e2 : (exN (lf L) n I H S P c x0 x1 x2) = n := by rw [exN, hgo]; rfl
 have e3 : (exI (lf L) n I H S P c x0 x1 x2) = I := by rw [exI, hgo]; rfl
 have e4 : (exH (lf L) n I H S P c x0 x1 x2) = H := by rw [exH, hgo]; rfl
 have e5 : (exS (lf L) n I H S P c x0 x1 x2) = S := by rw [exS, hgo]; rfl
 have e6 : (exP (lf L) n I H S P c x0 x1 x2) = P := by rw [exP, hgo]; rfl
 unfold exR
 rw [hok, e1, e2, e3, e4, e5, e6]
 rfl
theorem ok_ask (h0 : c ≠ 0) (hc : isStep c = false) : exOk (lf L) n I H S P c x0 x1 x2 = rpOk (lf L) n c x0 x1 := by
 unfold exOk
 rw [if_neg h0, hc]
 rfl
end
section
variable {base n cp n1 c1 : Nat} {A A1 : Option Addr} {L L1 : List Int} {I H S P I1 H1 S1 P1 z c x0 x1 x2 id tt zz : Int} {D Q r : ByteArray} {w w' : World}
theorem mk_ok (hi : id = exId c x0 ∧ tt = exTo c x1 ∧ zz = exZ c x0 x1 x2) (hc : isStep c = true) : exOk (lf L) n I H S P c x0 x1 x2 = stOk (lf L) n I H S P c id tt zz ∧ exGo (lf L) n I H S P c x0 x1 x2 = stOk (lf L) n I H S P c id tt zz := by
 obtain ⟨rfl, rfl, rfl⟩ := hi
 constructor
 ·unfold exOk
  by_cases h0 : c = 0
  ·subst h0; cases hc
  ·rw [if_neg h0, if_pos hc]
 ·unfold exGo
  rw [hc]
  rfl
theorem mk_no (hi : id = exId c x0 ∧ tt = exTo c x1 ∧ zz = exZ c x0 x1 x2) (hc : isStep c = true) (hso : stOk (lf L) n I H S P c id tt zz = false) (hLL : cellsL (lf L) n = L) (hnc : n ≤ cp)
  (hO : w'.ownsRow base 97 4 (.slice A n cp) n (L.map (Value.int .i64))) (hB : Below w.heap.size w w') :
  rfPost base L n I H S P D Q z c x0 x1 x2 w (.returned (.tuple #[.agg #[.slice A n cp, .int .i64 I, .int .i64 H, .int .i64 S, .int .i64 P, .string D, .string Q, .int .i64 z], .string ⟨#[63]⟩])) w' := by
 have h := mk_ok (L := L) (n := n) (I := I) (H := H) (S := S) (P := P) hi hc
 rw [hso] at h
 exact rf_no h.2 (exR_none h.1) hLL hnc hO hB
theorem mk_there (hi : id = exId c x0 ∧ tt = exTo c x1 ∧ zz = exZ c x0 x1 x2) (hc : isStep c = true) (hso : stOk (lf L) n I H S P c id tt zz = true) (h1 : L1 = stL (lf L) n c id tt zz) (h2 : n1 = stN n c) : rpOk (lf L1) n1 c x0 x1 = true := by
 obtain ⟨rfl, rfl, rfl⟩ := hi
 subst h1 h2
 exact st_there hc hso
theorem mk_yes (hi : id = exId c x0 ∧ tt = exTo c x1 ∧ zz = exZ c x0 x1 x2) (hc : isStep c = true) (hso : stOk (lf L) n I H S P c id tt zz = true)
  (hv : L1 = stL (lf L) n c id tt zz ∧ n1 = stN n c ∧ I1 = stI I c zz ∧ H1 = stH H c zz ∧ S1 = stS S c zz ∧ P1 = stP (lf L) n P c id) (hr : rpR (lf L1) n1 I1 H1 S1 P1 c x0 x1 = r) (hnc : n1 ≤ c1)
  (hO : w'.ownsRow base 97 4 (.slice A1 n1 c1) n1 (L1.map (Value.int .i64))) (hB : Below w.heap.size w w') :
  rfPost base L n I H S P D Q z c x0 x1 x2 w (.returned (.tuple #[.agg #[.slice A1 n1 c1, .int .i64 I1, .int .i64 H1, .int .i64 S1, .int .i64 P1, .string D, .string Q, .int .i64 z], .string r])) w' := by
 have h := mk_ok (L := L) (n := n) (I := I) (H := H) (S := S) (P := P) hi hc
 rw [hso] at h
 obtain ⟨rfl, rfl, rfl⟩ := hi
 exact rf_yes h.2 hv ((exR_step hc hso hv).trans hr) hnc hO hB
end
theorem own_formS {w : World} {base n c : Nat} {A' : Option Addr} {xs : List Value} (h : w.ownsRow base 97 4 (.slice A' n c) n xs) : ∀ ad, A' = some ad → ∃ b off, ad = ⟨b, off, none⟩ := by
 intro ad e
 subst e
 rcases h.2 with ⟨h1, h2⟩ | ⟨g, cap, cur, h1, _⟩
 ·simp at h1
 ·simp at h1; exact ⟨_, _, h1.1⟩
theorem l28Make_any (base : Nat) (A : Option Addr) (n cp : Nat) (L : List Int) (I H S P : Int) (D Q : ByteArray) (z : Int) (c x0 x1 x2 id tt zz : Int) (hi : id = exId c x0 ∧ tt = exTo c x1 ∧ zz = exZ c x0 x1 x2) (hc : isStep c = true) (w : World) (hO : w.ownsRow base 97 4 (.slice A n cp) n (L.map (Value.int .i64))) (hbase : base ≤ w.heap.size) (hnc : n ≤ cp) (hg : goodWorks (lf L) n I H S P = true) :
  Calls Tryz.prog 87 #[.agg #[.slice A n cp, .int .i64 I, .int .i64 H, .int .i64 S, .int .i64 P, .string D, .string Q, .int .i64 z], .agg #[.int .i64 c, .int .i64 id, .int .i64 tt, .int .i64 zz]] w (rfPost base L n I H S P D Q z c x0 x1 x2 w) := by
 have HI := lh hi
 have HCC := lh hc
 clear hi hc
 have hLl : L.length = n * 4 := by simpa using hO.1
 have HLL := lh (cellsL_lf hLl)
 have hn6 := con_len hg
 clear hLl
 obtain ⟨hX, h2, h3, h4⟩ := bl3 w (.cells #[.slice A n cp, .int .i64 I, .int .i64 H, .int .i64 S, .int .i64 P, .string D, .string Q, .int .i64 z] 35) (.cells #[.int .i64 c, .int .i64 id, .int .i64 tt, .int .i64 zz] 107) (.cells #[.slice none 0 0, .int .i64 0, .int .i64 0, .int .i64 0, .int .i64 0, .string ⟨#[]⟩, .string ⟨#[]⟩, .int .i64 0] 35)
 go_enter Tryz.func87, Tryz.ntmps87
 go_upto_region 1 with fail
 refine name_wp ?_
 intro w1 hw1
 rw [← hw1] at hX h2 h3 h4
 clear hw1
 obtain ⟨g2, hg2⟩ : ∃ q, w.heap.size = q := ⟨_, rfl⟩
 rw [hg2] at h2 h3 h4
 try rw [hg2]
 obtain ⟨g3, hg3⟩ : ∃ q, g2 + 1 = q := ⟨_, rfl⟩
 rw [hg3] at h3 h4
 try rw [hg3]
 obtain ⟨g4, hg4⟩ : ∃ q, g3 + 1 = q := ⟨_, rfl⟩
 rw [hg4] at h4
 try rw [hg4]
 have HLE := lh (show w.heap.size ≤ g4 by omega)
 have hn24 : g2 ≠ g4 := by omega
 have hn34 : g3 ≠ g4 := by omega
 have HO := lh (ownsRow_below hO hX)
 have HX := lh hX
 have H2 := lh h2
 have H3 := lh h3
 have H4 := lh h4
 have hb1 := hX.size
 have l3 := (Array.getElem?_eq_some_iff.1 h3).1
 have l4 := (Array.getElem?_eq_some_iff.1 h4).1
 clear hO hX h2 h3 h4
 have HNK := lh (fun e : A = none => own_nilK HO.out e)
 have HFM := lh (own_formS HO.out)
 have HSL := lh (own_sl HO.out)
 obtain ⟨e0, e1, e2, e3, e4, e5, e6, e7⟩ := cells8 H2.out
 obtain ⟨s0, s1, s2, s3⟩ := cells4 H3.out
 obtain ⟨so, hso⟩ : ∃ b, stOk (lf L) n I H S P c id tt zz = b := ⟨_, rfl⟩
 have HSO := lh hso
 have HW0 := sStepWorks_any A n cp _ _ (lf L) I H S P c id tt zz w1 HSL.out (by omega) hnc HNK.out HFM.out
 rw [hso] at HW0
 have HW := lh HW0
 clear HW0 hso HNK HFM HSL
 go_wp2_with fail
 refine HW.out.mono ?_
 rintro e w2 hp
 obtain ⟨L1, n1, I1, H1, S1, P1, A1, c1, rfl, hnc1, hown1, hb, hv⟩ := step_open hp
 clear hp HW e0 e1 e2 e3 e4 e5 e6 e7 s0 s1 s2 s3
 have HV := lh hv
 have HO2 := lh (ownsRow_below HO.out hb)
 have HO1 := lh (ownsRow_monoP hown1 (show base ≤ w1.heap.size by have := HX.out.size; omega))
 have HB := lh (HX.out.trans (hb.mono HX.out.size))
 have H2' := lh (rowC H2.out hb)
 have H3' := lh (rowC H3.out hb)
 have H4' := lh (rowC H4.out hb)
 have hb2 := hb.size
 clear hv hown1 hb H2 H3 H4 HO
 go_upto_region 2 with fail
 refine name_wp ?_
 intro w3 hw3
 have hb := ba hw3
 have h6 := an hw3
 clear hw3
 obtain ⟨g6, hg6⟩ : ∃ q, w2.heap.size = q := ⟨_, rfl⟩
 rw [hg6] at h6
 try rw [hg6]
 have HB3 := lh (HB.out.trans (hb.mono HB.out.size))
 have H2 := lh (rowC H2'.out hb)
 have H3 := lh (rowC H3'.out hb)
 have H4 := lh (rowC H4'.out hb)
 have HOo := lh (ownsRow_below HO2.out hb)
 have HOn := lh (ownsRow_below HO1.out hb)
 have H6 := lh h6
 have hn46 : g4 ≠ g6 := by omega
 have hn26 : g2 ≠ g6 := by omega
 have HL6 := lh (show w2.heap.size ≤ g6 by omega)
 clear hb h6 H2' H3' H4' HO2 HO1 HB
 cases so with
 | false =>
  have h2 := H2.out
  have h4 := H4.out
  obtain ⟨e0, e1, e2, e3, e4, e5, e6, e7⟩ := cells8 h2
  go_upto_region 3 with fail
  go_wp2_with ((with_reducible refine wpList_isStore ?_); refine wL0 g4 #[.slice A n cp, .int .i64 I, .int .i64 H, .int .i64 S, .int .i64 P, .string D, .string Q, .int .i64 z] 35 infoConE h4 ?_)
  intro wz hh hgw
  have HHR := lh hh
  have HBZ := lh (HB3.out.grown hgw HB3.out.size (fun k hk => by cases hk; exact HLE.out))
  have HOZ := lh (own_other HOo.out h4 (by decide) hgw)
  clear hh hgw
  go_wp2_with ((try simp only [Exit.inBlock, Exit.then]); refine ret_cell2 Tryz.results87 rfl rfl Tryz.underlying35 HHR.out infoConE rfl ?_; have hq := mk_no (D := D) (Q := Q) (z := z) HI.out HCC.out HSO.out HLL.out hnc HOZ.out HBZ.out; exact hq)
 | true =>
  have hv := HV.out rfl
  have HTH := lh (mk_there HI.out HCC.out HSO.out hv.1 hv.2.1)
  have hgd := st_good HSO.out
  rw [← hv.1, ← hv.2.1, ← hv.2.2.1, ← hv.2.2.2.1, ← hv.2.2.2.2.1, ← hv.2.2.2.2.2] at hgd
  have HVV := lh hv
  have hk := good_kilos hgd
  have hn1 := con_len hgd
  have HGD := lh hgd
  have HKK := lh hk
  clear hv hgd hk HV
  have h2 := H2.out
  obtain ⟨e0, e1, e2, e3, e4, e5, e6, e7⟩ := cells8 h2
  clear h2
  go_upto_region 5 with fail
  refine name_wp ?_
  intro w4 hw4
  have hb := ba hw4
  have h8 := an hw4
  clear hw4 e0 e1 e2 e3 e4 e5 e6 e7
  have l6 := (Array.getElem?_eq_some_iff.1 H6.out).1
  have hs3 := HB3.out.size
  obtain ⟨g8, hg8⟩ : ∃ q, w3.heap.size = q := ⟨_, rfl⟩
  rw [hg8] at h8 l6 hs3
  try rw [hg8]
  have HB4 := lh (HB3.out.trans (hb.mono HB3.out.size))
  have H3' := lh (rowC H3.out hb)
  have H4' := lh (rowC H4.out hb)
  have H6' := lh (rowC H6.out hb)
  have HOn' := lh (ownsRow_below HOn.out hb)
  have HL8 := lh (show w.heap.size ≤ g8 from hs3)
  have hl3 := (Array.getElem?_eq_some_iff.1 H3.out).1
  have hl4 := (Array.getElem?_eq_some_iff.1 H4.out).1
  rw [hg8] at hl3 hl4
  have hn68 : g6 ≠ g8 := by omega
  have hn38 : g3 ≠ g8 := by omega
  have hn48 : g4 ≠ g8 := by omega
  clear hb H2 H3 H4 H6 HOn HOo HB3 l6 hs3 hl3 hl4
  have h8' := h8
  obtain ⟨y0, y1, y2, y3, y4⟩ := cells5 H6'.out
  go_wp2_with ((with_reducible refine wpList_isStore ?_); refine wpList_store2 g8 0 (.agg #[.slice A1 n1 c1, .int .i64 I1, .int .i64 H1, .int .i64 S1, .int .i64 P1]) 35 _ #[.slice A1 n1 c1, .int .i64 I1, .int .i64 H1, .int .i64 S1, .int .i64 P1, .string D, .string Q, .int .i64 z] rfl rfl infoWorks h8 ((by decide : 0 + 5 ≤ 8)) (by simp [Value.cells, Value.oneCell']) rfl ?_)
  intro w5 hh hgw
  have H8 := lh hh
  have H3 := lh (rowGr H3'.out hgw hn38)
  have H4 := lh (rowGr H4'.out hgw hn48)
  have H6 := lh (rowGr H6'.out hgw hn68)
  have HON := lh (own_other HOn'.out h8' (by decide) hgw)
  have HB := lh (HB4.out.grown hgw HB4.out.size (fun k hk => by cases hk; exact HL8.out))
  clear hh hgw h8 h8' H3' H4' H6' HOn' HB4 y0 y1 y2 y3 y4
  have HSL := lh (own_sl HON.out)
  obtain ⟨r, hr⟩ : ∃ r, rpR (lf L1) n1 I1 H1 S1 P1 c x0 x1 = r := ⟨_, rfl⟩
  have HR := lh hr
  clear hr
  by_cases hk3 : c = 3
  ·as_aux_lemma =>
    have k3 : (c == 3) = true := by simp [hk3]
    have RR : Hid (panX (lf L1) n1 tt = r) := by
     show _ = _
     rw [← HR.out, hk3, HI.out.2.1, hk3]
     simp [rpR, exTo]
    have FND : Hid (0 ≤ findV (pid (lf L1)) tt n1 0) := by
     show _ ≤ _
     have h := HTH.out
     rw [HI.out.2.1, hk3]
     rw [hk3] at h
     simpa [rpOk, exTo] using h
    have HK3 := lh hk3
    clear hk3
    have HC : Hid (∀ W, Below w5.heap.size w5 W → Calls Tryz.prog 133 #[.agg #[.slice A1 n1 c1, .int .i64 I1, .int .i64 H1, .int .i64 S1, .int .i64 P1], .int .i64 tt] W fun e w' => e = .returned (.string r) ∧ Below W.heap.size W w') := fun W hb => by
     have h := l28Pan_any tt A1 n1 c1 _ _ (lf L1) I1 H1 S1 P1 W (HSL.out.below hb) (by omega) hnc1 HGD.out
     rw [if_pos FND.out] at h
     rw [RR.out] at h
     exact h
    obtain ⟨s0, s1, s2, s3⟩ := cells4 H3.out
    go_upto_region 8 with fail
    have HF : Hid (∀ w', w5.grownBy w' (some g4) → _) := fun w' hq => And.intro (cells8 (rowGr H8.out hq (Ne.symm hn48))) (And.intro (cells5 (rowGr H6.out hq (Ne.symm hn46))) (cells4 (rowGr H3.out hq hn34)))
    refine wp_region_held_drew (S := fun w' => w5.grownBy w' (some g4)) (by kernel_rfl) (but_stays w5 _ (grow_refl w5 (some g4)) ((Below.refl _ _).drew)) (fun jd => ?_)
    have hbd : Below w5.heap.size w5 w5.drew := (Below.refl _ _).drew
    obtain ⟨v0, hv0⟩ : ∃ v, w5.drew = v := ⟨_, rfl⟩
    rw [hv0] at jd hbd ⊢
    clear hv0
    refine tj4 0 26 1 27 2 28 3 29 HF jd ?_
    refine wpAnyH_ready (rs := [4]) (by kernel_rfl) (by simp) ?_
    refine (AllReadyH.cons rfl (fun K hK => ?_) AllReadyH.nil)
    go_simp
    refine (HC.out v0 hbd).mono ?_
    rintro e v1 ⟨rfl, hbn⟩
    have hr4 := rowC (rowC H4.out hbd) hbn
    have hOv := ownsRow_below (ownsRow_below HON.out hbd) hbn
    have hBv := (HB.out.trans (hbd.mono HB.out.size)).trans (hbn.mono (Nat.le_trans HB.out.size hbd.size))
    have hHeld2 := but_stays v0 v1 jd hbn
    refine hK.out _ _ hHeld2 (fun jd => ?_)
    clear hK K hHeld2
    refine wS0 5 g4 #[.slice A1 n1 c1, .int .i64 I1, .int .i64 H1, .int .i64 S1, .int .i64 P1, .string D, .string Q, .int .i64 z] 35 infoConE (hr4) (fun w' hg' => grow_trans jd hg') ?ks8
    case ks8 =>
     intro v3 hh hgw hHeld3
     clear jd
     have jd := hHeld3
     clear hHeld3
     refine tj 6 5 HF rfl jd ?_
     refine wpAnyH_done (by kernel_rfl) ?_ _
     have HHR := lh hh
     have HBZ := lh (hBv.grown hgw hBv.size (fun k hk => by cases hk; exact HLE.out))
     have HOZ := lh (own_other hOv hr4 (by decide) hgw)
     clear hh hgw hr4 hOv hBv jd hbd hbn HF HC
     go_wp2_with ((try simp only [Exit.inBlock, Exit.then]); refine ret_cell2 Tryz.results87 rfl rfl Tryz.underlying35 HHR.out infoConE rfl ?_; have hq := mk_yes (D := D) (Q := Q) (z := z) HI.out HCC.out HSO.out HVV.out HR.out hnc1 HOZ.out HBZ.out; exact hq)
  have k3 : (c == 3) = false := by simp [hk3]
  by_cases hk5 : c = 5
  ·as_aux_lemma =>
    have k5 : (c == 5) = true := by simp [hk5]
    have RR : Hid (numB H1 = r) := by
     show _ = _
     rw [← HR.out, hk5]
     simp [rpR]
    have HK5 := lh hk5
    clear hk5
    have HC : Hid (∀ W, Below w5.heap.size w5 W → Calls Tryz.prog 66 #[.int .i64 H1] W fun e w' => e = .returned (.string r) ∧ Below W.heap.size W w') := fun W hb => by
     have h := l1Num_any H1 HKK.out.2.1.1 (Int.le_trans HKK.out.2.1.2 (by decide)) W
     rw [RR.out] at h
     exact h
    obtain ⟨s0, s1, s2, s3⟩ := cells4 H3.out
    go_upto_region 10 with fail
    have HF : Hid (∀ w', w5.grownBy w' (some g4) → _) := fun w' hq => And.intro (cells8 (rowGr H8.out hq (Ne.symm hn48))) (And.intro (cells5 (rowGr H6.out hq (Ne.symm hn46))) (cells4 (rowGr H3.out hq hn34)))
    refine wp_region_held_drew (S := fun w' => w5.grownBy w' (some g4)) (by kernel_rfl) (but_stays w5 _ (grow_refl w5 (some g4)) ((Below.refl _ _).drew)) (fun jd => ?_)
    have hbd : Below w5.heap.size w5 w5.drew := (Below.refl _ _).drew
    obtain ⟨v0, hv0⟩ : ∃ v, w5.drew = v := ⟨_, rfl⟩
    rw [hv0] at jd hbd ⊢
    clear hv0
    refine tj3 0 33 1 34 2 35 HF jd ?_
    refine wpAnyH_ready (rs := [3]) (by kernel_rfl) (by simp) ?_
    refine (AllReadyH.cons rfl (fun K hK => ?_) AllReadyH.nil)
    go_simp
    refine (HC.out v0 hbd).mono ?_
    rintro e v1 ⟨rfl, hbn⟩
    have hr4 := rowC (rowC H4.out hbd) hbn
    have hOv := ownsRow_below (ownsRow_below HON.out hbd) hbn
    have hBv := (HB.out.trans (hbd.mono HB.out.size)).trans (hbn.mono (Nat.le_trans HB.out.size hbd.size))
    have hHeld2 := but_stays v0 v1 jd hbn
    refine hK.out _ _ hHeld2 (fun jd => ?_)
    clear hK K hHeld2
    refine wS0 4 g4 #[.slice A1 n1 c1, .int .i64 I1, .int .i64 H1, .int .i64 S1, .int .i64 P1, .string D, .string Q, .int .i64 z] 35 infoConE (hr4) (fun w' hg' => grow_trans jd hg') ?ks10
    case ks10 =>
     intro v3 hh hgw hHeld3
     clear jd
     have jd := hHeld3
     clear hHeld3
     refine tj 5 5 HF rfl jd ?_
     refine wpAnyH_done (by kernel_rfl) ?_ _
     have HHR := lh hh
     have HBZ := lh (hBv.grown hgw hBv.size (fun k hk => by cases hk; exact HLE.out))
     have HOZ := lh (own_other hOv hr4 (by decide) hgw)
     clear hh hgw hr4 hOv hBv jd hbd hbn HF HC
     go_wp2_with ((try simp only [Exit.inBlock, Exit.then]); refine ret_cell2 Tryz.results87 rfl rfl Tryz.underlying35 HHR.out infoConE rfl ?_; have hq := mk_yes (D := D) (Q := Q) (z := z) HI.out HCC.out HSO.out HVV.out HR.out hnc1 HOZ.out HBZ.out; exact hq)
  have k5 : (c == 5) = false := by simp [hk5]
  by_cases hk6 : c = 6
  ·as_aux_lemma =>
    have k6 : (c == 6) = true := by simp [hk6]
    have RR : Hid (numB S1 = r) := by
     show _ = _
     rw [← HR.out, hk6]
     simp [rpR]
    have HK6 := lh hk6
    clear hk6
    have HC : Hid (∀ W, Below w5.heap.size w5 W → Calls Tryz.prog 66 #[.int .i64 S1] W fun e w' => e = .returned (.string r) ∧ Below W.heap.size W w') := fun W hb => by
     have h := l1Num_any S1 HKK.out.2.2.1.1 (Int.le_trans HKK.out.2.2.1.2 (by decide)) W
     rw [RR.out] at h
     exact h
    obtain ⟨s0, s1, s2, s3⟩ := cells4 H3.out
    go_upto_region 12 with fail
    have HF : Hid (∀ w', w5.grownBy w' (some g4) → _) := fun w' hq => And.intro (cells8 (rowGr H8.out hq (Ne.symm hn48))) (And.intro (cells5 (rowGr H6.out hq (Ne.symm hn46))) (cells4 (rowGr H3.out hq hn34)))
    refine wp_region_held_drew (S := fun w' => w5.grownBy w' (some g4)) (by kernel_rfl) (but_stays w5 _ (grow_refl w5 (some g4)) ((Below.refl _ _).drew)) (fun jd => ?_)
    have hbd : Below w5.heap.size w5 w5.drew := (Below.refl _ _).drew
    obtain ⟨v0, hv0⟩ : ∃ v, w5.drew = v := ⟨_, rfl⟩
    rw [hv0] at jd hbd ⊢
    clear hv0
    refine tj3 0 39 1 40 2 41 HF jd ?_
    refine wpAnyH_ready (rs := [3]) (by kernel_rfl) (by simp) ?_
    refine (AllReadyH.cons rfl (fun K hK => ?_) AllReadyH.nil)
    go_simp
    refine (HC.out v0 hbd).mono ?_
    rintro e v1 ⟨rfl, hbn⟩
    have hr4 := rowC (rowC H4.out hbd) hbn
    have hOv := ownsRow_below (ownsRow_below HON.out hbd) hbn
    have hBv := (HB.out.trans (hbd.mono HB.out.size)).trans (hbn.mono (Nat.le_trans HB.out.size hbd.size))
    have hHeld2 := but_stays v0 v1 jd hbn
    refine hK.out _ _ hHeld2 (fun jd => ?_)
    clear hK K hHeld2
    refine wS0 4 g4 #[.slice A1 n1 c1, .int .i64 I1, .int .i64 H1, .int .i64 S1, .int .i64 P1, .string D, .string Q, .int .i64 z] 35 infoConE (hr4) (fun w' hg' => grow_trans jd hg') ?ks12
    case ks12 =>
     intro v3 hh hgw hHeld3
     clear jd
     have jd := hHeld3
     clear hHeld3
     refine tj 5 5 HF rfl jd ?_
     refine wpAnyH_done (by kernel_rfl) ?_ _
     have HHR := lh hh
     have HBZ := lh (hBv.grown hgw hBv.size (fun k hk => by cases hk; exact HLE.out))
     have HOZ := lh (own_other hOv hr4 (by decide) hgw)
     clear hh hgw hr4 hOv hBv jd hbd hbn HF HC
     go_wp2_with ((try simp only [Exit.inBlock, Exit.then]); refine ret_cell2 Tryz.results87 rfl rfl Tryz.underlying35 HHR.out infoConE rfl ?_; have hq := mk_yes (D := D) (Q := Q) (z := z) HI.out HCC.out HSO.out HVV.out HR.out hnc1 HOZ.out HBZ.out; exact hq)
  have k6 : (c == 6) = false := by simp [hk6]
  by_cases hk7 : c = 7
  ·as_aux_lemma =>
    have k7 : (c == 7) = true := by simp [hk7]
    have RR : Hid (numB P1 = r) := by
     show _ = _
     rw [← HR.out, hk7]
     simp [rpR]
    have HK7 := lh hk7
    clear hk7
    have HC : Hid (∀ W, Below w5.heap.size w5 W → Calls Tryz.prog 66 #[.int .i64 P1] W fun e w' => e = .returned (.string r) ∧ Below W.heap.size W w') := fun W hb => by
     have h := l1Num_any P1 HKK.out.2.2.2.1 (Int.le_trans HKK.out.2.2.2.2 (by decide)) W
     rw [RR.out] at h
     exact h
    obtain ⟨s0, s1, s2, s3⟩ := cells4 H3.out
    go_upto_region 14 with fail
    have HF : Hid (∀ w', w5.grownBy w' (some g4) → _) := fun w' hq => And.intro (cells8 (rowGr H8.out hq (Ne.symm hn48))) (And.intro (cells5 (rowGr H6.out hq (Ne.symm hn46))) (cells4 (rowGr H3.out hq hn34)))
    refine wp_region_held_drew (S := fun w' => w5.grownBy w' (some g4)) (by kernel_rfl) (but_stays w5 _ (grow_refl w5 (some g4)) ((Below.refl _ _).drew)) (fun jd => ?_)
    have hbd : Below w5.heap.size w5 w5.drew := (Below.refl _ _).drew
    obtain ⟨v0, hv0⟩ : ∃ v, w5.drew = v := ⟨_, rfl⟩
    rw [hv0] at jd hbd ⊢
    clear hv0
    refine tj3 0 45 1 46 2 47 HF jd ?_
    refine wpAnyH_ready (rs := [3]) (by kernel_rfl) (by simp) ?_
    refine (AllReadyH.cons rfl (fun K hK => ?_) AllReadyH.nil)
    go_simp
    refine (HC.out v0 hbd).mono ?_
    rintro e v1 ⟨rfl, hbn⟩
    have hr4 := rowC (rowC H4.out hbd) hbn
    have hOv := ownsRow_below (ownsRow_below HON.out hbd) hbn
    have hBv := (HB.out.trans (hbd.mono HB.out.size)).trans (hbn.mono (Nat.le_trans HB.out.size hbd.size))
    have hHeld2 := but_stays v0 v1 jd hbn
    refine hK.out _ _ hHeld2 (fun jd => ?_)
    clear hK K hHeld2
    refine wS0 4 g4 #[.slice A1 n1 c1, .int .i64 I1, .int .i64 H1, .int .i64 S1, .int .i64 P1, .string D, .string Q, .int .i64 z] 35 infoConE (hr4) (fun w' hg' => grow_trans jd hg') ?ks14
    case ks14 =>
     intro v3 hh hgw hHeld3
     clear jd
     have jd := hHeld3
     clear hHeld3
     refine tj 5 5 HF rfl jd ?_
     refine wpAnyH_done (by kernel_rfl) ?_ _
     have HHR := lh hh
     have HBZ := lh (hBv.grown hgw hBv.size (fun k hk => by cases hk; exact HLE.out))
     have HOZ := lh (own_other hOv hr4 (by decide) hgw)
     clear hh hgw hr4 hOv hBv jd hbd hbn HF HC
     go_wp2_with ((try simp only [Exit.inBlock, Exit.then]); refine ret_cell2 Tryz.results87 rfl rfl Tryz.underlying35 HHR.out infoConE rfl ?_; have hq := mk_yes (D := D) (Q := Q) (z := z) HI.out HCC.out HSO.out HVV.out HR.out hnc1 HOZ.out HBZ.out; exact hq)
  have k7 : (c == 7) = false := by simp [hk7]
  have hcc := HCC.out
  simp only [isStep, decide_eq_true_eq] at hcc
  have h124 : c = 1 ∨ c = 2 ∨ c = 4 := by omega
  have h6 : exId c x0 = x0 := by unfold exId; rw [if_neg hk6]
  clear hcc
  have RR : Hid (panX (lf L1) n1 id = r) := by
   show _ = _
   rw [← HR.out, HI.out.1, h6]
   rcases h124 with rfl | rfl | rfl <;> simp [rpR]
  have FND : Hid (0 ≤ findV (pid (lf L1)) id n1 0) := by
   show _ ≤ _
   have h := HTH.out
   rw [HI.out.1, h6]
   rcases h124 with rfl | rfl | rfl <;> simpa [rpOk] using h
  clear hk3 hk5 hk6 hk7 h124 h6
  have HC : Hid (∀ W, Below w5.heap.size w5 W → Calls Tryz.prog 133 #[.agg #[.slice A1 n1 c1, .int .i64 I1, .int .i64 H1, .int .i64 S1, .int .i64 P1], .int .i64 id] W fun e w' => e = .returned (.string r) ∧ Below W.heap.size W w') := fun W hb => by
   have h := l28Pan_any id A1 n1 c1 _ _ (lf L1) I1 H1 S1 P1 W (HSL.out.below hb) (by omega) hnc1 HGD.out
   rw [if_pos FND.out] at h
   rw [RR.out] at h
   exact h
  obtain ⟨s0, s1, s2, s3⟩ := cells4 H3.out
  go_upto_region 15 with fail
  have HF : Hid (∀ w', w5.grownBy w' (some g4) → _) := fun w' hq => And.intro (cells8 (rowGr H8.out hq (Ne.symm hn48))) (And.intro (cells5 (rowGr H6.out hq (Ne.symm hn46))) (cells4 (rowGr H3.out hq hn34)))
  refine wp_region_held_drew (S := fun w' => w5.grownBy w' (some g4)) (by kernel_rfl) (but_stays w5 _ (grow_refl w5 (some g4)) ((Below.refl _ _).drew)) (fun jd => ?_)
  have hbd : Below w5.heap.size w5 w5.drew := (Below.refl _ _).drew
  obtain ⟨v0, hv0⟩ : ∃ v, w5.drew = v := ⟨_, rfl⟩
  rw [hv0] at jd hbd ⊢
  clear hv0
  refine tj4 0 49 1 50 2 51 3 52 HF jd ?_
  refine wpAnyH_ready (rs := [4]) (by kernel_rfl) (by simp) ?_
  refine (AllReadyH.cons rfl (fun K hK => ?_) AllReadyH.nil)
  go_simp
  refine (HC.out v0 hbd).mono ?_
  rintro e v1 ⟨rfl, hbn⟩
  have hr4 := rowC (rowC H4.out hbd) hbn
  have hOv := ownsRow_below (ownsRow_below HON.out hbd) hbn
  have hBv := (HB.out.trans (hbd.mono HB.out.size)).trans (hbn.mono (Nat.le_trans HB.out.size hbd.size))
  have hHeld2 := but_stays v0 v1 jd hbn
  refine hK.out _ _ hHeld2 (fun jd => ?_)
  clear hK K hHeld2
  refine wS0 5 g4 #[.slice A1 n1 c1, .int .i64 I1, .int .i64 H1, .int .i64 S1, .int .i64 P1, .string D, .string Q, .int .i64 z] 35 infoConE (hr4) (fun w' hg' => grow_trans jd hg') ?ks15
  case ks15 =>
   intro v3 hh hgw hHeld3
   clear jd
   have jd := hHeld3
   clear hHeld3
   refine tj 6 5 HF rfl jd ?_
   refine wpAnyH_done (by kernel_rfl) ?_ _
   have HHR := lh hh
   have HBZ := lh (hBv.grown hgw hBv.size (fun k hk => by cases hk; exact HLE.out))
   have HOZ := lh (own_other hOv hr4 (by decide) hgw)
   clear hh hgw hr4 hOv hBv jd hbd hbn HF HC
   go_wp2_with ((try simp only [Exit.inBlock, Exit.then]); refine ret_cell2 Tryz.results87 rfl rfl Tryz.underlying35 HHR.out infoConE rfl ?_; have hq := mk_yes (D := D) (Q := Q) (z := z) HI.out HCC.out HSO.out HVV.out HR.out hnc1 HOZ.out HBZ.out; exact hq)
end Go.Proofs.YtpndjhelpoenpaaGreatDoor
