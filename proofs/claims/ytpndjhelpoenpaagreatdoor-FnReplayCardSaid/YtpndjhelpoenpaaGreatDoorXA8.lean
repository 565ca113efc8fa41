/-
  Texts of this claim, merged.
-/
import Derived.Test.YtpndjhelpoenpaaGreatDoorXA7
set_option linter.unusedVariables false
set_option linter.unusedSimpArgs false
set_option maxRecDepth 100000
set_option maxHeartbeats 8000000
namespace Go.Proofs.YtpndjhelpoenpaaGreatDoor
open Go.RowKit
attribute [local go_sem ↓] Go.wp_at_zero Go.wp_at_succ
def apT (D P : BA) (z : Int) (c r : BA) : Bool := (logOk D P z && goodRec c r) && decide (z ≠ 60)
def apP (D P : BA) (z : Int) (c r : BA) : BA := if apT D P z c r then P ++ lineB z c r else P
def apZ (D P : BA) (z : Int) (c r : BA) : Int := if apT D P z c r then z + 1 else z
def apK (D P : BA) (z : Int) (c r : BA) : Int := if logOk D P z && goodRec c r then (if z = 60 then 2 else 0) else 1
theorem logOk_cnt {D P : BA} {z : Int} (h : logOk D P z = true) : 0 ≤ z ∧ z ≤ 60 := by
 simp only [logOk, Bool.and_eq_true, decide_eq_true_eq] at h
 have := readN_len (D ++ P) 60
 omega
theorem lineB_size {k : Int} {c r : BA} (h0 : 0 ≤ k) (h1 : k ≤ 59) (h : goodRec c r = true) : (lineB k c r).size ≤ 500 := by
 have h2 := bodyB_size h0 h1 h
 have h3 := sealB_size (bodyB k c r)
 simp only [lineB, ByteArray.size_append', ByteArray.size_mk', List.size_toArray, List.length_cons, List.length_nil]
 omega
theorem heap_alloc3a (w : World) (o1 o2 o3 : Obj) : (((w.alloc o1).alloc o2).alloc o3).heap[w.heap.size]? = some o1 :=
 ((((Below.refl (w.alloc o1).heap.size (w.alloc o1)).alloc nL o2).alloc (by simp) o3).block w.heap.size (by simp)).trans (heap_alloc_new w o1)
theorem heap_alloc3b (w : World) (o1 o2 o3 : Obj) : (((w.alloc o1).alloc o2).alloc o3).heap[w.heap.size + 1]? = some o2 := by
 have h := heap_alloc2 (w.alloc o1) o2 o3
 simpa using h
theorem heap_alloc3c (w : World) (o1 o2 o3 : Obj) : (((w.alloc o1).alloc o2).alloc o3).heap[w.heap.size + 2]? = some o3 := by
 have h := heap_alloc_new ((w.alloc o1).alloc o2) o3
 simpa using h
theorem row_far {W : World} {g : Nat} {o : Obj} (hX : W.heap[g]? = some o) (a : Addr) (v : Value) (h : a.block ≠ g) : (W.setCell a v).heap[g]? = some o := by
 simp [World.setCell, Array.getElem?_modify, h, hX]
theorem row3_set1 {w : World} {g : Nat} {p q y : BA} {z : Int} (h : w.heap[g]? = some (.cells (lV p q z) 33 (0, 0))) : (w.setCell ⟨g, 1, none⟩ (.string y)).heap[g]? = some (.cells (lV p y z) 33 (0, 0)) := by
 exact z63
theorem row3_set2 {w : World} {g : Nat} {p q : BA} {z u : Int} (h : w.heap[g]? = some (.cells (lV p q z) 33 (0, 0))) : (w.setCell ⟨g, 2, none⟩ (.int .i64 u)).heap[g]? = some (.cells (lV p q u) 33 (0, 0)) := by
 exact z63
theorem AppendRecord_any (D P : BA) (z : Int) (c r : BA) (hD : D.size ≤ 1048576) (hP : P.size ≤ 1048576) (hc : c.size ≤ 1048576) (hr : r.size ≤ 1048576) (w : World) (ht : Tab w) (hm : Mx w) :
  Calls Tryz.prog 51 #[.agg (lV D P z), .agg (sV c r)] w fun e w' => e = .returned (.tuple #[.agg (lV D (apP D P z c r) (apZ D P z c r)), .int .i64 (apK D P z c r)]) ∧ bW w w' := by
 refine z84 ?_
 intro AL1 AL2 HAL hXL hXR hXZ hci hri
 have HC := lh (IsValidLog_any D P z hD hP (((w.alloc (.cells (lV D P z) 33)).alloc (.cells (sV c r) 70)).alloc (.cells (lV ⟨#[]⟩ ⟨#[]⟩ 0) 33)) (ht.below HAL) (hm.below HAL))
 cases hk : logOk D P z with
 | false =>
  have e1 : apP D P z c r = P := by simp [apP, apT, hk]
  have e2 : apZ D P z c r = z := by simp [apZ, apT, hk]
  have e3 : apK D P z c r = 1 := by simp [apK, hk]
  rw [e1, e2, e3]
  rw [hk] at HC
  go_enter Tryz.func51, Tryz.ntmps51
  go_wp2_with fail
  refine z85 ?_
  intro w1 hb1 hL_w1 hR_w1 hZ_w1 B_w1
  clear e1 e2 e3 hk ht hm hD hP hc hr hci hri
  clear HC HAL hXL hXR hXZ AL1 AL2 hb1
  obtain ⟨l0, l1, l2, lf0, lf1, lf2⟩ := row3 hL_w1
  obtain ⟨z0, z1, z2, z3, z4, z5⟩ := row3 hZ_w1
  go_wp2_with fail
  obtain ⟨a0, a1, a2, _, _, _⟩ := row3 (row3_set (x := D) (y := P) (u := z) hZ_w1)
  have BZ := below3 (b := w.heap.size + 2) (x := D) (y := P) (u := z) B_w1 (by omega)
  generalize ((w1.setCell ⟨(w.heap.size + 2), 0, none⟩ (.string D)).setCell ⟨(w.heap.size + 2), 1, none⟩ (.string P)).setCell ⟨(w.heap.size + 2), 2, none⟩ (.int .i64 z) = WZ at *
  (refine z66 ?_); refine z86 ?_
  exact z77
 | true =>
  have hcnt := logOk_cnt hk
  have hsz := logOk_size hk
  rw [hk] at HC
  cases hg : goodRec c r with
  | false =>
   have e1 : apP D P z c r = P := by simp [apP, apT, hk, hg]
   have e2 : apZ D P z c r = z := by simp [apZ, apT, hk, hg]
   have e3 : apK D P z c r = 1 := by simp [apK, hk, hg]
   rw [e1, e2, e3]
   go_enter Tryz.func51, Tryz.ntmps51
   go_wp2_with fail
   refine z85 ?_
   intro w1 hb1 hL_w1 hR_w1 hZ_w1 B_w1
   clear HC HAL hXL hXR hXZ AL1 AL2 hb1
   obtain ⟨r0, r1, _, _⟩ := row2 hR_w1
   go_wp2_with fail
   refine (IsValidRecord_any c r hci hri w1).mono ?_
   revert hL_w1 hR_w1 hZ_w1 r0 r1
   refine z87 ?_
   intro w2 hL_w2 hR_w2 hZ_w2 B_w2
   clear e1 e2 e3 hk hg ht hm hD hP hc hr hci hri hsz hcnt
   obtain ⟨l0, l1, l2, lf0, lf1, lf2⟩ := row3 hL_w2
   obtain ⟨z0, z1, z2, z3, z4, z5⟩ := row3 hZ_w2
   go_wp2_with fail
   obtain ⟨a0, a1, a2, _, _, _⟩ := row3 (row3_set (x := D) (y := P) (u := z) hZ_w2)
   have BZ := below3 (b := w.heap.size + 2) (x := D) (y := P) (u := z) B_w2 (by omega)
   generalize ((w2.setCell ⟨(w.heap.size + 2), 0, none⟩ (.string D)).setCell ⟨(w.heap.size + 2), 1, none⟩ (.string P)).setCell ⟨(w.heap.size + 2), 2, none⟩ (.int .i64 z) = WZ at *
   (refine z66 ?_); refine z86 ?_
   exact z77
  | true =>
   by_cases hz : z = 60
   ·subst hz
    have e1 : apP D P 60 c r = P := by simp [apP, apT, hk, hg]
    have e2 : apZ D P 60 c r = 60 := by simp [apZ, apT, hk, hg]
    have e3 : apK D P 60 c r = 2 := by simp [apK, hk, hg]
    rw [e1, e2, e3]
    go_enter Tryz.func51, Tryz.ntmps51
    go_wp2_with fail
    refine z85 ?_
    intro w1 hb1 hL_w1 hR_w1 hZ_w1 B_w1
    clear HC HAL hXL hXR hXZ AL1 AL2 hb1
    obtain ⟨r0, r1, _, _⟩ := row2 hR_w1
    go_wp2_with fail
    refine (IsValidRecord_any c r hci hri w1).mono ?_
    revert hL_w1 hR_w1 hZ_w1 r0 r1
    refine z87 ?_
    intro w2 hL_w2 hR_w2 hZ_w2 B_w2
    clear e1 e2 e3 hk hg ht hm hD hP hc hr hci hri hsz hcnt
    obtain ⟨l0, l1, l2, lf0, lf1, lf2⟩ := row3 hL_w2
    obtain ⟨z0, z1, z2, z3, z4, z5⟩ := row3 hZ_w2
    go_wp2_with fail
    obtain ⟨a0, a1, a2, _, _, _⟩ := row3 (row3_set (x := D) (y := P) (u := 60) hZ_w2)
    have BZ := below3 (b := w.heap.size + 2) (x := D) (y := P) (u := 60) B_w2 (by omega)
    generalize ((w2.setCell ⟨(w.heap.size + 2), 0, none⟩ (.string D)).setCell ⟨(w.heap.size + 2), 1, none⟩ (.string P)).setCell ⟨(w.heap.size + 2), 2, none⟩ (.int .i64 60) = WZ at *
    (refine z66 ?_); refine z86 ?_
    exact z77
   ·refine z88 ?_
    intro e1 e2 e3 hz9 hz0 hls hsum
    have HE := lh (fun W hT => EncodeRecord_any z c r hci hri W hT)
    have hin : (inR z 0 59 && goodRec c r) = true := by simp [inR, hz0, hz9, hg]
    rw [hin] at HE
    simp only [if_true] at HE
    generalize lineB z c r = Ln at *
    clear e1 e2 e3 hls
    go_enter Tryz.func51, Tryz.ntmps51
    go_wp2_with fail
    refine z85 ?_
    intro w1 hb1 hL_w1 hR_w1 hZ_w1 B_w1
    have ht1 := ht.below B_w1
    clear HC HAL hXL hXR hXZ AL1 AL2 hb1
    obtain ⟨r0, r1, _, _⟩ := row2 hR_w1
    go_wp2_with fail
    refine (IsValidRecord_any c r hci hri w1).mono ?_
    revert hL_w1 hR_w1 hZ_w1 r0 r1
    refine z87 ?_
    intro w2 hL_w2 hR_w2 hZ_w2 B_w2
    clear hk hg hD hP hc hr hci hri hsz hcnt
    have ht2 := lh (ht.below B_w2)
    clear ht hm ht1
    obtain ⟨l0, l1, l2, lf0, lf1, lf2⟩ := row3 hL_w2
    obtain ⟨r0, r1, _, _⟩ := row2 hR_w2
    go_wp2_with fail
    refine (HE.out w2 ht2.out).mono ?_
    rintro e w3 ⟨rfl, hb3⟩
    have hL_w3 := rowB hL_w2 hb3
    have hR_w3 := rowB hR_w2 hb3
    have hZ_w3 := rowB hZ_w2 hb3
    have B_w3 := below_of B_w2 hb3 B_w2.size
    clear hL_w2 hR_w2 hZ_w2 hb3 r0 r1 l0 l1 l2 lf0 lf1 lf2 HE ht2
    obtain ⟨l0, l1, l2, lf0, lf1, lf2⟩ := row3 hL_w3
    obtain ⟨z0, z1, z2, z3, z4, z5⟩ := row3 hZ_w3
    go_wp2_with fail
    obtain ⟨a0, a1, a2, _, _, _⟩ := row3 (row3_set (x := D) (y := (P ++ Ln)) (u := (z + 1)) hZ_w3)
    have BZ := below3 (b := w.heap.size + 2) (x := D) (y := (P ++ Ln)) (u := (z + 1)) B_w3 (by omega)
    generalize ((w3.setCell ⟨(w.heap.size + 2), 0, none⟩ (.string D)).setCell ⟨(w.heap.size + 2), 1, none⟩ (.string (P ++ Ln))).setCell ⟨(w.heap.size + 2), 2, none⟩ (.int .i64 (z + 1)) = WZ at *
    (refine z66 ?_); refine z86 ?_
    exact z77
theorem sAppendRecord_any (D P : BA) (z : Int) (c r : BA) (hD : D.size ≤ 1048576) (hP : P.size ≤ 1048576) (hc : c.size ≤ 1048576) (hr : r.size ≤ 1048576) (w : World) :
  Calls Tryz.prog 45 #[.agg (lV D P z), .agg (sV c r)] w fun e w' => e = .returned (.tuple #[.agg (lV D (apP D P z c r) (apZ D P z c r)), .int .i64 (apK D P z c r)]) ∧ bW w w' := by
 refine z84 ?_
 intro AL1 AL2 HAL hXL hXR hXZ hci hri
 have HC := lh (l27Log_any D P z hD hP (((w.alloc (.cells (lV D P z) 33)).alloc (.cells (sV c r) 70)).alloc (.cells (lV ⟨#[]⟩ ⟨#[]⟩ 0) 33)))
 cases hk : logOk D P z with
 | false =>
  have e1 : apP D P z c r = P := by simp [apP, apT, hk]
  have e2 : apZ D P z c r = z := by simp [apZ, apT, hk]
  have e3 : apK D P z c r = 1 := by simp [apK, hk]
  rw [e1, e2, e3]
  rw [hk] at HC
  go_enter Tryz.func45, Tryz.ntmps45
  go_wp2_with fail
  refine z85 ?_
  intro w1 hb1 hL_w1 hR_w1 hZ_w1 B_w1
  clear e1 e2 e3 hk hD hP hc hr hci hri
  clear HC HAL hXL hXR hXZ AL1 AL2 hb1
  obtain ⟨l0, l1, l2, lf0, lf1, lf2⟩ := row3 hL_w1
  obtain ⟨z0, z1, z2, z3, z4, z5⟩ := row3 hZ_w1
  go_wp2_with fail
  obtain ⟨a0, a1, a2, _, _, _⟩ := row3 (row3_set (x := D) (y := P) (u := z) hZ_w1)
  have BZ := below3 (b := w.heap.size + 2) (x := D) (y := P) (u := z) B_w1 (by omega)
  generalize ((w1.setCell ⟨(w.heap.size + 2), 0, none⟩ (.string D)).setCell ⟨(w.heap.size + 2), 1, none⟩ (.string P)).setCell ⟨(w.heap.size + 2), 2, none⟩ (.int .i64 z) = WZ at *
  (refine z66 ?_); refine z89 ?_
  exact z77
 | true =>
  have hcnt := logOk_cnt hk
  have hsz := logOk_size hk
  rw [hk] at HC
  cases hg : goodRec c r with
  | false =>
   have e1 : apP D P z c r = P := by simp [apP, apT, hk, hg]
   have e2 : apZ D P z c r = z := by simp [apZ, apT, hk, hg]
   have e3 : apK D P z c r = 1 := by simp [apK, hk, hg]
   rw [e1, e2, e3]
   go_enter Tryz.func45, Tryz.ntmps45
   go_wp2_with fail
   refine z85 ?_
   intro w1 hb1 hL_w1 hR_w1 hZ_w1 B_w1
   clear HC HAL hXL hXR hXZ AL1 AL2 hb1
   obtain ⟨r0, r1, _, _⟩ := row2 hR_w1
   go_wp2_with fail
   refine (l27Good_any c r hci hri w1).mono ?_
   revert hL_w1 hR_w1 hZ_w1 r0 r1
   refine z87 ?_
   intro w2 hL_w2 hR_w2 hZ_w2 B_w2
   clear e1 e2 e3 hk hg hD hP hc hr hci hri hsz hcnt
   obtain ⟨l0, l1, l2, lf0, lf1, lf2⟩ := row3 hL_w2
   obtain ⟨z0, z1, z2, z3, z4, z5⟩ := row3 hZ_w2
   go_wp2_with fail
   obtain ⟨a0, a1, a2, _, _, _⟩ := row3 (row3_set (x := D) (y := P) (u := z) hZ_w2)
   have BZ := below3 (b := w.heap.size + 2) (x := D) (y := P) (u := z) B_w2 (by omega)
   generalize ((w2.setCell ⟨(w.heap.size + 2), 0, none⟩ (.string D)).setCell ⟨(w.heap.size + 2), 1, none⟩ (.string P)).setCell ⟨(w.heap.size + 2), 2, none⟩ (.int .i64 z) = WZ at *
   (refine z66 ?_); refine z89 ?_
   exact z77
  | true =>
   by_cases hz : z = 60
   ·subst hz
    have e1 : apP D P 60 c r = P := by simp [apP, apT, hk, hg]
    have e2 : apZ D P 60 c r = 60 := by simp [apZ, apT, hk, hg]
    have e3 : apK D P 60 c r = 2 := by simp [apK, hk, hg]
    rw [e1, e2, e3]
    go_enter Tryz.func45, Tryz.ntmps45
    go_wp2_with fail
    refine z85 ?_
    intro w1 hb1 hL_w1 hR_w1 hZ_w1 B_w1
    clear HC HAL hXL hXR hXZ AL1 AL2 hb1
    obtain ⟨r0, r1, _, _⟩ := row2 hR_w1
    go_wp2_with fail
    refine (l27Good_any c r hci hri w1).mono ?_
    revert hL_w1 hR_w1 hZ_w1 r0 r1
    refine z87 ?_
    intro w2 hL_w2 hR_w2 hZ_w2 B_w2
    clear e1 e2 e3 hk hg hD hP hc hr hci hri hsz hcnt
    obtain ⟨l0, l1, l2, lf0, lf1, lf2⟩ := row3 hL_w2
    obtain ⟨z0, z1, z2, z3, z4, z5⟩ := row3 hZ_w2
    go_wp2_with fail
    obtain ⟨a0, a1, a2, _, _, _⟩ := row3 (row3_set (x := D) (y := P) (u := 60) hZ_w2)
    have BZ := below3 (b := w.heap.size + 2) (x := D) (y := P) (u := 60) B_w2 (by omega)
    generalize ((w2.setCell ⟨(w.heap.size + 2), 0, none⟩ (.string D)).setCell ⟨(w.heap.size + 2), 1, none⟩ (.string P)).setCell ⟨(w.heap.size + 2), 2, none⟩ (.int .i64 60) = WZ at *
    (refine z66 ?_); refine z89 ?_
    exact z77
   ·refine z88 ?_
    intro e1 e2 e3 hz9 hz0 hls hsum
    have HE := lh (fun W => l27Line_any z c r hz0 (by omega) hc hr W)
    generalize lineB z c r = Ln at *
    clear e1 e2 e3 hls
    go_enter Tryz.func45, Tryz.ntmps45
    go_wp2_with fail
    refine z85 ?_
    intro w1 hb1 hL_w1 hR_w1 hZ_w1 B_w1
    clear HC HAL hXL hXR hXZ AL1 AL2 hb1
    obtain ⟨r0, r1, _, _⟩ := row2 hR_w1
    go_wp2_with fail
    refine (l27Good_any c r hci hri w1).mono ?_
    revert hL_w1 hR_w1 hZ_w1 r0 r1
    refine z87 ?_
    intro w2 hL_w2 hR_w2 hZ_w2 B_w2
    clear hk hg hD hP hc hr hci hri hsz hcnt
    obtain ⟨l0, l1, l2, lf0, lf1, lf2⟩ := row3 hL_w2
    obtain ⟨r0, r1, _, _⟩ := row2 hR_w2
    go_wp2_with fail
    refine wp_region_held_drew (S := fun w' => cI w' w.heap.size 2 z ∧ cE w' (w.heap.size + 1) 0 (.string c) ∧ cE w' (w.heap.size + 1) 1 (.string r)) (by exact z12) ⟨l2, r0, r1⟩ (fun jd => ?_)
    have hL_w2 : w2.drew.heap[w.heap.size]? = _ := hL_w2
    have hR_w2 : w2.drew.heap[w.heap.size + 1]? = _ := hR_w2
    have hZ_w2 : w2.drew.heap[w.heap.size + 2]? = _ := hZ_w2
    have B_w2 : bW w w2.drew := B_w2.drew
    clear l0 l1 l2 lf0 lf1 lf2 r0 r1
    generalize w2.drew = w2 at *
    refine tj 0 19 (lh fun _ h => h) rfl jd ?_
    refine tj 2 21 (lh fun _ h => h) rfl jd ?_
    refine tj 3 22 (lh fun _ h => h) rfl jd ?_
    refine tj 4 23 (lh fun _ h => h) rfl jd ?_
    refine wpAnyH_ready (rs := [1, 5]) (by exact z12) (by simp) ?_
    refine (AllReadyH.cons rfl (fun K hK => ?_) (AllReadyH.cons rfl (fun K hK => ?_) AllReadyH.nil))
    ·have l1 := (row3 hL_w2).2.1
     go_simp
     refine hK.out _ _ jd (fun jd => ?_)
     clear hK K l1
     refine wpAnyH_ready (rs := [5]) (by exact z12) (by simp) ?_
     refine z73 ?_
     intro K hK
     refine z90 ?_
     intro wa hb_wa hL_wa hR_wa hZ_wa B_wa S_wa jd
     clear hK K
     refine wpAnyH_takeD (i := 6) (d := 25) (v := ?_) rfl (by exact z12) (by exact z12) (by exact z12) (fun _ _ _ h => h) (by rfl) ?_ jd ?_
     rotate_left
     ·intro wS hS
      refine run_add_strP ⟨_, _, rfl, rfl, by omega, ?_⟩
      with_reducible rfl
     refine z15 ?_
     refine z91 ?_
     intro wb hL_wb hR_wb hZ_wb B_wb jd
     refine z49 ?_
     refine z92 ?_
     intro hLy hZy By m0 m1 m2 m3 m4 m5
     go_upto_region 7 with fail
     generalize (wb.setCell ⟨w.heap.size, 2, none⟩ (.int .i64 (z + 1))) = wy at *
     have hL_wy := hLy
     have hZ_wy := hZy
     clear m0 m1 m2 m3 m4 m5 hLy hZy
     obtain ⟨l0, l1, l2, lf0, lf1, lf2⟩ := row3 hL_wy
     obtain ⟨z0, z1, z2, z3, z4, z5⟩ := row3 hZ_wy
     go_wp2_with fail
     obtain ⟨a0, a1, a2, _, _, _⟩ := row3 (row3_set (x := D) (y := (P ++ Ln)) (u := (z + 1)) hZ_wy)
     have BZ := below3 (b := w.heap.size + 2) (x := D) (y := (P ++ Ln)) (u := (z + 1)) By (by omega)
     generalize ((wy.setCell ⟨(w.heap.size + 2), 0, none⟩ (.string D)).setCell ⟨(w.heap.size + 2), 1, none⟩ (.string (P ++ Ln))).setCell ⟨(w.heap.size + 2), 2, none⟩ (.int .i64 (z + 1)) = WZ at *
     (refine z66 ?_); refine z89 ?_
     exact z77
    ·go_simp
     refine z90 ?_
     intro wa hb_wa hL_wa hR_wa hZ_wa B_wa S_wa jd
     clear hK K
     refine wpAnyH_ready (rs := [1]) (by exact z12) (by simp) ?_
     refine (AllReadyH.cons rfl (fun K hK => ?_) AllReadyH.nil)
     have l1 := (row3 hL_wa).2.1
     go_simp
     refine hK.out _ _ jd (fun jd => ?_)
     clear hK K l1
     refine wpAnyH_takeD (i := 6) (d := 25) (v := ?_) rfl (by exact z12) (by exact z12) (by exact z12) (fun _ _ _ h => h) (by rfl) ?_ jd ?_
     rotate_left
     ·intro wS hS
      refine run_add_strP ⟨_, _, rfl, rfl, by omega, ?_⟩
      with_reducible rfl
     refine z15 ?_
     refine z91 ?_
     intro wb hL_wb hR_wb hZ_wb B_wb jd
     refine z49 ?_
     refine z92 ?_
     intro hLy hZy By m0 m1 m2 m3 m4 m5
     go_upto_region 7 with fail
     generalize (wb.setCell ⟨w.heap.size, 2, none⟩ (.int .i64 (z + 1))) = wy at *
     have hL_wy := hLy
     have hZ_wy := hZy
     clear m0 m1 m2 m3 m4 m5 hLy hZy
     obtain ⟨l0, l1, l2, lf0, lf1, lf2⟩ := row3 hL_wy
     obtain ⟨z0, z1, z2, z3, z4, z5⟩ := row3 hZ_wy
     go_wp2_with fail
     obtain ⟨a0, a1, a2, _, _, _⟩ := row3 (row3_set (x := D) (y := (P ++ Ln)) (u := (z + 1)) hZ_wy)
     have BZ := below3 (b := w.heap.size + 2) (x := D) (y := (P ++ Ln)) (u := (z + 1)) By (by omega)
     generalize ((wy.setCell ⟨(w.heap.size + 2), 0, none⟩ (.string D)).setCell ⟨(w.heap.size + 2), 1, none⟩ (.string (P ++ Ln))).setCell ⟨(w.heap.size + 2), 2, none⟩ (.int .i64 (z + 1)) = WZ at *
     (refine z66 ?_); refine z89 ?_
     exact z77
end Go.Proofs.YtpndjhelpoenpaaGreatDoor
namespace Go.Proofs.YtpndjhelpoenpaaGreatDoor
open Go.RowKit
theorem bef_no (c : UInt8) (s : BA) : noByte (bef c s) c = true := by
 rw [noByte_iff, bef_data]
 intro h
 have h2 : ∀ (l : List UInt8), c ∉ l.takeWhile (· != c) := by
  intro l
  induction l with
  | nil => simp
  | cons a l ih =>
   rw [List.takeWhile_cons]
   split
   ·rename_i ha
    intro hm
    rcases List.mem_cons.1 hm with e | e
    ·simp [e] at ha
    ·exact ih e
   ·simp
 exact h2 _ h
theorem no_false {s : BA} {c : UInt8} (h : c ∈ s.data.toList) : noByte s c = false := by
 cases hn : noByte s c with
 | false => rfl
 | true => exact absurd h ((noByte_iff s c).1 hn)
theorem extract_list (s : BA) (a b : Nat) (hb : b ≤ s.size) : (s.extract a b).data.toList = (s.data.toList.take b).drop a := by
 simp [ByteArray.data_extract, Array.toList_extract, List.extract_eq_take_drop, List.drop_take]
theorem stepR_end {all : BA} {m : Nat} : stepR all m all.size = none := by
 unfold stepR
 have : noByte (all.extract all.size all.size) 10 = true := by
  rw [noByte_iff, extract_list _ _ _ nL]
  have hl : all.data.toList.length = all.size := size_list all
  rw [List.take_of_length_le (by omega), ← hl, List.drop_length]
  simp
 rw [if_pos this]
theorem app_nil (D : BA) : D ++ (⟨#[]⟩ : BA) = D := by apply ba_ext; rw [Joins.data_append]; simp
theorem seal_no {k : Int} {c r : BA} (h0 : 0 ≤ k) (hg : goodRec c r = true) : noByte (sealB (bodyB k c r)) 10 = true := by
 obtain ⟨_, _, _, pc, pr, _⟩ := goodRec_facts hg
 have hsum := (sumTo_ok (bodyB k c r) (bodyB k c r).size).1
 rw [noByte_iff]
 intro h
 simp only [sealB, bodyB] at h
 simp only [mem_append_data] at h
 rcases h with (((((h | h) | h) | h) | h) | h) | h
 ·have := numB_byte h0 h; revert this; decide
 ·revert h; decide
 ·have := plain_byte pc h; revert this; decide
 ·revert h; decide
 ·have := plain_byte pr h; revert this; decide
 ·revert h; decide
 ·have := numB_byte hsum h; revert this; decide
theorem app_list (a b : BA) : (a ++ b).data.toList = a.data.toList ++ b.data.toList := by rw [Joins.data_append]
theorem app_assoc (a b c : BA) : a ++ (b ++ c) = (a ++ b) ++ c := by apply ba_ext; simp only [app_list, List.append_assoc]
theorem rest_ext {all X : BA} {a : Nat} (ha : a ≤ all.size) (h : noByte (all.extract a all.size) 10 = false) :
  noByte ((all ++ X).extract a (all ++ X).size) 10 = false ∧ bef 10 ((all ++ X).extract a (all ++ X).size) = bef 10 (all.extract a all.size) := by
 have hx := split_eq h
 have hno := bef_no 10 (all.extract a all.size)
 generalize bef 10 (all.extract a all.size) = L at *
 generalize aft 10 (all.extract a all.size) = R at *
 have hl : all.data.toList.length = all.size := size_list all
 have hl2 : (all ++ X).data.toList.length = (all ++ X).size := size_list _
 have e1 : all.data.toList.drop a = L.data.toList ++ 10 :: R.data.toList := by
  have e := extract_list all a all.size nL
  rw [List.take_of_length_le (by omega)] at e
  rw [← e, hx, app3_data]
 have e2 : ((all ++ X).extract a (all ++ X).size).data.toList = L.data.toList ++ 10 :: (R.data.toList ++ X.data.toList) := by
  rw [extract_list _ _ _ nL, List.take_of_length_le (by omega), app_list, List.drop_append, e1]
  rw [show a - all.data.toList.length = 0 by omega, List.drop_zero]
  simp
 have e4 : (all ++ X).extract a (all ++ X).size = (L ++ ⟨#[10]⟩) ++ (R ++ X) := by
  apply ba_ext; rw [e2, app3_data, app_list]
 constructor
 ·exact no_false (by rw [e2]; simp)
 ·rw [e4, bef_mk hno]
theorem stepR_ext {all X : BA} {m a b : Nat} {e : BA × BA} (ha : a ≤ all.size) (h : stepR all m a = some (e, b)) : stepR (all ++ X) m a = some (e, b) := by
 unfold stepR at h ⊢
 split at h
 ·cases h
 ·rename_i hn
  have hn' : noByte (all.extract a all.size) 10 = false := by simpa using hn
  obtain ⟨r1, r2⟩ := rest_ext (X := X) ha hn'
  rw [r1, r2]
  exact h
theorem readN_lmono (all : BA) (m : Nat) : ∀ d, (readN all m).1.length ≤ (readN all (m + d)).1.length
 | 0 => Nat.le_refl _
 | d + 1 => by
  refine Nat.le_trans (readN_lmono all m d) ?_
  show _ ≤ (readN all (m + d + 1)).1.length
  rw [readN_succ]
  split
  ·exact z35
  ·split
   ·exact z35
   ·simp
theorem readN_short {all : BA} {n : Nat} (h : (readN all n).1.length < n) : ∀ d, readN all (n + d) = readN all n
 | 0 => rfl
 | d + 1 => by
  have i := readN_short h d
  show readN all (n + d + 1) = _
  rw [readN_succ, i, if_pos (by omega)]
theorem readN_full {all : BA} {N z : Nat} (hz : (readN all N).1.length = z) : ∀ n, n ≤ z → (readN all n).1.length = n ∧ (n < z → ∃ e b, stepR all n (readN all n).2 = some (e, b)) := by
 intro n hn
 have hN : z ≤ N := by rw [← hz]; exact readN_len all N
 have hl : (readN all n).1.length = n := by
  have := readN_len all n
  by_cases h : (readN all n).1.length < n
  ·have e := readN_short h (N - n)
   rw [show n + (N - n) = N by omega] at e
   rw [e] at hz; omega
  ·omega
 refine ⟨hl, fun hlt => ?_⟩
 cases hs : stepR all n (readN all n).2 with
 | none =>
  have e := readN_stop hl hs (n := N) (by omega)
  rw [e] at hz; omega
 | some p => exact ⟨p.1, p.2, rfl⟩
theorem readN_last {all : BA} {N z : Nat} (hz : (readN all N).1.length = z) : readN all z = readN all N := by
 have hN : z ≤ N := by rw [← hz]; exact readN_len all N
 have hl := (readN_full hz z nL).1
 by_cases e : z = N
 ·rw [e]
 ·cases hs : stepR all z (readN all z).2 with
  | none => exact (readN_stop hl hs hN).symm
  | some p =>
   have hy := readN_yes hl hs
   have h2 := readN_lmono all (z + 1) (N - (z + 1))
   rw [show z + 1 + (N - (z + 1)) = N by omega, hy, hz] at h2
   simp [hl] at h2
   omega
theorem readN_ext {all X : BA} {N z : Nat} (hN60 : N ≤ 60) (hz : (readN all N).1.length = z) : ∀ n, n ≤ z → readN (all ++ X) n = readN all n := by
 have hzN : z ≤ N := by rw [← hz]; exact readN_len all N
 intro n
 induction n with
 | zero => intro _; rfl
 | succ n ih =>
  intro hn
  have i := ih (by omega)
  obtain ⟨hl, hs⟩ := readN_full hz n (by omega)
  obtain ⟨e, b, hs⟩ := hs (by omega)
  have ha := (readN_at all n (by omega)).1
  have hs2 := stepR_ext (X := X) ha hs
  rw [readN_yes hl hs, readN_yes (by rw [i]; exact hl) (by rw [i]; exact hs2), i]
theorem stepR_line {all : BA} {k : Nat} {c r : BA} (h1 : k ≤ 59) (hg : goodRec c r = true) : stepR (all ++ lineB k c r) k all.size = some ((c, r), (all ++ lineB k c r).size) := by
 have hno := seal_no (k := (k : Int)) (by omega) hg
 refine z93 ?_
 intro hli e1 hsz
 have e3 : noByte (lineB k c r) 10 = false := no_false (by rw [e1, app3_data]; simp)
 have e4 : bef 10 (lineB k c r) = sealB (bodyB k c r) := by rw [e1, bef_mk hno]
 unfold stepR
 rw [ext_right rfl, e3, e4, dec_of_is (by omega) hli]
 simp only [ByteArray.size_append', hsz]
 rfl
theorem app_read {D P c r : BA} {z : Int} (h : logOk D P z = true) (hg : goodRec c r = true) (hz : z ≠ 60) :
  readN (D ++ (P ++ lineB z c r)) 60 = ((readN (D ++ P) 60).1 ++ [(c, r)], (D ++ (P ++ lineB z c r)).size) := by
 have hc := logOk_cnt h
 simp only [logOk, Bool.and_eq_true, decide_eq_true_eq] at h
 obtain ⟨⟨h1, h2⟩, h3⟩ := h
 rw [app_assoc]
 generalize D ++ P = all at h1 h3 ⊢
 generalize hk : (readN all 60).1.length = k at h3
 subst h3
 have hk59 : k ≤ 59 := by omega
 have hlast := readN_last hk
 have hext := readN_ext (X := lineB (k : Int) c r) (Nat.le_refl 60) hk k nL
 have hs := stepR_line (all := all) hk59 hg
 have hy := readN_yes (all := all ++ lineB (k : Int) c r) (m := k) (by rw [hext, hlast]; exact hk) (by rw [hext, hlast, h1]; exact hs)
 rw [hext, hlast] at hy
 have hst := readN_stop (all := all ++ lineB (k : Int) c r) (m := k + 1) (n := 60) (by rw [hy]; simp [hk]) (by rw [hy]; exact stepR_end) (by omega)
 rw [hst, hy]
theorem app_ok {D P c r : BA} {z : Int} (h : logOk D P z = true) (hg : goodRec c r = true) (hz : z ≠ 60) : logOk D (P ++ lineB z c r) (z + 1) = true := by
 have ha := app_read h hg hz
 simp only [logOk, Bool.and_eq_true, decide_eq_true_eq] at h ⊢
 obtain ⟨⟨h1, h2⟩, h3⟩ := h
 rw [ha]
 exact ⟨⟨rfl, h2⟩, by simp; exact h3⟩
theorem run_append_flat {P : Program} (w : World) (t ty : TypeId) (base : Nat) (e : TypeId) (k bytes : Nat) (z : Value) (ht : P.underlying t = some (.slice e))
  (hinfo : (P.info? e).map (fun i => (i.zero, i.size, i.bytes)) = some (some z, k, bytes)) (hzk : z.cells.size = k) (hk : 0 < k) (hkb : bytes ≤ 1000)
  (zs news : List Int) (n m c : Nat) (v : Value) (hown : w.ownsRow base e k v n (zs.map (Value.int .i64))) (ad : Addr) (hl : news.length = m * k)
  (hc : ∀ j u, news[j]? = some u → w.cell? (ad.add j) = some (.int .i64 u)) (hlen : n + m ≤ 100000000) (hbase : base ≤ w.heap.size) :
  ∃ v' w', (Builtin.append_ #[t, t] ty #[v, .slice (some ad) m c]).run P w = .ok v' w' ∧ w'.ownsRow base e k v' (n + m) ((zs ++ news).map (Value.int .i64)) ∧ w.grownBy w' v.ownBlock := by
 obtain ⟨i, hi, hz0, hz1, hz2⟩ := info_parts hinfo
 have hb : (n + m) * bytes ≤ 100000000 * 1000 := Nat.mul_le_mul hlen hkb
 obtain ⟨v', w', hr, hown', hgrow, _⟩ := run_append_own (P := P) w base t ty e i z k bytes ht hi hz0 hz1 hz2 hzk hk v n (zs.map (Value.int .i64)) hown ad m c (news.map (Value.int .i64)) (by simpa using hl)
  (fun j u hu => by
   exact z94)
  (fun u hu => by obtain ⟨q, _, rfl⟩ := List.mem_map.1 hu; rfl) (by unfold maxLen; omega) (by omega) hbase
 exact ⟨v', w', hr, by simpa using hown', hgrow⟩
theorem wpList_append_flat {P : Program} {ops : Array Oper} {rest : List Oper} {o : Oper} {a : Act} {Q : Exit → Act → World → Prop} (w : World) (hg : o.guard = none) (s x : Operand) (t : TypeId)
  (hop : o.op = Op.call { callee := Callee.builtin Builtin.append, args := #[s, x], argTypes := #[t, t] }) (base : Nat) (e : TypeId) (k bytes : Nat) (z : Value) (ht : P.underlying t = some (.slice e))
  (hinfo : (P.info? e).map (fun i => (i.zero, i.size, i.bytes)) = some (some z, k, bytes)) (hzk : z.cells.size = k) (hk : 0 < k) (hkb : bytes ≤ 1000)
  (zs news : List Int) (n m c : Nat) (v : Value) (hs : a.eval s = v) (hown : w.ownsRow base e k v n (zs.map (Value.int .i64))) (ad : Addr) (hx : a.eval x = .slice (some ad) m c) (hl : news.length = m * k)
  (hc : ∀ j u, news[j]? = some u → w.cell? (ad.add j) = some (.int .i64 u)) (hlen : n + m ≤ 100000000) (hbase : base ≤ w.heap.size)
  (h : ∀ v' w', w'.ownsRow base e k v' (n + m) ((zs ++ news).map (Value.int .i64)) → w.grownBy w' v.ownBlock → wpList P ops Q rest (a.put o.dst v') w') :
  wpList P ops Q (o :: rest) a w := by
 obtain ⟨i, hi, hz0, hz1, hz2⟩ := info_parts hinfo
 have hb : (n + m) * bytes ≤ 100000000 * 1000 := Nat.mul_le_mul hlen hkb
 refine wpList_append_own w hg s x t hop base e i z k bytes ht hi hz0 hz1 hz2 hzk hk v n (zs.map (Value.int .i64)) hs hown ad m c (news.map (Value.int .i64)) hx (by simpa using hl) ?_ ?_ (by unfold maxLen; omega) (by omega) hbase ?_
 ·intro j u hu
  exact z94
 ·intro u hu; obtain ⟨q, _, rfl⟩ := List.mem_map.1 hu; rfl
 ·intro v' w' hown' hgrow _
  exact h v' w' (by simpa using hown') hgrow
def rowsOf (f : Nat → Int) (k : Nat) (L : List Nat) : List Int := L.flatMap fun i => (List.range k).map fun j => f (i * k + j)
theorem rowsOf_length (f : Nat → Int) (k : Nat) (L : List Nat) : (rowsOf f k L).length = L.length * k := by
 induction L with
 | nil => simp [rowsOf]
 | cons i L ih =>
  have : rowsOf f k (i :: L) = ((List.range k).map fun j => f (i * k + j)) ++ rowsOf f k L := rfl
  rw [this, List.length_append, ih, List.length_map, List.length_range, List.length_cons, Nat.succ_mul]
  omega
theorem rowsOf_append (f : Nat → Int) (k : Nat) (L M : List Nat) : rowsOf f k (L ++ M) = rowsOf f k L ++ rowsOf f k M := by simp [rowsOf]
theorem rowsOf_get (f : Nat → Int) (k : Nat) (L : List Nat) (i j : Nat) (hi : i < L.length) (hj : j < k) : (rowsOf f k L).getD (i * k + j) 0 = f (L.getD i 0 * k + j) := by
 induction L generalizing i with
 | nil => simp at hi
 | cons a L ih =>
  have e : rowsOf f k (a :: L) = ((List.range k).map fun j => f (a * k + j)) ++ rowsOf f k L := rfl
  have hl : ((List.range k).map fun j => f (a * k + j)).length = k := by simp
  rw [e]
  cases i with
  | zero =>
   simp [List.getD, List.getElem?_append, hj]
  | succ i =>
   have h1 := ih i (by simpa using hi)
   simp only [List.getD] at h1 ⊢
   rw [List.getElem?_append_right (by rw [hl, Nat.succ_mul]; omega), hl, show (i + 1) * k + j - k = i * k + j by rw [Nat.succ_mul]; omega, h1]
   rfl
structure Src (w : World) (k : Nat) (A : Option Addr) (m c : Nat) (zs : List Int) : Prop where
 len : zs.length = m * k
 nil : A = none → m = 0 ∧ c = 0
 cell : ∀ ad, A = some ad → ∀ j u, zs[j]? = some u → w.cell? (ad.add j) = some (.int .i64 u)
theorem run_append_src {P : Program} (w : World) (t ty : TypeId) (base : Nat) (e : TypeId) (k bytes : Nat) (z : Value) (ht : P.underlying t = some (.slice e))
  (hinfo : (P.info? e).map (fun i => (i.zero, i.size, i.bytes)) = some (some z, k, bytes)) (hzk : z.cells.size = k) (hk : 0 < k) (hkb : bytes ≤ 1000)
  (zs news : List Int) (n m c : Nat) (v : Value) (hown : w.ownsRow base e k v n (zs.map (Value.int .i64))) (A : Option Addr) (hs : Src w k A m c news) (hlen : n + m ≤ 100000000) (hbase : base ≤ w.heap.size) :
  ∃ v' w', (Builtin.append_ #[t, t] ty #[v, .slice A m c]).run P w = .ok v' w' ∧ w'.ownsRow base e k v' (n + m) ((zs ++ news).map (Value.int .i64)) ∧ w.grownBy w' v.ownBlock := by
 cases A with
 | none =>
  obtain ⟨rfl, rfl⟩ := hs.nil rfl
  have hn : news = [] := by have := hs.len; exact List.length_eq_zero_iff.1 (by simpa using this)
  subst hn
  obtain ⟨i, hi, _⟩ := info_parts hinfo
  refine ⟨v, w, run_append_owned_none w base t ty e i k ht hi v n (zs.map (Value.int .i64)) hown, by simpa using hown, ⟨rfl, rfl, rfl, Nat.le_refl _, fun _ _ _ => rfl⟩⟩
 | some ad => exact run_append_flat w t ty base e k bytes z ht hinfo hzk hk hkb zs news n m c v hown ad hs.len (hs.cell ad rfl) hlen hbase
theorem oper_wp_value {P : Program} {o : Oper} {a : Act} {w w' : World} {v : Value} {K : Act → World → Prop} {Q : Exit → Act → World → Prop}
  (hr : (execOp a.eval o).run P w = .ok (.value v) w') (h : K (a.put o.dst v) w') : o.wp P a w K Q := by
 unfold Oper.wp
 rw [hr]
 exact h
theorem oper_wp_append {P : Program} {o : Oper} {a : Act} {w w' : World} {v' vs vx : Value} {K : Act → World → Prop} {Q : Exit → Act → World → Prop} (s x : Operand) (t : TypeId)
  (ho : o.op = .call { callee := .builtin .append, args := #[s, x], argTypes := #[t, t] }) (hs : a.eval s = vs) (hx : a.eval x = vx)
  (hr : (Builtin.append_ #[t, t] o.type #[vs, vx]).run P w = .ok v' w') (h : K (a.put o.dst v') w') : o.wp P a w K Q := by
 unfold Oper.wp execOp
 simp only [ho, resolve, invoke, builtin, Sem.run_bind, Sem.run_pure, Result.andThen_ok, List.map_toArray, List.map_cons, List.map_nil, hs, hx, hr]
 exact h
theorem eval_put_ne (a : Act) (d j : Nat) (u : Value) (h : d ≠ j) : (a.put (some d) u).eval (.tmp j) = a.eval (.tmp j) := by
 simp [Act.put, Act.eval, Array.getElem?_setIfInBounds, h]
theorem eval_put_eq (a : Act) (d : Nat) (u : Value) (h : d < a.tmps.size) : (a.put (some d) u).eval (.tmp d) = u := by
 simp [Act.put, Act.eval, Array.getElem?_setIfInBounds, h]
theorem size_put (a : Act) (d : Nat) (u : Value) : (a.put (some d) u).tmps.size = a.tmps.size := by simp [Act.put]
theorem put_comm (a : Act) {d d' : Nat} (u u' : Value) (h : d ≠ d') : (a.put (some d) u).put (some d') u' = (a.put (some d') u').put (some d) u := by
 simp only [Act.put, Act.mk.injEq, and_true]
 exact Array.setIfInBounds_comm _ _ h
theorem listed_comm (l : Array Bool) {i i' : Nat} (h : i ≠ i') : (l.setIfInBounds i true).setIfInBounds i' true = (l.setIfInBounds i' true).setIfInBounds i true :=
 Array.setIfInBounds_comm _ _ h
theorem wanted_plain {o : Oper} {y : Nat → Option Bool} (h : o.guard = none) : Region.wanted o y = true := by simp [Region.wanted, h]
section
variable {P : Program} {md : Region.Mode} {ops : Array Oper} {Q : Exit → Act → World → Prop} {X : World}
theorem wpAnyH_app {i ds d j : Nat} {fuel : Nat} {listed : Array Bool} {a : Act} {w : World} {t ty : TypeId} {pos : String} {af : Array Edge}
  (ho : ops[i]? = some ⟨some d, .call { callee := .builtin .append, args := #[.tmp ds, .tmp j], argTypes := #[t, t] }, ty, pos, af, none⟩) (hr : Region.ready md ops listed = [i])
  (e : TypeId) (k bytes : Nat) (z : Value) (ht : P.underlying t = some (.slice e))
  (hinfo : (P.info? e).map (fun i => (i.zero, i.size, i.bytes)) = some (some z, k, bytes)) (hzk : z.cells.size = k) (hk : 0 < k) (hkb : bytes ≤ 1000)
  (zs news : List Int) (n m c : Nat) (v : Value) (A : Option Addr) (hev : a.eval (.tmp ds) = v) (hex : a.eval (.tmp j) = .slice A m c)
  (hS : bW X w) (hown : w.ownsRow X.heap.size e k v n (zs.map (Value.int .i64))) (hs : Src w k A m c news) (hlen : n + m ≤ 100000000)
  (h : ∀ v' w', w'.ownsRow X.heap.size e k v' (n + m) ((zs ++ news).map (Value.int .i64)) → bW X w' → w.grownBy w' v.ownBlock →
   wpAnyH P md ops Q (fun w' => bW X w') fuel (listed.setIfInBounds i true) (a.put (some d) v') w') :
  wpAnyH P md ops Q (fun w' => bW X w') (fuel + 1) listed a w := by
 obtain ⟨v', w', hrun, hown', hgrow⟩ := run_append_src w t ty X.heap.size e k bytes z ht hinfo hzk hk hkb zs news n m c v hown A hs hlen hS.size
 refine z95 ?_
 intro K hK
 refine oper_wp_append _ _ _ rfl hev hex hrun ?_
 have hB := below_app hS hown hgrow
 exact hK.out _ _ hB (fun _ => h v' w' hown' hB hgrow)
end
def putRow (cur : Array Value) (o : Nat) (cs : Array Value) : Array Value := (cur.toList.take o ++ cs.toList ++ cur.toList.drop (o + cs.size)).toArray
theorem run_storeAt_at {P : Program} (w : World) (t : TypeId) (g o : Nat) (v : Value) (T : TypeId) (cur : Array Value) (hi : (P.info? t).map (·.size) = some v.cells.size)
  (hg : w.heap[g]? = some (.cells cur T (0, 0))) (hfit : o + v.cells.size ≤ cur.size) (h1 : v.cells.all (·.oneCell') = true) :
  (Instr.storeAt t (.pointer (some ⟨g, o, none⟩)) v).run P w = .ok () (w.setRow g (putRow cur o v.cells)) := by
 have h1' : ∀ u ∈ v.cells.toList, u.oneCell' = true := by
  intro u hu
  rw [Array.all_eq_true] at h1
  obtain ⟨j, hj, rfl⟩ := List.getElem_of_mem hu
  have := h1 j (by simpa using hj)
  simpa using this
 have h := run_storeCells_at (P := P) g o T v.cells.toList 0 cur w hg (by simpa using hfit) h1'
 cases hq : P.info? t with
 | none => simp [hq] at hi
 | some i =>
  have hs : v.cells.size = i.size := by simp [hq] at hi; omega
  simp only [Instr.storeAt, Instr.sureAddr, Sem.run_bind, Sem.run_pure, Result.andThen]
  simp only [Nat.add_zero, Array.length_toList] at h
  simpa [storeVar, sizeOf, typeInfo, hq, hs, putRow] using (by simpa [hs] using h)
theorem grown_setRow (w : World) (g : Nat) (cs : Array Value) : w.grownBy (w.setRow g cs) (some g) :=
 ⟨rfl, rfl, rfl, by simp [World.setRow], fun k _ hk => by
  unfold World.setRow
  simp only [Array.getElem?_modify]
  rw [if_neg (fun e => hk (by rw [e]))]⟩
section
variable {P : Program} {md : Region.Mode} {ops : Array Oper} {Q : Exit → Act → World → Prop} {S : World → Prop}
theorem wpAnyH_store {i : Nat} {fuel : Nat} {listed : Array Bool} {a : Act} {w : World} {t ty : TypeId} {pos : String} {af : Array Edge} {p x : Operand}
  (ho : ops[i]? = some ⟨none, .store t p x, ty, pos, af, none⟩) (hr : Region.ready md ops listed = [i])
  (g o : Nat) (v : Value) (T : TypeId) (cur : Array Value) (hp : a.eval p = .pointer (some ⟨g, o, none⟩)) (hx : a.eval x = v) (hi : (P.info? t).map (·.size) = some v.cells.size)
  (hg : w.heap[g]? = some (.cells cur T (0, 0))) (hfit : o + v.cells.size ≤ cur.size) (h1 : v.cells.all (·.oneCell') = true)
  (hS : ∀ w', w.grownBy w' (some g) → S w')
  (h : ∀ w', w'.heap[g]? = some (.cells (putRow cur o v.cells) T (0, 0)) → w.grownBy w' (some g) → S w' →
   wpAnyH P md ops Q S fuel (listed.setIfInBounds i true) a w') :
  wpAnyH P md ops Q S (fuel + 1) listed a w := by
 have hrun := run_storeAt_at (P := P) w t g o v T cur hi hg hfit h1
 have hgr := grown_setRow w g (putRow cur o v.cells)
 have hB := hS _ hgr
 refine z95 ?_
 intro K hK
 unfold Oper.wp execOp
 simp only [hp, hx, Sem.run_bind, hrun, Result.andThen_ok, Sem.run_pure]
 exact hK.out _ _ hB (fun _ => h _ (setRow_heap w g cur _ T _ hg) hgr hB)
end
theorem putRow_all {cur cs : Array Value} (h : cs.size = cur.size) : putRow cur 0 cs = cs := by
 unfold putRow
 have e : cur.toList.drop cur.size = [] := List.drop_eq_nil_of_le (by simp)
 rw [Nat.zero_add, h, e]
 simp
theorem wS0 {P : Program} {md : Region.Mode} {ops : Array Oper} {Q : Exit → Act → World → Prop} {S : World → Prop} {fuel : Nat} {listed : Array Bool} {a : Act} {w : World} {t ty : TypeId} {pos : String} {af : Array Edge} {p x : Operand} (i g : Nat) (cs : Array Value) (T : TypeId) {cur : Array Value}
  (hi : (P.info? t).map (·.size) = some cs.size) (hg : w.heap[g]? = some (.cells cur T (0, 0))) (hS : ∀ w', w.grownBy w' (some g) → S w')
  (h : ∀ w', w'.heap[g]? = some (.cells cs T (0, 0)) → w.grownBy w' (some g) → S w' → wpAnyH P md ops Q S fuel (listed.setIfInBounds i true) a w')
  (ho : ops[i]? = some ⟨none, .store t p x, ty, pos, af, none⟩ := by rfl) (hr : Region.ready md ops listed = [i] := by kernel_rfl) (hp : a.eval p = .pointer (some ⟨g, 0, none⟩) := by rfl) (hx : a.eval x = .agg cs := by rfl) (hsz : cs.size = cur.size := by rfl) (h1 : cs.all (·.oneCell') = true := by simp [Value.oneCell']) : wpAnyH P md ops Q S (fuel + 1) listed a w :=
 wpAnyH_store ho hr g 0 (.agg cs) T cur hp hx hi hg (by rw [Nat.zero_add]; exact Nat.le_of_eq hsz) h1 hS (fun w' h2 h3 h4 => h w' (by rw [h2]; exact congrArg (fun c => some (Obj.cells c T (0, 0))) (putRow_all hsz)) h3 h4)
end Go.Proofs.YtpndjhelpoenpaaGreatDoor
namespace Go.Proofs.YtpndjhelpoenpaaGreatDoor
open Go.RowKit Go.Maps
section
variable {P : Program} {ops : Array Oper} {rest : List Oper} {o : Oper} {a : Act} {Q : Exit → Act → World → Prop}
theorem wpList_storeAt (w : World) (hgd : o.guard = none) (t : TypeId) (p x : Operand) (hop : o.op = Op.store t p x)
  (g of : Nat) (v : Value) (T : TypeId) (cur new : Array Value) (hp : a.eval p = .pointer (some ⟨g, of, none⟩)) (hx : a.eval x = v) (hi : (P.info? t).map (·.size) = some v.cells.size)
  (hg : w.heap[g]? = some (.cells cur T (0, 0))) (hfit : of + v.cells.size ≤ cur.size) (h1 : v.cells.all (·.oneCell') = true) (hnew : putRow cur of v.cells = new)
  (h : ∀ w', w'.heap[g]? = some (.cells new T (0, 0)) → w.grownBy w' (some g) → wpList P ops Q rest (a.put o.dst undef) w') :
  wpList P ops Q (o :: rest) a w := by
 subst hnew
 have hrun := run_storeAt_at (P := P) w t g of v T cur hi hg hfit h1
 have hgr := grown_setRow w g (putRow cur of v.cells)
 refine wpList_plain hgd fun K' hK' => ?_
 unfold Oper.wp
 simp [execOp, hop, hp, hx, hrun, Result.andThen]
 exact hK' _ _ (h _ (setRow_heap w g cur _ T _ hg) hgr)
theorem wpList_isStore {d : Option Nat} {t ty : TypeId} {p x : Operand} {pos : String} {af : Array Edge} {w : World} (h : wpList P ops Q (⟨d, .store t p x, ty, pos, af, none⟩ :: rest) a w) : wpList P ops Q (⟨d, .store t p x, ty, pos, af, none⟩ :: rest) a w := h
theorem wpList_store2 {d : Option Nat} {t ty : TypeId} {p x : Operand} {pos : String} {af : Array Edge} {w : World} (g of : Nat) (v : Value) (T : TypeId) (cur new : Array Value)
  (hp : a.eval p = .pointer (some ⟨g, of, none⟩)) (hx : a.eval x = v) (hi : (P.info? t).map (·.size) = some v.cells.size) (hg : w.heap[g]? = some (.cells cur T (0, 0))) (hfit : of + v.cells.size ≤ cur.size) (h1 : v.cells.all (·.oneCell') = true) (hnew : putRow cur of v.cells = new)
  (h : ∀ w', w'.heap[g]? = some (.cells new T (0, 0)) → w.grownBy w' (some g) → wpList P ops Q rest (a.put d undef) w') : wpList P ops Q (⟨d, .store t p x, ty, pos, af, none⟩ :: rest) a w :=
 wpList_storeAt w rfl t p x rfl g of v T cur new hp hx hi hg hfit h1 hnew h
theorem wpList_insert_own {H : Type} (w : World) (hgd : o.guard = none) (m x v : Operand) (t : TypeId) (hop : o.op = Op.insert t m x v)
  (k e : TypeId) (K : Keyed P k) (ht : P.underlying t = some (.map k e)) (R : Value → Option (DataW H × List MemPlace)) (b n : Nat) (D : DataW H)
  (hm : a.eval m = .map (some b)) (hown : w.ownsMap P k R b n D) (hn : n < maxLen) (key val : Value) (kl : Lit) (hx : a.eval x = key) (hv : a.eval v = val) (hkey : keyOf P k key = some kl)
  (d : DataW H) (ps : List MemPlace) (hval : R val = some (d, ps))
  (hK : ∀ w', w'.ownsMap P k R b (n + 1) (D.put kl d) → w.grownBy w' (some b) → wpList P ops Q rest (a.put o.dst undef) w') :
  wpList P ops Q (o :: rest) a w := by
 refine wpList_plain hgd fun K' hK' => ?_
 obtain ⟨w', hrun, r1, r2⟩ := hown.update K ht hn hkey hval
 unfold Oper.wp
 simp [execOp, hop, hm, hx, hv, hrun, Result.andThen]
 exact hK' _ _ (hK w' r1 r2)
end
section
variable {P : Program} {fn : Func} {R : Ending → World → Prop} {a : Act} {w : World} {i j k : Tmp} {T : TypeId} {g : Nat} {cs : Array Value} {fs : Array Field} {u v : Value}
theorem ret_cell1 (h : fn.results = #[.cell i T]) (ha : a.tmps.getD i undef = .pointer (some ⟨g, 0, none⟩)) (hu : P.underlying T = some (.struct fs)) (hg : w.heap[g]? = some (.cells cs T (0, 0)))
  (hi : (P.info? T).map (·.size) = some cs.size) (hf : a.defers = []) (hR : R (.returned (.agg cs)) w) : bodyPost P fn R .ret a w := by
 refine z103 ?_
 intro ha'
 simp [results, h, ha', asAddr, run_loadVar_row w g T T cs (0, 0) (.struct fs) hg hu rfl hi, Result.andThen]
theorem ret_cell2 (h : fn.results = #[.cell i T, .tmp j]) (ha : a.tmps.getD i undef = .pointer (some ⟨g, 0, none⟩)) (hb : a.tmps.getD j undef = u) (hu : P.underlying T = some (.struct fs)) (hg : w.heap[g]? = some (.cells cs T (0, 0)))
  (hi : (P.info? T).map (·.size) = some cs.size) (hf : a.defers = []) (hR : R (.returned (.tuple #[.agg cs, u])) w) : bodyPost P fn R .ret a w := by
 refine z103 ?_
 intro ha'
 have hb' : a.tmps[j]?.getD undef = u := by simpa using hb
 simp [results, h, ha', hb', asAddr, run_loadVar_row w g T T cs (0, 0) (.struct fs) hg hu rfl hi, Result.andThen]
theorem ret_cell3 (h : fn.results = #[.cell i T, .tmp j, .tmp k]) (ha : a.tmps.getD i undef = .pointer (some ⟨g, 0, none⟩)) (hb : a.tmps.getD j undef = u) (hc : a.tmps.getD k undef = v) (hu : P.underlying T = some (.struct fs)) (hg : w.heap[g]? = some (.cells cs T (0, 0)))
  (hi : (P.info? T).map (·.size) = some cs.size) (hf : a.defers = []) (hR : R (.returned (.tuple #[.agg cs, u, v])) w) : bodyPost P fn R .ret a w := by
 refine z103 ?_
 intro ha'
 have hb' : a.tmps[j]?.getD undef = u := by simpa using hb
 have hc' : a.tmps[k]?.getD undef = v := by simpa using hc
 simp [results, h, ha', hb', hc', asAddr, run_loadVar_row w g T T cs (0, 0) (.struct fs) hg hu rfl hi, Result.andThen]
end
theorem rowGr {w w' : World} {g y : Nat} {o : Obj} (h : w.heap[y]? = some o) (hg : w.grownBy w' (some g)) (hne : y ≠ g) : w'.heap[y]? = some o :=
 (hg.block y (gL h) (by simpa using hne)).trans h
theorem wL0 {P : Program} {ops : Array Oper} {rest : List Oper} {a : Act} {Q : Exit → Act → World → Prop} {d : Option Nat} {t ty : TypeId} {p x : Operand} {pos : String} {af : Array Edge} {w : World} (g : Nat) (cs : Array Value) (T : TypeId) {cur : Array Value}
  (hi : (P.info? t).map (·.size) = some cs.size) (hg : w.heap[g]? = some (.cells cur T (0, 0))) (h : ∀ w', w'.heap[g]? = some (.cells cs T (0, 0)) → w.grownBy w' (some g) → wpList P ops Q rest (a.put d undef) w')
  (hp : a.eval p = .pointer (some ⟨g, 0, none⟩) := by rfl) (hx : a.eval x = .agg cs := by rfl) (hsz : cs.size = cur.size := by rfl) (h1 : cs.all (·.oneCell') = true := by simp [Value.oneCell']) : wpList P ops Q (⟨d, .store t p x, ty, pos, af, none⟩ :: rest) a w :=
 wpList_store2 g 0 (.agg cs) T cur cs hp hx hi hg (by rw [Nat.zero_add]; exact Nat.le_of_eq hsz) h1 (putRow_all hsz) h
end Go.Proofs.YtpndjhelpoenpaaGreatDoor
