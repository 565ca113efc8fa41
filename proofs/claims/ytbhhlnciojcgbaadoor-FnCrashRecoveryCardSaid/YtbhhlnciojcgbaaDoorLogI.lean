/-
  AppendRecord: the same on both sides.
-/
import Derived.Test.YtbhhlnciojcgbaaDoorLogH
import Derived.Deep.Cut
namespace Go.Proofs.YtbhhlnciojcgbaaDoor
open Go.RowKit
set_option linter.unusedVariables false
set_option linter.unusedSimpArgs false
attribute [local go_sem ↓] Go.wp_at_zero Go.wp_at_succ
def apT (D P : BA) (z : Int) (c r : BA) : Bool := (logOk D P z && goodRec c r) && decide (z ≠ 60)
def apP (D P : BA) (z : Int) (c r : BA) : BA := if apT D P z c r then P ++ lineB z c r else P
def apZ (D P : BA) (z : Int) (c r : BA) : Int := if apT D P z c r then z + 1 else z
def apK (D P : BA) (z : Int) (c r : BA) : Int := if logOk D P z && goodRec c r then (if z = 60 then 2 else 0) else 1
theorem logOk_cnt {D P : BA} {z : Int} (h : logOk D P z = true) : 0 ≤ z ∧ z ≤ 60 := by
  simp only [logOk, Bool.and_eq_true, decide_eq_true_eq] at h
  have := readN_len (D ++ P) 60
  omega
theorem lineB_size {k : Int} {c r : BA} (h0 : 0 ≤ k) (h1 : k ≤ 59) (h : goodRec c r = true) : (lineB k c r).size ≤ 500 := by
  have h2 := bodyB_size h0 h1 h
  have h3 := sealB_size (bodyB k c r)
  simp only [lineB, ByteArray.size_append', ByteArray.size_mk', List.size_toArray, List.length_cons, List.length_nil]
  omega
theorem heap_alloc3a (w : World) (o1 o2 o3 : Obj) : (((w.alloc o1).alloc o2).alloc o3).heap[w.heap.size]? = some o1 :=
  ((((Below.refl (w.alloc o1).heap.size (w.alloc o1)).alloc (Nat.le_refl _) o2).alloc (by simp) o3).block w.heap.size (by simp)).trans (heap_alloc_new w o1)
theorem heap_alloc3b (w : World) (o1 o2 o3 : Obj) : (((w.alloc o1).alloc o2).alloc o3).heap[w.heap.size + 1]? = some o2 := by
  have h := heap_alloc2 (w.alloc o1) o2 o3
  simpa using h
theorem heap_alloc3c (w : World) (o1 o2 o3 : Obj) : (((w.alloc o1).alloc o2).alloc o3).heap[w.heap.size + 2]? = some o3 := by
  have h := heap_alloc_new ((w.alloc o1).alloc o2) o3
  simpa using h
theorem rowB {X w' : World} {g : Nat} {o : Obj} (hX : X.heap[g]? = some o) (h : Below X.heap.size X w') : w'.heap[g]? = some o :=
  (h.block g (Array.getElem?_eq_some_iff.1 hX).1).trans hX
theorem row_far {W : World} {g : Nat} {o : Obj} (hX : W.heap[g]? = some o) (a : Addr) (v : Value) (h : a.block ≠ g) : (W.setCell a v).heap[g]? = some o := by
  simp [World.setCell, Array.getElem?_modify, h, hX]
theorem row3_set1 {w : World} {g : Nat} {p q y : BA} {z : Int} (h : w.heap[g]? = some (.cells #[.string p, .string q, .int .i64 z] 25 (0, 0))) : (w.setCell ⟨g, 1, none⟩ (.string y)).heap[g]? = some (.cells #[.string p, .string y, .int .i64 z] 25 (0, 0)) := by
  simp [World.setCell, Array.getElem?_modify, h]
theorem row3_set2 {w : World} {g : Nat} {p q : BA} {z u : Int} (h : w.heap[g]? = some (.cells #[.string p, .string q, .int .i64 z] 25 (0, 0))) : (w.setCell ⟨g, 2, none⟩ (.int .i64 u)).heap[g]? = some (.cells #[.string p, .string q, .int .i64 u] 25 (0, 0)) := by
  simp [World.setCell, Array.getElem?_modify, h]
set_option maxHeartbeats 2000000 in
theorem AppendRecord_any (D P : BA) (z : Int) (c r : BA) (hD : D.size ≤ 1048576) (hP : P.size ≤ 1048576) (hc : c.size ≤ 1048576) (hr : r.size ≤ 1048576) (w : World) (ht : Tab w) (hm : Mx w) :
    Calls Tryd.prog 8 #[.agg #[.string D, .string P, .int .i64 z], .agg #[.string c, .string r]] w fun e w' => e = .returned (.tuple #[.agg #[.string D, .string (apP D P z c r), .int .i64 (apZ D P z c r)], .int .i64 (apK D P z c r)]) ∧ Below w.heap.size w w' := by
  have AL1 : Below w.heap.size w (w.alloc (.cells #[.string D, .string P, .int .i64 z] 25)) := (Below.refl _ w).alloc (Nat.le_refl _) _
  have AL2 : Below w.heap.size w ((w.alloc (.cells #[.string D, .string P, .int .i64 z] 25)).alloc (.cells #[.string c, .string r] 27)) := AL1.alloc AL1.size _
  have HAL : Below w.heap.size w (((w.alloc (.cells #[.string D, .string P, .int .i64 z] 25)).alloc (.cells #[.string c, .string r] 27)).alloc (.cells #[.string ⟨#[]⟩, .string ⟨#[]⟩, .int .i64 0] 25)) := AL2.alloc AL2.size _
  have hXL : (((w.alloc (.cells #[.string D, .string P, .int .i64 z] 25)).alloc (.cells #[.string c, .string r] 27)).alloc (.cells #[.string ⟨#[]⟩, .string ⟨#[]⟩, .int .i64 0] 25)).heap[w.heap.size]? = some (.cells #[.string D, .string P, .int .i64 z] 25 (0, 0)) := heap_alloc3a w _ _ _
  have hXR : (((w.alloc (.cells #[.string D, .string P, .int .i64 z] 25)).alloc (.cells #[.string c, .string r] 27)).alloc (.cells #[.string ⟨#[]⟩, .string ⟨#[]⟩, .int .i64 0] 25)).heap[w.heap.size + 1]? = some (.cells #[.string c, .string r] 27 (0, 0)) := heap_alloc3b w _ _ _
  have hXZ : (((w.alloc (.cells #[.string D, .string P, .int .i64 z] 25)).alloc (.cells #[.string c, .string r] 27)).alloc (.cells #[.string ⟨#[]⟩, .string ⟨#[]⟩, .int .i64 0] 25)).heap[w.heap.size + 2]? = some (.cells #[.string ⟨#[]⟩, .string ⟨#[]⟩, .int .i64 0] 25 (0, 0)) := heap_alloc3c w _ _ _
  have hci : (c.size : Int) ≤ 9223372036854775807 := by omega
  have hri : (r.size : Int) ≤ 9223372036854775807 := by omega
  have HC := Lib.hid (IsValidLog_any D P z hD hP (((w.alloc (.cells #[.string D, .string P, .int .i64 z] 25)).alloc (.cells #[.string c, .string r] 27)).alloc (.cells #[.string ⟨#[]⟩, .string ⟨#[]⟩, .int .i64 0] 25)) (ht.below HAL) (hm.below HAL))
  cases hk : logOk D P z with
  | false =>
    have e1 : apP D P z c r = P := by simp [apP, apT, hk]
    have e2 : apZ D P z c r = z := by simp [apZ, apT, hk]
    have e3 : apK D P z c r = 1 := by simp [apK, hk]
    rw [e1, e2, e3]
    rw [hk] at HC
    go_enter Tryd.func8, Tryd.ntmps8
    go_wp2_with fail
    refine HC.out.mono ?_
    rintro e w1 ⟨rfl, hb1⟩
    have hL_w1 := rowB hXL hb1
    have hR_w1 := rowB hXR hb1
    have hZ_w1 := rowB hXZ hb1
    have B_w1 := HAL.trans (hb1.mono (by simp; omega))
    clear e1 e2 e3 hk ht hm hD hP hc hr hci hri
    clear HC HAL hXL hXR hXZ AL1 AL2 hb1
    obtain ⟨l0, l1, l2, lf0, lf1, lf2⟩ := row3 hL_w1
    obtain ⟨z0, z1, z2, z3, z4, z5⟩ := row3 hZ_w1
    go_wp2_with fail
    obtain ⟨a0, a1, a2, _, _, _⟩ := row3 (row3_set (x := D) (y := P) (u := z) hZ_w1)
    have BZ := below3 (b := w.heap.size + 2) (x := D) (y := P) (u := z) B_w1 (by omega)
    generalize ((w1.setCell ⟨(w.heap.size + 2), 0, none⟩ (.string D)).setCell ⟨(w.heap.size + 2), 1, none⟩ (.string P)).setCell ⟨(w.heap.size + 2), 2, none⟩ (.int .i64 z) = WZ at *
    (try simp only [Exit.inBlock, Exit.then]); refine bodyPost_ret (by simp [results, Tryd.results8, go_sem, a0, a1, a2]; try rfl) rfl ?_
    exact ⟨rfl, BZ⟩
  | true =>
    have hcnt := logOk_cnt hk
    have hsz := logOk_size hk
    rw [hk] at HC
    cases hg : goodRec c r with
    | false =>
      have e1 : apP D P z c r = P := by simp [apP, apT, hk, hg]
      have e2 : apZ D P z c r = z := by simp [apZ, apT, hk, hg]
      have e3 : apK D P z c r = 1 := by simp [apK, hk, hg]
      rw [e1, e2, e3]
      go_enter Tryd.func8, Tryd.ntmps8
      go_wp2_with fail
      refine HC.out.mono ?_
      rintro e w1 ⟨rfl, hb1⟩
      have hL_w1 := rowB hXL hb1
      have hR_w1 := rowB hXR hb1
      have hZ_w1 := rowB hXZ hb1
      have B_w1 := HAL.trans (hb1.mono (by simp; omega))
      clear HC HAL hXL hXR hXZ AL1 AL2 hb1
      obtain ⟨r0, r1, _, _⟩ := row2 hR_w1
      go_wp2_with fail
      refine (IsValidRecord_any c r hci hri w1).mono ?_
      rw [hg]
      rintro e w2 ⟨rfl, hb2⟩
      have hL_w2 := rowB hL_w1 hb2
      have hR_w2 := rowB hR_w1 hb2
      have hZ_w2 := rowB hZ_w1 hb2
      have B_w2 := below_of B_w1 hb2 B_w1.size
      clear hL_w1 hR_w1 hZ_w1 hb2 r0 r1
      clear e1 e2 e3 hk hg ht hm hD hP hc hr hci hri hsz hcnt
      obtain ⟨l0, l1, l2, lf0, lf1, lf2⟩ := row3 hL_w2
      obtain ⟨z0, z1, z2, z3, z4, z5⟩ := row3 hZ_w2
      go_wp2_with fail
      obtain ⟨a0, a1, a2, _, _, _⟩ := row3 (row3_set (x := D) (y := P) (u := z) hZ_w2)
      have BZ := below3 (b := w.heap.size + 2) (x := D) (y := P) (u := z) B_w2 (by omega)
      generalize ((w2.setCell ⟨(w.heap.size + 2), 0, none⟩ (.string D)).setCell ⟨(w.heap.size + 2), 1, none⟩ (.string P)).setCell ⟨(w.heap.size + 2), 2, none⟩ (.int .i64 z) = WZ at *
      (try simp only [Exit.inBlock, Exit.then]); refine bodyPost_ret (by simp [results, Tryd.results8, go_sem, a0, a1, a2]; try rfl) rfl ?_
      exact ⟨rfl, BZ⟩
    | true =>
      by_cases hz : z = 60
      · subst hz
        have e1 : apP D P 60 c r = P := by simp [apP, apT, hk, hg]
        have e2 : apZ D P 60 c r = 60 := by simp [apZ, apT, hk, hg]
        have e3 : apK D P 60 c r = 2 := by simp [apK, hk, hg]
        rw [e1, e2, e3]
        go_enter Tryd.func8, Tryd.ntmps8
        go_wp2_with fail
        refine HC.out.mono ?_
        rintro e w1 ⟨rfl, hb1⟩
        have hL_w1 := rowB hXL hb1
        have hR_w1 := rowB hXR hb1
        have hZ_w1 := rowB hXZ hb1
        have B_w1 := HAL.trans (hb1.mono (by simp; omega))
        clear HC HAL hXL hXR hXZ AL1 AL2 hb1
        obtain ⟨r0, r1, _, _⟩ := row2 hR_w1
        go_wp2_with fail
        refine (IsValidRecord_any c r hci hri w1).mono ?_
        rw [hg]
        rintro e w2 ⟨rfl, hb2⟩
        have hL_w2 := rowB hL_w1 hb2
        have hR_w2 := rowB hR_w1 hb2
        have hZ_w2 := rowB hZ_w1 hb2
        have B_w2 := below_of B_w1 hb2 B_w1.size
        clear hL_w1 hR_w1 hZ_w1 hb2 r0 r1
        clear e1 e2 e3 hk hg ht hm hD hP hc hr hci hri hsz hcnt
        obtain ⟨l0, l1, l2, lf0, lf1, lf2⟩ := row3 hL_w2
        obtain ⟨z0, z1, z2, z3, z4, z5⟩ := row3 hZ_w2
        go_wp2_with fail
        obtain ⟨a0, a1, a2, _, _, _⟩ := row3 (row3_set (x := D) (y := P) (u := 60) hZ_w2)
        have BZ := below3 (b := w.heap.size + 2) (x := D) (y := P) (u := 60) B_w2 (by omega)
        generalize ((w2.setCell ⟨(w.heap.size + 2), 0, none⟩ (.string D)).setCell ⟨(w.heap.size + 2), 1, none⟩ (.string P)).setCell ⟨(w.heap.size + 2), 2, none⟩ (.int .i64 60) = WZ at *
        (try simp only [Exit.inBlock, Exit.then]); refine bodyPost_ret (by simp [results, Tryd.results8, go_sem, a0, a1, a2]; try rfl) rfl ?_
        exact ⟨rfl, BZ⟩
      · have e1 : apP D P z c r = P ++ lineB z c r := by simp [apP, apT, hk, hg, hz]
        have e2 : apZ D P z c r = z + 1 := by simp [apZ, apT, hk, hg, hz]
        have e3 : apK D P z c r = 0 := by simp [apK, hk, hg, hz]
        rw [e1, e2, e3]
        have hz9 : z ≤ 59 := by omega
        have hz0 := hcnt.1
        have hls := lineB_size hz0 hz9 hg
        have hsum : P.size + (lineB z c r).size ≤ 4000000 := by omega
        have HE := Lib.hid (fun W hT => EncodeRecord_any z c r hci hri W hT)
        have hin : (inR z 0 59 && goodRec c r) = true := by simp [inR, hz0, hz9, hg]
        rw [hin] at HE
        simp only [if_true] at HE
        generalize lineB z c r = Ln at *
        clear e1 e2 e3 hls
        go_enter Tryd.func8, Tryd.ntmps8
        go_wp2_with fail
        refine HC.out.mono ?_
        rintro e w1 ⟨rfl, hb1⟩
        have hL_w1 := rowB hXL hb1
        have hR_w1 := rowB hXR hb1
        have hZ_w1 := rowB hXZ hb1
        have B_w1 := HAL.trans (hb1.mono (by simp; omega))
        have ht1 := ht.below B_w1
        clear HC HAL hXL hXR hXZ AL1 AL2 hb1
        obtain ⟨r0, r1, _, _⟩ := row2 hR_w1
        go_wp2_with fail
        refine (IsValidRecord_any c r hci hri w1).mono ?_
        rw [hg]
        rintro e w2 ⟨rfl, hb2⟩
        have hL_w2 := rowB hL_w1 hb2
        have hR_w2 := rowB hR_w1 hb2
        have hZ_w2 := rowB hZ_w1 hb2
        have B_w2 := below_of B_w1 hb2 B_w1.size
        clear hL_w1 hR_w1 hZ_w1 hb2 r0 r1
        clear hk hg hD hP hc hr hci hri hsz hcnt
        have ht2 := Lib.hid (ht.below B_w2)
        clear ht hm ht1
        obtain ⟨l0, l1, l2, lf0, lf1, lf2⟩ := row3 hL_w2
        obtain ⟨r0, r1, _, _⟩ := row2 hR_w2
        go_wp2_with fail
        refine (HE.out w2 ht2.out).mono ?_
        rintro e w3 ⟨rfl, hb3⟩
        have hL_w3 := rowB hL_w2 hb3
        have hR_w3 := rowB hR_w2 hb3
        have hZ_w3 := rowB hZ_w2 hb3
        have B_w3 := below_of B_w2 hb3 B_w2.size
        clear hL_w2 hR_w2 hZ_w2 hb3 r0 r1 l0 l1 l2 lf0 lf1 lf2 HE ht2
        obtain ⟨l0, l1, l2, lf0, lf1, lf2⟩ := row3 hL_w3
        obtain ⟨z0, z1, z2, z3, z4, z5⟩ := row3 hZ_w3
        go_wp2_with fail
        obtain ⟨a0, a1, a2, _, _, _⟩ := row3 (row3_set (x := D) (y := (P ++ Ln)) (u := (z + 1)) hZ_w3)
        have BZ := below3 (b := w.heap.size + 2) (x := D) (y := (P ++ Ln)) (u := (z + 1)) B_w3 (by omega)
        generalize ((w3.setCell ⟨(w.heap.size + 2), 0, none⟩ (.string D)).setCell ⟨(w.heap.size + 2), 1, none⟩ (.string (P ++ Ln))).setCell ⟨(w.heap.size + 2), 2, none⟩ (.int .i64 (z + 1)) = WZ at *
        (try simp only [Exit.inBlock, Exit.then]); refine bodyPost_ret (by simp [results, Tryd.results8, go_sem, a0, a1, a2]; try rfl) rfl ?_
        exact ⟨rfl, BZ⟩
set_option maxHeartbeats 2000000 in
theorem sAppendRecord_any (D P : BA) (z : Int) (c r : BA) (hD : D.size ≤ 1048576) (hP : P.size ≤ 1048576) (hc : c.size ≤ 1048576) (hr : r.size ≤ 1048576) (w : World) :
    Calls Tryd.prog 9 #[.agg #[.string D, .string P, .int .i64 z], .agg #[.string c, .string r]] w fun e w' => e = .returned (.tuple #[.agg #[.string D, .string (apP D P z c r), .int .i64 (apZ D P z c r)], .int .i64 (apK D P z c r)]) ∧ Below w.heap.size w w' := by
  have AL1 : Below w.heap.size w (w.alloc (.cells #[.string D, .string P, .int .i64 z] 25)) := (Below.refl _ w).alloc (Nat.le_refl _) _
  have AL2 : Below w.heap.size w ((w.alloc (.cells #[.string D, .string P, .int .i64 z] 25)).alloc (.cells #[.string c, .string r] 27)) := AL1.alloc AL1.size _
  have HAL : Below w.heap.size w (((w.alloc (.cells #[.string D, .string P, .int .i64 z] 25)).alloc (.cells #[.string c, .string r] 27)).alloc (.cells #[.string ⟨#[]⟩, .string ⟨#[]⟩, .int .i64 0] 25)) := AL2.alloc AL2.size _
  have hXL : (((w.alloc (.cells #[.string D, .string P, .int .i64 z] 25)).alloc (.cells #[.string c, .string r] 27)).alloc (.cells #[.string ⟨#[]⟩, .string ⟨#[]⟩, .int .i64 0] 25)).heap[w.heap.size]? = some (.cells #[.string D, .string P, .int .i64 z] 25 (0, 0)) := heap_alloc3a w _ _ _
  have hXR : (((w.alloc (.cells #[.string D, .string P, .int .i64 z] 25)).alloc (.cells #[.string c, .string r] 27)).alloc (.cells #[.string ⟨#[]⟩, .string ⟨#[]⟩, .int .i64 0] 25)).heap[w.heap.size + 1]? = some (.cells #[.string c, .string r] 27 (0, 0)) := heap_alloc3b w _ _ _
  have hXZ : (((w.alloc (.cells #[.string D, .string P, .int .i64 z] 25)).alloc (.cells #[.string c, .string r] 27)).alloc (.cells #[.string ⟨#[]⟩, .string ⟨#[]⟩, .int .i64 0] 25)).heap[w.heap.size + 2]? = some (.cells #[.string ⟨#[]⟩, .string ⟨#[]⟩, .int .i64 0] 25 (0, 0)) := heap_alloc3c w _ _ _
  have hci : (c.size : Int) ≤ 9223372036854775807 := by omega
  have hri : (r.size : Int) ≤ 9223372036854775807 := by omega
  have HC := Lib.hid (l27Log_any D P z hD hP (((w.alloc (.cells #[.string D, .string P, .int .i64 z] 25)).alloc (.cells #[.string c, .string r] 27)).alloc (.cells #[.string ⟨#[]⟩, .string ⟨#[]⟩, .int .i64 0] 25)))
  cases hk : logOk D P z with
  | false =>
    have e1 : apP D P z c r = P := by simp [apP, apT, hk]
    have e2 : apZ D P z c r = z := by simp [apZ, apT, hk]
    have e3 : apK D P z c r = 1 := by simp [apK, hk]
    rw [e1, e2, e3]
    rw [hk] at HC
    go_enter Tryd.func9, Tryd.ntmps9
    go_wp2_with fail
    refine HC.out.mono ?_
    rintro e w1 ⟨rfl, hb1⟩
    have hL_w1 := rowB hXL hb1
    have hR_w1 := rowB hXR hb1
    have hZ_w1 := rowB hXZ hb1
    have B_w1 := HAL.trans (hb1.mono (by simp; omega))
    clear e1 e2 e3 hk hD hP hc hr hci hri
    clear HC HAL hXL hXR hXZ AL1 AL2 hb1
    obtain ⟨l0, l1, l2, lf0, lf1, lf2⟩ := row3 hL_w1
    obtain ⟨z0, z1, z2, z3, z4, z5⟩ := row3 hZ_w1
    go_wp2_with fail
    obtain ⟨a0, a1, a2, _, _, _⟩ := row3 (row3_set (x := D) (y := P) (u := z) hZ_w1)
    have BZ := below3 (b := w.heap.size + 2) (x := D) (y := P) (u := z) B_w1 (by omega)
    generalize ((w1.setCell ⟨(w.heap.size + 2), 0, none⟩ (.string D)).setCell ⟨(w.heap.size + 2), 1, none⟩ (.string P)).setCell ⟨(w.heap.size + 2), 2, none⟩ (.int .i64 z) = WZ at *
    (try simp only [Exit.inBlock, Exit.then]); refine bodyPost_ret (by simp [results, Tryd.results9, go_sem, a0, a1, a2]; try rfl) rfl ?_
    exact ⟨rfl, BZ⟩
  | true =>
    have hcnt := logOk_cnt hk
    have hsz := logOk_size hk
    rw [hk] at HC
    cases hg : goodRec c r with
    | false =>
      have e1 : apP D P z c r = P := by simp [apP, apT, hk, hg]
      have e2 : apZ D P z c r = z := by simp [apZ, apT, hk, hg]
      have e3 : apK D P z c r = 1 := by simp [apK, hk, hg]
      rw [e1, e2, e3]
      go_enter Tryd.func9, Tryd.ntmps9
      go_wp2_with fail
      refine HC.out.mono ?_
      rintro e w1 ⟨rfl, hb1⟩
      have hL_w1 := rowB hXL hb1
      have hR_w1 := rowB hXR hb1
      have hZ_w1 := rowB hXZ hb1
      have B_w1 := HAL.trans (hb1.mono (by simp; omega))
      clear HC HAL hXL hXR hXZ AL1 AL2 hb1
      obtain ⟨r0, r1, _, _⟩ := row2 hR_w1
      go_wp2_with fail
      refine (l27Good_any c r hci hri w1).mono ?_
      rw [hg]
      rintro e w2 ⟨rfl, hb2⟩
      have hL_w2 := rowB hL_w1 hb2
      have hR_w2 := rowB hR_w1 hb2
      have hZ_w2 := rowB hZ_w1 hb2
      have B_w2 := below_of B_w1 hb2 B_w1.size
      clear hL_w1 hR_w1 hZ_w1 hb2 r0 r1
      clear e1 e2 e3 hk hg hD hP hc hr hci hri hsz hcnt
      obtain ⟨l0, l1, l2, lf0, lf1, lf2⟩ := row3 hL_w2
      obtain ⟨z0, z1, z2, z3, z4, z5⟩ := row3 hZ_w2
      go_wp2_with fail
      obtain ⟨a0, a1, a2, _, _, _⟩ := row3 (row3_set (x := D) (y := P) (u := z) hZ_w2)
      have BZ := below3 (b := w.heap.size + 2) (x := D) (y := P) (u := z) B_w2 (by omega)
      generalize ((w2.setCell ⟨(w.heap.size + 2), 0, none⟩ (.string D)).setCell ⟨(w.heap.size + 2), 1, none⟩ (.string P)).setCell ⟨(w.heap.size + 2), 2, none⟩ (.int .i64 z) = WZ at *
      (try simp only [Exit.inBlock, Exit.then]); refine bodyPost_ret (by simp [results, Tryd.results9, go_sem, a0, a1, a2]; try rfl) rfl ?_
      exact ⟨rfl, BZ⟩
    | true =>
      by_cases hz : z = 60
      · subst hz
        have e1 : apP D P 60 c r = P := by simp [apP, apT, hk, hg]
        have e2 : apZ D P 60 c r = 60 := by simp [apZ, apT, hk, hg]
        have e3 : apK D P 60 c r = 2 := by simp [apK, hk, hg]
        rw [e1, e2, e3]
        go_enter Tryd.func9, Tryd.ntmps9
        go_wp2_with fail
        refine HC.out.mono ?_
        rintro e w1 ⟨rfl, hb1⟩
        have hL_w1 := rowB hXL hb1
        have hR_w1 := rowB hXR hb1
        have hZ_w1 := rowB hXZ hb1
        have B_w1 := HAL.trans (hb1.mono (by simp; omega))
        clear HC HAL hXL hXR hXZ AL1 AL2 hb1
        obtain ⟨r0, r1, _, _⟩ := row2 hR_w1
        go_wp2_with fail
        refine (l27Good_any c r hci hri w1).mono ?_
        rw [hg]
        rintro e w2 ⟨rfl, hb2⟩
        have hL_w2 := rowB hL_w1 hb2
        have hR_w2 := rowB hR_w1 hb2
        have hZ_w2 := rowB hZ_w1 hb2
        have B_w2 := below_of B_w1 hb2 B_w1.size
        clear hL_w1 hR_w1 hZ_w1 hb2 r0 r1
        clear e1 e2 e3 hk hg hD hP hc hr hci hri hsz hcnt
        obtain ⟨l0, l1, l2, lf0, lf1, lf2⟩ := row3 hL_w2
        obtain ⟨z0, z1, z2, z3, z4, z5⟩ := row3 hZ_w2
        go_wp2_with fail
        obtain ⟨a0, a1, a2, _, _, _⟩ := row3 (row3_set (x := D) (y := P) (u := 60) hZ_w2)
        have BZ := below3 (b := w.heap.size + 2) (x := D) (y := P) (u := 60) B_w2 (by omega)
        generalize ((w2.setCell ⟨(w.heap.size + 2), 0, none⟩ (.string D)).setCell ⟨(w.heap.size + 2), 1, none⟩ (.string P)).setCell ⟨(w.heap.size + 2), 2, none⟩ (.int .i64 60) = WZ at *
        (try simp only [Exit.inBlock, Exit.then]); refine bodyPost_ret (by simp [results, Tryd.results9, go_sem, a0, a1, a2]; try rfl) rfl ?_
        exact ⟨rfl, BZ⟩
      · have e1 : apP D P z c r = P ++ lineB z c r := by simp [apP, apT, hk, hg, hz]
        have e2 : apZ D P z c r = z + 1 := by simp [apZ, apT, hk, hg, hz]
        have e3 : apK D P z c r = 0 := by simp [apK, hk, hg, hz]
        rw [e1, e2, e3]
        have hz9 : z ≤ 59 := by omega
        have hz0 := hcnt.1
        have hls := lineB_size hz0 hz9 hg
        have hsum : P.size + (lineB z c r).size ≤ 4000000 := by omega
        have HE := Lib.hid (fun W => l27Line_any z c r hz0 (by omega) hc hr W)
        generalize lineB z c r = Ln at *
        clear e1 e2 e3 hls
        go_enter Tryd.func9, Tryd.ntmps9
        go_wp2_with fail
        refine HC.out.mono ?_
        rintro e w1 ⟨rfl, hb1⟩
        have hL_w1 := rowB hXL hb1
        have hR_w1 := rowB hXR hb1
        have hZ_w1 := rowB hXZ hb1
        have B_w1 := HAL.trans (hb1.mono (by simp; omega))
        clear HC HAL hXL hXR hXZ AL1 AL2 hb1
        obtain ⟨r0, r1, _, _⟩ := row2 hR_w1
        go_wp2_with fail
        refine (l27Good_any c r hci hri w1).mono ?_
        rw [hg]
        rintro e w2 ⟨rfl, hb2⟩
        have hL_w2 := rowB hL_w1 hb2
        have hR_w2 := rowB hR_w1 hb2
        have hZ_w2 := rowB hZ_w1 hb2
        have B_w2 := below_of B_w1 hb2 B_w1.size
        clear hL_w1 hR_w1 hZ_w1 hb2 r0 r1
        clear hk hg hD hP hc hr hci hri hsz hcnt
        obtain ⟨l0, l1, l2, lf0, lf1, lf2⟩ := row3 hL_w2
        obtain ⟨r0, r1, _, _⟩ := row2 hR_w2
        go_wp2_with fail
        refine wp_region_held_drew (S := fun w' => w'.cell? ⟨w.heap.size, 2, none⟩ = some (.int .i64 z) ∧ w'.cell? ⟨w.heap.size + 1, 0, none⟩ = some (.string c) ∧ w'.cell? ⟨w.heap.size + 1, 1, none⟩ = some (.string r)) (by kernel_rfl) ⟨l2, r0, r1⟩ (fun hHeld => ?_)
        have hL_w2 : w2.drew.heap[w.heap.size]? = _ := hL_w2
        have hR_w2 : w2.drew.heap[w.heap.size + 1]? = _ := hR_w2
        have hZ_w2 : w2.drew.heap[w.heap.size + 2]? = _ := hZ_w2
        have B_w2 : Below w.heap.size w w2.drew := B_w2.drew
        clear l0 l1 l2 lf0 lf1 lf2 r0 r1
        generalize w2.drew = w2 at *
        refine wpAnyH_takeD (i := 0) (d := 19) (v := ?_) rfl (by kernel_rfl) (by kernel_rfl) (by kernel_rfl) (fun _ _ _ h => h) (by rfl) ?_ hHeld ?_
        rotate_left
        · intro wS hS
          obtain ⟨eF0, eF1, eF2⟩ := hS
          go_simp
          try with_reducible rfl
        simp only [Act.put, List.setIfInBounds_toArray, List.set_cons_zero, List.set_cons_succ]
        refine wpAnyH_takeD (i := 2) (d := 21) (v := ?_) rfl (by kernel_rfl) (by kernel_rfl) (by kernel_rfl) (fun _ _ _ h => h) (by rfl) ?_ hHeld ?_
        rotate_left
        · intro wS hS
          obtain ⟨eF0, eF1, eF2⟩ := hS
          go_simp
          try with_reducible rfl
        simp only [Act.put, List.setIfInBounds_toArray, List.set_cons_zero, List.set_cons_succ]
        refine wpAnyH_takeD (i := 3) (d := 22) (v := ?_) rfl (by kernel_rfl) (by kernel_rfl) (by kernel_rfl) (fun _ _ _ h => h) (by rfl) ?_ hHeld ?_
        rotate_left
        · intro wS hS
          obtain ⟨eF0, eF1, eF2⟩ := hS
          go_simp
          try with_reducible rfl
        simp only [Act.put, List.setIfInBounds_toArray, List.set_cons_zero, List.set_cons_succ]
        refine wpAnyH_takeD (i := 4) (d := 23) (v := ?_) rfl (by kernel_rfl) (by kernel_rfl) (by kernel_rfl) (fun _ _ _ h => h) (by rfl) ?_ hHeld ?_
        rotate_left
        · intro wS hS
          obtain ⟨eF0, eF1, eF2⟩ := hS
          go_simp
          try with_reducible rfl
        simp only [Act.put, List.setIfInBounds_toArray, List.set_cons_zero, List.set_cons_succ]
        refine wpAnyH_ready (rs := [1, 5]) (by kernel_rfl) (by simp) ?_
        refine (AllReadyH.cons rfl (fun K hK => ?_) (AllReadyH.cons rfl (fun K hK => ?_) AllReadyH.nil))
        · have l1 := (row3 hL_w2).2.1
          go_simp
          refine hK.out _ _ hHeld (fun hHeld => ?_)
          clear hK K l1
          refine wpAnyH_ready (rs := [5]) (by kernel_rfl) (by simp) ?_
          refine (AllReadyH.cons rfl (fun K hK => ?_) AllReadyH.nil)
          go_simp
          refine (HE.out _).mono ?_
          rintro e wa ⟨rfl, hb_wa⟩
          have hL_wa := rowB hL_w2 hb_wa
          have hR_wa := rowB hR_w2 hb_wa
          have hZ_wa := rowB hZ_w2 hb_wa
          have B_wa := below_of B_w2 hb_wa B_w2.size
          have S_wa : (fun w' => w'.cell? ⟨w.heap.size, 2, none⟩ = some (.int .i64 z) ∧ w'.cell? ⟨w.heap.size + 1, 0, none⟩ = some (.string c) ∧ w'.cell? ⟨w.heap.size + 1, 1, none⟩ = some (.string r)) wa := ⟨(row3 hL_wa).2.2.1, (row2 hR_wa).1, (row2 hR_wa).2.1⟩
          refine hK.out _ _ S_wa (fun hHeld => ?_)
          clear hK K
          refine wpAnyH_takeD (i := 6) (d := 25) (v := ?_) rfl (by kernel_rfl) (by kernel_rfl) (by kernel_rfl) (fun _ _ _ h => h) (by rfl) ?_ hHeld ?_
          rotate_left
          · intro wS hS
            refine run_add_strP ⟨_, _, rfl, rfl, by omega, ?_⟩
            with_reducible rfl
          simp only [Act.put, List.setIfInBounds_toArray, List.set_cons_zero, List.set_cons_succ]
          refine wpAnyH_takeD (i := 7) (d := 26) (v := ?_) rfl (by kernel_rfl) (by kernel_rfl) (by kernel_rfl) (fun _ _ _ h => h) (by rfl) ?_ hHeld ?_
          rotate_left
          · intro wS hS
            obtain ⟨eF0, eF1, eF2⟩ := hS
            go_simp
            try with_reducible rfl
          simp only [Act.put, List.setIfInBounds_toArray, List.set_cons_zero, List.set_cons_succ]
          refine wpAnyH_ready (rs := [8]) (by kernel_rfl) (by simp) ?_
          refine (AllReadyH.cons rfl (fun K hK => ?_) AllReadyH.nil)
          obtain ⟨l0, l1, l2, lf0, lf1, lf2⟩ := row3 hL_wa
          have hLx := row3_set1 (y := P ++ Ln) hL_wa
          have hRx := row_far hR_wa ⟨w.heap.size, 1, none⟩ (.string (P ++ Ln)) (by simp)
          have hZx := row_far hZ_wa ⟨w.heap.size, 1, none⟩ (.string (P ++ Ln)) (by simp)
          have Bx : Below w.heap.size w (wa.setCell ⟨w.heap.size, 1, none⟩ (.string (P ++ Ln))) := B_wa.setCell (Nat.le_refl _) _
          go_simp
          generalize (wa.setCell ⟨w.heap.size, 1, none⟩ (.string (P ++ Ln))) = wb at *
          have hL_wb := hLx
          have hR_wb := hRx
          have hZ_wb := hZx
          have B_wb := Bx
          refine hK.out _ _ ⟨(row3 hL_wb).2.2.1, (row2 hR_wb).1, (row2 hR_wb).2.1⟩ (fun hHeld => ?_)
          clear hK K hLx hRx hZx Bx l0 l1 l2 lf0 lf1 lf2
          refine wpAnyH_done (by kernel_rfl) ?_ _
          have hLy := row3_set2 (u := z + 1) hL_wb
          have hZy := row_far hZ_wb ⟨w.heap.size, 2, none⟩ (.int .i64 (z + 1)) (by simp)
          have By : Below w.heap.size w (wb.setCell ⟨w.heap.size, 2, none⟩ (.int .i64 (z + 1))) := B_wb.setCell (Nat.le_refl _) _
          obtain ⟨m0, m1, m2, m3, m4, m5⟩ := row3 hL_wb
          go_upto_region 7 with fail
          generalize (wb.setCell ⟨w.heap.size, 2, none⟩ (.int .i64 (z + 1))) = wy at *
          have hL_wy := hLy
          have hZ_wy := hZy
          clear m0 m1 m2 m3 m4 m5 hLy hZy
          obtain ⟨l0, l1, l2, lf0, lf1, lf2⟩ := row3 hL_wy
          obtain ⟨z0, z1, z2, z3, z4, z5⟩ := row3 hZ_wy
          go_wp2_with fail
          obtain ⟨a0, a1, a2, _, _, _⟩ := row3 (row3_set (x := D) (y := (P ++ Ln)) (u := (z + 1)) hZ_wy)
          have BZ := below3 (b := w.heap.size + 2) (x := D) (y := (P ++ Ln)) (u := (z + 1)) By (by omega)
          generalize ((wy.setCell ⟨(w.heap.size + 2), 0, none⟩ (.string D)).setCell ⟨(w.heap.size + 2), 1, none⟩ (.string (P ++ Ln))).setCell ⟨(w.heap.size + 2), 2, none⟩ (.int .i64 (z + 1)) = WZ at *
          (try simp only [Exit.inBlock, Exit.then]); refine bodyPost_ret (by simp [results, Tryd.results9, go_sem, a0, a1, a2]; try rfl) rfl ?_
          exact ⟨rfl, BZ⟩
        · go_simp
          refine (HE.out _).mono ?_
          rintro e wa ⟨rfl, hb_wa⟩
          have hL_wa := rowB hL_w2 hb_wa
          have hR_wa := rowB hR_w2 hb_wa
          have hZ_wa := rowB hZ_w2 hb_wa
          have B_wa := below_of B_w2 hb_wa B_w2.size
          have S_wa : (fun w' => w'.cell? ⟨w.heap.size, 2, none⟩ = some (.int .i64 z) ∧ w'.cell? ⟨w.heap.size + 1, 0, none⟩ = some (.string c) ∧ w'.cell? ⟨w.heap.size + 1, 1, none⟩ = some (.string r)) wa := ⟨(row3 hL_wa).2.2.1, (row2 hR_wa).1, (row2 hR_wa).2.1⟩
          refine hK.out _ _ S_wa (fun hHeld => ?_)
          clear hK K
          refine wpAnyH_ready (rs := [1]) (by kernel_rfl) (by simp) ?_
          refine (AllReadyH.cons rfl (fun K hK => ?_) AllReadyH.nil)
          have l1 := (row3 hL_wa).2.1
          go_simp
          refine hK.out _ _ hHeld (fun hHeld => ?_)
          clear hK K l1
          refine wpAnyH_takeD (i := 6) (d := 25) (v := ?_) rfl (by kernel_rfl) (by kernel_rfl) (by kernel_rfl) (fun _ _ _ h => h) (by rfl) ?_ hHeld ?_
          rotate_left
          · intro wS hS
            refine run_add_strP ⟨_, _, rfl, rfl, by omega, ?_⟩
            with_reducible rfl
          simp only [Act.put, List.setIfInBounds_toArray, List.set_cons_zero, List.set_cons_succ]
          refine wpAnyH_takeD (i := 7) (d := 26) (v := ?_) rfl (by kernel_rfl) (by kernel_rfl) (by kernel_rfl) (fun _ _ _ h => h) (by rfl) ?_ hHeld ?_
          rotate_left
          · intro wS hS
            obtain ⟨eF0, eF1, eF2⟩ := hS
            go_simp
            try with_reducible rfl
          simp only [Act.put, List.setIfInBounds_toArray, List.set_cons_zero, List.set_cons_succ]
          refine wpAnyH_ready (rs := [8]) (by kernel_rfl) (by simp) ?_
          refine (AllReadyH.cons rfl (fun K hK => ?_) AllReadyH.nil)
          obtain ⟨l0, l1, l2, lf0, lf1, lf2⟩ := row3 hL_wa
          have hLx := row3_set1 (y := P ++ Ln) hL_wa
          have hRx := row_far hR_wa ⟨w.heap.size, 1, none⟩ (.string (P ++ Ln)) (by simp)
          have hZx := row_far hZ_wa ⟨w.heap.size, 1, none⟩ (.string (P ++ Ln)) (by simp)
          have Bx : Below w.heap.size w (wa.setCell ⟨w.heap.size, 1, none⟩ (.string (P ++ Ln))) := B_wa.setCell (Nat.le_refl _) _
          go_simp
          generalize (wa.setCell ⟨w.heap.size, 1, none⟩ (.string (P ++ Ln))) = wb at *
          have hL_wb := hLx
          have hR_wb := hRx
          have hZ_wb := hZx
          have B_wb := Bx
          refine hK.out _ _ ⟨(row3 hL_wb).2.2.1, (row2 hR_wb).1, (row2 hR_wb).2.1⟩ (fun hHeld => ?_)
          clear hK K hLx hRx hZx Bx l0 l1 l2 lf0 lf1 lf2
          refine wpAnyH_done (by kernel_rfl) ?_ _
          have hLy := row3_set2 (u := z + 1) hL_wb
          have hZy := row_far hZ_wb ⟨w.heap.size, 2, none⟩ (.int .i64 (z + 1)) (by simp)
          have By : Below w.heap.size w (wb.setCell ⟨w.heap.size, 2, none⟩ (.int .i64 (z + 1))) := B_wb.setCell (Nat.le_refl _) _
          obtain ⟨m0, m1, m2, m3, m4, m5⟩ := row3 hL_wb
          go_upto_region 7 with fail
          generalize (wb.setCell ⟨w.heap.size, 2, none⟩ (.int .i64 (z + 1))) = wy at *
          have hL_wy := hLy
          have hZ_wy := hZy
          clear m0 m1 m2 m3 m4 m5 hLy hZy
          obtain ⟨l0, l1, l2, lf0, lf1, lf2⟩ := row3 hL_wy
          obtain ⟨z0, z1, z2, z3, z4, z5⟩ := row3 hZ_wy
          go_wp2_with fail
          obtain ⟨a0, a1, a2, _, _, _⟩ := row3 (row3_set (x := D) (y := (P ++ Ln)) (u := (z + 1)) hZ_wy)
          have BZ := below3 (b := w.heap.size + 2) (x := D) (y := (P ++ Ln)) (u := (z + 1)) By (by omega)
          generalize ((wy.setCell ⟨(w.heap.size + 2), 0, none⟩ (.string D)).setCell ⟨(w.heap.size + 2), 1, none⟩ (.string (P ++ Ln))).setCell ⟨(w.heap.size + 2), 2, none⟩ (.int .i64 (z + 1)) = WZ at *
          (try simp only [Exit.inBlock, Exit.then]); refine bodyPost_ret (by simp [results, Tryd.results9, go_sem, a0, a1, a2]; try rfl) rfl ?_
          exact ⟨rfl, BZ⟩
end Go.Proofs.YtbhhlnciojcgbaaDoor
