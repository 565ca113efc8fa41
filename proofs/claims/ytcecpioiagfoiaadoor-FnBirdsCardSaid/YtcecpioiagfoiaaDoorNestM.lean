/-
  PathPast of the reference: the nests near a path, each put behind those that are not farther up.
-/
import Derived.Test.YtcecpioiagfoiaaDoorNestC
import Derived.Test.YtcecpioiagfoiaaDoorRowW
import Derived.Test.YtcecpioiagfoiaaDoorNestK
import Derived.BigGuardPart
import Derived.Lib.Hide
import Derived.Deep.QuietTactic
import Derived.BigQuiet
namespace Go.Proofs.YtcecpioiagfoiaaDoor
open Go.RowKit
set_option linter.unusedVariables false
set_option linter.unusedSimpArgs false
attribute [local go_sem ↓] Go.wp_at_zero Go.wp_at_succ
theorem infoNest : (Tryd.prog.info? 36).map (fun i => (i.zero, i.size, i.bytes)) = some (some (.agg #[.int .i64 0, .int .i64 0, .int .i64 0, .int .i64 0, .int .i64 0, .int .i64 0, .int .i64 0]), 7, 56) := by kernel_rfl
def pastMv (f : Nat → Int) (p n : Nat) : Bool := decide (f (n * 7 + 6) < f (p * 7 + 6))
def pastB (f : Nat → Int) (x day : Int) (k : Nat) : Bool := aliveAt f day k && inR (f (k * 7 + 5) - x) (-49) 49
def pastOk (f : Nat → Int) (n : Nat) (x day : Int) : Bool := goodNests f n && inR x 0 999 && inR day 0 4000
def pastL (f : Nat → Int) (x day : Int) (k : Nat) : List Nat := isortL (pastMv f) (pickN (pastB f x day) k)
def idsOf (f : Nat → Int) (L : List Nat) : List Int := L.map fun p => f (p * 7)
def pastRes (f : Nat → Int) (n : Nat) (x day : Int) : List Int := if pastOk f n x day then idsOf f (pastL f x day n) else []
theorem pastL_len (f : Nat → Int) (x day : Int) (k : Nat) : (pastL f x day k).length ≤ k := by
  rw [pastL, isortL_length]; exact pickN_len _ k
theorem pastRes_len (f : Nat → Int) (n : Nat) (x day : Int) : (pastRes f n x day).length ≤ n := by
  unfold pastRes
  split
  · rw [idsOf, List.length_map]; exact pastL_len f x day n
  · simp
theorem pastL_yes {f : Nat → Int} {x day : Int} {k : Nat} (h : pastB f x day k = true) : pastL f x day (k + 1) = insI (pastMv f) (pastL f x day k) k := by
  rw [pastL, pickN_yes h, isortL_snoc]; rfl
theorem pastL_no {f : Nat → Int} {x day : Int} {k : Nat} (h : pastB f x day k = false) : pastL f x day (k + 1) = pastL f x day k := by
  rw [pastL, pickN_no h]; rfl
theorem pastL_lt (f : Nat → Int) (x day : Int) (n : Nat) : ∀ j ∈ pastL f x day n, j < n := by
  intro j hj
  rw [pastL, isortL_mem] at hj
  exact (pickN_lt _ n j hj).1
theorem row_one (f : Nat → Int) (k : Nat) : rowsOf f 7 [k] = [f (k * 7), f (k * 7 + 1), f (k * 7 + 2), f (k * 7 + 3), f (k * 7 + 4), f (k * 7 + 5), f (k * 7 + 6)] := rfl
theorem getD_lt {L : List Nat} {n m : Nat} (h : ∀ j ∈ L, j < n) (hm : m < L.length) : L.getD m 0 < n := by
  rw [List.getD_eq_getElem?_getD, List.getElem?_eq_getElem hm]
  exact h _ (List.getElem_mem hm)

set_option maxRecDepth 100000 in
set_option maxHeartbeats 4000000 in
theorem sPathPast_any (A : Option Addr) (n c lo hi : Nat) (f : Nat → Int) (x day : Int) (w : World) (hs : Sl w lo hi 7 A n f) (hn : n ≤ 1048576) (hnc : n ≤ c) :
    Calls Tryd.prog 15 #[.slice A n c, .int .i64 x, .int .i64 day] w (IntsPost 3 w (pastRes f n x day) (pastOk f n x day)) := by
  have HS : Hid (Sl w lo hi 7 A n f) := hs
  clear hs
  cases hg : goodNests f n with
  | false =>
    have hr : pastRes f n x day = [] := by simp [pastRes, pastOk, hg]
    have hk : pastOk f n x day = false := by simp [pastOk, hg]
    rw [hr, hk]
    clear hr hk
    go_enter Tryd.func15, Tryd.ntmps15
    go_wp2_with fail
    have hz0 : Below w.heap.size w (w.alloc (.cells #[] 3)) := (Below.refl _ w).alloc (Nat.le_refl _) _
    refine (sNestAll_any A n c lo hi f _ (HS.out.below hz0) hn hnc).mono ?_
    rintro e w1 ⟨rfl, hb1'⟩
    have hb1 := below_of hz0 hb1' hz0.size
    have ho1 : w1.ownsRow w.heap.size 3 1 (.slice (some ⟨w.heap.size, 0, none⟩) 0 0) 0 [] := ownsRow_below (World.ownsRow_made w #[] 0 (Nat.le_refl _) (by unfold maxLen; omega) rfl) hb1'
    clear hb1' hz0
    go_wp2
    go_ret2
    exact IntsPost.mk_ (zs := []) ho1 hb1
  | true =>
    have h12 := goodNests_len hg
    cases hx : inR x 0 999 with
    | false =>
      have hr : pastRes f n x day = [] := by simp [pastRes, pastOk, hx]
      have hk : pastOk f n x day = false := by simp [pastOk, hx]
      rw [hr, hk]
      clear hr hk
      go_enter Tryd.func15, Tryd.ntmps15
      go_wp2_with fail
      have hz0 : Below w.heap.size w (w.alloc (.cells #[] 3)) := (Below.refl _ w).alloc (Nat.le_refl _) _
      refine (sNestAll_any A n c lo hi f _ (HS.out.below hz0) hn hnc).mono ?_
      rintro e w1 ⟨rfl, hb1'⟩
      have hb1 := below_of hz0 hb1' hz0.size
      have ho1 : w1.ownsRow w.heap.size 3 1 (.slice (some ⟨w.heap.size, 0, none⟩) 0 0) 0 [] := ownsRow_below (World.ownsRow_made w #[] 0 (Nat.le_refl _) (by unfold maxLen; omega) rfl) hb1'
      clear hb1' hz0
      go_wp2_with fail
      refine (l24Meter_any _ _).mono ?_
      rintro e w2 ⟨rfl, rfl⟩
      go_wp2
      go_ret2
      exact IntsPost.mk_ (zs := []) ho1 hb1
    | true =>
      cases hz : inR day 0 4000 with
      | false =>
        have hr : pastRes f n x day = [] := by simp [pastRes, pastOk, hz]
        have hk : pastOk f n x day = false := by simp [pastOk, hz]
        rw [hr, hk]
        clear hr hk
        go_enter Tryd.func15, Tryd.ntmps15
        go_wp2_with fail
        have hz0 : Below w.heap.size w (w.alloc (.cells #[] 3)) := (Below.refl _ w).alloc (Nat.le_refl _) _
        refine (sNestAll_any A n c lo hi f _ (HS.out.below hz0) hn hnc).mono ?_
        rintro e w1 ⟨rfl, hb1'⟩
        have hb1 := below_of hz0 hb1' hz0.size
        have ho1 : w1.ownsRow w.heap.size 3 1 (.slice (some ⟨w.heap.size, 0, none⟩) 0 0) 0 [] := ownsRow_below (World.ownsRow_made w #[] 0 (Nat.le_refl _) (by unfold maxLen; omega) rfl) hb1'
        clear hb1' hz0
        go_wp2_with fail
        refine (l24Meter_any _ _).mono ?_
        rintro e w2 ⟨rfl, rfl⟩
        go_wp2_with fail
        refine (l2Day_any _ _).mono ?_
        rintro e w2 ⟨rfl, rfl⟩
        go_wp2
        go_ret2
        exact IntsPost.mk_ (zs := []) ho1 hb1
      | true =>
        have hr : pastRes f n x day = idsOf f (pastL f x day n) := by simp [pastRes, pastOk, hg, hx, hz]
        have hk : pastOk f n x day = true := by simp [pastOk, hg, hx, hz]
        rw [hr, hk]
        clear hr hk
        have hxr : 0 ≤ x ∧ x ≤ 999 := by simpa [inR] using hx
        obtain ⟨hx1, hx2⟩ := hxr
        have HG := Lib.hid hg
        go_enter Tryd.func15, Tryd.ntmps15
        go_wp2_with fail
        have hz0 : Below w.heap.size w (w.alloc (.cells #[] 3)) := (Below.refl _ w).alloc (Nat.le_refl _) _
        refine (sNestAll_any A n c lo hi f _ (HS.out.below hz0) hn hnc).mono ?_
        rintro e w1 ⟨rfl, hb1'⟩
        have hb1 := below_of hz0 hb1' hz0.size
        have ho1 : w1.ownsRow w.heap.size 3 1 (.slice (some ⟨w.heap.size, 0, none⟩) 0 0) 0 [] := ownsRow_below (World.ownsRow_made w #[] 0 (Nat.le_refl _) (by unfold maxLen; omega) rfl) hb1'
        clear hb1' hz0
        go_wp2_with fail
        refine (l24Meter_any _ _).mono ?_
        rintro e w2 ⟨rfl, rfl⟩
        go_wp2_with fail
        refine (l2Day_any _ _).mono ?_
        rintro e w2 ⟨rfl, rfl⟩
        go_wp2_with fail
        go_loopw [9, 10, 11, 12] (fun ov iv nv kv wr => ∃ i : Nat, i ≤ n ∧ iv = .int .i64 i ∧ RRow f 7 36 wr w.heap.size ov (pastL f x day i) ∧ wr.ownsRow w.heap.size 3 1 (.slice (some ⟨w.heap.size, 0, none⟩) 0 0) 0 [] ∧ Below w.heap.size w wr) (fun _ iv _ _ _ => n - (intOf iv).toNat)
        case atStart => exact ⟨0, Nat.zero_le _, rfl, RRow.of (L := []) rfl (World.ownsRow_made w1 #[] 0 hb1.size (by unfold maxLen; omega) rfl), ho1.alloc _, hb1.alloc hb1.size _⟩
        case round =>
          obtain ⟨i, hi', rfl, hro, hou, hB⟩ := hrel
          have HO := Lib.hid hro
          have HU := Lib.hid hou
          clear hro hou hb1 ho1
          by_cases hlt : i < n
          · obtain ⟨b, off, rfl, hbw, HC⟩ := HS.out.open_ hB (by omega)
            obtain ⟨c0, c1, c2, c3, c4, c5, c6⟩ := cell7 HC hlt
            have hok := goodNests_row HG.out hlt
            have hX : 0 ≤ f (i * 7 + 5) ∧ f (i * 7 + 5) ≤ 999 := by
              simp only [okNestAt, okNest, decide_eq_true_eq] at hok
              omega
            obtain ⟨hX1, hX2⟩ := hX
            have hi0i : (0 : Int) ≤ (i : Int) := by omega
            have hini : (i : Int) < (n : Int) := by omega
            have hAl := (Below.refl _ wr).alloc (Nat.le_refl _) (.cells #[.int .i64 (f (i * 7)), .int .i64 (f (i * 7 + 1)), .int .i64 (f (i * 7 + 2)), .int .i64 (f (i * 7 + 3)), .int .i64 (f (i * 7 + 4)), .int .i64 (f (i * 7 + 5)), .int .i64 (f (i * 7 + 6))] 36)
            clear hok HC HS
            cases ht : aliveV (f (i * 7 + 3)) (f (i * 7 + 4)) day with
            | false =>
              have HPB : Hid (pastB f x day i = false) := by show _ = _; unfold pastB aliveAt; rw [ht]; rfl
              go_wp2_with fail
              refine (l24Alive_any _ _ _ _ _ _ _ _ _).mono ?_
              rintro e w2 ⟨rfl, hb2⟩
              rw [ht]
              have hB2 := below_of (hB.alloc hB.size _) hb2 (hB.alloc hB.size _).size
              have hO2 := Lib.hid ((HO.out.below hAl).below hb2)
              have hU2 := Lib.hid (ownsRow_below (ownsRow_below HU.out hAl) hb2)
              clear hb2 HO HU hB hAl c0 c1 c2 c3 c4 c5 c6
              go_wp2
              go_roundw
              case rel => exact ⟨i + 1, by omega, by go_num, by rw [pastL_no HPB.out]; exact hO2.out, hU2.out, hB2⟩
              case measure => simp [intOf]; omega
            | true =>
              go_wp2_with fail
              refine (l24Alive_any _ _ _ _ _ _ _ _ _).mono ?_
              rintro e w2 ⟨rfl, hb2⟩
              rw [ht]
              have hB2 := below_of (hB.alloc hB.size _) hb2 (hB.alloc hB.size _).size
              have hO2 := Lib.hid ((HO.out.below hAl).below hb2)
              have hU2 := Lib.hid (ownsRow_below (ownsRow_below HU.out hAl) hb2)
              have hnb : wr.heap.size < w2.heap.size := Nat.lt_of_lt_of_le (by simp) hb2.size
              have hbx := heap_alloc_new wr (.cells #[.int .i64 (f (i * 7)), .int .i64 (f (i * 7 + 1)), .int .i64 (f (i * 7 + 2)), .int .i64 (f (i * 7 + 3)), .int .i64 (f (i * 7 + 4)), .int .i64 (f (i * 7 + 5)), .int .i64 (f (i * 7 + 6))] 36)
              have n0 : w2.cell? ⟨wr.heap.size, 0, none⟩ = some (.int .i64 (f (i * 7))) := (hb2.cell (p := ⟨wr.heap.size, 0, none⟩) (by simp)).trans (by rw [cell_of_row _ wr.heap.size 0 _ _ (0, 0) hbx]; rfl)
              have n1 : w2.cell? ⟨wr.heap.size, 1, none⟩ = some (.int .i64 (f (i * 7 + 1))) := (hb2.cell (p := ⟨wr.heap.size, 1, none⟩) (by simp)).trans (by rw [cell_of_row _ wr.heap.size 1 _ _ (0, 0) hbx]; rfl)
              have n2 : w2.cell? ⟨wr.heap.size, 2, none⟩ = some (.int .i64 (f (i * 7 + 2))) := (hb2.cell (p := ⟨wr.heap.size, 2, none⟩) (by simp)).trans (by rw [cell_of_row _ wr.heap.size 2 _ _ (0, 0) hbx]; rfl)
              have n3 : w2.cell? ⟨wr.heap.size, 3, none⟩ = some (.int .i64 (f (i * 7 + 3))) := (hb2.cell (p := ⟨wr.heap.size, 3, none⟩) (by simp)).trans (by rw [cell_of_row _ wr.heap.size 3 _ _ (0, 0) hbx]; rfl)
              have n4 : w2.cell? ⟨wr.heap.size, 4, none⟩ = some (.int .i64 (f (i * 7 + 4))) := (hb2.cell (p := ⟨wr.heap.size, 4, none⟩) (by simp)).trans (by rw [cell_of_row _ wr.heap.size 4 _ _ (0, 0) hbx]; rfl)
              have n5 : w2.cell? ⟨wr.heap.size, 5, none⟩ = some (.int .i64 (f (i * 7 + 5))) := (hb2.cell (p := ⟨wr.heap.size, 5, none⟩) (by simp)).trans (by rw [cell_of_row _ wr.heap.size 5 _ _ (0, 0) hbx]; rfl)
              have n6 : w2.cell? ⟨wr.heap.size, 6, none⟩ = some (.int .i64 (f (i * 7 + 6))) := (hb2.cell (p := ⟨wr.heap.size, 6, none⟩) (by simp)).trans (by rw [cell_of_row _ wr.heap.size 6 _ _ (0, 0) hbx]; rfl)
              clear hb2 HO HU hB hAl c0 c1 c2 c3 c4 c5 c6 hbx
              generalize wr.heap.size = nb at *
              cases hq : inR (f (i * 7 + 5) - x) (-49) 49 with
              | false =>
                have HPB : Hid (pastB f x day i = false) := by show _ = _; unfold pastB; rw [hq, Bool.and_false]
                go_wp2_with fail
                refine (l1In_any _ _ _ _).mono ?_
                rintro e w3 ⟨rfl, rfl⟩
                rw [hq]
                go_wp2
                go_roundw
                case rel => exact ⟨i + 1, by omega, by go_num, by rw [pastL_no HPB.out]; exact hO2.out, hU2.out, hB2⟩
                case measure => simp [intOf]; omega
              | true =>
                have HPB : Hid (pastB f x day i = true) := by show _ = _; unfold pastB aliveAt; rw [hq, ht]; rfl
                go_wp2_with fail
                refine (l1In_any _ _ _ _).mono ?_
                rintro e w3 ⟨rfl, rfl⟩
                rw [hq]
                have hL12 := pastL_len f x day i
                generalize hLL : pastL f x day i = L at *
                have HL := Lib.hid hLL
                obtain ⟨⟨g, gc, rfl, hgc, hgcm, hgl0, hg0⟩, hown⟩ := hO2.out
                obtain ⟨l, hl⟩ : ∃ l, l = L.length := ⟨_, rfl⟩
                rw [← hl] at hgc hL12 hown ⊢
                have HN := Lib.hid hl
                have HOW := Lib.hid hown
                have hgc8 : gc ≤ 9223372036854775807 := by unfold maxLen at hgcm; omega
                clear hown hO2 hl hLL hgcm
                go_wp2_with fail
                go_loopw [12] (fun kv wr => ∃ k : Nat, k ≤ l ∧ kv = .int .i64 k ∧ stopI (pastMv f) L i l = stopI (pastMv f) L i k ∧ Below w2.heap.size w2 wr) (fun kv _ => (intOf kv).toNat)
                case atStart => exact ⟨l, Nat.le_refl _, rfl, rfl, Below.refl _ _⟩
                case round =>
                  obtain ⟨k, hk, rfl, hst, hb3⟩ := hrel
                  have HS1 := Lib.hid hst
                  have HO2 := Lib.hid (ownsRow_below HOW.out hb3)
                  have HU2 := Lib.hid (ownsRow_below hU2.out hb3)
                  replace hB2 := below_of hB2 hb3 hB2.size
                  replace n0 := (hb3.cell (p := ⟨nb, 0, none⟩) hnb).trans n0
                  replace n1 := (hb3.cell (p := ⟨nb, 1, none⟩) hnb).trans n1
                  replace n2 := (hb3.cell (p := ⟨nb, 2, none⟩) hnb).trans n2
                  replace n3 := (hb3.cell (p := ⟨nb, 3, none⟩) hnb).trans n3
                  replace n4 := (hb3.cell (p := ⟨nb, 4, none⟩) hnb).trans n4
                  replace n5 := (hb3.cell (p := ⟨nb, 5, none⟩) hnb).trans n5
                  replace n6 := (hb3.cell (p := ⟨nb, 6, none⟩) hnb).trans n6
                  replace hnb := Nat.lt_of_lt_of_le hnb hb3.size
                  clear hst HOW hU2
                  by_cases hk0 : k = 0
                  · have HST : Hid (stopI (pastMv f) L i L.length = k) := by show _ = _; rw [← HN.out, HS1.out, hk0]; rfl
                    have g1 : ¬ ((0 : Int) < (k : Int)) := by omega
                    have g2 : ¬ (0 < k) := by omega
                    have g3 : decide ((0 : Int) < (k : Int)) = false := by simp; omega
                    have g4 : decide (0 < k) = false := by simp; omega
                    have HK0 := Lib.hid hk0
                    clear hk0
                    go_wp2_with fail
                    go_quiet (fail)
                    have hHq : Below wr.heap.size wr (wr.drewN nq) := below_drewN (Below.refl _ _) _
                    generalize wr.drewN nq = wq at hHq ⊢
                    have HOWN := Lib.hid (ownsRow_below HO2.out hHq)
                    have HOUT := Lib.hid (ownsRow_below HU2.out hHq)
                    have hBX := below_of hB2 hHq hB2.size
                    have hlo := hBX.size
                    replace n0 := (hHq.cell (p := ⟨nb, 0, none⟩) hnb).trans n0
                    replace n1 := (hHq.cell (p := ⟨nb, 1, none⟩) hnb).trans n1
                    replace n2 := (hHq.cell (p := ⟨nb, 2, none⟩) hnb).trans n2
                    replace n3 := (hHq.cell (p := ⟨nb, 3, none⟩) hnb).trans n3
                    replace n4 := (hHq.cell (p := ⟨nb, 4, none⟩) hnb).trans n4
                    replace n5 := (hHq.cell (p := ⟨nb, 5, none⟩) hnb).trans n5
                    replace n6 := (hHq.cell (p := ⟨nb, 6, none⟩) hnb).trans n6
                    replace hnb := Nat.lt_of_lt_of_le hnb hHq.size
                    clear HO2 HU2 hB2 hHq
                    clear g1 g2 g3 g4
                    by_cases hkl : k < l
                    · have hgcn : ¬ (gc = k) := by omega
                      have hkg : k ≤ gc := by omega
                      have hkg2 : (k : Int) ≤ (gc : Int) := by omega
                      have hkl3 : k ≤ l := by omega
                      go_wp2_with fail
                      have HF : Hid (∀ w', Below wq.heap.size wq w' → w'.cell? ⟨nb, 0, none⟩ = some (.int .i64 (f (i * 7))) ∧ w'.cell? ⟨nb, 1, none⟩ = some (.int .i64 (f (i * 7 + 1))) ∧ w'.cell? ⟨nb, 2, none⟩ = some (.int .i64 (f (i * 7 + 2))) ∧ w'.cell? ⟨nb, 3, none⟩ = some (.int .i64 (f (i * 7 + 3))) ∧ w'.cell? ⟨nb, 4, none⟩ = some (.int .i64 (f (i * 7 + 4))) ∧ w'.cell? ⟨nb, 5, none⟩ = some (.int .i64 (f (i * 7 + 5))) ∧ w'.cell? ⟨nb, 6, none⟩ = some (.int .i64 (f (i * 7 + 6)))) := by
                        intro w' hb'
                        exact ⟨(hb'.cell (p := ⟨nb, 0, none⟩) hnb).trans n0, (hb'.cell (p := ⟨nb, 1, none⟩) hnb).trans n1, (hb'.cell (p := ⟨nb, 2, none⟩) hnb).trans n2, (hb'.cell (p := ⟨nb, 3, none⟩) hnb).trans n3, (hb'.cell (p := ⟨nb, 4, none⟩) hnb).trans n4, (hb'.cell (p := ⟨nb, 5, none⟩) hnb).trans n5, (hb'.cell (p := ⟨nb, 6, none⟩) hnb).trans n6⟩
                      refine wp_region_held_drew (S := fun w' => Below (wq).heap.size (wq) w') (by kernel_rfl) ((Below.refl _ _).drew) (fun hHeld => ?_)
                      refine wpAnyH_takeD (i := 1) (d := 70) (v := ?_) rfl (by kernel_rfl) (by kernel_rfl) (by kernel_rfl) (fun _ _ _ h => h) (by rfl) ?_ hHeld ?_
                      rotate_left
                      · intro wS hS
                        have eF := HF.out wS hS
                        go_simp
                        try with_reducible rfl
                      simp only [Act.put, List.setIfInBounds_toArray, List.set_cons_zero, List.set_cons_succ]
                      refine wpAnyH_takeD (i := 2) (d := 71) (v := ?_) rfl (by kernel_rfl) (by kernel_rfl) (by kernel_rfl) (fun _ _ _ h => h) (by rfl) ?_ hHeld ?_
                      rotate_left
                      · intro wS hS
                        have eF := HF.out wS hS
                        go_simp
                        try with_reducible rfl
                      simp only [Act.put, List.setIfInBounds_toArray, List.set_cons_zero, List.set_cons_succ]
                      refine wpAnyH_takeD (i := 3) (d := 72) (v := ?_) rfl (by kernel_rfl) (by kernel_rfl) (by kernel_rfl) (fun _ _ _ h => h) (by rfl) ?_ hHeld ?_
                      rotate_left
                      · intro wS hS
                        have eF := HF.out wS hS
                        go_simp
                        try with_reducible rfl
                      simp only [Act.put, List.setIfInBounds_toArray, List.set_cons_zero, List.set_cons_succ]
                      refine wpAnyH_takeD (i := 5) (d := 74) (v := ?_) rfl (by kernel_rfl) (by kernel_rfl) (by kernel_rfl) (fun _ _ _ h => h) (by rfl) ?_ hHeld ?_
                      rotate_left
                      · intro wS hS
                        have eF := HF.out wS hS
                        go_simp
                        try with_reducible rfl
                      simp only [Act.put, List.setIfInBounds_toArray, List.set_cons_zero, List.set_cons_succ]
                      refine wpAnyH_takeD (i := 8) (d := 77) (v := ?_) rfl (by kernel_rfl) (by kernel_rfl) (by kernel_rfl) (fun _ _ _ h => h) (by rfl) ?_ hHeld ?_
                      rotate_left
                      · intro wS hS
                        have eF := HF.out wS hS
                        go_simp
                        try with_reducible rfl
                      simp only [Act.put, List.setIfInBounds_toArray, List.set_cons_zero, List.set_cons_succ]
                      refine wpAnyH_takeD (i := 9) (d := 78) (v := ?_) rfl (by kernel_rfl) (by kernel_rfl) (by kernel_rfl) (fun _ _ _ h => h) (by rfl) ?_ hHeld ?_
                      rotate_left
                      · intro wS hS
                        have eF := HF.out wS hS
                        go_simp
                        try with_reducible rfl
                      simp only [Act.put, List.setIfInBounds_toArray, List.set_cons_zero, List.set_cons_succ]
                      refine wpAnyH_takeD (i := 10) (d := 79) (v := ?_) rfl (by kernel_rfl) (by kernel_rfl) (by kernel_rfl) (fun _ _ _ h => h) (by rfl) ?_ hHeld ?_
                      rotate_left
                      · intro wS hS
                        have eF := HF.out wS hS
                        go_simp
                        try with_reducible rfl
                      simp only [Act.put, List.setIfInBounds_toArray, List.set_cons_zero, List.set_cons_succ]
                      refine wpAnyH_append3 (fuel := 1) (i0 := 0) (i1 := 4) (iB := 6) (i2 := 7) (i3 := 11) (d0 := 69) (d1 := 73) (dB := 75) (d2 := 76) (d3 := 80) (j1 := 72) (j3 := 79) rfl rfl rfl rfl rfl ⟨rfl, rfl⟩ ⟨rfl, rfl⟩ (by kernel_rfl) (by kernel_rfl) (by kernel_rfl) (by kernel_rfl) (by kernel_rfl) (by kernel_rfl) (by kernel_rfl) (by decide) (by decide) (by simp) 36 7 56 (.agg #[.int .i64 0, .int .i64 0, .int .i64 0, .int .i64 0, .int .i64 0, .int .i64 0, .int .i64 0]) Tryd.underlying24 infoNest rfl (by decide) (by decide) ?run0ZA [f (i * 7), f (i * 7 + 1), f (i * 7 + 2), f (i * 7 + 3), f (i * 7 + 4), f (i * 7 + 5), f (i * 7 + 6)] rfl ?runBZA (rowsOf f 7 (L.take k)) (rowsOf f 7 (L.drop k)) k gc (l - k) (gc - k) (some ⟨g, 0, none⟩) (some ⟨g, k * 7, none⟩) rfl rfl hHeld ?s1ZA ?s3ZA (by omega) ?nextZA
                      case run0ZA => intro a w; go_simp
                      case runBZA =>
                        intro a' w hev
                        have h1 : a'.eval (.tmp 74) = .agg #[.int .i64 (f (i * 7)), .int .i64 (f (i * 7 + 1)), .int .i64 (f (i * 7 + 2)), .int .i64 (f (i * 7 + 3)), .int .i64 (f (i * 7 + 4)), .int .i64 (f (i * 7 + 5)), .int .i64 (f (i * 7 + 6))] := (hev 74 (by decide) (by decide)).trans rfl
                        have h2 : a'.tmps[74]?.getD undef = .agg #[.int .i64 (f (i * 7)), .int .i64 (f (i * 7 + 1)), .int .i64 (f (i * 7 + 2)), .int .i64 (f (i * 7 + 3)), .int .i64 (f (i * 7 + 4)), .int .i64 (f (i * 7 + 5)), .int .i64 (f (i * 7 + 6))] := by simpa [Act.eval] using h1
                        clear h1 hev
                        go_simp
                      case s1ZA =>
                        intro w' hb'
                        exact RRow.srcTake (ownsRow_below HOWN.out hb') HN.out k gc (by omega)
                      case s3ZA =>
                        intro w' hb'
                        exact RRow.srcDrop (ownsRow_below HOWN.out hb') HN.out k (gc - k) (by omega)
                      case nextZA =>
                        intro u0 u1 uB u2 g' c' w' hc1 hc2 hg1 hown' hB'
                        clear hHeld
                        have hHeld := hB'
                        simp only [Act.put, List.setIfInBounds_toArray, List.set_cons_zero, List.set_cons_succ]
                        refine wpAnyH_takeD (i := 12) (d := 9) (v := ?_) rfl (by kernel_rfl) (by kernel_rfl) (by kernel_rfl) (fun _ _ _ h => h) (by rfl) ?_ hHeld ?_
                        rotate_left
                        · intro wS hS
                          have eF := HF.out wS hS
                          go_simp
                          try with_reducible rfl
                        simp only [Act.put, List.setIfInBounds_toArray, List.set_cons_zero, List.set_cons_succ]
                        refine wpAnyH_done (by kernel_rfl) ?_ _
                        try simp only [Nat.add_zero] at hown' hc1
                        have hl : k + 1 + (l - k) = (insI (pastMv f) L i).length := by rw [insI_length]; have := HN.out; omega
                        have hrow : rowsOf f 7 (L.take k) ++ [f (i * 7), f (i * 7 + 1), f (i * 7 + 2), f (i * 7 + 3), f (i * 7 + 4), f (i * 7 + 5), f (i * 7 + 6)] ++ rowsOf f 7 (L.drop k) = rowsOf f 7 (insI (pastMv f) L i) := by
                          have hst := HST.out
                          have hins : insI (pastMv f) L i = L.take k ++ i :: L.drop k := by unfold insI; rw [hst]
                          rw [hins, rowsOf_append, List.append_assoc]
                          rfl
                        rw [hrow] at hown'
                        have hr' := Lib.hid (RRow.of hl (ownsRow_mono hown' hlo))
                        have hBn := below_of hBX hB' hBX.size
                        clear hown' hHeld
                        go_wp2
                        go_roundw
                        case rel => exact ⟨i + 1, by omega, by go_num, by rw [pastL_yes HPB.out, HL.out]; exact hr'.out, ownsRow_below HOUT.out hB', hBn⟩
                        case measure => simp [intOf]; omega
                    · have hkl2 : k = l := by omega
                      clear hkl
                      subst hkl2
                      by_cases hgl : gc = k
                      · subst hgl
                        go_wp2_with fail
                        have HF : Hid (∀ w', Below wq.heap.size wq w' → w'.cell? ⟨nb, 0, none⟩ = some (.int .i64 (f (i * 7))) ∧ w'.cell? ⟨nb, 1, none⟩ = some (.int .i64 (f (i * 7 + 1))) ∧ w'.cell? ⟨nb, 2, none⟩ = some (.int .i64 (f (i * 7 + 2))) ∧ w'.cell? ⟨nb, 3, none⟩ = some (.int .i64 (f (i * 7 + 3))) ∧ w'.cell? ⟨nb, 4, none⟩ = some (.int .i64 (f (i * 7 + 4))) ∧ w'.cell? ⟨nb, 5, none⟩ = some (.int .i64 (f (i * 7 + 5))) ∧ w'.cell? ⟨nb, 6, none⟩ = some (.int .i64 (f (i * 7 + 6)))) := by
                          intro w' hb'
                          exact ⟨(hb'.cell (p := ⟨nb, 0, none⟩) hnb).trans n0, (hb'.cell (p := ⟨nb, 1, none⟩) hnb).trans n1, (hb'.cell (p := ⟨nb, 2, none⟩) hnb).trans n2, (hb'.cell (p := ⟨nb, 3, none⟩) hnb).trans n3, (hb'.cell (p := ⟨nb, 4, none⟩) hnb).trans n4, (hb'.cell (p := ⟨nb, 5, none⟩) hnb).trans n5, (hb'.cell (p := ⟨nb, 6, none⟩) hnb).trans n6⟩
                        refine wp_region_held_drew (S := fun w' => Below (wq).heap.size (wq) w') (by kernel_rfl) ((Below.refl _ _).drew) (fun hHeld => ?_)
                        refine wpAnyH_takeD (i := 1) (d := 70) (v := ?_) rfl (by kernel_rfl) (by kernel_rfl) (by kernel_rfl) (fun _ _ _ h => h) (by rfl) ?_ hHeld ?_
                        rotate_left
                        · intro wS hS
                          have eF := HF.out wS hS
                          go_simp
                          try with_reducible rfl
                        simp only [Act.put, List.setIfInBounds_toArray, List.set_cons_zero, List.set_cons_succ]
                        refine wpAnyH_takeD (i := 2) (d := 71) (v := ?_) rfl (by kernel_rfl) (by kernel_rfl) (by kernel_rfl) (fun _ _ _ h => h) (by rfl) ?_ hHeld ?_
                        rotate_left
                        · intro wS hS
                          have eF := HF.out wS hS
                          go_simp
                          try with_reducible rfl
                        simp only [Act.put, List.setIfInBounds_toArray, List.set_cons_zero, List.set_cons_succ]
                        refine wpAnyH_takeD (i := 3) (d := 72) (v := ?_) rfl (by kernel_rfl) (by kernel_rfl) (by kernel_rfl) (fun _ _ _ h => h) (by rfl) ?_ hHeld ?_
                        rotate_left
                        · intro wS hS
                          have eF := HF.out wS hS
                          go_simp
                          try with_reducible rfl
                        simp only [Act.put, List.setIfInBounds_toArray, List.set_cons_zero, List.set_cons_succ]
                        refine wpAnyH_takeD (i := 5) (d := 74) (v := ?_) rfl (by kernel_rfl) (by kernel_rfl) (by kernel_rfl) (fun _ _ _ h => h) (by rfl) ?_ hHeld ?_
                        rotate_left
                        · intro wS hS
                          have eF := HF.out wS hS
                          go_simp
                          try with_reducible rfl
                        simp only [Act.put, List.setIfInBounds_toArray, List.set_cons_zero, List.set_cons_succ]
                        refine wpAnyH_takeD (i := 8) (d := 77) (v := ?_) rfl (by kernel_rfl) (by kernel_rfl) (by kernel_rfl) (fun _ _ _ h => h) (by rfl) ?_ hHeld ?_
                        rotate_left
                        · intro wS hS
                          have eF := HF.out wS hS
                          go_simp
                          try with_reducible rfl
                        simp only [Act.put, List.setIfInBounds_toArray, List.set_cons_zero, List.set_cons_succ]
                        refine wpAnyH_takeD (i := 9) (d := 78) (v := ?_) rfl (by kernel_rfl) (by kernel_rfl) (by kernel_rfl) (fun _ _ _ h => h) (by rfl) ?_ hHeld ?_
                        rotate_left
                        · intro wS hS
                          have eF := HF.out wS hS
                          go_simp
                          try with_reducible rfl
                        simp only [Act.put, List.setIfInBounds_toArray, List.set_cons_zero, List.set_cons_succ]
                        refine wpAnyH_takeD (i := 10) (d := 79) (v := ?_) rfl (by kernel_rfl) (by kernel_rfl) (by kernel_rfl) (fun _ _ _ h => h) (by rfl) ?_ hHeld ?_
                        rotate_left
                        · intro wS hS
                          have eF := HF.out wS hS
                          go_simp
                          try with_reducible rfl
                        simp only [Act.put, List.setIfInBounds_toArray, List.set_cons_zero, List.set_cons_succ]
                        refine wpAnyH_append3 (fuel := 1) (i0 := 0) (i1 := 4) (iB := 6) (i2 := 7) (i3 := 11) (d0 := 69) (d1 := 73) (dB := 75) (d2 := 76) (d3 := 80) (j1 := 72) (j3 := 79) rfl rfl rfl rfl rfl ⟨rfl, rfl⟩ ⟨rfl, rfl⟩ (by kernel_rfl) (by kernel_rfl) (by kernel_rfl) (by kernel_rfl) (by kernel_rfl) (by kernel_rfl) (by kernel_rfl) (by decide) (by decide) (by simp) 36 7 56 (.agg #[.int .i64 0, .int .i64 0, .int .i64 0, .int .i64 0, .int .i64 0, .int .i64 0, .int .i64 0]) Tryd.underlying24 infoNest rfl (by decide) (by decide) ?run0ZB [f (i * 7), f (i * 7 + 1), f (i * 7 + 2), f (i * 7 + 3), f (i * 7 + 4), f (i * 7 + 5), f (i * 7 + 6)] rfl ?runBZB (rowsOf f 7 (L.take gc)) (rowsOf f 7 (L.drop gc)) gc gc 0 (0) (some ⟨g, 0, none⟩) (some ⟨g, 0, none⟩) rfl rfl hHeld ?s1ZB ?s3ZB (by omega) ?nextZB
                        case run0ZB => intro a w; go_simp
                        case runBZB =>
                          intro a' w hev
                          have h1 : a'.eval (.tmp 74) = .agg #[.int .i64 (f (i * 7)), .int .i64 (f (i * 7 + 1)), .int .i64 (f (i * 7 + 2)), .int .i64 (f (i * 7 + 3)), .int .i64 (f (i * 7 + 4)), .int .i64 (f (i * 7 + 5)), .int .i64 (f (i * 7 + 6))] := (hev 74 (by decide) (by decide)).trans rfl
                          have h2 : a'.tmps[74]?.getD undef = .agg #[.int .i64 (f (i * 7)), .int .i64 (f (i * 7 + 1)), .int .i64 (f (i * 7 + 2)), .int .i64 (f (i * 7 + 3)), .int .i64 (f (i * 7 + 4)), .int .i64 (f (i * 7 + 5)), .int .i64 (f (i * 7 + 6))] := by simpa [Act.eval] using h1
                          clear h1 hev
                          go_simp
                        case s1ZB =>
                          intro w' hb'
                          exact RRow.srcTake (ownsRow_below HOWN.out hb') HN.out gc gc (by omega)
                        case s3ZB =>
                          intro w' hb'
                          exact Src.none_of (by rw [List.drop_of_length_le (by have := HN.out; omega)]; rfl) (by simp)
                        case nextZB =>
                          intro u0 u1 uB u2 g' c' w' hc1 hc2 hg1 hown' hB'
                          clear hHeld
                          have hHeld := hB'
                          simp only [Act.put, List.setIfInBounds_toArray, List.set_cons_zero, List.set_cons_succ]
                          refine wpAnyH_takeD (i := 12) (d := 9) (v := ?_) rfl (by kernel_rfl) (by kernel_rfl) (by kernel_rfl) (fun _ _ _ h => h) (by rfl) ?_ hHeld ?_
                          rotate_left
                          · intro wS hS
                            have eF := HF.out wS hS
                            go_simp
                            try with_reducible rfl
                          simp only [Act.put, List.setIfInBounds_toArray, List.set_cons_zero, List.set_cons_succ]
                          refine wpAnyH_done (by kernel_rfl) ?_ _
                          try simp only [Nat.add_zero] at hown' hc1
                          have hl : gc + 1 = (insI (pastMv f) L i).length := by rw [insI_length]; have := HN.out; omega
                          have hrow : rowsOf f 7 (L.take gc) ++ [f (i * 7), f (i * 7 + 1), f (i * 7 + 2), f (i * 7 + 3), f (i * 7 + 4), f (i * 7 + 5), f (i * 7 + 6)] ++ rowsOf f 7 (L.drop gc) = rowsOf f 7 (insI (pastMv f) L i) := by
                            have hst := HST.out
                            have hins : insI (pastMv f) L i = L.take gc ++ i :: L.drop gc := by unfold insI; rw [hst]
                            rw [hins, rowsOf_append, List.append_assoc]
                            rfl
                          rw [hrow] at hown'
                          have hr' := Lib.hid (RRow.of hl (ownsRow_mono hown' hlo))
                          have hBn := below_of hBX hB' hBX.size
                          clear hown' hHeld
                          go_wp2
                          go_roundw
                          case rel => exact ⟨i + 1, by omega, by go_num, by rw [pastL_yes HPB.out, HL.out]; exact hr'.out, ownsRow_below HOUT.out hB', hBn⟩
                          case measure => simp [intOf]; omega
                      · have hkg : k ≤ gc := by omega
                        have hkg2 : (k : Int) ≤ (gc : Int) := by omega
                        go_wp2_with fail
                        have HF : Hid (∀ w', Below wq.heap.size wq w' → w'.cell? ⟨nb, 0, none⟩ = some (.int .i64 (f (i * 7))) ∧ w'.cell? ⟨nb, 1, none⟩ = some (.int .i64 (f (i * 7 + 1))) ∧ w'.cell? ⟨nb, 2, none⟩ = some (.int .i64 (f (i * 7 + 2))) ∧ w'.cell? ⟨nb, 3, none⟩ = some (.int .i64 (f (i * 7 + 3))) ∧ w'.cell? ⟨nb, 4, none⟩ = some (.int .i64 (f (i * 7 + 4))) ∧ w'.cell? ⟨nb, 5, none⟩ = some (.int .i64 (f (i * 7 + 5))) ∧ w'.cell? ⟨nb, 6, none⟩ = some (.int .i64 (f (i * 7 + 6)))) := by
                          intro w' hb'
                          exact ⟨(hb'.cell (p := ⟨nb, 0, none⟩) hnb).trans n0, (hb'.cell (p := ⟨nb, 1, none⟩) hnb).trans n1, (hb'.cell (p := ⟨nb, 2, none⟩) hnb).trans n2, (hb'.cell (p := ⟨nb, 3, none⟩) hnb).trans n3, (hb'.cell (p := ⟨nb, 4, none⟩) hnb).trans n4, (hb'.cell (p := ⟨nb, 5, none⟩) hnb).trans n5, (hb'.cell (p := ⟨nb, 6, none⟩) hnb).trans n6⟩
                        refine wp_region_held_drew (S := fun w' => Below (wq).heap.size (wq) w') (by kernel_rfl) ((Below.refl _ _).drew) (fun hHeld => ?_)
                        refine wpAnyH_takeD (i := 1) (d := 70) (v := ?_) rfl (by kernel_rfl) (by kernel_rfl) (by kernel_rfl) (fun _ _ _ h => h) (by rfl) ?_ hHeld ?_
                        rotate_left
                        · intro wS hS
                          have eF := HF.out wS hS
                          go_simp
                          try with_reducible rfl
                        simp only [Act.put, List.setIfInBounds_toArray, List.set_cons_zero, List.set_cons_succ]
                        refine wpAnyH_takeD (i := 2) (d := 71) (v := ?_) rfl (by kernel_rfl) (by kernel_rfl) (by kernel_rfl) (fun _ _ _ h => h) (by rfl) ?_ hHeld ?_
                        rotate_left
                        · intro wS hS
                          have eF := HF.out wS hS
                          go_simp
                          try with_reducible rfl
                        simp only [Act.put, List.setIfInBounds_toArray, List.set_cons_zero, List.set_cons_succ]
                        refine wpAnyH_takeD (i := 3) (d := 72) (v := ?_) rfl (by kernel_rfl) (by kernel_rfl) (by kernel_rfl) (fun _ _ _ h => h) (by rfl) ?_ hHeld ?_
                        rotate_left
                        · intro wS hS
                          have eF := HF.out wS hS
                          go_simp
                          try with_reducible rfl
                        simp only [Act.put, List.setIfInBounds_toArray, List.set_cons_zero, List.set_cons_succ]
                        refine wpAnyH_takeD (i := 5) (d := 74) (v := ?_) rfl (by kernel_rfl) (by kernel_rfl) (by kernel_rfl) (fun _ _ _ h => h) (by rfl) ?_ hHeld ?_
                        rotate_left
                        · intro wS hS
                          have eF := HF.out wS hS
                          go_simp
                          try with_reducible rfl
                        simp only [Act.put, List.setIfInBounds_toArray, List.set_cons_zero, List.set_cons_succ]
                        refine wpAnyH_takeD (i := 8) (d := 77) (v := ?_) rfl (by kernel_rfl) (by kernel_rfl) (by kernel_rfl) (fun _ _ _ h => h) (by rfl) ?_ hHeld ?_
                        rotate_left
                        · intro wS hS
                          have eF := HF.out wS hS
                          go_simp
                          try with_reducible rfl
                        simp only [Act.put, List.setIfInBounds_toArray, List.set_cons_zero, List.set_cons_succ]
                        refine wpAnyH_takeD (i := 9) (d := 78) (v := ?_) rfl (by kernel_rfl) (by kernel_rfl) (by kernel_rfl) (fun _ _ _ h => h) (by rfl) ?_ hHeld ?_
                        rotate_left
                        · intro wS hS
                          have eF := HF.out wS hS
                          go_simp
                          try with_reducible rfl
                        simp only [Act.put, List.setIfInBounds_toArray, List.set_cons_zero, List.set_cons_succ]
                        refine wpAnyH_takeD (i := 10) (d := 79) (v := ?_) rfl (by kernel_rfl) (by kernel_rfl) (by kernel_rfl) (fun _ _ _ h => h) (by rfl) ?_ hHeld ?_
                        rotate_left
                        · intro wS hS
                          have eF := HF.out wS hS
                          go_simp
                          try with_reducible rfl
                        simp only [Act.put, List.setIfInBounds_toArray, List.set_cons_zero, List.set_cons_succ]
                        refine wpAnyH_append3 (fuel := 1) (i0 := 0) (i1 := 4) (iB := 6) (i2 := 7) (i3 := 11) (d0 := 69) (d1 := 73) (dB := 75) (d2 := 76) (d3 := 80) (j1 := 72) (j3 := 79) rfl rfl rfl rfl rfl ⟨rfl, rfl⟩ ⟨rfl, rfl⟩ (by kernel_rfl) (by kernel_rfl) (by kernel_rfl) (by kernel_rfl) (by kernel_rfl) (by kernel_rfl) (by kernel_rfl) (by decide) (by decide) (by simp) 36 7 56 (.agg #[.int .i64 0, .int .i64 0, .int .i64 0, .int .i64 0, .int .i64 0, .int .i64 0, .int .i64 0]) Tryd.underlying24 infoNest rfl (by decide) (by decide) ?run0ZC [f (i * 7), f (i * 7 + 1), f (i * 7 + 2), f (i * 7 + 3), f (i * 7 + 4), f (i * 7 + 5), f (i * 7 + 6)] rfl ?runBZC (rowsOf f 7 (L.take k)) (rowsOf f 7 (L.drop k)) k gc 0 (gc - k) (some ⟨g, 0, none⟩) (some ⟨g, k * 7, none⟩) rfl rfl hHeld ?s1ZC ?s3ZC (by omega) ?nextZC
                        case run0ZC => intro a w; go_simp
                        case runBZC =>
                          intro a' w hev
                          have h1 : a'.eval (.tmp 74) = .agg #[.int .i64 (f (i * 7)), .int .i64 (f (i * 7 + 1)), .int .i64 (f (i * 7 + 2)), .int .i64 (f (i * 7 + 3)), .int .i64 (f (i * 7 + 4)), .int .i64 (f (i * 7 + 5)), .int .i64 (f (i * 7 + 6))] := (hev 74 (by decide) (by decide)).trans rfl
                          have h2 : a'.tmps[74]?.getD undef = .agg #[.int .i64 (f (i * 7)), .int .i64 (f (i * 7 + 1)), .int .i64 (f (i * 7 + 2)), .int .i64 (f (i * 7 + 3)), .int .i64 (f (i * 7 + 4)), .int .i64 (f (i * 7 + 5)), .int .i64 (f (i * 7 + 6))] := by simpa [Act.eval] using h1
                          clear h1 hev
                          go_simp
                        case s1ZC =>
                          intro w' hb'
                          exact RRow.srcTake (ownsRow_below HOWN.out hb') HN.out k gc (by omega)
                        case s3ZC =>
                          intro w' hb'
                          exact Src.none_of (by rw [List.drop_of_length_le (by have := HN.out; omega)]; rfl) (by simp)
                        case nextZC =>
                          intro u0 u1 uB u2 g' c' w' hc1 hc2 hg1 hown' hB'
                          clear hHeld
                          have hHeld := hB'
                          simp only [Act.put, List.setIfInBounds_toArray, List.set_cons_zero, List.set_cons_succ]
                          refine wpAnyH_takeD (i := 12) (d := 9) (v := ?_) rfl (by kernel_rfl) (by kernel_rfl) (by kernel_rfl) (fun _ _ _ h => h) (by rfl) ?_ hHeld ?_
                          rotate_left
                          · intro wS hS
                            have eF := HF.out wS hS
                            go_simp
                            try with_reducible rfl
                          simp only [Act.put, List.setIfInBounds_toArray, List.set_cons_zero, List.set_cons_succ]
                          refine wpAnyH_done (by kernel_rfl) ?_ _
                          try simp only [Nat.add_zero] at hown' hc1
                          have hl : k + 1 = (insI (pastMv f) L i).length := by rw [insI_length]; have := HN.out; omega
                          have hrow : rowsOf f 7 (L.take k) ++ [f (i * 7), f (i * 7 + 1), f (i * 7 + 2), f (i * 7 + 3), f (i * 7 + 4), f (i * 7 + 5), f (i * 7 + 6)] ++ rowsOf f 7 (L.drop k) = rowsOf f 7 (insI (pastMv f) L i) := by
                            have hst := HST.out
                            have hins : insI (pastMv f) L i = L.take k ++ i :: L.drop k := by unfold insI; rw [hst]
                            rw [hins, rowsOf_append, List.append_assoc]
                            rfl
                          rw [hrow] at hown'
                          have hr' := Lib.hid (RRow.of hl (ownsRow_mono hown' hlo))
                          have hBn := below_of hBX hB' hBX.size
                          clear hown' hHeld
                          go_wp2
                          go_roundw
                          case rel => exact ⟨i + 1, by omega, by go_num, by rw [pastL_yes HPB.out, HL.out]; exact hr'.out, ownsRow_below HOUT.out hB', hBn⟩
                          case measure => simp [intOf]; omega
                  · obtain ⟨m, hm⟩ : ∃ m, k = m + 1 := ⟨k - 1, by omega⟩
                    have hml : m < l := by omega
                    have y0 := RRow.cellAt HO2.out HN.out m 6 hml (by decide)
                    have g1 : (0 : Int) < (k : Int) := by omega
                    have g2 : 0 < k := by omega
                    have g3 : decide ((0 : Int) < (k : Int)) = true := by simp; omega
                    have g4 : decide (0 < k) = true := by simp; omega
                    have g5 : (0 : Int) ≤ (k : Int) - 1 := by omega
                    have g6 : (k : Int) - 1 < (l : Int) := by omega
                    have g7 : ((k : Int) - 1).toNat = m := by omega
                    have g8 : IntKind.i64.wrap ((k : Int) - 1) = (k : Int) - 1 := IntWalk.i64_in _ (by omega)
                    have g9 : (1 : Int) ≤ (k : Int) := by omega
                    have HM := Lib.hid hm
                    clear hm hk0
                    by_cases hgt : f (i * 7 + 6) < f (L.getD m 0 * 7 + 6)
                    · have HS3 : Hid (stopI (pastMv f) L i l = stopI (pastMv f) L i m) := by
                        show _ = _
                        rw [HS1.out, HM.out, stop_step (by simpa [pastMv] using hgt)]
                      have hgb : decide (f (i * 7 + 6) < f (L.getD m 0 * 7 + 6)) = true := by simpa using hgt
                      generalize f (L.getD m 0 * 7 + 6) = yv at *
                      go_wp2_with fail
                      go_quiet (fail)
                      have hHq : Below wr.heap.size wr (wr.drewN nq) := below_drewN (Below.refl _ _) _
                      generalize wr.drewN nq = wq at hHq ⊢
                      have hbq := below_of hb3 hHq hb3.size
                      clear HO2 HU2 y0 g1 g2 g3 g4
                      go_wp2
                      go_roundw
                      case rel => exact ⟨m, by omega, by have := HM.out; subst this; go_num, HS3.out, hbq⟩
                      case measure => have := HM.out; simp [intOf]; omega
                    · have HST : Hid (stopI (pastMv f) L i L.length = k) := by
                        show _ = _
                        rw [← HN.out, HS1.out, HM.out, stop_here (by simpa [pastMv] using hgt)]
                      have hgb : decide (f (i * 7 + 6) < f (L.getD m 0 * 7 + 6)) = false := by simpa using hgt
                      generalize f (L.getD m 0 * 7 + 6) = yv at *
                      go_wp2_with fail
                      go_quiet (fail)
                      have hHq : Below wr.heap.size wr (wr.drewN nq) := below_drewN (Below.refl _ _) _
                      generalize wr.drewN nq = wq at hHq ⊢
                      have HOWN := Lib.hid (ownsRow_below HO2.out hHq)
                      have HOUT := Lib.hid (ownsRow_below HU2.out hHq)
                      have hBX := below_of hB2 hHq hB2.size
                      have hlo := hBX.size
                      replace n0 := (hHq.cell (p := ⟨nb, 0, none⟩) hnb).trans n0
                      replace n1 := (hHq.cell (p := ⟨nb, 1, none⟩) hnb).trans n1
                      replace n2 := (hHq.cell (p := ⟨nb, 2, none⟩) hnb).trans n2
                      replace n3 := (hHq.cell (p := ⟨nb, 3, none⟩) hnb).trans n3
                      replace n4 := (hHq.cell (p := ⟨nb, 4, none⟩) hnb).trans n4
                      replace n5 := (hHq.cell (p := ⟨nb, 5, none⟩) hnb).trans n5
                      replace n6 := (hHq.cell (p := ⟨nb, 6, none⟩) hnb).trans n6
                      replace hnb := Nat.lt_of_lt_of_le hnb hHq.size
                      clear HO2 HU2 hB2 hHq
                      clear y0 g1 g2 g3 g4 g5 g6 g7 g8 g9 hgb hgt HM
                      by_cases hkl : k < l
                      · have hgcn : ¬ (gc = k) := by omega
                        have hkg : k ≤ gc := by omega
                        have hkg2 : (k : Int) ≤ (gc : Int) := by omega
                        have hkl3 : k ≤ l := by omega
                        go_wp2_with fail
                        have HF : Hid (∀ w', Below wq.heap.size wq w' → w'.cell? ⟨nb, 0, none⟩ = some (.int .i64 (f (i * 7))) ∧ w'.cell? ⟨nb, 1, none⟩ = some (.int .i64 (f (i * 7 + 1))) ∧ w'.cell? ⟨nb, 2, none⟩ = some (.int .i64 (f (i * 7 + 2))) ∧ w'.cell? ⟨nb, 3, none⟩ = some (.int .i64 (f (i * 7 + 3))) ∧ w'.cell? ⟨nb, 4, none⟩ = some (.int .i64 (f (i * 7 + 4))) ∧ w'.cell? ⟨nb, 5, none⟩ = some (.int .i64 (f (i * 7 + 5))) ∧ w'.cell? ⟨nb, 6, none⟩ = some (.int .i64 (f (i * 7 + 6)))) := by
                          intro w' hb'
                          exact ⟨(hb'.cell (p := ⟨nb, 0, none⟩) hnb).trans n0, (hb'.cell (p := ⟨nb, 1, none⟩) hnb).trans n1, (hb'.cell (p := ⟨nb, 2, none⟩) hnb).trans n2, (hb'.cell (p := ⟨nb, 3, none⟩) hnb).trans n3, (hb'.cell (p := ⟨nb, 4, none⟩) hnb).trans n4, (hb'.cell (p := ⟨nb, 5, none⟩) hnb).trans n5, (hb'.cell (p := ⟨nb, 6, none⟩) hnb).trans n6⟩
                        refine wp_region_held_drew (S := fun w' => Below (wq).heap.size (wq) w') (by kernel_rfl) ((Below.refl _ _).drew) (fun hHeld => ?_)
                        refine wpAnyH_takeD (i := 1) (d := 70) (v := ?_) rfl (by kernel_rfl) (by kernel_rfl) (by kernel_rfl) (fun _ _ _ h => h) (by rfl) ?_ hHeld ?_
                        rotate_left
                        · intro wS hS
                          have eF := HF.out wS hS
                          go_simp
                          try with_reducible rfl
                        simp only [Act.put, List.setIfInBounds_toArray, List.set_cons_zero, List.set_cons_succ]
                        refine wpAnyH_takeD (i := 2) (d := 71) (v := ?_) rfl (by kernel_rfl) (by kernel_rfl) (by kernel_rfl) (fun _ _ _ h => h) (by rfl) ?_ hHeld ?_
                        rotate_left
                        · intro wS hS
                          have eF := HF.out wS hS
                          go_simp
                          try with_reducible rfl
                        simp only [Act.put, List.setIfInBounds_toArray, List.set_cons_zero, List.set_cons_succ]
                        refine wpAnyH_takeD (i := 3) (d := 72) (v := ?_) rfl (by kernel_rfl) (by kernel_rfl) (by kernel_rfl) (fun _ _ _ h => h) (by rfl) ?_ hHeld ?_
                        rotate_left
                        · intro wS hS
                          have eF := HF.out wS hS
                          go_simp
                          try with_reducible rfl
                        simp only [Act.put, List.setIfInBounds_toArray, List.set_cons_zero, List.set_cons_succ]
                        refine wpAnyH_takeD (i := 5) (d := 74) (v := ?_) rfl (by kernel_rfl) (by kernel_rfl) (by kernel_rfl) (fun _ _ _ h => h) (by rfl) ?_ hHeld ?_
                        rotate_left
                        · intro wS hS
                          have eF := HF.out wS hS
                          go_simp
                          try with_reducible rfl
                        simp only [Act.put, List.setIfInBounds_toArray, List.set_cons_zero, List.set_cons_succ]
                        refine wpAnyH_takeD (i := 8) (d := 77) (v := ?_) rfl (by kernel_rfl) (by kernel_rfl) (by kernel_rfl) (fun _ _ _ h => h) (by rfl) ?_ hHeld ?_
                        rotate_left
                        · intro wS hS
                          have eF := HF.out wS hS
                          go_simp
                          try with_reducible rfl
                        simp only [Act.put, List.setIfInBounds_toArray, List.set_cons_zero, List.set_cons_succ]
                        refine wpAnyH_takeD (i := 9) (d := 78) (v := ?_) rfl (by kernel_rfl) (by kernel_rfl) (by kernel_rfl) (fun _ _ _ h => h) (by rfl) ?_ hHeld ?_
                        rotate_left
                        · intro wS hS
                          have eF := HF.out wS hS
                          go_simp
                          try with_reducible rfl
                        simp only [Act.put, List.setIfInBounds_toArray, List.set_cons_zero, List.set_cons_succ]
                        refine wpAnyH_takeD (i := 10) (d := 79) (v := ?_) rfl (by kernel_rfl) (by kernel_rfl) (by kernel_rfl) (fun _ _ _ h => h) (by rfl) ?_ hHeld ?_
                        rotate_left
                        · intro wS hS
                          have eF := HF.out wS hS
                          go_simp
                          try with_reducible rfl
                        simp only [Act.put, List.setIfInBounds_toArray, List.set_cons_zero, List.set_cons_succ]
                        refine wpAnyH_append3 (fuel := 1) (i0 := 0) (i1 := 4) (iB := 6) (i2 := 7) (i3 := 11) (d0 := 69) (d1 := 73) (dB := 75) (d2 := 76) (d3 := 80) (j1 := 72) (j3 := 79) rfl rfl rfl rfl rfl ⟨rfl, rfl⟩ ⟨rfl, rfl⟩ (by kernel_rfl) (by kernel_rfl) (by kernel_rfl) (by kernel_rfl) (by kernel_rfl) (by kernel_rfl) (by kernel_rfl) (by decide) (by decide) (by simp) 36 7 56 (.agg #[.int .i64 0, .int .i64 0, .int .i64 0, .int .i64 0, .int .i64 0, .int .i64 0, .int .i64 0]) Tryd.underlying24 infoNest rfl (by decide) (by decide) ?run0PA [f (i * 7), f (i * 7 + 1), f (i * 7 + 2), f (i * 7 + 3), f (i * 7 + 4), f (i * 7 + 5), f (i * 7 + 6)] rfl ?runBPA (rowsOf f 7 (L.take k)) (rowsOf f 7 (L.drop k)) k gc (l - k) (gc - k) (some ⟨g, 0, none⟩) (some ⟨g, k * 7, none⟩) rfl rfl hHeld ?s1PA ?s3PA (by omega) ?nextPA
                        case run0PA => intro a w; go_simp
                        case runBPA =>
                          intro a' w hev
                          have h1 : a'.eval (.tmp 74) = .agg #[.int .i64 (f (i * 7)), .int .i64 (f (i * 7 + 1)), .int .i64 (f (i * 7 + 2)), .int .i64 (f (i * 7 + 3)), .int .i64 (f (i * 7 + 4)), .int .i64 (f (i * 7 + 5)), .int .i64 (f (i * 7 + 6))] := (hev 74 (by decide) (by decide)).trans rfl
                          have h2 : a'.tmps[74]?.getD undef = .agg #[.int .i64 (f (i * 7)), .int .i64 (f (i * 7 + 1)), .int .i64 (f (i * 7 + 2)), .int .i64 (f (i * 7 + 3)), .int .i64 (f (i * 7 + 4)), .int .i64 (f (i * 7 + 5)), .int .i64 (f (i * 7 + 6))] := by simpa [Act.eval] using h1
                          clear h1 hev
                          go_simp
                        case s1PA =>
                          intro w' hb'
                          exact RRow.srcTake (ownsRow_below HOWN.out hb') HN.out k gc (by omega)
                        case s3PA =>
                          intro w' hb'
                          exact RRow.srcDrop (ownsRow_below HOWN.out hb') HN.out k (gc - k) (by omega)
                        case nextPA =>
                          intro u0 u1 uB u2 g' c' w' hc1 hc2 hg1 hown' hB'
                          clear hHeld
                          have hHeld := hB'
                          simp only [Act.put, List.setIfInBounds_toArray, List.set_cons_zero, List.set_cons_succ]
                          refine wpAnyH_takeD (i := 12) (d := 9) (v := ?_) rfl (by kernel_rfl) (by kernel_rfl) (by kernel_rfl) (fun _ _ _ h => h) (by rfl) ?_ hHeld ?_
                          rotate_left
                          · intro wS hS
                            have eF := HF.out wS hS
                            go_simp
                            try with_reducible rfl
                          simp only [Act.put, List.setIfInBounds_toArray, List.set_cons_zero, List.set_cons_succ]
                          refine wpAnyH_done (by kernel_rfl) ?_ _
                          try simp only [Nat.add_zero] at hown' hc1
                          have hl : k + 1 + (l - k) = (insI (pastMv f) L i).length := by rw [insI_length]; have := HN.out; omega
                          have hrow : rowsOf f 7 (L.take k) ++ [f (i * 7), f (i * 7 + 1), f (i * 7 + 2), f (i * 7 + 3), f (i * 7 + 4), f (i * 7 + 5), f (i * 7 + 6)] ++ rowsOf f 7 (L.drop k) = rowsOf f 7 (insI (pastMv f) L i) := by
                            have hst := HST.out
                            have hins : insI (pastMv f) L i = L.take k ++ i :: L.drop k := by unfold insI; rw [hst]
                            rw [hins, rowsOf_append, List.append_assoc]
                            rfl
                          rw [hrow] at hown'
                          have hr' := Lib.hid (RRow.of hl (ownsRow_mono hown' hlo))
                          have hBn := below_of hBX hB' hBX.size
                          clear hown' hHeld
                          go_wp2
                          go_roundw
                          case rel => exact ⟨i + 1, by omega, by go_num, by rw [pastL_yes HPB.out, HL.out]; exact hr'.out, ownsRow_below HOUT.out hB', hBn⟩
                          case measure => simp [intOf]; omega
                      · have hkl2 : k = l := by omega
                        clear hkl
                        subst hkl2
                        by_cases hgl : gc = k
                        · subst hgl
                          go_wp2_with fail
                          have HF : Hid (∀ w', Below wq.heap.size wq w' → w'.cell? ⟨nb, 0, none⟩ = some (.int .i64 (f (i * 7))) ∧ w'.cell? ⟨nb, 1, none⟩ = some (.int .i64 (f (i * 7 + 1))) ∧ w'.cell? ⟨nb, 2, none⟩ = some (.int .i64 (f (i * 7 + 2))) ∧ w'.cell? ⟨nb, 3, none⟩ = some (.int .i64 (f (i * 7 + 3))) ∧ w'.cell? ⟨nb, 4, none⟩ = some (.int .i64 (f (i * 7 + 4))) ∧ w'.cell? ⟨nb, 5, none⟩ = some (.int .i64 (f (i * 7 + 5))) ∧ w'.cell? ⟨nb, 6, none⟩ = some (.int .i64 (f (i * 7 + 6)))) := by
                            intro w' hb'
                            exact ⟨(hb'.cell (p := ⟨nb, 0, none⟩) hnb).trans n0, (hb'.cell (p := ⟨nb, 1, none⟩) hnb).trans n1, (hb'.cell (p := ⟨nb, 2, none⟩) hnb).trans n2, (hb'.cell (p := ⟨nb, 3, none⟩) hnb).trans n3, (hb'.cell (p := ⟨nb, 4, none⟩) hnb).trans n4, (hb'.cell (p := ⟨nb, 5, none⟩) hnb).trans n5, (hb'.cell (p := ⟨nb, 6, none⟩) hnb).trans n6⟩
                          refine wp_region_held_drew (S := fun w' => Below (wq).heap.size (wq) w') (by kernel_rfl) ((Below.refl _ _).drew) (fun hHeld => ?_)
                          refine wpAnyH_takeD (i := 1) (d := 70) (v := ?_) rfl (by kernel_rfl) (by kernel_rfl) (by kernel_rfl) (fun _ _ _ h => h) (by rfl) ?_ hHeld ?_
                          rotate_left
                          · intro wS hS
                            have eF := HF.out wS hS
                            go_simp
                            try with_reducible rfl
                          simp only [Act.put, List.setIfInBounds_toArray, List.set_cons_zero, List.set_cons_succ]
                          refine wpAnyH_takeD (i := 2) (d := 71) (v := ?_) rfl (by kernel_rfl) (by kernel_rfl) (by kernel_rfl) (fun _ _ _ h => h) (by rfl) ?_ hHeld ?_
                          rotate_left
                          · intro wS hS
                            have eF := HF.out wS hS
                            go_simp
                            try with_reducible rfl
                          simp only [Act.put, List.setIfInBounds_toArray, List.set_cons_zero, List.set_cons_succ]
                          refine wpAnyH_takeD (i := 3) (d := 72) (v := ?_) rfl (by kernel_rfl) (by kernel_rfl) (by kernel_rfl) (fun _ _ _ h => h) (by rfl) ?_ hHeld ?_
                          rotate_left
                          · intro wS hS
                            have eF := HF.out wS hS
                            go_simp
                            try with_reducible rfl
                          simp only [Act.put, List.setIfInBounds_toArray, List.set_cons_zero, List.set_cons_succ]
                          refine wpAnyH_takeD (i := 5) (d := 74) (v := ?_) rfl (by kernel_rfl) (by kernel_rfl) (by kernel_rfl) (fun _ _ _ h => h) (by rfl) ?_ hHeld ?_
                          rotate_left
                          · intro wS hS
                            have eF := HF.out wS hS
                            go_simp
                            try with_reducible rfl
                          simp only [Act.put, List.setIfInBounds_toArray, List.set_cons_zero, List.set_cons_succ]
                          refine wpAnyH_takeD (i := 8) (d := 77) (v := ?_) rfl (by kernel_rfl) (by kernel_rfl) (by kernel_rfl) (fun _ _ _ h => h) (by rfl) ?_ hHeld ?_
                          rotate_left
                          · intro wS hS
                            have eF := HF.out wS hS
                            go_simp
                            try with_reducible rfl
                          simp only [Act.put, List.setIfInBounds_toArray, List.set_cons_zero, List.set_cons_succ]
                          refine wpAnyH_takeD (i := 9) (d := 78) (v := ?_) rfl (by kernel_rfl) (by kernel_rfl) (by kernel_rfl) (fun _ _ _ h => h) (by rfl) ?_ hHeld ?_
                          rotate_left
                          · intro wS hS
                            have eF := HF.out wS hS
                            go_simp
                            try with_reducible rfl
                          simp only [Act.put, List.setIfInBounds_toArray, List.set_cons_zero, List.set_cons_succ]
                          refine wpAnyH_takeD (i := 10) (d := 79) (v := ?_) rfl (by kernel_rfl) (by kernel_rfl) (by kernel_rfl) (fun _ _ _ h => h) (by rfl) ?_ hHeld ?_
                          rotate_left
                          · intro wS hS
                            have eF := HF.out wS hS
                            go_simp
                            try with_reducible rfl
                          simp only [Act.put, List.setIfInBounds_toArray, List.set_cons_zero, List.set_cons_succ]
                          refine wpAnyH_append3 (fuel := 1) (i0 := 0) (i1 := 4) (iB := 6) (i2 := 7) (i3 := 11) (d0 := 69) (d1 := 73) (dB := 75) (d2 := 76) (d3 := 80) (j1 := 72) (j3 := 79) rfl rfl rfl rfl rfl ⟨rfl, rfl⟩ ⟨rfl, rfl⟩ (by kernel_rfl) (by kernel_rfl) (by kernel_rfl) (by kernel_rfl) (by kernel_rfl) (by kernel_rfl) (by kernel_rfl) (by decide) (by decide) (by simp) 36 7 56 (.agg #[.int .i64 0, .int .i64 0, .int .i64 0, .int .i64 0, .int .i64 0, .int .i64 0, .int .i64 0]) Tryd.underlying24 infoNest rfl (by decide) (by decide) ?run0PB [f (i * 7), f (i * 7 + 1), f (i * 7 + 2), f (i * 7 + 3), f (i * 7 + 4), f (i * 7 + 5), f (i * 7 + 6)] rfl ?runBPB (rowsOf f 7 (L.take gc)) (rowsOf f 7 (L.drop gc)) gc gc 0 (0) (some ⟨g, 0, none⟩) (some ⟨g, 0, none⟩) rfl rfl hHeld ?s1PB ?s3PB (by omega) ?nextPB
                          case run0PB => intro a w; go_simp
                          case runBPB =>
                            intro a' w hev
                            have h1 : a'.eval (.tmp 74) = .agg #[.int .i64 (f (i * 7)), .int .i64 (f (i * 7 + 1)), .int .i64 (f (i * 7 + 2)), .int .i64 (f (i * 7 + 3)), .int .i64 (f (i * 7 + 4)), .int .i64 (f (i * 7 + 5)), .int .i64 (f (i * 7 + 6))] := (hev 74 (by decide) (by decide)).trans rfl
                            have h2 : a'.tmps[74]?.getD undef = .agg #[.int .i64 (f (i * 7)), .int .i64 (f (i * 7 + 1)), .int .i64 (f (i * 7 + 2)), .int .i64 (f (i * 7 + 3)), .int .i64 (f (i * 7 + 4)), .int .i64 (f (i * 7 + 5)), .int .i64 (f (i * 7 + 6))] := by simpa [Act.eval] using h1
                            clear h1 hev
                            go_simp
                          case s1PB =>
                            intro w' hb'
                            exact RRow.srcTake (ownsRow_below HOWN.out hb') HN.out gc gc (by omega)
                          case s3PB =>
                            intro w' hb'
                            exact Src.none_of (by rw [List.drop_of_length_le (by have := HN.out; omega)]; rfl) (by simp)
                          case nextPB =>
                            intro u0 u1 uB u2 g' c' w' hc1 hc2 hg1 hown' hB'
                            clear hHeld
                            have hHeld := hB'
                            simp only [Act.put, List.setIfInBounds_toArray, List.set_cons_zero, List.set_cons_succ]
                            refine wpAnyH_takeD (i := 12) (d := 9) (v := ?_) rfl (by kernel_rfl) (by kernel_rfl) (by kernel_rfl) (fun _ _ _ h => h) (by rfl) ?_ hHeld ?_
                            rotate_left
                            · intro wS hS
                              have eF := HF.out wS hS
                              go_simp
                              try with_reducible rfl
                            simp only [Act.put, List.setIfInBounds_toArray, List.set_cons_zero, List.set_cons_succ]
                            refine wpAnyH_done (by kernel_rfl) ?_ _
                            try simp only [Nat.add_zero] at hown' hc1
                            have hl : gc + 1 = (insI (pastMv f) L i).length := by rw [insI_length]; have := HN.out; omega
                            have hrow : rowsOf f 7 (L.take gc) ++ [f (i * 7), f (i * 7 + 1), f (i * 7 + 2), f (i * 7 + 3), f (i * 7 + 4), f (i * 7 + 5), f (i * 7 + 6)] ++ rowsOf f 7 (L.drop gc) = rowsOf f 7 (insI (pastMv f) L i) := by
                              have hst := HST.out
                              have hins : insI (pastMv f) L i = L.take gc ++ i :: L.drop gc := by unfold insI; rw [hst]
                              rw [hins, rowsOf_append, List.append_assoc]
                              rfl
                            rw [hrow] at hown'
                            have hr' := Lib.hid (RRow.of hl (ownsRow_mono hown' hlo))
                            have hBn := below_of hBX hB' hBX.size
                            clear hown' hHeld
                            go_wp2
                            go_roundw
                            case rel => exact ⟨i + 1, by omega, by go_num, by rw [pastL_yes HPB.out, HL.out]; exact hr'.out, ownsRow_below HOUT.out hB', hBn⟩
                            case measure => simp [intOf]; omega
                        · have hkg : k ≤ gc := by omega
                          have hkg2 : (k : Int) ≤ (gc : Int) := by omega
                          go_wp2_with fail
                          have HF : Hid (∀ w', Below wq.heap.size wq w' → w'.cell? ⟨nb, 0, none⟩ = some (.int .i64 (f (i * 7))) ∧ w'.cell? ⟨nb, 1, none⟩ = some (.int .i64 (f (i * 7 + 1))) ∧ w'.cell? ⟨nb, 2, none⟩ = some (.int .i64 (f (i * 7 + 2))) ∧ w'.cell? ⟨nb, 3, none⟩ = some (.int .i64 (f (i * 7 + 3))) ∧ w'.cell? ⟨nb, 4, none⟩ = some (.int .i64 (f (i * 7 + 4))) ∧ w'.cell? ⟨nb, 5, none⟩ = some (.int .i64 (f (i * 7 + 5))) ∧ w'.cell? ⟨nb, 6, none⟩ = some (.int .i64 (f (i * 7 + 6)))) := by
                            intro w' hb'
                            exact ⟨(hb'.cell (p := ⟨nb, 0, none⟩) hnb).trans n0, (hb'.cell (p := ⟨nb, 1, none⟩) hnb).trans n1, (hb'.cell (p := ⟨nb, 2, none⟩) hnb).trans n2, (hb'.cell (p := ⟨nb, 3, none⟩) hnb).trans n3, (hb'.cell (p := ⟨nb, 4, none⟩) hnb).trans n4, (hb'.cell (p := ⟨nb, 5, none⟩) hnb).trans n5, (hb'.cell (p := ⟨nb, 6, none⟩) hnb).trans n6⟩
                          refine wp_region_held_drew (S := fun w' => Below (wq).heap.size (wq) w') (by kernel_rfl) ((Below.refl _ _).drew) (fun hHeld => ?_)
                          refine wpAnyH_takeD (i := 1) (d := 70) (v := ?_) rfl (by kernel_rfl) (by kernel_rfl) (by kernel_rfl) (fun _ _ _ h => h) (by rfl) ?_ hHeld ?_
                          rotate_left
                          · intro wS hS
                            have eF := HF.out wS hS
                            go_simp
                            try with_reducible rfl
                          simp only [Act.put, List.setIfInBounds_toArray, List.set_cons_zero, List.set_cons_succ]
                          refine wpAnyH_takeD (i := 2) (d := 71) (v := ?_) rfl (by kernel_rfl) (by kernel_rfl) (by kernel_rfl) (fun _ _ _ h => h) (by rfl) ?_ hHeld ?_
                          rotate_left
                          · intro wS hS
                            have eF := HF.out wS hS
                            go_simp
                            try with_reducible rfl
                          simp only [Act.put, List.setIfInBounds_toArray, List.set_cons_zero, List.set_cons_succ]
                          refine wpAnyH_takeD (i := 3) (d := 72) (v := ?_) rfl (by kernel_rfl) (by kernel_rfl) (by kernel_rfl) (fun _ _ _ h => h) (by rfl) ?_ hHeld ?_
                          rotate_left
                          · intro wS hS
                            have eF := HF.out wS hS
                            go_simp
                            try with_reducible rfl
                          simp only [Act.put, List.setIfInBounds_toArray, List.set_cons_zero, List.set_cons_succ]
                          refine wpAnyH_takeD (i := 5) (d := 74) (v := ?_) rfl (by kernel_rfl) (by kernel_rfl) (by kernel_rfl) (fun _ _ _ h => h) (by rfl) ?_ hHeld ?_
                          rotate_left
                          · intro wS hS
                            have eF := HF.out wS hS
                            go_simp
                            try with_reducible rfl
                          simp only [Act.put, List.setIfInBounds_toArray, List.set_cons_zero, List.set_cons_succ]
                          refine wpAnyH_takeD (i := 8) (d := 77) (v := ?_) rfl (by kernel_rfl) (by kernel_rfl) (by kernel_rfl) (fun _ _ _ h => h) (by rfl) ?_ hHeld ?_
                          rotate_left
                          · intro wS hS
                            have eF := HF.out wS hS
                            go_simp
                            try with_reducible rfl
                          simp only [Act.put, List.setIfInBounds_toArray, List.set_cons_zero, List.set_cons_succ]
                          refine wpAnyH_takeD (i := 9) (d := 78) (v := ?_) rfl (by kernel_rfl) (by kernel_rfl) (by kernel_rfl) (fun _ _ _ h => h) (by rfl) ?_ hHeld ?_
                          rotate_left
                          · intro wS hS
                            have eF := HF.out wS hS
                            go_simp
                            try with_reducible rfl
                          simp only [Act.put, List.setIfInBounds_toArray, List.set_cons_zero, List.set_cons_succ]
                          refine wpAnyH_takeD (i := 10) (d := 79) (v := ?_) rfl (by kernel_rfl) (by kernel_rfl) (by kernel_rfl) (fun _ _ _ h => h) (by rfl) ?_ hHeld ?_
                          rotate_left
                          · intro wS hS
                            have eF := HF.out wS hS
                            go_simp
                            try with_reducible rfl
                          simp only [Act.put, List.setIfInBounds_toArray, List.set_cons_zero, List.set_cons_succ]
                          refine wpAnyH_append3 (fuel := 1) (i0 := 0) (i1 := 4) (iB := 6) (i2 := 7) (i3 := 11) (d0 := 69) (d1 := 73) (dB := 75) (d2 := 76) (d3 := 80) (j1 := 72) (j3 := 79) rfl rfl rfl rfl rfl ⟨rfl, rfl⟩ ⟨rfl, rfl⟩ (by kernel_rfl) (by kernel_rfl) (by kernel_rfl) (by kernel_rfl) (by kernel_rfl) (by kernel_rfl) (by kernel_rfl) (by decide) (by decide) (by simp) 36 7 56 (.agg #[.int .i64 0, .int .i64 0, .int .i64 0, .int .i64 0, .int .i64 0, .int .i64 0, .int .i64 0]) Tryd.underlying24 infoNest rfl (by decide) (by decide) ?run0PC [f (i * 7), f (i * 7 + 1), f (i * 7 + 2), f (i * 7 + 3), f (i * 7 + 4), f (i * 7 + 5), f (i * 7 + 6)] rfl ?runBPC (rowsOf f 7 (L.take k)) (rowsOf f 7 (L.drop k)) k gc 0 (gc - k) (some ⟨g, 0, none⟩) (some ⟨g, k * 7, none⟩) rfl rfl hHeld ?s1PC ?s3PC (by omega) ?nextPC
                          case run0PC => intro a w; go_simp
                          case runBPC =>
                            intro a' w hev
                            have h1 : a'.eval (.tmp 74) = .agg #[.int .i64 (f (i * 7)), .int .i64 (f (i * 7 + 1)), .int .i64 (f (i * 7 + 2)), .int .i64 (f (i * 7 + 3)), .int .i64 (f (i * 7 + 4)), .int .i64 (f (i * 7 + 5)), .int .i64 (f (i * 7 + 6))] := (hev 74 (by decide) (by decide)).trans rfl
                            have h2 : a'.tmps[74]?.getD undef = .agg #[.int .i64 (f (i * 7)), .int .i64 (f (i * 7 + 1)), .int .i64 (f (i * 7 + 2)), .int .i64 (f (i * 7 + 3)), .int .i64 (f (i * 7 + 4)), .int .i64 (f (i * 7 + 5)), .int .i64 (f (i * 7 + 6))] := by simpa [Act.eval] using h1
                            clear h1 hev
                            go_simp
                          case s1PC =>
                            intro w' hb'
                            exact RRow.srcTake (ownsRow_below HOWN.out hb') HN.out k gc (by omega)
                          case s3PC =>
                            intro w' hb'
                            exact Src.none_of (by rw [List.drop_of_length_le (by have := HN.out; omega)]; rfl) (by simp)
                          case nextPC =>
                            intro u0 u1 uB u2 g' c' w' hc1 hc2 hg1 hown' hB'
                            clear hHeld
                            have hHeld := hB'
                            simp only [Act.put, List.setIfInBounds_toArray, List.set_cons_zero, List.set_cons_succ]
                            refine wpAnyH_takeD (i := 12) (d := 9) (v := ?_) rfl (by kernel_rfl) (by kernel_rfl) (by kernel_rfl) (fun _ _ _ h => h) (by rfl) ?_ hHeld ?_
                            rotate_left
                            · intro wS hS
                              have eF := HF.out wS hS
                              go_simp
                              try with_reducible rfl
                            simp only [Act.put, List.setIfInBounds_toArray, List.set_cons_zero, List.set_cons_succ]
                            refine wpAnyH_done (by kernel_rfl) ?_ _
                            try simp only [Nat.add_zero] at hown' hc1
                            have hl : k + 1 = (insI (pastMv f) L i).length := by rw [insI_length]; have := HN.out; omega
                            have hrow : rowsOf f 7 (L.take k) ++ [f (i * 7), f (i * 7 + 1), f (i * 7 + 2), f (i * 7 + 3), f (i * 7 + 4), f (i * 7 + 5), f (i * 7 + 6)] ++ rowsOf f 7 (L.drop k) = rowsOf f 7 (insI (pastMv f) L i) := by
                              have hst := HST.out
                              have hins : insI (pastMv f) L i = L.take k ++ i :: L.drop k := by unfold insI; rw [hst]
                              rw [hins, rowsOf_append, List.append_assoc]
                              rfl
                            rw [hrow] at hown'
                            have hr' := Lib.hid (RRow.of hl (ownsRow_mono hown' hlo))
                            have hBn := below_of hBX hB' hBX.size
                            clear hown' hHeld
                            go_wp2
                            go_roundw
                            case rel => exact ⟨i + 1, by omega, by go_num, by rw [pastL_yes HPB.out, HL.out]; exact hr'.out, ownsRow_below HOUT.out hB', hBn⟩
                            case measure => simp [intOf]; omega
          · have hni : ¬ ((i : Int) < (n : Int)) := by omega
            have hin : i = n := by omega
            subst hin
            have hLl := pastL_lt f x day i
            have hL12 := pastL_len f x day i
            clear HS
            generalize pastL f x day i = L at *
            obtain ⟨⟨g, gc, rfl, hgc, hgcm, hgl0, hg0⟩, hown⟩ := HO.out
            obtain ⟨l, hl⟩ : ∃ l, l = L.length := ⟨_, rfl⟩
            rw [← hl] at hgc hL12 hown ⊢
            have HN := Lib.hid hl
            have HR : Hid (RRow f 7 36 wr w.heap.size (.slice (some ⟨g, 0, none⟩) l gc) L) := RRow.of hl hown
            clear hown hl hgcm HO
            go_wp2_with fail
            go_loopw [8, 13] (fun v iv wr => ∃ k : Nat, k ≤ l ∧ iv = .int .i64 k ∧ wr.ownsRow w.heap.size 3 1 v (idsOf f (L.take k)).length ((idsOf f (L.take k)).map (Value.int .i64)) ∧ RRow f 7 36 wr w.heap.size (.slice (some ⟨g, 0, none⟩) l gc) L ∧ Below w.heap.size w wr) (fun _ iv _ => l - (intOf iv).toNat)
            case atStart => exact ⟨0, Nat.zero_le _, rfl, HU.out, HR.out, hB⟩
            case round =>
              obtain ⟨k, hk, rfl, hown, hro, hB2⟩ := hrel
              clear HR HU hB
              have hPl : (idsOf f (L.take k)).length = k := by rw [idsOf, List.length_map, List.length_take]; have := HN.out; omega
              by_cases hkl : k < l
              · have y0 := RRow.cellR hro HN.out k 0 hkl (by decide)
                have HPS : Hid (idsOf f (L.take (k + 1)) = idsOf f (L.take k) ++ [f (L.getD k 0 * 7)]) := by
                  show _ = _
                  have hkL : k < L.length := by rw [← HN.out]; exact hkl
                  rw [List.take_succ_eq_append_getElem hkL, idsOf, idsOf, List.map_append, List.getD_eq_getElem?_getD, List.getElem?_eq_getElem hkL]
                  rfl
                simp only [Nat.add_zero] at y0
                generalize f (L.getD k 0 * 7) = z at *
                generalize idsOf f (L.take k) = P at *
                have HO2 := Lib.hid hown
                have HR2 := Lib.hid hro
                have hk0i : (0 : Int) ≤ (k : Int) := by omega
                have hkli : (k : Int) < (l : Int) := by omega
                have hPl2 : P.length ≤ 100000000 := by omega
                have hsz := hB2.size
                clear hown hro
                go_wp2_with (at_builtin; refine wpList_append_int1 _ rfl _ _ 37 rfl w.heap.size 3 Tryd.underlying37 infoIntC P z _ rfl (HO2.out.alloc _) _ rfl (by simp) hPl2 (by simp; omega) ?_; intro v' w3 hown3 _ hgrow3)
                go_roundw
                case rel => exact ⟨k + 1, by omega, by go_num, by rw [HPS.out]; exact hown3, (HR2.out.below ((Below.refl _ _).alloc (Nat.le_refl _) _)).grown_other (HO2.out.alloc _) (by decide) hgrow3, below_app (hB2.alloc hB2.size _) (HO2.out.alloc _) hgrow3⟩
                case measure => simp [intOf]; omega
              · have hkl2 : k = l := by omega
                have hfin : Hid (idsOf f (L.take k) = idsOf f L) := by show _ = _; rw [List.take_of_length_le (by rw [← HN.out]; omega)]
                have HO2 := Lib.hid hown
                clear hown hro
                have hkli : ¬ ((k : Int) < (l : Int)) := by omega
                clear hkl2
                generalize idsOf f (L.take k) = P at *
                go_wp2
                go_ret2
                rw [← hfin.out]
                exact IntsPost.mk_ HO2.out hB2
end Go.Proofs.YtcecpioiagfoiaaDoor
