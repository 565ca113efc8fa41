/-
  FormatConsole.
-/
import Derived.Test.YtegklcapfjigaaaDoorCfP
import Derived.Test.YtegklcapfjigaaaDoorConV
import Derived.Test.YtegklcapfjigaaaDoorRegionQ
import Derived.Deep.Cut
namespace Go.Proofs.YtegklcapfjigaaaDoor
open Go.RowKit
set_option linter.unusedVariables false
set_option linter.unusedSimpArgs false
set_option maxRecDepth 100000 in
set_option maxHeartbeats 4000000 in
theorem FormatConsole_any (A : Option Addr) (n c lo hi : Nat) (f : Nat → Int) (I H S P : Int) (D Q : ByteArray) (z : Int) (w : World) (hs : Sl w lo hi 4 A n f) (hn : n ≤ 1048576) (hnc : n ≤ c) (hD : D.size ≤ 1048576) (hQ : Q.size ≤ 1048576) (ht : Tab w) (hm : Mx w) :
    Calls Tryd.prog 11 #[.agg #[.slice A n c, .int .i64 I, .int .i64 H, .int .i64 S, .int .i64 P, .string D, .string Q, .int .i64 z]] w fun e w' => e = .returned (.tuple #[.string (cond (goodWorks f n I H S P && logOk D Q z) (fmtB f n I H S z) ⟨#[]⟩), .bool (goodWorks f n I H S P && logOk D Q z)]) ∧ Below w.heap.size w w' := by
  have HX : Hid (Below w.heap.size w (w.alloc (.cells #[.slice A n c, .int .i64 I, .int .i64 H, .int .i64 S, .int .i64 P, .string D, .string Q, .int .i64 z] 36))) := (Below.refl _ w).alloc (Nat.le_refl _) _
  have H0 : Hid ((w.alloc (.cells #[.slice A n c, .int .i64 I, .int .i64 H, .int .i64 S, .int .i64 P, .string D, .string Q, .int .i64 z] 36)).heap[w.heap.size]? = some (.cells #[.slice A n c, .int .i64 I, .int .i64 H, .int .i64 S, .int .i64 P, .string D, .string Q, .int .i64 z] 36 (0, 0))) := heap_alloc_new w _
  have HS : Hid (Sl (w.alloc (.cells #[.slice A n c, .int .i64 I, .int .i64 H, .int .i64 S, .int .i64 P, .string D, .string Q, .int .i64 z] 36)) lo hi 4 A n f) := hs.below HX.out
  clear hs
  cases hok : (goodWorks f n I H S P && logOk D Q z) with
  | false =>
    go_enter Tryd.func11, Tryd.ntmps11
    go_upto_region 1 with fail
    refine name_wp ?_
    intro w1 hw1
    rw [← hw1] at HX H0 HS
    clear hw1
    have h0 := H0.out
    have e0 : w1.cell? ⟨w.heap.size, 0, none⟩ = some (.slice A n c) := by rw [cell_of_row w1 (w.heap.size) 0 _ _ (0, 0) h0]; rfl
    have e1 : w1.cell? ⟨w.heap.size, 1, none⟩ = some (.int .i64 I) := by rw [cell_of_row w1 (w.heap.size) 1 _ _ (0, 0) h0]; rfl
    have e2 : w1.cell? ⟨w.heap.size, 2, none⟩ = some (.int .i64 H) := by rw [cell_of_row w1 (w.heap.size) 2 _ _ (0, 0) h0]; rfl
    have e3 : w1.cell? ⟨w.heap.size, 3, none⟩ = some (.int .i64 S) := by rw [cell_of_row w1 (w.heap.size) 3 _ _ (0, 0) h0]; rfl
    have e4 : w1.cell? ⟨w.heap.size, 4, none⟩ = some (.int .i64 P) := by rw [cell_of_row w1 (w.heap.size) 4 _ _ (0, 0) h0]; rfl
    have e5 : w1.cell? ⟨w.heap.size, 5, none⟩ = some (.string D) := by rw [cell_of_row w1 (w.heap.size) 5 _ _ (0, 0) h0]; rfl
    have e6 : w1.cell? ⟨w.heap.size, 6, none⟩ = some (.string Q) := by rw [cell_of_row w1 (w.heap.size) 6 _ _ (0, 0) h0]; rfl
    have e7 : w1.cell? ⟨w.heap.size, 7, none⟩ = some (.int .i64 z) := by rw [cell_of_row w1 (w.heap.size) 7 _ _ (0, 0) h0]; rfl
    clear h0
    go_wp2_with fail
    refine (IsValidConsole_any A n c lo hi f I H S P D Q z w1 HS.out hn hnc hD hQ (ht.below HX.out) (hm.below HX.out)).mono ?_
    rw [hok]
    rintro e w2 ⟨rfl, hb⟩
    have BX2 := below_of HX.out hb HX.out.size
    go_wp2
    go_ret2
    exact ⟨rfl, BX2⟩
  | true =>
    have hgl := hok
    rw [Bool.and_eq_true] at hgl
    obtain ⟨hg, hl⟩ := hgl
    obtain ⟨hI, hH, hS_, hz⟩ := con_nums hg hl
    have hn6 := con_len hg
    have HG := Lib.hid hg
    have HL := Lib.hid hl
    clear hg hl
    have hz1 := numB_size (n := I) (by omega) (by omega)
    have hz2 := numB_size (n := H) (by omega) (by omega)
    have hz3 := numB_size (n := S) (by omega) (by omega)
    have hz4 := numB_size (n := z) (by omega) (by omega)
    go_enter Tryd.func11, Tryd.ntmps11
    go_upto_region 1 with fail
    refine name_wp ?_
    intro w1 hw1
    rw [← hw1] at HX H0 HS
    clear hw1
    have h0 := H0.out
    have e0 : w1.cell? ⟨w.heap.size, 0, none⟩ = some (.slice A n c) := by rw [cell_of_row w1 (w.heap.size) 0 _ _ (0, 0) h0]; rfl
    have e1 : w1.cell? ⟨w.heap.size, 1, none⟩ = some (.int .i64 I) := by rw [cell_of_row w1 (w.heap.size) 1 _ _ (0, 0) h0]; rfl
    have e2 : w1.cell? ⟨w.heap.size, 2, none⟩ = some (.int .i64 H) := by rw [cell_of_row w1 (w.heap.size) 2 _ _ (0, 0) h0]; rfl
    have e3 : w1.cell? ⟨w.heap.size, 3, none⟩ = some (.int .i64 S) := by rw [cell_of_row w1 (w.heap.size) 3 _ _ (0, 0) h0]; rfl
    have e4 : w1.cell? ⟨w.heap.size, 4, none⟩ = some (.int .i64 P) := by rw [cell_of_row w1 (w.heap.size) 4 _ _ (0, 0) h0]; rfl
    have e5 : w1.cell? ⟨w.heap.size, 5, none⟩ = some (.string D) := by rw [cell_of_row w1 (w.heap.size) 5 _ _ (0, 0) h0]; rfl
    have e6 : w1.cell? ⟨w.heap.size, 6, none⟩ = some (.string Q) := by rw [cell_of_row w1 (w.heap.size) 6 _ _ (0, 0) h0]; rfl
    have e7 : w1.cell? ⟨w.heap.size, 7, none⟩ = some (.int .i64 z) := by rw [cell_of_row w1 (w.heap.size) 7 _ _ (0, 0) h0]; rfl
    clear h0
    go_wp2_with fail
    refine (IsValidConsole_any A n c lo hi f I H S P D Q z w1 HS.out hn hnc hD hQ (ht.below HX.out) (hm.below HX.out)).mono ?_
    rw [hok]
    rintro e w2 ⟨rfl, hb⟩
    have BX2 := below_of HX.out hb HX.out.size
    have h0 := rowC H0.out hb
    have hS2 := HS.out.below hb
    clear e0 e1 e2 e3 e4 e5 e6 e7
    have e0 : w2.cell? ⟨w.heap.size, 0, none⟩ = some (.slice A n c) := by rw [cell_of_row w2 (w.heap.size) 0 _ _ (0, 0) h0]; rfl
    have e1 : w2.cell? ⟨w.heap.size, 1, none⟩ = some (.int .i64 I) := by rw [cell_of_row w2 (w.heap.size) 1 _ _ (0, 0) h0]; rfl
    have e2 : w2.cell? ⟨w.heap.size, 2, none⟩ = some (.int .i64 H) := by rw [cell_of_row w2 (w.heap.size) 2 _ _ (0, 0) h0]; rfl
    have e3 : w2.cell? ⟨w.heap.size, 3, none⟩ = some (.int .i64 S) := by rw [cell_of_row w2 (w.heap.size) 3 _ _ (0, 0) h0]; rfl
    have e4 : w2.cell? ⟨w.heap.size, 4, none⟩ = some (.int .i64 P) := by rw [cell_of_row w2 (w.heap.size) 4 _ _ (0, 0) h0]; rfl
    have e5 : w2.cell? ⟨w.heap.size, 5, none⟩ = some (.string D) := by rw [cell_of_row w2 (w.heap.size) 5 _ _ (0, 0) h0]; rfl
    have e6 : w2.cell? ⟨w.heap.size, 6, none⟩ = some (.string Q) := by rw [cell_of_row w2 (w.heap.size) 6 _ _ (0, 0) h0]; rfl
    have e7 : w2.cell? ⟨w.heap.size, 7, none⟩ = some (.int .i64 z) := by rw [cell_of_row w2 (w.heap.size) 7 _ _ (0, 0) h0]; rfl
    have HB2 := Lib.hid BX2
    have HT2 := Lib.hid (ht.below BX2)
    have H2 := Lib.hid h0
    have HS2 := Lib.hid hS2
    clear hb h0 hS2 BX2 HX H0 HS ht hm hok
    go_upto_region 5 with fail
    clear e0 e1 e2 e3 e4 e5 e6 e7
    go_wp2_with fail
    go_loopw [4, 16] (fun tv kv wr => (∃ k : Nat, k ≤ n ∧ kv = .int .i64 k ∧ tv = .string (pansB f k)) ∧ Below w2.heap.size w2 wr) (fun _ kv _ => n - (intOf kv).toNat)
    case atStart => exact ⟨⟨0, Nat.zero_le _, rfl, rfl⟩, Below.refl _ _⟩
    case round =>
      obtain ⟨⟨k, hk, rfl, rfl⟩, hB⟩ := hrel
      have h0 := rowC H2.out hB
      have HTr := Lib.hid (HT2.out.below hB)
      have HBr := Lib.hid (HB2.out.trans (hB.mono HB2.out.size))
      by_cases hlt : k < n
      · have hki : (k : Int) < (n : Int) := by omega
        have hk0 : (0 : Int) ≤ (k : Int) := by omega
        obtain ⟨b1, o1, eA, _, hb1, hc⟩ := (HS2.out.below hB).here (by omega)
        have hb1 := Nat.lt_of_lt_of_le hb1 (HS2.out.below hB).hi_le
        obtain ⟨hid0, hid1⟩ := pan_id HG.out hlt
        obtain ⟨hh_, hw_, hs_, _, _⟩ := good_pan HG.out hlt
        have hy1 := numB_size (n := f (k * 4)) (by omega) (by omega)
        have hy2 := panB_size hh_ hw_ hs_
        have hT := pansB_size HG.out hk
        have d0 := hc (k * 4) (by omega)
        have d1 := hc (k * 4 + 1) (by omega)
        have d2 := hc (k * 4 + 2) (by omega)
        have d3 := hc (k * 4 + 3) (by omega)
        rw [← Nat.add_assoc] at d1 d2 d3
        subst eA
        clear hc
        go_upto_region 7 with fail
        refine name_wp ?_
        intro w5 hw5
        have hb5 : Below wr.heap.size wr w5 := by rw [hw5]; exact (Below.refl _ _).alloc (Nat.le_refl _) _
        have h6 : w5.heap[wr.heap.size]? = some (.cells #[.int .i64 (f (k * 4)), .int .i64 (f (k * 4 + 1)), .int .i64 (f (k * 4 + 2)), .int .i64 (f (k * 4 + 3))] 54 (0, 0)) := by rw [hw5]; exact heap_alloc_new wr _
        have h05 := rowC h0 hb5
        clear hw5 d0 d1 d2 d3
        have HB5 := Lib.hid (hB.trans (hb5.mono hB.size))
        have HT5 := Lib.hid (HTr.out.below hb5)
        clear hb5 h0 hB
        generalize wr.heap.size = g6 at *
        have e0 : w5.cell? ⟨w.heap.size, 0, none⟩ = some (.slice (some ⟨b1, o1, none⟩) n c) := by rw [cell_of_row w5 (w.heap.size) 0 _ _ (0, 0) h05]; rfl
        have e1 : w5.cell? ⟨w.heap.size, 1, none⟩ = some (.int .i64 I) := by rw [cell_of_row w5 (w.heap.size) 1 _ _ (0, 0) h05]; rfl
        have e2 : w5.cell? ⟨w.heap.size, 2, none⟩ = some (.int .i64 H) := by rw [cell_of_row w5 (w.heap.size) 2 _ _ (0, 0) h05]; rfl
        have e3 : w5.cell? ⟨w.heap.size, 3, none⟩ = some (.int .i64 S) := by rw [cell_of_row w5 (w.heap.size) 3 _ _ (0, 0) h05]; rfl
        have e4 : w5.cell? ⟨w.heap.size, 4, none⟩ = some (.int .i64 P) := by rw [cell_of_row w5 (w.heap.size) 4 _ _ (0, 0) h05]; rfl
        have e5 : w5.cell? ⟨w.heap.size, 5, none⟩ = some (.string D) := by rw [cell_of_row w5 (w.heap.size) 5 _ _ (0, 0) h05]; rfl
        have e6 : w5.cell? ⟨w.heap.size, 6, none⟩ = some (.string Q) := by rw [cell_of_row w5 (w.heap.size) 6 _ _ (0, 0) h05]; rfl
        have e7 : w5.cell? ⟨w.heap.size, 7, none⟩ = some (.int .i64 z) := by rw [cell_of_row w5 (w.heap.size) 7 _ _ (0, 0) h05]; rfl
        have d0 : w5.cell? ⟨g6, 0, none⟩ = some (.int .i64 (f (k * 4))) := by rw [cell_of_row w5 (g6) 0 _ _ (0, 0) h6]; rfl
        have d1 : w5.cell? ⟨g6, 1, none⟩ = some (.int .i64 (f (k * 4 + 1))) := by rw [cell_of_row w5 (g6) 1 _ _ (0, 0) h6]; rfl
        have d2 : w5.cell? ⟨g6, 2, none⟩ = some (.int .i64 (f (k * 4 + 2))) := by rw [cell_of_row w5 (g6) 2 _ _ (0, 0) h6]; rfl
        have d3 : w5.cell? ⟨g6, 3, none⟩ = some (.int .i64 (f (k * 4 + 3))) := by rw [cell_of_row w5 (g6) 3 _ _ (0, 0) h6]; rfl
        go_wp2_with fail
        refine (PanText_yes _ n c lo hi f I H S P (f (k * 4)) w5 (HS2.out.below HB5.out) hn hnc HT5.out HG.out k hlt (pan_find HG.out hlt)).mono ?_
        rintro e w6 ⟨rfl, hb6⟩
        have h66 := rowC h6 hb6
        have HB6 := Lib.hid (HB5.out.trans (hb6.mono HB5.out.size))
        have HT6 := Lib.hid (HT5.out.below hb6)
        clear hb6 h6 h05 e0 e1 e2 e3 e4 e5 e6 e7 d0 d1 d2 d3
        have d0 : w6.cell? ⟨g6, 0, none⟩ = some (.int .i64 (f (k * 4))) := by rw [cell_of_row w6 (g6) 0 _ _ (0, 0) h66]; rfl
        have d1 : w6.cell? ⟨g6, 1, none⟩ = some (.int .i64 (f (k * 4 + 1))) := by rw [cell_of_row w6 (g6) 1 _ _ (0, 0) h66]; rfl
        have d2 : w6.cell? ⟨g6, 2, none⟩ = some (.int .i64 (f (k * 4 + 2))) := by rw [cell_of_row w6 (g6) 2 _ _ (0, 0) h66]; rfl
        have d3 : w6.cell? ⟨g6, 3, none⟩ = some (.int .i64 (f (k * 4 + 3))) := by rw [cell_of_row w6 (g6) 3 _ _ (0, 0) h66]; rfl
        clear h66
        go_wp2_with fail
        refine (decimal_any (f (k * 4)) (by omega) (by omega) w6 HT6.out).mono ?_
        rintro e w7 ⟨rfl, hb7⟩
        have HB7 := Lib.hid (HB6.out.trans (hb7.mono HB6.out.size))
        clear hb7 d0 d1 d2 d3
        go_wp2
        go_roundw
        case rel => exact ⟨⟨k + 1, by omega, by go_num, rfl⟩, HB7.out⟩
        case measure => simp [intOf]; omega
      · obtain rfl : k = n := by omega
        have hki : ¬ ((k : Int) < (k : Int)) := by omega
        have hT := pansB_size HG.out (Nat.le_refl k)
        have HF : Hid (∀ w', Below wr.heap.size wr w' → w'.cell? ⟨w.heap.size, 1, none⟩ = some (.int .i64 I) ∧ w'.cell? ⟨w.heap.size, 2, none⟩ = some (.int .i64 H) ∧ w'.cell? ⟨w.heap.size, 3, none⟩ = some (.int .i64 S) ∧ w'.cell? ⟨w.heap.size, 7, none⟩ = some (.int .i64 z)) := fun w' hq => by
          have hx := rowC h0 hq
          exact ⟨by rw [cell_of_row w' w.heap.size 1 _ _ (0, 0) hx]; rfl, by rw [cell_of_row w' w.heap.size 2 _ _ (0, 0) hx]; rfl, by rw [cell_of_row w' w.heap.size 3 _ _ (0, 0) hx]; rfl, by rw [cell_of_row w' w.heap.size 7 _ _ (0, 0) hx]; rfl⟩
        clear h0 hB
        go_upto_region 10 with fail
        refine wp_region_class (C := fun w' => Below (wr).heap.size (wr) w') (by kernel_rfl) (by kernel_rfl) ((Below.refl _ _).drew) ?_
        refine wpQuiet_take (d := 38) (v := ?_) (by rfl) ?_ ?_
        rotate_left
        · intro wS hS
          have eF := HF.out wS hS
          go_simp
          try with_reducible rfl
        simp only [Act.put, List.setIfInBounds_toArray, List.set_cons_zero, List.set_cons_succ]
        refine wpQuiet_take (d := 39) (v := ?_) (by rfl) ?_ ?_
        rotate_left
        · intro wS hS
          refine run_add_strP ⟨_, _, rfl, rfl, by (try simp only [ByteArray.size_append', ByteArray.size_mk', List.size_toArray, List.length_cons, List.length_nil]); omega, ?_⟩
          with_reducible rfl
        simp only [Act.put, List.setIfInBounds_toArray, List.set_cons_zero, List.set_cons_succ]
        refine wpQuiet_take (d := 40) (v := ?_) (by rfl) ?_ ?_
        rotate_left
        · intro wS hS
          have eF := HF.out wS hS
          go_simp
          try with_reducible rfl
        simp only [Act.put, List.setIfInBounds_toArray, List.set_cons_zero, List.set_cons_succ]
        refine wpQuiet_take (d := 41) (v := ?_) (by rfl) ?_ ?_
        rotate_left
        · intro wS hS
          have eF := HF.out wS hS
          go_simp
          try with_reducible rfl
        simp only [Act.put, List.setIfInBounds_toArray, List.set_cons_zero, List.set_cons_succ]
        refine wpQuiet_take (d := 42) (v := ?_) (by rfl) ?_ ?_
        rotate_left
        · intro wS hS
          have eF := HF.out wS hS
          go_simp
          try with_reducible rfl
        simp only [Act.put, List.setIfInBounds_toArray, List.set_cons_zero, List.set_cons_succ]
        refine wpQuiet_meet (d := 43) (v := ?_) ?_ ?_ (by rfl) ?_ ?_ ?_
        rotate_left
        rotate_left
        rotate_left
        · intro wS hS
          have eF := HF.out wS hS
          go_simp
          first | with_reducible rfl | (refine ⟨?_, ?_⟩ <;> with_reducible rfl)
        · intro wS hS
          refine (decimal_any I (by omega) (by omega) wS (HTr.out.below hS)).mono ?_
          rintro e w2 ⟨rfl, hb2⟩
          refine ⟨?_, hS.trans (hb2.mono hS.size)⟩
          with_reducible rfl
        simp only [Act.put, List.setIfInBounds_toArray, List.set_cons_zero, List.set_cons_succ]
        refine wpQuiet_take (d := 44) (v := ?_) (by rfl) ?_ ?_
        rotate_left
        · intro wS hS
          refine run_add_strP ⟨_, _, rfl, rfl, by (try simp only [ByteArray.size_append', ByteArray.size_mk', List.size_toArray, List.length_cons, List.length_nil]); omega, ?_⟩
          with_reducible rfl
        simp only [Act.put, List.setIfInBounds_toArray, List.set_cons_zero, List.set_cons_succ]
        refine wpQuiet_take (d := 45) (v := ?_) (by rfl) ?_ ?_
        rotate_left
        · intro wS hS
          refine run_add_strP ⟨_, _, rfl, rfl, by (try simp only [ByteArray.size_append', ByteArray.size_mk', List.size_toArray, List.length_cons, List.length_nil]); omega, ?_⟩
          with_reducible rfl
        simp only [Act.put, List.setIfInBounds_toArray, List.set_cons_zero, List.set_cons_succ]
        refine wpQuiet_take (d := 46) (v := ?_) (by rfl) ?_ ?_
        rotate_left
        · intro wS hS
          have eF := HF.out wS hS
          go_simp
          try with_reducible rfl
        simp only [Act.put, List.setIfInBounds_toArray, List.set_cons_zero, List.set_cons_succ]
        refine wpQuiet_take (d := 47) (v := ?_) (by rfl) ?_ ?_
        rotate_left
        · intro wS hS
          have eF := HF.out wS hS
          go_simp
          try with_reducible rfl
        simp only [Act.put, List.setIfInBounds_toArray, List.set_cons_zero, List.set_cons_succ]
        refine wpQuiet_take (d := 48) (v := ?_) (by rfl) ?_ ?_
        rotate_left
        · intro wS hS
          have eF := HF.out wS hS
          go_simp
          try with_reducible rfl
        simp only [Act.put, List.setIfInBounds_toArray, List.set_cons_zero, List.set_cons_succ]
        refine wpQuiet_meet (d := 49) (v := ?_) ?_ ?_ (by rfl) ?_ ?_ ?_
        rotate_left
        rotate_left
        rotate_left
        · intro wS hS
          have eF := HF.out wS hS
          go_simp
          first | with_reducible rfl | (refine ⟨?_, ?_⟩ <;> with_reducible rfl)
        · intro wS hS
          refine (decimal_any H (by omega) (by omega) wS (HTr.out.below hS)).mono ?_
          rintro e w2 ⟨rfl, hb2⟩
          refine ⟨?_, hS.trans (hb2.mono hS.size)⟩
          with_reducible rfl
        simp only [Act.put, List.setIfInBounds_toArray, List.set_cons_zero, List.set_cons_succ]
        refine wpQuiet_take (d := 50) (v := ?_) (by rfl) ?_ ?_
        rotate_left
        · intro wS hS
          refine run_add_strP ⟨_, _, rfl, rfl, by (try simp only [ByteArray.size_append', ByteArray.size_mk', List.size_toArray, List.length_cons, List.length_nil]); omega, ?_⟩
          with_reducible rfl
        simp only [Act.put, List.setIfInBounds_toArray, List.set_cons_zero, List.set_cons_succ]
        refine wpQuiet_take (d := 51) (v := ?_) (by rfl) ?_ ?_
        rotate_left
        · intro wS hS
          refine run_add_strP ⟨_, _, rfl, rfl, by (try simp only [ByteArray.size_append', ByteArray.size_mk', List.size_toArray, List.length_cons, List.length_nil]); omega, ?_⟩
          with_reducible rfl
        simp only [Act.put, List.setIfInBounds_toArray, List.set_cons_zero, List.set_cons_succ]
        refine wpQuiet_take (d := 52) (v := ?_) (by rfl) ?_ ?_
        rotate_left
        · intro wS hS
          have eF := HF.out wS hS
          go_simp
          try with_reducible rfl
        simp only [Act.put, List.setIfInBounds_toArray, List.set_cons_zero, List.set_cons_succ]
        refine wpQuiet_take (d := 53) (v := ?_) (by rfl) ?_ ?_
        rotate_left
        · intro wS hS
          have eF := HF.out wS hS
          go_simp
          try with_reducible rfl
        simp only [Act.put, List.setIfInBounds_toArray, List.set_cons_zero, List.set_cons_succ]
        refine wpQuiet_take (d := 54) (v := ?_) (by rfl) ?_ ?_
        rotate_left
        · intro wS hS
          have eF := HF.out wS hS
          go_simp
          try with_reducible rfl
        simp only [Act.put, List.setIfInBounds_toArray, List.set_cons_zero, List.set_cons_succ]
        refine wpQuiet_meet (d := 55) (v := ?_) ?_ ?_ (by rfl) ?_ ?_ ?_
        rotate_left
        rotate_left
        rotate_left
        · intro wS hS
          have eF := HF.out wS hS
          go_simp
          first | with_reducible rfl | (refine ⟨?_, ?_⟩ <;> with_reducible rfl)
        · intro wS hS
          refine (decimal_any S (by omega) (by omega) wS (HTr.out.below hS)).mono ?_
          rintro e w2 ⟨rfl, hb2⟩
          refine ⟨?_, hS.trans (hb2.mono hS.size)⟩
          with_reducible rfl
        simp only [Act.put, List.setIfInBounds_toArray, List.set_cons_zero, List.set_cons_succ]
        refine wpQuiet_take (d := 56) (v := ?_) (by rfl) ?_ ?_
        rotate_left
        · intro wS hS
          refine run_add_strP ⟨_, _, rfl, rfl, by (try simp only [ByteArray.size_append', ByteArray.size_mk', List.size_toArray, List.length_cons, List.length_nil]); omega, ?_⟩
          with_reducible rfl
        simp only [Act.put, List.setIfInBounds_toArray, List.set_cons_zero, List.set_cons_succ]
        refine wpQuiet_take (d := 57) (v := ?_) (by rfl) ?_ ?_
        rotate_left
        · intro wS hS
          refine run_add_strP ⟨_, _, rfl, rfl, by (try simp only [ByteArray.size_append', ByteArray.size_mk', List.size_toArray, List.length_cons, List.length_nil]); omega, ?_⟩
          with_reducible rfl
        simp only [Act.put, List.setIfInBounds_toArray, List.set_cons_zero, List.set_cons_succ]
        refine wpQuiet_take (d := 58) (v := ?_) (by rfl) ?_ ?_
        rotate_left
        · intro wS hS
          have eF := HF.out wS hS
          go_simp
          try with_reducible rfl
        simp only [Act.put, List.setIfInBounds_toArray, List.set_cons_zero, List.set_cons_succ]
        refine wpQuiet_take (d := 59) (v := ?_) (by rfl) ?_ ?_
        rotate_left
        · intro wS hS
          have eF := HF.out wS hS
          go_simp
          try with_reducible rfl
        simp only [Act.put, List.setIfInBounds_toArray, List.set_cons_zero, List.set_cons_succ]
        refine wpQuiet_take (d := 60) (v := ?_) (by rfl) ?_ ?_
        rotate_left
        · intro wS hS
          have eF := HF.out wS hS
          go_simp
          try with_reducible rfl
        simp only [Act.put, List.setIfInBounds_toArray, List.set_cons_zero, List.set_cons_succ]
        refine wpQuiet_meet (d := 61) (v := ?_) ?_ ?_ (by rfl) ?_ ?_ ?_
        rotate_left
        rotate_left
        rotate_left
        · intro wS hS
          have eF := HF.out wS hS
          go_simp
          first | with_reducible rfl | (refine ⟨?_, ?_⟩ <;> with_reducible rfl)
        · intro wS hS
          refine (decimal_any z (by omega) (by omega) wS (HTr.out.below hS)).mono ?_
          rintro e w2 ⟨rfl, hb2⟩
          refine ⟨?_, hS.trans (hb2.mono hS.size)⟩
          with_reducible rfl
        simp only [Act.put, List.setIfInBounds_toArray, List.set_cons_zero, List.set_cons_succ]
        refine wpQuiet_take (d := 62) (v := ?_) (by rfl) ?_ ?_
        rotate_left
        · intro wS hS
          refine run_add_strP ⟨_, _, rfl, rfl, by (try simp only [ByteArray.size_append', ByteArray.size_mk', List.size_toArray, List.length_cons, List.length_nil]); omega, ?_⟩
          with_reducible rfl
        simp only [Act.put, List.setIfInBounds_toArray, List.set_cons_zero, List.set_cons_succ]
        refine wpQuiet_take (d := 63) (v := ?_) (by rfl) ?_ ?_
        rotate_left
        · intro wS hS
          refine run_add_strP ⟨_, _, rfl, rfl, by (try simp only [ByteArray.size_append', ByteArray.size_mk', List.size_toArray, List.length_cons, List.length_nil]); omega, ?_⟩
          with_reducible rfl
        simp only [Act.put, List.setIfInBounds_toArray, List.set_cons_zero, List.set_cons_succ]
        refine wpQuiet_take (d := 2) (v := ?_) (by rfl) ?_ ?_
        rotate_left
        · intro wS hS
          have eF := HF.out wS hS
          go_simp
          try with_reducible rfl
        simp only [Act.put, List.setIfInBounds_toArray, List.set_cons_zero, List.set_cons_succ]
        refine wpQuiet_take (d := 3) (v := ?_) (by rfl) ?_ ?_
        rotate_left
        · intro wS hS
          have eF := HF.out wS hS
          go_simp
          try with_reducible rfl
        simp only [Act.put, List.setIfInBounds_toArray, List.set_cons_zero, List.set_cons_succ]
        refine wpQuiet_nil (fun wq hHeld => ?_)
        go_wp2_with fail
        go_ret2
        exact ⟨rfl, HBr.out.trans (hHeld.mono HBr.out.size)⟩
end Go.Proofs.YtegklcapfjigaaaDoor
