/-
  FormatConsole.
-/
import Derived.Test.YtegklcapfjigaaaDoorCfP
import Derived.Test.YtegklcapfjigaaaDoorConV
import Derived.Test.YtegklcapfjigaaaDoorRegionQ
import Derived.Test.YtegklcapfjigaaaDoorStoreW
import Derived.Deep.Cut
namespace Go.Proofs.YtegklcapfjigaaaDoor
open Go.RowKit
set_option linter.unusedVariables false
set_option linter.unusedSimpArgs false
theorem infoWorksF : (Tryd.prog.info? 33).map (·.size) = some 5 := by kernel_rfl
set_option maxRecDepth 100000 in
set_option maxHeartbeats 4000000 in
theorem sFormatConsole_any (A : Option Addr) (n c lo hi : Nat) (f : Nat → Int) (I H S P : Int) (D Q : ByteArray) (z : Int) (w : World) (hs : Sl w lo hi 4 A n f) (hn : n ≤ 1048576) (hnc : n ≤ c) (hD : D.size ≤ 1048576) (hQ : Q.size ≤ 1048576) :
    Calls Tryd.prog 10 #[.agg #[.slice A n c, .int .i64 I, .int .i64 H, .int .i64 S, .int .i64 P, .string D, .string Q, .int .i64 z]] w fun e w' => e = .returned (.tuple #[.string (cond (goodWorks f n I H S P && logOk D Q z) (fmtB f n I H S z) ⟨#[]⟩), .bool (goodWorks f n I H S P && logOk D Q z)]) ∧ Below w.heap.size w w' := by
  have HX : Hid (Below w.heap.size w (w.alloc (.cells #[.slice A n c, .int .i64 I, .int .i64 H, .int .i64 S, .int .i64 P, .string D, .string Q, .int .i64 z] 36))) := (Below.refl _ w).alloc (Nat.le_refl _) _
  have H0 : Hid ((w.alloc (.cells #[.slice A n c, .int .i64 I, .int .i64 H, .int .i64 S, .int .i64 P, .string D, .string Q, .int .i64 z] 36)).heap[w.heap.size]? = some (.cells #[.slice A n c, .int .i64 I, .int .i64 H, .int .i64 S, .int .i64 P, .string D, .string Q, .int .i64 z] 36 (0, 0))) := heap_alloc_new w _
  have HS : Hid (Sl (w.alloc (.cells #[.slice A n c, .int .i64 I, .int .i64 H, .int .i64 S, .int .i64 P, .string D, .string Q, .int .i64 z] 36)) lo hi 4 A n f) := hs.below HX.out
  clear hs
  cases hok : (goodWorks f n I H S P && logOk D Q z) with
  | false =>
    go_enter Tryd.func10, Tryd.ntmps10
    go_upto_region 1 with fail
    refine name_wp ?_
    intro w1 hw1
    rw [← hw1] at HX H0 HS
    clear hw1
    have h0 := H0.out
    have e0 : w1.cell? ⟨w.heap.size, 0, none⟩ = some (.slice A n c) := by rw [cell_of_row w1 (w.heap.size) 0 _ _ (0, 0) h0]; rfl
    have e1 : w1.cell? ⟨w.heap.size, 1, none⟩ = some (.int .i64 I) := by rw [cell_of_row w1 (w.heap.size) 1 _ _ (0, 0) h0]; rfl
    have e2 : w1.cell? ⟨w.heap.size, 2, none⟩ = some (.int .i64 H) := by rw [cell_of_row w1 (w.heap.size) 2 _ _ (0, 0) h0]; rfl
    have e3 : w1.cell? ⟨w.heap.size, 3, none⟩ = some (.int .i64 S) := by rw [cell_of_row w1 (w.heap.size) 3 _ _ (0, 0) h0]; rfl
    have e4 : w1.cell? ⟨w.heap.size, 4, none⟩ = some (.int .i64 P) := by rw [cell_of_row w1 (w.heap.size) 4 _ _ (0, 0) h0]; rfl
    have e5 : w1.cell? ⟨w.heap.size, 5, none⟩ = some (.string D) := by rw [cell_of_row w1 (w.heap.size) 5 _ _ (0, 0) h0]; rfl
    have e6 : w1.cell? ⟨w.heap.size, 6, none⟩ = some (.string Q) := by rw [cell_of_row w1 (w.heap.size) 6 _ _ (0, 0) h0]; rfl
    have e7 : w1.cell? ⟨w.heap.size, 7, none⟩ = some (.int .i64 z) := by rw [cell_of_row w1 (w.heap.size) 7 _ _ (0, 0) h0]; rfl
    clear h0
    go_wp2_with fail
    refine (l28Good_any A n c lo hi f I H S P D Q z w1 HS.out hn hnc hD hQ).mono ?_
    rw [hok]
    rintro e w2 ⟨rfl, hb⟩
    have BX2 := below_of HX.out hb HX.out.size
    go_wp2
    go_ret2
    exact ⟨rfl, BX2⟩
  | true =>
    have hgl := hok
    rw [Bool.and_eq_true] at hgl
    obtain ⟨hg, hl⟩ := hgl
    obtain ⟨hI, hH, hS_, hz⟩ := con_nums hg hl
    have hn6 := con_len hg
    have HG := Lib.hid hg
    have HL := Lib.hid hl
    clear hg hl
    have hz1 := numB_size (n := I) (by omega) (by omega)
    have hz2 := numB_size (n := H) (by omega) (by omega)
    have hz3 := numB_size (n := S) (by omega) (by omega)
    have hz4 := numB_size (n := z) (by omega) (by omega)
    go_enter Tryd.func10, Tryd.ntmps10
    go_upto_region 1 with fail
    refine name_wp ?_
    intro w1 hw1
    rw [← hw1] at HX H0 HS
    clear hw1
    have h0 := H0.out
    have e0 : w1.cell? ⟨w.heap.size, 0, none⟩ = some (.slice A n c) := by rw [cell_of_row w1 (w.heap.size) 0 _ _ (0, 0) h0]; rfl
    have e1 : w1.cell? ⟨w.heap.size, 1, none⟩ = some (.int .i64 I) := by rw [cell_of_row w1 (w.heap.size) 1 _ _ (0, 0) h0]; rfl
    have e2 : w1.cell? ⟨w.heap.size, 2, none⟩ = some (.int .i64 H) := by rw [cell_of_row w1 (w.heap.size) 2 _ _ (0, 0) h0]; rfl
    have e3 : w1.cell? ⟨w.heap.size, 3, none⟩ = some (.int .i64 S) := by rw [cell_of_row w1 (w.heap.size) 3 _ _ (0, 0) h0]; rfl
    have e4 : w1.cell? ⟨w.heap.size, 4, none⟩ = some (.int .i64 P) := by rw [cell_of_row w1 (w.heap.size) 4 _ _ (0, 0) h0]; rfl
    have e5 : w1.cell? ⟨w.heap.size, 5, none⟩ = some (.string D) := by rw [cell_of_row w1 (w.heap.size) 5 _ _ (0, 0) h0]; rfl
    have e6 : w1.cell? ⟨w.heap.size, 6, none⟩ = some (.string Q) := by rw [cell_of_row w1 (w.heap.size) 6 _ _ (0, 0) h0]; rfl
    have e7 : w1.cell? ⟨w.heap.size, 7, none⟩ = some (.int .i64 z) := by rw [cell_of_row w1 (w.heap.size) 7 _ _ (0, 0) h0]; rfl
    clear h0
    go_wp2_with fail
    refine (l28Good_any A n c lo hi f I H S P D Q z w1 HS.out hn hnc hD hQ).mono ?_
    rw [hok]
    rintro e w2 ⟨rfl, hb⟩
    have BX2 := below_of HX.out hb HX.out.size
    have h0 := rowC H0.out hb
    have hS2 := HS.out.below hb
    clear e0 e1 e2 e3 e4 e5 e6 e7
    have HB2 := Lib.hid BX2
    have H2 := Lib.hid h0
    have HS2 := Lib.hid hS2
    have HF : Hid (∀ w', Below w2.heap.size w2 w' → w'.cell? ⟨w.heap.size, 0, none⟩ = some (.slice A n c) ∧ w'.cell? ⟨w.heap.size, 1, none⟩ = some (.int .i64 I) ∧ w'.cell? ⟨w.heap.size, 2, none⟩ = some (.int .i64 H) ∧ w'.cell? ⟨w.heap.size, 3, none⟩ = some (.int .i64 S) ∧ w'.cell? ⟨w.heap.size, 4, none⟩ = some (.int .i64 P)) := fun w' hq => by
      have hx := rowC h0 hq
      exact ⟨by rw [cell_of_row w' w.heap.size 0 _ _ (0, 0) hx]; rfl, by rw [cell_of_row w' w.heap.size 1 _ _ (0, 0) hx]; rfl, by rw [cell_of_row w' w.heap.size 2 _ _ (0, 0) hx]; rfl, by rw [cell_of_row w' w.heap.size 3 _ _ (0, 0) hx]; rfl, by rw [cell_of_row w' w.heap.size 4 _ _ (0, 0) hx]; rfl⟩
    clear hb h0 hS2 BX2 HX H0 HS hok
    go_upto_region 3 with fail
    refine wp_region_held_drew (S := fun w' => Below w2.heap.size w2 w') (by kernel_rfl) ((Below.refl _ _).drew) (fun hHeld => ?_)
    obtain ⟨v0, hv0⟩ : ∃ v, w2.drew = v := ⟨_, rfl⟩
    rw [hv0] at hHeld ⊢
    clear hv0
    refine wpAnyH_takeD (i := 0) (d := 10) (v := ?_) rfl (by kernel_rfl) (by kernel_rfl) (by kernel_rfl) (fun _ _ _ h => h) (by rfl) ?_ hHeld ?_
    rotate_left
    · intro wS hS
      have eF := HF.out wS hS
      go_simp
      try with_reducible rfl
    simp only [Act.put, List.setIfInBounds_toArray, List.set_cons_zero, List.set_cons_succ]
    refine wpAnyH_takeD (i := 1) (d := 11) (v := ?_) rfl (by kernel_rfl) (by kernel_rfl) (by kernel_rfl) (fun _ _ _ h => h) (by rfl) ?_ hHeld ?_
    rotate_left
    · intro wS hS
      have eF := HF.out wS hS
      go_simp
      try with_reducible rfl
    simp only [Act.put, List.setIfInBounds_toArray, List.set_cons_zero, List.set_cons_succ]
    refine wpAnyH_ready (rs := [2]) (by kernel_rfl) (by simp) ?_
    refine (AllReadyH.cons rfl (fun K hK => ?_) AllReadyH.nil)
    go_simp
    have hg := heap_alloc_new v0 (.cells #[.slice none 0 0, .int .i64 0, .int .i64 0, .int .i64 0, .int .i64 0] 33)
    have hS2 := hHeld.alloc hHeld.size (.cells #[.slice none 0 0, .int .i64 0, .int .i64 0, .int .i64 0, .int .i64 0] 33)
    have hgle := hHeld.size
    obtain ⟨g5, hge⟩ : ∃ q, v0.heap.size = q := ⟨_, rfl⟩
    rw [hge] at hg hgle
    try rw [hge]
    obtain ⟨v1, hve⟩ : ∃ v, v0.alloc (.cells #[.slice none 0 0, .int .i64 0, .int .i64 0, .int .i64 0, .int .i64 0] 33) = v := ⟨_, rfl⟩
    rw [hve] at hg hS2
    rw [hve]
    refine hK.out _ _ hS2 (fun hHeld => ?_)
    clear hK K hve hge hS2
    refine wpAnyH_takeD (i := 3) (d := 4) (v := ?_) rfl (by kernel_rfl) (by kernel_rfl) (by kernel_rfl) (fun _ _ _ h => h) (by rfl) ?_ hHeld ?_
    rotate_left
    · intro wS hS
      have eF := HF.out wS hS
      go_simp
      try with_reducible rfl
    simp only [Act.put, List.setIfInBounds_toArray, List.set_cons_zero, List.set_cons_succ]
    refine wpAnyH_store (fuel := 0) (i := 4) rfl (by kernel_rfl) g5 0 (.agg #[.slice A n c, .int .i64 I, .int .i64 H, .int .i64 S, .int .i64 P]) 33 #[.slice none 0 0, .int .i64 0, .int .i64 0, .int .i64 0, .int .i64 0] rfl rfl infoWorksF hg (Nat.le_refl 5) (by simp [Value.cells, Value.oneCell']) (fun w' hg' => hHeld.grown hg' hHeld.size (fun k hk => by cases hk; exact hgle)) ?ks
    case ks =>
      intro v3 hh hgw hS3
      have hh : v3.heap[g5]? = some (.cells #[.slice A n c, .int .i64 I, .int .i64 H, .int .i64 S, .int .i64 P] 33 (0, 0)) := hh
      have HB3 := Lib.hid (HB2.out.trans (hS3.mono HB2.out.size))
      have H3 := Lib.hid (rowC H2.out hS3)
      have HS3 := Lib.hid (HS2.out.below hS3)
      have H5 := Lib.hid hh
      clear hHeld hS3 hg hgw hgle HF H2 HS2 HB2
      refine wpAnyH_done (by kernel_rfl) ?_ _
      go_upto_region 5 with fail
      go_loopw [4, 6] (fun tv kv wr => (∃ k : Nat, k ≤ n ∧ kv = .int .i64 k ∧ tv = .string (pansB f k)) ∧ Below v3.heap.size v3 wr) (fun _ kv _ => n - (intOf kv).toNat)
      case atStart => exact ⟨⟨0, Nat.zero_le _, rfl, rfl⟩, Below.refl _ _⟩
      case round =>
        obtain ⟨⟨k, hk, rfl, rfl⟩, hB⟩ := hrel
        have h0 := rowC H3.out hB
        have h5 := rowC H5.out hB
        have HBr := Lib.hid (HB3.out.trans (hB.mono HB3.out.size))
        have e0 : wr.cell? ⟨g5, 0, none⟩ = some (.slice A n c) := by rw [cell_of_row wr (g5) 0 _ _ (0, 0) h5]; rfl
        have e1 : wr.cell? ⟨g5, 1, none⟩ = some (.int .i64 I) := by rw [cell_of_row wr (g5) 1 _ _ (0, 0) h5]; rfl
        have e2 : wr.cell? ⟨g5, 2, none⟩ = some (.int .i64 H) := by rw [cell_of_row wr (g5) 2 _ _ (0, 0) h5]; rfl
        have e3 : wr.cell? ⟨g5, 3, none⟩ = some (.int .i64 S) := by rw [cell_of_row wr (g5) 3 _ _ (0, 0) h5]; rfl
        have e4 : wr.cell? ⟨g5, 4, none⟩ = some (.int .i64 P) := by rw [cell_of_row wr (g5) 4 _ _ (0, 0) h5]; rfl
        by_cases hlt : k < n
        · have hki : (k : Int) < (n : Int) := by omega
          have hk0 : (0 : Int) ≤ (k : Int) := by omega
          obtain ⟨b1, o1, eA, _, hb1, hc⟩ := (HS3.out.below hB).here (by omega)
          have hb1 := Nat.lt_of_lt_of_le hb1 (HS3.out.below hB).hi_le
          obtain ⟨hid0, hid1⟩ := pan_id HG.out hlt
          obtain ⟨hh_, hw_, hs_, _, _⟩ := good_pan HG.out hlt
          have hy1 := numB_size (n := f (k * 4)) (by omega) (by omega)
          have hy2 := panB_size hh_ hw_ hs_
          have hT := pansB_size HG.out hk
          subst eA
          have HF : Hid (∀ w', Below wr.heap.size wr w' → w'.cell? ⟨g5, 0, none⟩ = some (.slice (some ⟨b1, o1, none⟩) n c) ∧ w'.cell? ⟨b1, o1 + k * 4, none⟩ = some (.int .i64 (f (k * 4))) ∧ w'.cell? ⟨b1, o1 + k * 4 + 1, none⟩ = some (.int .i64 (f (k * 4 + 1))) ∧ w'.cell? ⟨b1, o1 + k * 4 + 2, none⟩ = some (.int .i64 (f (k * 4 + 2))) ∧ w'.cell? ⟨b1, o1 + k * 4 + 3, none⟩ = some (.int .i64 (f (k * 4 + 3)))) := fun w' hq => by
            have hx := rowC h5 hq
            exact ⟨by rw [cell_of_row w' g5 0 _ _ (0, 0) hx]; rfl, (hq.cell (p := ⟨b1, o1 + k * 4, none⟩) hb1).trans (hc (k * 4) (by omega)), by have h := (hq.cell (p := ⟨b1, o1 + (k * 4 + 1), none⟩) hb1).trans (hc (k * 4 + 1) (by omega)); rw [← Nat.add_assoc] at h; exact h, by have h := (hq.cell (p := ⟨b1, o1 + (k * 4 + 2), none⟩) hb1).trans (hc (k * 4 + 2) (by omega)); rw [← Nat.add_assoc] at h; exact h, by have h := (hq.cell (p := ⟨b1, o1 + (k * 4 + 3), none⟩) hb1).trans (hc (k * 4 + 3) (by omega)); rw [← Nat.add_assoc] at h; exact h⟩
          have HBk := Lib.hid hB
          clear hc h0 h5 hB
          go_upto_region 7 with fail
          clear e0 e1 e2 e3 e4
          refine wp_region_class (C := fun w' => Below (wr).heap.size (wr) w') (by kernel_rfl) (by kernel_rfl) ((Below.refl _ _).drew) ?_
          refine wpQuiet_take (d := 19) (v := ?_) (by rfl) ?_ ?_
          rotate_left
          · intro wS hS
            have eF := HF.out wS hS
            go_simp
            try with_reducible rfl
          simp only [Act.put, List.setIfInBounds_toArray, List.set_cons_zero, List.set_cons_succ]
          refine wpQuiet_take (d := 20) (v := ?_) (by rfl) ?_ ?_
          rotate_left
          · intro wS hS
            have eF := HF.out wS hS
            go_simp
            try with_reducible rfl
          simp only [Act.put, List.setIfInBounds_toArray, List.set_cons_zero, List.set_cons_succ]
          refine wpQuiet_take (d := 21) (v := ?_) (by rfl) ?_ ?_
          rotate_left
          · intro wS hS
            have eF := HF.out wS hS
            go_simp
            try with_reducible rfl
          simp only [Act.put, List.setIfInBounds_toArray, List.set_cons_zero, List.set_cons_succ]
          refine wpQuiet_take (d := 22) (v := ?_) (by rfl) ?_ ?_
          rotate_left
          · intro wS hS
            have eF := HF.out wS hS
            go_simp
            try with_reducible rfl
          simp only [Act.put, List.setIfInBounds_toArray, List.set_cons_zero, List.set_cons_succ]
          refine wpQuiet_take (d := 23) (v := ?_) (by rfl) ?_ ?_
          rotate_left
          · intro wS hS
            have eF := HF.out wS hS
            go_simp
            try with_reducible rfl
          simp only [Act.put, List.setIfInBounds_toArray, List.set_cons_zero, List.set_cons_succ]
          refine wpQuiet_take (d := 24) (v := ?_) (by rfl) ?_ ?_
          rotate_left
          · intro wS hS
            have eF := HF.out wS hS
            go_simp
            try with_reducible rfl
          simp only [Act.put, List.setIfInBounds_toArray, List.set_cons_zero, List.set_cons_succ]
          refine wpQuiet_take (d := 25) (v := ?_) (by rfl) ?_ ?_
          rotate_left
          · intro wS hS
            have eF := HF.out wS hS
            go_simp
            try with_reducible rfl
          simp only [Act.put, List.setIfInBounds_toArray, List.set_cons_zero, List.set_cons_succ]
          refine wpQuiet_meet (d := 26) (v := ?_) ?_ ?_ (by rfl) ?_ ?_ ?_
          rotate_left
          rotate_left
          rotate_left
          · intro wS hS
            have eF := HF.out wS hS
            go_simp
            first | with_reducible rfl | (refine ⟨?_, ?_⟩ <;> with_reducible rfl)
          · intro wS hS
            refine (l1Num_any (f (k * 4)) (by omega) (by omega) wS).mono ?_
            rintro e w2 ⟨rfl, hb2⟩
            refine ⟨?_, hS.trans (hb2.mono hS.size)⟩
            with_reducible rfl
          simp only [Act.put, List.setIfInBounds_toArray, List.set_cons_zero, List.set_cons_succ]
          refine wpQuiet_take (d := 27) (v := ?_) (by rfl) ?_ ?_
          rotate_left
          · intro wS hS
            refine run_add_strP ⟨_, _, rfl, rfl, by (try simp only [ByteArray.size_append', ByteArray.size_mk', List.size_toArray, List.length_cons, List.length_nil]); omega, ?_⟩
            with_reducible rfl
          simp only [Act.put, List.setIfInBounds_toArray, List.set_cons_zero, List.set_cons_succ]
          refine wpQuiet_take (d := 28) (v := ?_) (by rfl) ?_ ?_
          rotate_left
          · intro wS hS
            refine run_add_strP ⟨_, _, rfl, rfl, by (try simp only [ByteArray.size_append', ByteArray.size_mk', List.size_toArray, List.length_cons, List.length_nil]); omega, ?_⟩
            with_reducible rfl
          simp only [Act.put, List.setIfInBounds_toArray, List.set_cons_zero, List.set_cons_succ]
          refine wpQuiet_take (d := 29) (v := ?_) (by rfl) ?_ ?_
          rotate_left
          · intro wS hS
            have eF := HF.out wS hS
            go_simp
            try with_reducible rfl
          simp only [Act.put, List.setIfInBounds_toArray, List.set_cons_zero, List.set_cons_succ]
          refine wpQuiet_take (d := 30) (v := ?_) (by rfl) ?_ ?_
          rotate_left
          · intro wS hS
            have eF := HF.out wS hS
            go_simp
            try with_reducible rfl
          simp only [Act.put, List.setIfInBounds_toArray, List.set_cons_zero, List.set_cons_succ]
          refine wpQuiet_take (d := 31) (v := ?_) (by rfl) ?_ ?_
          rotate_left
          · intro wS hS
            have eF := HF.out wS hS
            go_simp
            try with_reducible rfl
          simp only [Act.put, List.setIfInBounds_toArray, List.set_cons_zero, List.set_cons_succ]
          refine wpQuiet_take (d := 32) (v := ?_) (by rfl) ?_ ?_
          rotate_left
          · intro wS hS
            have eF := HF.out wS hS
            go_simp
            try with_reducible rfl
          simp only [Act.put, List.setIfInBounds_toArray, List.set_cons_zero, List.set_cons_succ]
          refine wpQuiet_take (d := 33) (v := ?_) (by rfl) ?_ ?_
          rotate_left
          · intro wS hS
            have eF := HF.out wS hS
            go_simp
            try with_reducible rfl
          simp only [Act.put, List.setIfInBounds_toArray, List.set_cons_zero, List.set_cons_succ]
          refine wpQuiet_meet (d := 34) (v := ?_) ?_ ?_ (by rfl) ?_ ?_ ?_
          rotate_left
          rotate_left
          rotate_left
          · intro wS hS
            have eF := HF.out wS hS
            go_simp
            first | with_reducible rfl | (refine ⟨?_, ?_⟩ <;> with_reducible rfl)
          · intro wS hS
            refine (l25Text_any _ _ _ _ hh_ hw_ hs_ wS).mono ?_
            rintro e w2 ⟨rfl, hb2⟩
            refine ⟨?_, hS.trans (hb2.mono hS.size)⟩
            with_reducible rfl
          simp only [Act.put, List.setIfInBounds_toArray, List.set_cons_zero, List.set_cons_succ]
          refine wpQuiet_take (d := 35) (v := ?_) (by rfl) ?_ ?_
          rotate_left
          · intro wS hS
            refine run_add_strP ⟨_, _, rfl, rfl, by (try simp only [ByteArray.size_append', ByteArray.size_mk', List.size_toArray, List.length_cons, List.length_nil]); omega, ?_⟩
            with_reducible rfl
          simp only [Act.put, List.setIfInBounds_toArray, List.set_cons_zero, List.set_cons_succ]
          refine wpQuiet_take (d := 36) (v := ?_) (by rfl) ?_ ?_
          rotate_left
          · intro wS hS
            refine run_add_strP ⟨_, _, rfl, rfl, by (try simp only [ByteArray.size_append', ByteArray.size_mk', List.size_toArray, List.length_cons, List.length_nil]); omega, ?_⟩
            with_reducible rfl
          simp only [Act.put, List.setIfInBounds_toArray, List.set_cons_zero, List.set_cons_succ]
          refine wpQuiet_take (d := 4) (v := ?_) (by rfl) ?_ ?_
          rotate_left
          · intro wS hS
            have eF := HF.out wS hS
            go_simp
            try with_reducible rfl
          simp only [Act.put, List.setIfInBounds_toArray, List.set_cons_zero, List.set_cons_succ]
          refine wpQuiet_nil (fun wq hHeld => ?_)
          have HBq := Lib.hid (HBk.out.trans (hHeld.mono HBk.out.size))
          clear hHeld HF
          go_wp2
          go_roundw
          case rel => exact ⟨⟨k + 1, by omega, by go_num, congrArg Value.string (pans_step f k)⟩, HBq.out⟩
          case measure => simp [intOf]; omega
        · obtain rfl : k = n := by omega
          have hki : ¬ ((k : Int) < (k : Int)) := by omega
          have hT := pansB_size HG.out (Nat.le_refl k)
          have HF : Hid (∀ w', Below wr.heap.size wr w' → (w'.cell? ⟨g5, 1, none⟩ = some (.int .i64 I) ∧ w'.cell? ⟨g5, 2, none⟩ = some (.int .i64 H) ∧ w'.cell? ⟨g5, 3, none⟩ = some (.int .i64 S)) ∧ w'.cell? ⟨w.heap.size, 7, none⟩ = some (.int .i64 z)) := fun w' hq => by
            have hx := rowC h5 hq
            have hy := rowC h0 hq
            exact ⟨⟨by rw [cell_of_row w' g5 1 _ _ (0, 0) hx]; rfl, by rw [cell_of_row w' g5 2 _ _ (0, 0) hx]; rfl, by rw [cell_of_row w' g5 3 _ _ (0, 0) hx]; rfl⟩, by rw [cell_of_row w' w.heap.size 7 _ _ (0, 0) hy]; rfl⟩
          clear h0 h5 hB
          go_upto_region 8 with fail
          clear e0 e1 e2 e3 e4
          refine wp_region_class (C := fun w' => Below (wr).heap.size (wr) w') (by kernel_rfl) (by kernel_rfl) ((Below.refl _ _).drew) ?_
          refine wpQuiet_take (d := 37) (v := ?_) (by rfl) ?_ ?_
          rotate_left
          · intro wS hS
            have eF := HF.out wS hS
            go_simp
            try with_reducible rfl
          simp only [Act.put, List.setIfInBounds_toArray, List.set_cons_zero, List.set_cons_succ]
          refine wpQuiet_take (d := 38) (v := ?_) (by rfl) ?_ ?_
          rotate_left
          · intro wS hS
            refine run_add_strP ⟨_, _, rfl, rfl, by (try simp only [ByteArray.size_append', ByteArray.size_mk', List.size_toArray, List.length_cons, List.length_nil]); omega, ?_⟩
            with_reducible rfl
          simp only [Act.put, List.setIfInBounds_toArray, List.set_cons_zero, List.set_cons_succ]
          refine wpQuiet_take (d := 39) (v := ?_) (by rfl) ?_ ?_
          rotate_left
          · intro wS hS
            have eF := HF.out wS hS
            go_simp
            try with_reducible rfl
          simp only [Act.put, List.setIfInBounds_toArray, List.set_cons_zero, List.set_cons_succ]
          refine wpQuiet_take (d := 40) (v := ?_) (by rfl) ?_ ?_
          rotate_left
          · intro wS hS
            have eF := HF.out wS hS
            go_simp
            try with_reducible rfl
          simp only [Act.put, List.setIfInBounds_toArray, List.set_cons_zero, List.set_cons_succ]
          refine wpQuiet_meet (d := 41) (v := ?_) ?_ ?_ (by rfl) ?_ ?_ ?_
          rotate_left
          rotate_left
          rotate_left
          · intro wS hS
            have eF := HF.out wS hS
            go_simp
            first | with_reducible rfl | (refine ⟨?_, ?_⟩ <;> with_reducible rfl)
          · intro wS hS
            refine (l1Num_any I (by omega) (by omega) wS).mono ?_
            rintro e w2 ⟨rfl, hb2⟩
            refine ⟨?_, hS.trans (hb2.mono hS.size)⟩
            with_reducible rfl
          simp only [Act.put, List.setIfInBounds_toArray, List.set_cons_zero, List.set_cons_succ]
          refine wpQuiet_take (d := 42) (v := ?_) (by rfl) ?_ ?_
          rotate_left
          · intro wS hS
            refine run_add_strP ⟨_, _, rfl, rfl, by (try simp only [ByteArray.size_append', ByteArray.size_mk', List.size_toArray, List.length_cons, List.length_nil]); omega, ?_⟩
            with_reducible rfl
          simp only [Act.put, List.setIfInBounds_toArray, List.set_cons_zero, List.set_cons_succ]
          refine wpQuiet_take (d := 43) (v := ?_) (by rfl) ?_ ?_
          rotate_left
          · intro wS hS
            refine run_add_strP ⟨_, _, rfl, rfl, by (try simp only [ByteArray.size_append', ByteArray.size_mk', List.size_toArray, List.length_cons, List.length_nil]); omega, ?_⟩
            with_reducible rfl
          simp only [Act.put, List.setIfInBounds_toArray, List.set_cons_zero, List.set_cons_succ]
          refine wpQuiet_take (d := 44) (v := ?_) (by rfl) ?_ ?_
          rotate_left
          · intro wS hS
            have eF := HF.out wS hS
            go_simp
            try with_reducible rfl
          simp only [Act.put, List.setIfInBounds_toArray, List.set_cons_zero, List.set_cons_succ]
          refine wpQuiet_take (d := 45) (v := ?_) (by rfl) ?_ ?_
          rotate_left
          · intro wS hS
            have eF := HF.out wS hS
            go_simp
            try with_reducible rfl
          simp only [Act.put, List.setIfInBounds_toArray, List.set_cons_zero, List.set_cons_succ]
          refine wpQuiet_meet (d := 46) (v := ?_) ?_ ?_ (by rfl) ?_ ?_ ?_
          rotate_left
          rotate_left
          rotate_left
          · intro wS hS
            have eF := HF.out wS hS
            go_simp
            first | with_reducible rfl | (refine ⟨?_, ?_⟩ <;> with_reducible rfl)
          · intro wS hS
            refine (l1Num_any H (by omega) (by omega) wS).mono ?_
            rintro e w2 ⟨rfl, hb2⟩
            refine ⟨?_, hS.trans (hb2.mono hS.size)⟩
            with_reducible rfl
          simp only [Act.put, List.setIfInBounds_toArray, List.set_cons_zero, List.set_cons_succ]
          refine wpQuiet_take (d := 47) (v := ?_) (by rfl) ?_ ?_
          rotate_left
          · intro wS hS
            refine run_add_strP ⟨_, _, rfl, rfl, by (try simp only [ByteArray.size_append', ByteArray.size_mk', List.size_toArray, List.length_cons, List.length_nil]); omega, ?_⟩
            with_reducible rfl
          simp only [Act.put, List.setIfInBounds_toArray, List.set_cons_zero, List.set_cons_succ]
          refine wpQuiet_take (d := 48) (v := ?_) (by rfl) ?_ ?_
          rotate_left
          · intro wS hS
            refine run_add_strP ⟨_, _, rfl, rfl, by (try simp only [ByteArray.size_append', ByteArray.size_mk', List.size_toArray, List.length_cons, List.length_nil]); omega, ?_⟩
            with_reducible rfl
          simp only [Act.put, List.setIfInBounds_toArray, List.set_cons_zero, List.set_cons_succ]
          refine wpQuiet_take (d := 49) (v := ?_) (by rfl) ?_ ?_
          rotate_left
          · intro wS hS
            have eF := HF.out wS hS
            go_simp
            try with_reducible rfl
          simp only [Act.put, List.setIfInBounds_toArray, List.set_cons_zero, List.set_cons_succ]
          refine wpQuiet_take (d := 50) (v := ?_) (by rfl) ?_ ?_
          rotate_left
          · intro wS hS
            have eF := HF.out wS hS
            go_simp
            try with_reducible rfl
          simp only [Act.put, List.setIfInBounds_toArray, List.set_cons_zero, List.set_cons_succ]
          refine wpQuiet_meet (d := 51) (v := ?_) ?_ ?_ (by rfl) ?_ ?_ ?_
          rotate_left
          rotate_left
          rotate_left
          · intro wS hS
            have eF := HF.out wS hS
            go_simp
            first | with_reducible rfl | (refine ⟨?_, ?_⟩ <;> with_reducible rfl)
          · intro wS hS
            refine (l1Num_any S (by omega) (by omega) wS).mono ?_
            rintro e w2 ⟨rfl, hb2⟩
            refine ⟨?_, hS.trans (hb2.mono hS.size)⟩
            with_reducible rfl
          simp only [Act.put, List.setIfInBounds_toArray, List.set_cons_zero, List.set_cons_succ]
          refine wpQuiet_take (d := 52) (v := ?_) (by rfl) ?_ ?_
          rotate_left
          · intro wS hS
            refine run_add_strP ⟨_, _, rfl, rfl, by (try simp only [ByteArray.size_append', ByteArray.size_mk', List.size_toArray, List.length_cons, List.length_nil]); omega, ?_⟩
            with_reducible rfl
          simp only [Act.put, List.setIfInBounds_toArray, List.set_cons_zero, List.set_cons_succ]
          refine wpQuiet_take (d := 53) (v := ?_) (by rfl) ?_ ?_
          rotate_left
          · intro wS hS
            refine run_add_strP ⟨_, _, rfl, rfl, by (try simp only [ByteArray.size_append', ByteArray.size_mk', List.size_toArray, List.length_cons, List.length_nil]); omega, ?_⟩
            with_reducible rfl
          simp only [Act.put, List.setIfInBounds_toArray, List.set_cons_zero, List.set_cons_succ]
          refine wpQuiet_take (d := 54) (v := ?_) (by rfl) ?_ ?_
          rotate_left
          · intro wS hS
            have eF := HF.out wS hS
            go_simp
            try with_reducible rfl
          simp only [Act.put, List.setIfInBounds_toArray, List.set_cons_zero, List.set_cons_succ]
          refine wpQuiet_take (d := 55) (v := ?_) (by rfl) ?_ ?_
          rotate_left
          · intro wS hS
            have eF := HF.out wS hS
            go_simp
            try with_reducible rfl
          simp only [Act.put, List.setIfInBounds_toArray, List.set_cons_zero, List.set_cons_succ]
          refine wpQuiet_take (d := 56) (v := ?_) (by rfl) ?_ ?_
          rotate_left
          · intro wS hS
            have eF := HF.out wS hS
            go_simp
            try with_reducible rfl
          simp only [Act.put, List.setIfInBounds_toArray, List.set_cons_zero, List.set_cons_succ]
          refine wpQuiet_meet (d := 57) (v := ?_) ?_ ?_ (by rfl) ?_ ?_ ?_
          rotate_left
          rotate_left
          rotate_left
          · intro wS hS
            have eF := HF.out wS hS
            go_simp
            first | with_reducible rfl | (refine ⟨?_, ?_⟩ <;> with_reducible rfl)
          · intro wS hS
            refine (l1Num_any z (by omega) (by omega) wS).mono ?_
            rintro e w2 ⟨rfl, hb2⟩
            refine ⟨?_, hS.trans (hb2.mono hS.size)⟩
            with_reducible rfl
          simp only [Act.put, List.setIfInBounds_toArray, List.set_cons_zero, List.set_cons_succ]
          refine wpQuiet_take (d := 58) (v := ?_) (by rfl) ?_ ?_
          rotate_left
          · intro wS hS
            refine run_add_strP ⟨_, _, rfl, rfl, by (try simp only [ByteArray.size_append', ByteArray.size_mk', List.size_toArray, List.length_cons, List.length_nil]); omega, ?_⟩
            with_reducible rfl
          simp only [Act.put, List.setIfInBounds_toArray, List.set_cons_zero, List.set_cons_succ]
          refine wpQuiet_take (d := 59) (v := ?_) (by rfl) ?_ ?_
          rotate_left
          · intro wS hS
            refine run_add_strP ⟨_, _, rfl, rfl, by (try simp only [ByteArray.size_append', ByteArray.size_mk', List.size_toArray, List.length_cons, List.length_nil]); omega, ?_⟩
            with_reducible rfl
          simp only [Act.put, List.setIfInBounds_toArray, List.set_cons_zero, List.set_cons_succ]
          refine wpQuiet_take (d := 2) (v := ?_) (by rfl) ?_ ?_
          rotate_left
          · intro wS hS
            have eF := HF.out wS hS
            go_simp
            try with_reducible rfl
          simp only [Act.put, List.setIfInBounds_toArray, List.set_cons_zero, List.set_cons_succ]
          refine wpQuiet_take (d := 3) (v := ?_) (by rfl) ?_ ?_
          rotate_left
          · intro wS hS
            have eF := HF.out wS hS
            go_simp
            try with_reducible rfl
          simp only [Act.put, List.setIfInBounds_toArray, List.set_cons_zero, List.set_cons_succ]
          refine wpQuiet_nil (fun wq hHeld => ?_)
          go_wp2_with fail
          go_ret2
          exact ⟨rfl, HBr.out.trans (hHeld.mono HBr.out.size)⟩
end Go.Proofs.YtegklcapfjigaaaDoor
