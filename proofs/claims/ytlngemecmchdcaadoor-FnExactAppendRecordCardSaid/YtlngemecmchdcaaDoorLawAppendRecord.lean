/-
  The walk of the law FnExactAppendRecord.
-/
import Derived.Test.YtlngemecmchdcaaDoorLogI
import Derived.Test.YtlngemecmchdcaaDoorMemS
import Derived.Deep.DeepCutAuto
namespace Go.Proofs.YtlngemecmchdcaaDoor
open Go.RowKit
set_option linter.unusedVariables false
set_option linter.unusedSimpArgs false
set_option maxHeartbeats 2000000 in
theorem FnExactAppendRecord_walk (s0 t0 : ByteArray) (z0 : Int) (s1 t1 : ByteArray) (w : World) (hs0 : s0.size ≤ maxLen) (ht0 : t0.size ≤ maxLen) (hz0 : I64 z0) (hs1 : s1.size ≤ maxLen) (ht1 : t1.size ≤ maxLen) (ht : Tab w) (hm : Mx w) :
    Calls Tryd.prog 8 #[.agg #[.string s0, .string t0, .int .i64 z0], .agg #[.string s1, .string t1]] w fun e w' => e = .returned (.bool true) ∧ Below w.heap.size w w' := by
  have hc : (s0.size : Int) ≤ 9223372036854775807 := by unfold maxLen at hs0; omega
  have hr : (t0.size : Int) ≤ 9223372036854775807 := by unfold maxLen at ht0; omega
  have hc1 : (s1.size : Int) ≤ 9223372036854775807 := by unfold maxLen at hs1; omega
  have hr1 : (t1.size : Int) ≤ 9223372036854775807 := by unfold maxLen at ht1; omega
  clear hs0 ht0 hs1 ht1
  have AL1 : Below w.heap.size w (w.alloc (.cells #[.string s0, .string t0, .int .i64 z0] 36)) := (Below.refl _ w).alloc (Nat.le_refl _) _
  have HAL : Below w.heap.size w ((w.alloc (.cells #[.string s0, .string t0, .int .i64 z0] 36)).alloc (.cells #[.string s1, .string t1] 23)) := AL1.alloc AL1.size _
  have hA : ((w.alloc (.cells #[.string s0, .string t0, .int .i64 z0] 36)).alloc (.cells #[.string s1, .string t1] 23)).heap[w.heap.size]? = some (.cells #[.string s0, .string t0, .int .i64 z0] 36 (0, 0)) := heap_alloc2 w _ _
  have hB : ((w.alloc (.cells #[.string s0, .string t0, .int .i64 z0] 36)).alloc (.cells #[.string s1, .string t1] 23)).heap[w.heap.size + 1]? = some (.cells #[.string s1, .string t1] 23 (0, 0)) := by
    have h := heap_alloc_new (w.alloc (.cells #[.string s0, .string t0, .int .i64 z0] 36)) (.cells #[.string s1, .string t1] 23)
    simpa using h
  have HF0 : Hid (∀ w', Below ((w.alloc (.cells #[.string s0, .string t0, .int .i64 z0] 36)).alloc (.cells #[.string s1, .string t1] 23)).heap.size ((w.alloc (.cells #[.string s0, .string t0, .int .i64 z0] 36)).alloc (.cells #[.string s1, .string t1] 23)) w' → w'.cell? ⟨w.heap.size, 0, none⟩ = some (.string s0) ∧ w'.cell? ⟨w.heap.size, 1, none⟩ = some (.string t0) ∧ w'.cell? ⟨w.heap.size, 2, none⟩ = some (.int .i64 z0) ∧ w'.cell? ⟨w.heap.size + 1, 0, none⟩ = some (.string s1) ∧ w'.cell? ⟨w.heap.size + 1, 1, none⟩ = some (.string t1)) := by
    intro w' hq
    have h1 := rowB hA hq
    have h2 := rowB hB hq
    exact ⟨by rw [cell_of_row w' w.heap.size 0 _ _ (0, 0) h1]; rfl, by rw [cell_of_row w' w.heap.size 1 _ _ (0, 0) h1]; rfl, by rw [cell_of_row w' w.heap.size 2 _ _ (0, 0) h1]; rfl, by rw [cell_of_row w' (w.heap.size + 1) 0 _ _ (0, 0) h2]; rfl, by rw [cell_of_row w' (w.heap.size + 1) 1 _ _ (0, 0) h2]; rfl⟩
  clear hA hB AL1
  by_cases hbig : 1048576 < (s0.size : Int) + (t0.size : Int)
  · go_enter Tryd.func8, Tryd.ntmps8
    go_wp2_with fail
    refine (szLog_big _ _ _ _ hc hr hbig).mono ?_
    rintro e w1 ⟨rfl, hb1⟩
    go_wp2
    go_ret
    exact ⟨rfl, HAL.trans (hb1.mono (by simp; omega))⟩
  · have hn : 0 ≤ 1048576 - (s0.size : Int) - (t0.size : Int) := by omega
    have hn2 : ¬ (1048576 - (s0.size : Int) - (t0.size : Int) < 0) := by omega
    by_cases hbig2 : 1048576 - (s0.size : Int) - (t0.size : Int) < (s1.size : Int) + (t1.size : Int)
    · go_enter Tryd.func8, Tryd.ntmps8
      go_wp2_with fail
      refine (szLog_ok _ _ _ _ (by omega)).mono ?_
      rintro e w1 ⟨rfl, hb1⟩
      obtain ⟨q0, q1, q2, q3, q4⟩ := HF0.out w1 hb1
      go_wp2_with fail
      refine (szLogRecord_no _ _ _ _ (by omega) (by omega) hc1 hr1 (by omega)).mono ?_
      rintro e w2 ⟨rfl, hb2⟩
      go_wp2
      go_ret
      exact ⟨rfl, HAL.trans ((hb1.trans (hb2.mono hb1.size)).mono (by simp; omega))⟩
    · have hn3 : 0 ≤ 1048576 - (s0.size : Int) - (t0.size : Int) - (s1.size : Int) - (t1.size : Int) := by omega
      have hn4 : ¬ (1048576 - (s0.size : Int) - (t0.size : Int) - (s1.size : Int) - (t1.size : Int) < 0) := by omega
      have HS := Lib.hid (fun W => sAppendRecord_any s0 t0 z0 s1 t1 (by omega) (by omega) (by omega) (by omega) W)
      have HI := Lib.hid (fun W hT hM => AppendRecord_any s0 t0 z0 s1 t1 (by omega) (by omega) (by omega) (by omega) W hT hM)
      generalize hp : apP s0 t0 z0 s1 t1 = p at HS HI
      generalize hu : apZ s0 t0 z0 s1 t1 = u at HS HI
      generalize hk : apK s0 t0 z0 s1 t1 = k at HS HI
      clear hp hu hk
      go_enter Tryd.func8, Tryd.ntmps8
      go_wp2_with fail
      refine (szLog_ok _ _ _ _ (by omega)).mono ?_
      rintro e w1 ⟨rfl, hb1⟩
      obtain ⟨q0, q1, q2, q3, q4⟩ := HF0.out w1 hb1
      go_wp2_with fail
      refine (szLogRecord_at _ _ _ _ (by omega) (by omega) (by omega)).mono ?_
      rintro e w2 ⟨rfl, hb2⟩
      have hb12 := hb1.trans (hb2.mono hb1.size)
      have HF : Hid (∀ w', Below w2.heap.size w2 w' → w'.cell? ⟨w.heap.size, 0, none⟩ = some (.string s0) ∧ w'.cell? ⟨w.heap.size, 1, none⟩ = some (.string t0) ∧ w'.cell? ⟨w.heap.size, 2, none⟩ = some (.int .i64 z0) ∧ w'.cell? ⟨w.heap.size + 1, 0, none⟩ = some (.string s1) ∧ w'.cell? ⟨w.heap.size + 1, 1, none⟩ = some (.string t1)) := fun w' hq => HF0.out w' (hb12.trans (hq.mono hb12.size))
      have BX := HAL.trans (hb12.mono (by simp; omega))
      clear hb1 hb2 hb12 HF0 HAL q0 q1 q2 q3 q4
      go_upto_region 8 with fail
      go_cut [6, 7] (fun sa sb wx => ∃ g : Nat, sa = .pointer (some ⟨g, 0, none⟩) ∧ sb = .int .i64 k ∧ w2.heap.size ≤ g ∧ wx.heap[g]? = some (.cells #[.string s0, .string p, .int .i64 u] 31 (0, 0)) ∧ Below w2.heap.size w2 wx)
      case first =>
        refine wp_region_held_drew (S := fun w' => Below w2.heap.size w2 w') (by kernel_rfl) ((Below.refl _ _).drew) (fun hHeld => ?_)
        obtain ⟨v0, hv0⟩ : ∃ v, w2.drew = v := ⟨_, rfl⟩
        rw [hv0] at hHeld ⊢
        clear hv0
        refine wpAnyH_takeD (i := 0) (d := 21) (v := ?_) rfl (by kernel_rfl) (by kernel_rfl) (by kernel_rfl) (fun _ _ _ h => h) (by rfl) ?_ hHeld ?_
        rotate_left
        · intro wS hS
          have eF := HF.out wS hS
          go_simp
          try with_reducible rfl
        simp only [Act.put, List.setIfInBounds_toArray, List.set_cons_zero, List.set_cons_succ]
        refine wpAnyH_takeD (i := 2) (d := 23) (v := ?_) rfl (by kernel_rfl) (by kernel_rfl) (by kernel_rfl) (fun _ _ _ h => h) (by rfl) ?_ hHeld ?_
        rotate_left
        · intro wS hS
          have eF := HF.out wS hS
          go_simp
          try with_reducible rfl
        simp only [Act.put, List.setIfInBounds_toArray, List.set_cons_zero, List.set_cons_succ]
        refine wpAnyH_ready (rs := [1, 8]) (by kernel_rfl) (by simp) ?_
        refine (AllReadyH.cons rfl (fun K hK => ?_) (AllReadyH.cons rfl (fun K hK => ?_) AllReadyH.nil))
        · go_simp
          refine (toLog_any _ _ _ _).mono ?_
          rintro e v1 ⟨rfl, hbn⟩
          refine hK.out _ _ (hHeld.trans (hbn.mono hHeld.size)) (fun hHeld => ?_)
          clear hK K hbn
          refine wpAnyH_ready (rs := [3, 8]) (by kernel_rfl) (by simp) ?_
          refine (AllReadyH.cons rfl (fun K hK => ?_) (AllReadyH.cons rfl (fun K hK => ?_) AllReadyH.nil))
          · go_simp
            refine (toLogRecord_any _ _ _).mono ?_
            rintro e v2 ⟨rfl, hbn⟩
            refine hK.out _ _ (hHeld.trans (hbn.mono hHeld.size)) (fun hHeld => ?_)
            clear hK K hbn
            refine wpAnyH_ready (rs := [4, 8]) (by kernel_rfl) (by simp) ?_
            refine (AllReadyH.cons rfl (fun K hK => ?_) (AllReadyH.cons rfl (fun K hK => ?_) AllReadyH.nil))
            · go_simp
              refine (HS.out _).mono ?_
              rintro e v3 ⟨rfl, hbn⟩
              refine hK.out _ _ (hHeld.trans (hbn.mono hHeld.size)) (fun hHeld => ?_)
              clear hK K hbn
              refine wpAnyH_takeD (i := 5) (d := 20) (v := ?_) rfl (by kernel_rfl) (by kernel_rfl) (by kernel_rfl) (fun _ _ _ h => h) (by rfl) ?_ hHeld ?_
              rotate_left
              · intro wS hS
                have eF := HF.out wS hS
                go_simp
                try with_reducible rfl
              simp only [Act.put, List.setIfInBounds_toArray, List.set_cons_zero, List.set_cons_succ]
              refine wpAnyH_takeD (i := 6) (d := 26) (v := ?_) rfl (by kernel_rfl) (by kernel_rfl) (by kernel_rfl) (fun _ _ _ h => h) (by rfl) ?_ hHeld ?_
              rotate_left
              · intro wS hS
                have eF := HF.out wS hS
                go_simp
                try with_reducible rfl
              simp only [Act.put, List.setIfInBounds_toArray, List.set_cons_zero, List.set_cons_succ]
              refine wpAnyH_takeD (i := 7) (d := 27) (v := ?_) rfl (by kernel_rfl) (by kernel_rfl) (by kernel_rfl) (fun _ _ _ h => h) (by rfl) ?_ hHeld ?_
              rotate_left
              · intro wS hS
                have eF := HF.out wS hS
                go_simp
                try with_reducible rfl
              simp only [Act.put, List.setIfInBounds_toArray, List.set_cons_zero, List.set_cons_succ]
              refine wpAnyH_ready (rs := [8]) (by kernel_rfl) (by simp) ?_
              refine (AllReadyH.cons rfl (fun K hK => ?_) AllReadyH.nil)
              go_simp
              have hg := heap_alloc_new v3 (.cells #[.string ⟨#[]⟩, .string ⟨#[]⟩, .int .i64 0] 31)
              have hS2 := hHeld.alloc hHeld.size (.cells #[.string ⟨#[]⟩, .string ⟨#[]⟩, .int .i64 0] 31)
              have hgle := hHeld.size
              obtain ⟨g, hge⟩ : ∃ g, v3.heap.size = g := ⟨_, rfl⟩
              rw [hge] at hg hgle
              try rw [hge]
              obtain ⟨v4, hve⟩ : ∃ v, v3.alloc (.cells #[.string ⟨#[]⟩, .string ⟨#[]⟩, .int .i64 0] 31) = v := ⟨_, rfl⟩
              rw [hve] at hg hS2
              rw [hve]
              refine hK.out _ _ hS2 (fun hHeld => ?_)
              clear hK K hve hge
              refine wpAnyH_ready (rs := [9]) (by kernel_rfl) (by simp) ?_
              refine (AllReadyH.cons rfl (fun K hK => ?_) AllReadyH.nil)
              obtain ⟨m0, m1, m2, m3, m4, m5⟩ := row3 hg
              have hg2 := row3_set (x := s0) (y := p) (u := u) hg
              have hS2 := ((hHeld.setCell (p := ⟨g, 0, none⟩) hgle (.string s0)).setCell (p := ⟨g, 1, none⟩) hgle (.string p)).setCell (p := ⟨g, 2, none⟩) hgle (.int .i64 u)
              clear hg
              go_simp
              generalize (((v4.setCell ⟨g, 0, none⟩ (.string s0)).setCell ⟨g, 1, none⟩ (.string p)).setCell ⟨g, 2, none⟩ (.int .i64 u)) = v5 at *
              refine hK.out _ _ hS2 (fun hHeld => ?_)
              clear hK K m0 m1 m2 m3 m4 m5
              refine wpAnyH_takeD (i := 10) (d := 7) (v := ?_) rfl (by kernel_rfl) (by kernel_rfl) (by kernel_rfl) (fun _ _ _ h => h) (by rfl) ?_ hHeld ?_
              rotate_left
              · intro wS hS
                have eF := HF.out wS hS
                go_simp
                try with_reducible rfl
              simp only [Act.put, List.setIfInBounds_toArray, List.set_cons_zero, List.set_cons_succ]
              refine wpAnyH_done (by kernel_rfl) ?_ _
              go_wp2_with fail
              go_meet
              case rel => exact ⟨g, rfl, rfl, hgle, hg2, hHeld⟩
            · go_simp
              have hg := heap_alloc_new v2 (.cells #[.string ⟨#[]⟩, .string ⟨#[]⟩, .int .i64 0] 31)
              have hS2 := hHeld.alloc hHeld.size (.cells #[.string ⟨#[]⟩, .string ⟨#[]⟩, .int .i64 0] 31)
              have hgle := hHeld.size
              obtain ⟨g, hge⟩ : ∃ g, v2.heap.size = g := ⟨_, rfl⟩
              rw [hge] at hg hgle
              try rw [hge]
              obtain ⟨v6, hve⟩ : ∃ v, v2.alloc (.cells #[.string ⟨#[]⟩, .string ⟨#[]⟩, .int .i64 0] 31) = v := ⟨_, rfl⟩
              rw [hve] at hg hS2
              rw [hve]
              refine hK.out _ _ hS2 (fun hHeld => ?_)
              clear hK K hve hge
              refine wpAnyH_ready (rs := [4]) (by kernel_rfl) (by simp) ?_
              refine (AllReadyH.cons rfl (fun K hK => ?_) AllReadyH.nil)
              go_simp
              refine (HS.out _).mono ?_
              rintro e v7 ⟨rfl, hbn⟩
              have hg := rowB hg hbn
              refine hK.out _ _ (hHeld.trans (hbn.mono hHeld.size)) (fun hHeld => ?_)
              clear hK K hbn
              refine wpAnyH_takeD (i := 5) (d := 20) (v := ?_) rfl (by kernel_rfl) (by kernel_rfl) (by kernel_rfl) (fun _ _ _ h => h) (by rfl) ?_ hHeld ?_
              rotate_left
              · intro wS hS
                have eF := HF.out wS hS
                go_simp
                try with_reducible rfl
              simp only [Act.put, List.setIfInBounds_toArray, List.set_cons_zero, List.set_cons_succ]
              refine wpAnyH_takeD (i := 6) (d := 26) (v := ?_) rfl (by kernel_rfl) (by kernel_rfl) (by kernel_rfl) (fun _ _ _ h => h) (by rfl) ?_ hHeld ?_
              rotate_left
              · intro wS hS
                have eF := HF.out wS hS
                go_simp
                try with_reducible rfl
              simp only [Act.put, List.setIfInBounds_toArray, List.set_cons_zero, List.set_cons_succ]
              refine wpAnyH_takeD (i := 7) (d := 27) (v := ?_) rfl (by kernel_rfl) (by kernel_rfl) (by kernel_rfl) (fun _ _ _ h => h) (by rfl) ?_ hHeld ?_
              rotate_left
              · intro wS hS
                have eF := HF.out wS hS
                go_simp
                try with_reducible rfl
              simp only [Act.put, List.setIfInBounds_toArray, List.set_cons_zero, List.set_cons_succ]
              refine wpAnyH_ready (rs := [9]) (by kernel_rfl) (by simp) ?_
              refine (AllReadyH.cons rfl (fun K hK => ?_) AllReadyH.nil)
              obtain ⟨m0, m1, m2, m3, m4, m5⟩ := row3 hg
              have hg2 := row3_set (x := s0) (y := p) (u := u) hg
              have hS2 := ((hHeld.setCell (p := ⟨g, 0, none⟩) hgle (.string s0)).setCell (p := ⟨g, 1, none⟩) hgle (.string p)).setCell (p := ⟨g, 2, none⟩) hgle (.int .i64 u)
              clear hg
              go_simp
              generalize (((v7.setCell ⟨g, 0, none⟩ (.string s0)).setCell ⟨g, 1, none⟩ (.string p)).setCell ⟨g, 2, none⟩ (.int .i64 u)) = v8 at *
              refine hK.out _ _ hS2 (fun hHeld => ?_)
              clear hK K m0 m1 m2 m3 m4 m5
              refine wpAnyH_takeD (i := 10) (d := 7) (v := ?_) rfl (by kernel_rfl) (by kernel_rfl) (by kernel_rfl) (fun _ _ _ h => h) (by rfl) ?_ hHeld ?_
              rotate_left
              · intro wS hS
                have eF := HF.out wS hS
                go_simp
                try with_reducible rfl
              simp only [Act.put, List.setIfInBounds_toArray, List.set_cons_zero, List.set_cons_succ]
              refine wpAnyH_done (by kernel_rfl) ?_ _
              go_wp2_with fail
              go_meet
              case rel => exact ⟨g, rfl, rfl, hgle, hg2, hHeld⟩
          · go_simp
            have hg := heap_alloc_new v1 (.cells #[.string ⟨#[]⟩, .string ⟨#[]⟩, .int .i64 0] 31)
            have hS2 := hHeld.alloc hHeld.size (.cells #[.string ⟨#[]⟩, .string ⟨#[]⟩, .int .i64 0] 31)
            have hgle := hHeld.size
            obtain ⟨g, hge⟩ : ∃ g, v1.heap.size = g := ⟨_, rfl⟩
            rw [hge] at hg hgle
            try rw [hge]
            obtain ⟨v9, hve⟩ : ∃ v, v1.alloc (.cells #[.string ⟨#[]⟩, .string ⟨#[]⟩, .int .i64 0] 31) = v := ⟨_, rfl⟩
            rw [hve] at hg hS2
            rw [hve]
            refine hK.out _ _ hS2 (fun hHeld => ?_)
            clear hK K hve hge
            refine wpAnyH_ready (rs := [3]) (by kernel_rfl) (by simp) ?_
            refine (AllReadyH.cons rfl (fun K hK => ?_) AllReadyH.nil)
            go_simp
            refine (toLogRecord_any _ _ _).mono ?_
            rintro e v10 ⟨rfl, hbn⟩
            have hg := rowB hg hbn
            refine hK.out _ _ (hHeld.trans (hbn.mono hHeld.size)) (fun hHeld => ?_)
            clear hK K hbn
            refine wpAnyH_ready (rs := [4]) (by kernel_rfl) (by simp) ?_
            refine (AllReadyH.cons rfl (fun K hK => ?_) AllReadyH.nil)
            go_simp
            refine (HS.out _).mono ?_
            rintro e v11 ⟨rfl, hbn⟩
            have hg := rowB hg hbn
            refine hK.out _ _ (hHeld.trans (hbn.mono hHeld.size)) (fun hHeld => ?_)
            clear hK K hbn
            refine wpAnyH_takeD (i := 5) (d := 20) (v := ?_) rfl (by kernel_rfl) (by kernel_rfl) (by kernel_rfl) (fun _ _ _ h => h) (by rfl) ?_ hHeld ?_
            rotate_left
            · intro wS hS
              have eF := HF.out wS hS
              go_simp
              try with_reducible rfl
            simp only [Act.put, List.setIfInBounds_toArray, List.set_cons_zero, List.set_cons_succ]
            refine wpAnyH_takeD (i := 6) (d := 26) (v := ?_) rfl (by kernel_rfl) (by kernel_rfl) (by kernel_rfl) (fun _ _ _ h => h) (by rfl) ?_ hHeld ?_
            rotate_left
            · intro wS hS
              have eF := HF.out wS hS
              go_simp
              try with_reducible rfl
            simp only [Act.put, List.setIfInBounds_toArray, List.set_cons_zero, List.set_cons_succ]
            refine wpAnyH_takeD (i := 7) (d := 27) (v := ?_) rfl (by kernel_rfl) (by kernel_rfl) (by kernel_rfl) (fun _ _ _ h => h) (by rfl) ?_ hHeld ?_
            rotate_left
            · intro wS hS
              have eF := HF.out wS hS
              go_simp
              try with_reducible rfl
            simp only [Act.put, List.setIfInBounds_toArray, List.set_cons_zero, List.set_cons_succ]
            refine wpAnyH_ready (rs := [9]) (by kernel_rfl) (by simp) ?_
            refine (AllReadyH.cons rfl (fun K hK => ?_) AllReadyH.nil)
            obtain ⟨m0, m1, m2, m3, m4, m5⟩ := row3 hg
            have hg2 := row3_set (x := s0) (y := p) (u := u) hg
            have hS2 := ((hHeld.setCell (p := ⟨g, 0, none⟩) hgle (.string s0)).setCell (p := ⟨g, 1, none⟩) hgle (.string p)).setCell (p := ⟨g, 2, none⟩) hgle (.int .i64 u)
            clear hg
            go_simp
            generalize (((v11.setCell ⟨g, 0, none⟩ (.string s0)).setCell ⟨g, 1, none⟩ (.string p)).setCell ⟨g, 2, none⟩ (.int .i64 u)) = v12 at *
            refine hK.out _ _ hS2 (fun hHeld => ?_)
            clear hK K m0 m1 m2 m3 m4 m5
            refine wpAnyH_takeD (i := 10) (d := 7) (v := ?_) rfl (by kernel_rfl) (by kernel_rfl) (by kernel_rfl) (fun _ _ _ h => h) (by rfl) ?_ hHeld ?_
            rotate_left
            · intro wS hS
              have eF := HF.out wS hS
              go_simp
              try with_reducible rfl
            simp only [Act.put, List.setIfInBounds_toArray, List.set_cons_zero, List.set_cons_succ]
            refine wpAnyH_done (by kernel_rfl) ?_ _
            go_wp2_with fail
            go_meet
            case rel => exact ⟨g, rfl, rfl, hgle, hg2, hHeld⟩
        · go_simp
          have hg := heap_alloc_new v0 (.cells #[.string ⟨#[]⟩, .string ⟨#[]⟩, .int .i64 0] 31)
          have hS2 := hHeld.alloc hHeld.size (.cells #[.string ⟨#[]⟩, .string ⟨#[]⟩, .int .i64 0] 31)
          have hgle := hHeld.size
          obtain ⟨g, hge⟩ : ∃ g, v0.heap.size = g := ⟨_, rfl⟩
          rw [hge] at hg hgle
          try rw [hge]
          obtain ⟨v13, hve⟩ : ∃ v, v0.alloc (.cells #[.string ⟨#[]⟩, .string ⟨#[]⟩, .int .i64 0] 31) = v := ⟨_, rfl⟩
          rw [hve] at hg hS2
          rw [hve]
          refine hK.out _ _ hS2 (fun hHeld => ?_)
          clear hK K hve hge
          refine wpAnyH_ready (rs := [1]) (by kernel_rfl) (by simp) ?_
          refine (AllReadyH.cons rfl (fun K hK => ?_) AllReadyH.nil)
          go_simp
          refine (toLog_any _ _ _ _).mono ?_
          rintro e v14 ⟨rfl, hbn⟩
          have hg := rowB hg hbn
          refine hK.out _ _ (hHeld.trans (hbn.mono hHeld.size)) (fun hHeld => ?_)
          clear hK K hbn
          refine wpAnyH_ready (rs := [3]) (by kernel_rfl) (by simp) ?_
          refine (AllReadyH.cons rfl (fun K hK => ?_) AllReadyH.nil)
          go_simp
          refine (toLogRecord_any _ _ _).mono ?_
          rintro e v15 ⟨rfl, hbn⟩
          have hg := rowB hg hbn
          refine hK.out _ _ (hHeld.trans (hbn.mono hHeld.size)) (fun hHeld => ?_)
          clear hK K hbn
          refine wpAnyH_ready (rs := [4]) (by kernel_rfl) (by simp) ?_
          refine (AllReadyH.cons rfl (fun K hK => ?_) AllReadyH.nil)
          go_simp
          refine (HS.out _).mono ?_
          rintro e v16 ⟨rfl, hbn⟩
          have hg := rowB hg hbn
          refine hK.out _ _ (hHeld.trans (hbn.mono hHeld.size)) (fun hHeld => ?_)
          clear hK K hbn
          refine wpAnyH_takeD (i := 5) (d := 20) (v := ?_) rfl (by kernel_rfl) (by kernel_rfl) (by kernel_rfl) (fun _ _ _ h => h) (by rfl) ?_ hHeld ?_
          rotate_left
          · intro wS hS
            have eF := HF.out wS hS
            go_simp
            try with_reducible rfl
          simp only [Act.put, List.setIfInBounds_toArray, List.set_cons_zero, List.set_cons_succ]
          refine wpAnyH_takeD (i := 6) (d := 26) (v := ?_) rfl (by kernel_rfl) (by kernel_rfl) (by kernel_rfl) (fun _ _ _ h => h) (by rfl) ?_ hHeld ?_
          rotate_left
          · intro wS hS
            have eF := HF.out wS hS
            go_simp
            try with_reducible rfl
          simp only [Act.put, List.setIfInBounds_toArray, List.set_cons_zero, List.set_cons_succ]
          refine wpAnyH_takeD (i := 7) (d := 27) (v := ?_) rfl (by kernel_rfl) (by kernel_rfl) (by kernel_rfl) (fun _ _ _ h => h) (by rfl) ?_ hHeld ?_
          rotate_left
          · intro wS hS
            have eF := HF.out wS hS
            go_simp
            try with_reducible rfl
          simp only [Act.put, List.setIfInBounds_toArray, List.set_cons_zero, List.set_cons_succ]
          refine wpAnyH_ready (rs := [9]) (by kernel_rfl) (by simp) ?_
          refine (AllReadyH.cons rfl (fun K hK => ?_) AllReadyH.nil)
          obtain ⟨m0, m1, m2, m3, m4, m5⟩ := row3 hg
          have hg2 := row3_set (x := s0) (y := p) (u := u) hg
          have hS2 := ((hHeld.setCell (p := ⟨g, 0, none⟩) hgle (.string s0)).setCell (p := ⟨g, 1, none⟩) hgle (.string p)).setCell (p := ⟨g, 2, none⟩) hgle (.int .i64 u)
          clear hg
          go_simp
          generalize (((v16.setCell ⟨g, 0, none⟩ (.string s0)).setCell ⟨g, 1, none⟩ (.string p)).setCell ⟨g, 2, none⟩ (.int .i64 u)) = v17 at *
          refine hK.out _ _ hS2 (fun hHeld => ?_)
          clear hK K m0 m1 m2 m3 m4 m5
          refine wpAnyH_takeD (i := 10) (d := 7) (v := ?_) rfl (by kernel_rfl) (by kernel_rfl) (by kernel_rfl) (fun _ _ _ h => h) (by rfl) ?_ hHeld ?_
          rotate_left
          · intro wS hS
            have eF := HF.out wS hS
            go_simp
            try with_reducible rfl
          simp only [Act.put, List.setIfInBounds_toArray, List.set_cons_zero, List.set_cons_succ]
          refine wpAnyH_done (by kernel_rfl) ?_ _
          go_wp2_with fail
          go_meet
          case rel => exact ⟨g, rfl, rfl, hgle, hg2, hHeld⟩
      case rest =>
        obtain ⟨ga, rfl, rfl, hga, hra, hba⟩ := hcut
        have HF3 : Hid (∀ w', Below wc.heap.size wc w' → w'.cell? ⟨w.heap.size, 0, none⟩ = some (.string s0) ∧ w'.cell? ⟨w.heap.size, 1, none⟩ = some (.string t0) ∧ w'.cell? ⟨w.heap.size, 2, none⟩ = some (.int .i64 z0) ∧ w'.cell? ⟨w.heap.size + 1, 0, none⟩ = some (.string s1) ∧ w'.cell? ⟨w.heap.size + 1, 1, none⟩ = some (.string t1)) := fun w' hq => HF.out w' (hba.trans (hq.mono hba.size))
        have BY := below_of BX hba BX.size
        clear HF hba BX
        have HF := HF3
        clear HF3
        obtain ⟨wy, hwy⟩ : ∃ v, wc = v := ⟨_, rfl⟩
        rw [hwy] at hra HF BY
        try rw [hwy]
        clear hwy wc
        go_upto_region 9 with fail
        go_cut [8, 9] (fun sa sb wx => ∃ g : Nat, sa = .pointer (some ⟨g, 0, none⟩) ∧ sb = .int .i64 k ∧ wy.heap.size ≤ g ∧ wx.heap[g]? = some (.cells #[.string s0, .string p, .int .i64 u] 31 (0, 0)) ∧ Below wy.heap.size wy wx)
        case first =>
          refine wp_region_held_drew (S := fun w' => Below wy.heap.size wy w') (by kernel_rfl) ((Below.refl _ _).drew) (fun hHeld => ?_)
          obtain ⟨v0, hv0⟩ : ∃ v, wy.drew = v := ⟨_, rfl⟩
          rw [hv0] at hHeld ⊢
          clear hv0
          refine wpAnyH_takeD (i := 0) (d := 29) (v := ?_) rfl (by kernel_rfl) (by kernel_rfl) (by kernel_rfl) (fun _ _ _ h => h) (by rfl) ?_ hHeld ?_
          rotate_left
          · intro wS hS
            have eF := HF.out wS hS
            go_simp
            try with_reducible rfl
          simp only [Act.put, List.setIfInBounds_toArray, List.set_cons_zero, List.set_cons_succ]
          refine wpAnyH_takeD (i := 2) (d := 31) (v := ?_) rfl (by kernel_rfl) (by kernel_rfl) (by kernel_rfl) (fun _ _ _ h => h) (by rfl) ?_ hHeld ?_
          rotate_left
          · intro wS hS
            have eF := HF.out wS hS
            go_simp
            try with_reducible rfl
          simp only [Act.put, List.setIfInBounds_toArray, List.set_cons_zero, List.set_cons_succ]
          refine wpAnyH_ready (rs := [1, 8]) (by kernel_rfl) (by simp) ?_
          refine (AllReadyH.cons rfl (fun K hK => ?_) (AllReadyH.cons rfl (fun K hK => ?_) AllReadyH.nil))
          · go_simp
            refine (toLog_any _ _ _ _).mono ?_
            rintro e v1 ⟨rfl, hbn⟩
            refine hK.out _ _ (hHeld.trans (hbn.mono hHeld.size)) (fun hHeld => ?_)
            clear hK K hbn
            refine wpAnyH_ready (rs := [3, 8]) (by kernel_rfl) (by simp) ?_
            refine (AllReadyH.cons rfl (fun K hK => ?_) (AllReadyH.cons rfl (fun K hK => ?_) AllReadyH.nil))
            · go_simp
              refine (toLogRecord_any _ _ _).mono ?_
              rintro e v2 ⟨rfl, hbn⟩
              refine hK.out _ _ (hHeld.trans (hbn.mono hHeld.size)) (fun hHeld => ?_)
              clear hK K hbn
              refine wpAnyH_ready (rs := [4, 8]) (by kernel_rfl) (by simp) ?_
              refine (AllReadyH.cons rfl (fun K hK => ?_) (AllReadyH.cons rfl (fun K hK => ?_) AllReadyH.nil))
              · go_simp
                refine (HI.out _ (ht.below (below_of BY hHeld BY.size)) (hm.below (below_of BY hHeld BY.size))).mono ?_
                rintro e v3 ⟨rfl, hbn⟩
                refine hK.out _ _ (hHeld.trans (hbn.mono hHeld.size)) (fun hHeld => ?_)
                clear hK K hbn
                refine wpAnyH_takeD (i := 5) (d := 28) (v := ?_) rfl (by kernel_rfl) (by kernel_rfl) (by kernel_rfl) (fun _ _ _ h => h) (by rfl) ?_ hHeld ?_
                rotate_left
                · intro wS hS
                  have eF := HF.out wS hS
                  go_simp
                  try with_reducible rfl
                simp only [Act.put, List.setIfInBounds_toArray, List.set_cons_zero, List.set_cons_succ]
                refine wpAnyH_takeD (i := 6) (d := 34) (v := ?_) rfl (by kernel_rfl) (by kernel_rfl) (by kernel_rfl) (fun _ _ _ h => h) (by rfl) ?_ hHeld ?_
                rotate_left
                · intro wS hS
                  have eF := HF.out wS hS
                  go_simp
                  try with_reducible rfl
                simp only [Act.put, List.setIfInBounds_toArray, List.set_cons_zero, List.set_cons_succ]
                refine wpAnyH_takeD (i := 7) (d := 35) (v := ?_) rfl (by kernel_rfl) (by kernel_rfl) (by kernel_rfl) (fun _ _ _ h => h) (by rfl) ?_ hHeld ?_
                rotate_left
                · intro wS hS
                  have eF := HF.out wS hS
                  go_simp
                  try with_reducible rfl
                simp only [Act.put, List.setIfInBounds_toArray, List.set_cons_zero, List.set_cons_succ]
                refine wpAnyH_ready (rs := [8]) (by kernel_rfl) (by simp) ?_
                refine (AllReadyH.cons rfl (fun K hK => ?_) AllReadyH.nil)
                go_simp
                have hg := heap_alloc_new v3 (.cells #[.string ⟨#[]⟩, .string ⟨#[]⟩, .int .i64 0] 31)
                have hS2 := hHeld.alloc hHeld.size (.cells #[.string ⟨#[]⟩, .string ⟨#[]⟩, .int .i64 0] 31)
                have hgle := hHeld.size
                obtain ⟨g, hge⟩ : ∃ g, v3.heap.size = g := ⟨_, rfl⟩
                rw [hge] at hg hgle
                try rw [hge]
                obtain ⟨v4, hve⟩ : ∃ v, v3.alloc (.cells #[.string ⟨#[]⟩, .string ⟨#[]⟩, .int .i64 0] 31) = v := ⟨_, rfl⟩
                rw [hve] at hg hS2
                rw [hve]
                refine hK.out _ _ hS2 (fun hHeld => ?_)
                clear hK K hve hge
                refine wpAnyH_ready (rs := [9]) (by kernel_rfl) (by simp) ?_
                refine (AllReadyH.cons rfl (fun K hK => ?_) AllReadyH.nil)
                obtain ⟨m0, m1, m2, m3, m4, m5⟩ := row3 hg
                have hg2 := row3_set (x := s0) (y := p) (u := u) hg
                have hS2 := ((hHeld.setCell (p := ⟨g, 0, none⟩) hgle (.string s0)).setCell (p := ⟨g, 1, none⟩) hgle (.string p)).setCell (p := ⟨g, 2, none⟩) hgle (.int .i64 u)
                clear hg
                go_simp
                generalize (((v4.setCell ⟨g, 0, none⟩ (.string s0)).setCell ⟨g, 1, none⟩ (.string p)).setCell ⟨g, 2, none⟩ (.int .i64 u)) = v5 at *
                refine hK.out _ _ hS2 (fun hHeld => ?_)
                clear hK K m0 m1 m2 m3 m4 m5
                refine wpAnyH_takeD (i := 10) (d := 9) (v := ?_) rfl (by kernel_rfl) (by kernel_rfl) (by kernel_rfl) (fun _ _ _ h => h) (by rfl) ?_ hHeld ?_
                rotate_left
                · intro wS hS
                  have eF := HF.out wS hS
                  go_simp
                  try with_reducible rfl
                simp only [Act.put, List.setIfInBounds_toArray, List.set_cons_zero, List.set_cons_succ]
                refine wpAnyH_done (by kernel_rfl) ?_ _
                go_wp2_with fail
                go_meet
                case rel => exact ⟨g, rfl, rfl, hgle, hg2, hHeld⟩
              · go_simp
                have hg := heap_alloc_new v2 (.cells #[.string ⟨#[]⟩, .string ⟨#[]⟩, .int .i64 0] 31)
                have hS2 := hHeld.alloc hHeld.size (.cells #[.string ⟨#[]⟩, .string ⟨#[]⟩, .int .i64 0] 31)
                have hgle := hHeld.size
                obtain ⟨g, hge⟩ : ∃ g, v2.heap.size = g := ⟨_, rfl⟩
                rw [hge] at hg hgle
                try rw [hge]
                obtain ⟨v6, hve⟩ : ∃ v, v2.alloc (.cells #[.string ⟨#[]⟩, .string ⟨#[]⟩, .int .i64 0] 31) = v := ⟨_, rfl⟩
                rw [hve] at hg hS2
                rw [hve]
                refine hK.out _ _ hS2 (fun hHeld => ?_)
                clear hK K hve hge
                refine wpAnyH_ready (rs := [4]) (by kernel_rfl) (by simp) ?_
                refine (AllReadyH.cons rfl (fun K hK => ?_) AllReadyH.nil)
                go_simp
                refine (HI.out _ (ht.below (below_of BY hHeld BY.size)) (hm.below (below_of BY hHeld BY.size))).mono ?_
                rintro e v7 ⟨rfl, hbn⟩
                have hg := rowB hg hbn
                refine hK.out _ _ (hHeld.trans (hbn.mono hHeld.size)) (fun hHeld => ?_)
                clear hK K hbn
                refine wpAnyH_takeD (i := 5) (d := 28) (v := ?_) rfl (by kernel_rfl) (by kernel_rfl) (by kernel_rfl) (fun _ _ _ h => h) (by rfl) ?_ hHeld ?_
                rotate_left
                · intro wS hS
                  have eF := HF.out wS hS
                  go_simp
                  try with_reducible rfl
                simp only [Act.put, List.setIfInBounds_toArray, List.set_cons_zero, List.set_cons_succ]
                refine wpAnyH_takeD (i := 6) (d := 34) (v := ?_) rfl (by kernel_rfl) (by kernel_rfl) (by kernel_rfl) (fun _ _ _ h => h) (by rfl) ?_ hHeld ?_
                rotate_left
                · intro wS hS
                  have eF := HF.out wS hS
                  go_simp
                  try with_reducible rfl
                simp only [Act.put, List.setIfInBounds_toArray, List.set_cons_zero, List.set_cons_succ]
                refine wpAnyH_takeD (i := 7) (d := 35) (v := ?_) rfl (by kernel_rfl) (by kernel_rfl) (by kernel_rfl) (fun _ _ _ h => h) (by rfl) ?_ hHeld ?_
                rotate_left
                · intro wS hS
                  have eF := HF.out wS hS
                  go_simp
                  try with_reducible rfl
                simp only [Act.put, List.setIfInBounds_toArray, List.set_cons_zero, List.set_cons_succ]
                refine wpAnyH_ready (rs := [9]) (by kernel_rfl) (by simp) ?_
                refine (AllReadyH.cons rfl (fun K hK => ?_) AllReadyH.nil)
                obtain ⟨m0, m1, m2, m3, m4, m5⟩ := row3 hg
                have hg2 := row3_set (x := s0) (y := p) (u := u) hg
                have hS2 := ((hHeld.setCell (p := ⟨g, 0, none⟩) hgle (.string s0)).setCell (p := ⟨g, 1, none⟩) hgle (.string p)).setCell (p := ⟨g, 2, none⟩) hgle (.int .i64 u)
                clear hg
                go_simp
                generalize (((v7.setCell ⟨g, 0, none⟩ (.string s0)).setCell ⟨g, 1, none⟩ (.string p)).setCell ⟨g, 2, none⟩ (.int .i64 u)) = v8 at *
                refine hK.out _ _ hS2 (fun hHeld => ?_)
                clear hK K m0 m1 m2 m3 m4 m5
                refine wpAnyH_takeD (i := 10) (d := 9) (v := ?_) rfl (by kernel_rfl) (by kernel_rfl) (by kernel_rfl) (fun _ _ _ h => h) (by rfl) ?_ hHeld ?_
                rotate_left
                · intro wS hS
                  have eF := HF.out wS hS
                  go_simp
                  try with_reducible rfl
                simp only [Act.put, List.setIfInBounds_toArray, List.set_cons_zero, List.set_cons_succ]
                refine wpAnyH_done (by kernel_rfl) ?_ _
                go_wp2_with fail
                go_meet
                case rel => exact ⟨g, rfl, rfl, hgle, hg2, hHeld⟩
            · go_simp
              have hg := heap_alloc_new v1 (.cells #[.string ⟨#[]⟩, .string ⟨#[]⟩, .int .i64 0] 31)
              have hS2 := hHeld.alloc hHeld.size (.cells #[.string ⟨#[]⟩, .string ⟨#[]⟩, .int .i64 0] 31)
              have hgle := hHeld.size
              obtain ⟨g, hge⟩ : ∃ g, v1.heap.size = g := ⟨_, rfl⟩
              rw [hge] at hg hgle
              try rw [hge]
              obtain ⟨v9, hve⟩ : ∃ v, v1.alloc (.cells #[.string ⟨#[]⟩, .string ⟨#[]⟩, .int .i64 0] 31) = v := ⟨_, rfl⟩
              rw [hve] at hg hS2
              rw [hve]
              refine hK.out _ _ hS2 (fun hHeld => ?_)
              clear hK K hve hge
              refine wpAnyH_ready (rs := [3]) (by kernel_rfl) (by simp) ?_
              refine (AllReadyH.cons rfl (fun K hK => ?_) AllReadyH.nil)
              go_simp
              refine (toLogRecord_any _ _ _).mono ?_
              rintro e v10 ⟨rfl, hbn⟩
              have hg := rowB hg hbn
              refine hK.out _ _ (hHeld.trans (hbn.mono hHeld.size)) (fun hHeld => ?_)
              clear hK K hbn
              refine wpAnyH_ready (rs := [4]) (by kernel_rfl) (by simp) ?_
              refine (AllReadyH.cons rfl (fun K hK => ?_) AllReadyH.nil)
              go_simp
              refine (HI.out _ (ht.below (below_of BY hHeld BY.size)) (hm.below (below_of BY hHeld BY.size))).mono ?_
              rintro e v11 ⟨rfl, hbn⟩
              have hg := rowB hg hbn
              refine hK.out _ _ (hHeld.trans (hbn.mono hHeld.size)) (fun hHeld => ?_)
              clear hK K hbn
              refine wpAnyH_takeD (i := 5) (d := 28) (v := ?_) rfl (by kernel_rfl) (by kernel_rfl) (by kernel_rfl) (fun _ _ _ h => h) (by rfl) ?_ hHeld ?_
              rotate_left
              · intro wS hS
                have eF := HF.out wS hS
                go_simp
                try with_reducible rfl
              simp only [Act.put, List.setIfInBounds_toArray, List.set_cons_zero, List.set_cons_succ]
              refine wpAnyH_takeD (i := 6) (d := 34) (v := ?_) rfl (by kernel_rfl) (by kernel_rfl) (by kernel_rfl) (fun _ _ _ h => h) (by rfl) ?_ hHeld ?_
              rotate_left
              · intro wS hS
                have eF := HF.out wS hS
                go_simp
                try with_reducible rfl
              simp only [Act.put, List.setIfInBounds_toArray, List.set_cons_zero, List.set_cons_succ]
              refine wpAnyH_takeD (i := 7) (d := 35) (v := ?_) rfl (by kernel_rfl) (by kernel_rfl) (by kernel_rfl) (fun _ _ _ h => h) (by rfl) ?_ hHeld ?_
              rotate_left
              · intro wS hS
                have eF := HF.out wS hS
                go_simp
                try with_reducible rfl
              simp only [Act.put, List.setIfInBounds_toArray, List.set_cons_zero, List.set_cons_succ]
              refine wpAnyH_ready (rs := [9]) (by kernel_rfl) (by simp) ?_
              refine (AllReadyH.cons rfl (fun K hK => ?_) AllReadyH.nil)
              obtain ⟨m0, m1, m2, m3, m4, m5⟩ := row3 hg
              have hg2 := row3_set (x := s0) (y := p) (u := u) hg
              have hS2 := ((hHeld.setCell (p := ⟨g, 0, none⟩) hgle (.string s0)).setCell (p := ⟨g, 1, none⟩) hgle (.string p)).setCell (p := ⟨g, 2, none⟩) hgle (.int .i64 u)
              clear hg
              go_simp
              generalize (((v11.setCell ⟨g, 0, none⟩ (.string s0)).setCell ⟨g, 1, none⟩ (.string p)).setCell ⟨g, 2, none⟩ (.int .i64 u)) = v12 at *
              refine hK.out _ _ hS2 (fun hHeld => ?_)
              clear hK K m0 m1 m2 m3 m4 m5
              refine wpAnyH_takeD (i := 10) (d := 9) (v := ?_) rfl (by kernel_rfl) (by kernel_rfl) (by kernel_rfl) (fun _ _ _ h => h) (by rfl) ?_ hHeld ?_
              rotate_left
              · intro wS hS
                have eF := HF.out wS hS
                go_simp
                try with_reducible rfl
              simp only [Act.put, List.setIfInBounds_toArray, List.set_cons_zero, List.set_cons_succ]
              refine wpAnyH_done (by kernel_rfl) ?_ _
              go_wp2_with fail
              go_meet
              case rel => exact ⟨g, rfl, rfl, hgle, hg2, hHeld⟩
          · go_simp
            have hg := heap_alloc_new v0 (.cells #[.string ⟨#[]⟩, .string ⟨#[]⟩, .int .i64 0] 31)
            have hS2 := hHeld.alloc hHeld.size (.cells #[.string ⟨#[]⟩, .string ⟨#[]⟩, .int .i64 0] 31)
            have hgle := hHeld.size
            obtain ⟨g, hge⟩ : ∃ g, v0.heap.size = g := ⟨_, rfl⟩
            rw [hge] at hg hgle
            try rw [hge]
            obtain ⟨v13, hve⟩ : ∃ v, v0.alloc (.cells #[.string ⟨#[]⟩, .string ⟨#[]⟩, .int .i64 0] 31) = v := ⟨_, rfl⟩
            rw [hve] at hg hS2
            rw [hve]
            refine hK.out _ _ hS2 (fun hHeld => ?_)
            clear hK K hve hge
            refine wpAnyH_ready (rs := [1]) (by kernel_rfl) (by simp) ?_
            refine (AllReadyH.cons rfl (fun K hK => ?_) AllReadyH.nil)
            go_simp
            refine (toLog_any _ _ _ _).mono ?_
            rintro e v14 ⟨rfl, hbn⟩
            have hg := rowB hg hbn
            refine hK.out _ _ (hHeld.trans (hbn.mono hHeld.size)) (fun hHeld => ?_)
            clear hK K hbn
            refine wpAnyH_ready (rs := [3]) (by kernel_rfl) (by simp) ?_
            refine (AllReadyH.cons rfl (fun K hK => ?_) AllReadyH.nil)
            go_simp
            refine (toLogRecord_any _ _ _).mono ?_
            rintro e v15 ⟨rfl, hbn⟩
            have hg := rowB hg hbn
            refine hK.out _ _ (hHeld.trans (hbn.mono hHeld.size)) (fun hHeld => ?_)
            clear hK K hbn
            refine wpAnyH_ready (rs := [4]) (by kernel_rfl) (by simp) ?_
            refine (AllReadyH.cons rfl (fun K hK => ?_) AllReadyH.nil)
            go_simp
            refine (HI.out _ (ht.below (below_of BY hHeld BY.size)) (hm.below (below_of BY hHeld BY.size))).mono ?_
            rintro e v16 ⟨rfl, hbn⟩
            have hg := rowB hg hbn
            refine hK.out _ _ (hHeld.trans (hbn.mono hHeld.size)) (fun hHeld => ?_)
            clear hK K hbn
            refine wpAnyH_takeD (i := 5) (d := 28) (v := ?_) rfl (by kernel_rfl) (by kernel_rfl) (by kernel_rfl) (fun _ _ _ h => h) (by rfl) ?_ hHeld ?_
            rotate_left
            · intro wS hS
              have eF := HF.out wS hS
              go_simp
              try with_reducible rfl
            simp only [Act.put, List.setIfInBounds_toArray, List.set_cons_zero, List.set_cons_succ]
            refine wpAnyH_takeD (i := 6) (d := 34) (v := ?_) rfl (by kernel_rfl) (by kernel_rfl) (by kernel_rfl) (fun _ _ _ h => h) (by rfl) ?_ hHeld ?_
            rotate_left
            · intro wS hS
              have eF := HF.out wS hS
              go_simp
              try with_reducible rfl
            simp only [Act.put, List.setIfInBounds_toArray, List.set_cons_zero, List.set_cons_succ]
            refine wpAnyH_takeD (i := 7) (d := 35) (v := ?_) rfl (by kernel_rfl) (by kernel_rfl) (by kernel_rfl) (fun _ _ _ h => h) (by rfl) ?_ hHeld ?_
            rotate_left
            · intro wS hS
              have eF := HF.out wS hS
              go_simp
              try with_reducible rfl
            simp only [Act.put, List.setIfInBounds_toArray, List.set_cons_zero, List.set_cons_succ]
            refine wpAnyH_ready (rs := [9]) (by kernel_rfl) (by simp) ?_
            refine (AllReadyH.cons rfl (fun K hK => ?_) AllReadyH.nil)
            obtain ⟨m0, m1, m2, m3, m4, m5⟩ := row3 hg
            have hg2 := row3_set (x := s0) (y := p) (u := u) hg
            have hS2 := ((hHeld.setCell (p := ⟨g, 0, none⟩) hgle (.string s0)).setCell (p := ⟨g, 1, none⟩) hgle (.string p)).setCell (p := ⟨g, 2, none⟩) hgle (.int .i64 u)
            clear hg
            go_simp
            generalize (((v16.setCell ⟨g, 0, none⟩ (.string s0)).setCell ⟨g, 1, none⟩ (.string p)).setCell ⟨g, 2, none⟩ (.int .i64 u)) = v17 at *
            refine hK.out _ _ hS2 (fun hHeld => ?_)
            clear hK K m0 m1 m2 m3 m4 m5
            refine wpAnyH_takeD (i := 10) (d := 9) (v := ?_) rfl (by kernel_rfl) (by kernel_rfl) (by kernel_rfl) (fun _ _ _ h => h) (by rfl) ?_ hHeld ?_
            rotate_left
            · intro wS hS
              have eF := HF.out wS hS
              go_simp
              try with_reducible rfl
            simp only [Act.put, List.setIfInBounds_toArray, List.set_cons_zero, List.set_cons_succ]
            refine wpAnyH_done (by kernel_rfl) ?_ _
            go_wp2_with fail
            go_meet
            case rel => exact ⟨g, rfl, rfl, hgle, hg2, hHeld⟩
        case rest =>
          obtain ⟨gb, rfl, rfl, hgb, hrb, hbb⟩ := hcut
          have hra := rowB hra hbb
          have BZ := below_of BY hbb BY.size
          obtain ⟨a0, a1, a2, _, _, _⟩ := row3 hra
          obtain ⟨b0, b1, b2, _, _, _⟩ := row3 hrb
          clear HF HS HI ht hm BY hgb hga hbb hra hrb
          go_wp2_with fail
          refine (eqLog_same _ _ _ _).mono ?_
          rintro e w6 ⟨rfl, hb6⟩
          go_wp2
          go_ret
          exact ⟨rfl, below_of BZ hb6 BZ.size⟩
end Go.Proofs.YtlngemecmchdcaaDoor
