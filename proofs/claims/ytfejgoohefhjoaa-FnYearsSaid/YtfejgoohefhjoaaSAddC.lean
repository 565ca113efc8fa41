/-
  AddCrop of the reference.
-/
import Derived.Test.YtfejgoohefhjoaaAddM
import Derived.Test.YtfejgoohefhjoaaSrcK
import Derived.Test.YtfejgoohefhjoaaInsK
import Derived.Deep.QuietTactic
import Derived.BigQuiet
import Derived.Deep.Cut
import Derived.Lib.Hide
namespace Go.Proofs.Ytfejgoohefhjoaa
open Go.RowKit
set_option linter.unusedVariables false
set_option linter.unusedSimpArgs false
attribute [local go_sem ↓] Go.wp_at_zero Go.wp_at_succ
set_option maxRecDepth 100000 in
set_option maxHeartbeats 2000000 in
theorem sAddCrop_any (A : Option Addr) (n c lo hi : Nat) (f r : Nat → Int) (w : World) (hs : Sl w lo hi 5 A n f) (hn : n ≤ 1048576) (hnc : n ≤ c) (hcm : c ≤ maxLen) (hnone : A = none → n = 0 ∧ c = 0) (hform : ∀ ad, A = some ad → ∃ b off, ad = ⟨b, off, none⟩) :
    Calls Try.prog 13 #[.slice A n c, .agg #[.int .i64 (r 0), .int .i64 (r 1), .int .i64 (r 2), .int .i64 (r 3), .int .i64 (r 4)]] w (RowsPost 33 w (addM f r n) (addF f r n) (addOk f r n)) := by
  have HS : Hid (Sl w lo hi 5 A n f) := hs
  clear hs
  have BX : Below w.heap.size w (w.alloc (.cells #[.int .i64 (r 0), .int .i64 (r 1), .int .i64 (r 2), .int .i64 (r 3), .int .i64 (r 4)] 33)) := (Below.refl _ w).alloc (Nat.le_refl _) _
  have b0 : (w.alloc (.cells #[.int .i64 (r 0), .int .i64 (r 1), .int .i64 (r 2), .int .i64 (r 3), .int .i64 (r 4)] 33)).heap[w.heap.size]? = some (.cells #[.int .i64 (r 0), .int .i64 (r 1), .int .i64 (r 2), .int .i64 (r 3), .int .i64 (r 4)] 33 (0, 0)) := heap_alloc_new w _
  have zX : (w.alloc (.cells #[.int .i64 (r 0), .int .i64 (r 1), .int .i64 (r 2), .int .i64 (r 3), .int .i64 (r 4)] 33)).heap.size = w.heap.size + 1 := by simp
  cases hg : goodRows f n with
  | false =>
    have hm : addM f r n = 0 := by simp [addM, addOk, hg]
    have hk : addOk f r n = false := by simp [addOk, hg]
    rw [hm, hk]
    clear hm hk b0
    go_enter Try.func13, Try.ntmps13
    go_wp2_with fail
    refine (l26Good_any A n c lo hi f _ (HS.out.below BX) hn hnc).mono ?_
    rw [hg]
    rintro e w1 ⟨rfl, hb1⟩
    have B1 := BX.trans (hb1.mono (by omega))
    go_wp2
    go_ret2
    exact ⟨_, _, rfl, Nat.le_refl _, Nat.zero_le _, Own.none_ (Nat.le_refl _), B1.alloc B1.size _⟩
  | true =>
  cases hok : okRow (r 0) (r 1) (r 2) (r 3) (r 4) with
  | false =>
    have hm : addM f r n = 0 := by simp [addM, addOk, hok]
    have hk : addOk f r n = false := by simp [addOk, hok]
    rw [hm, hk]
    clear hm hk
    go_enter Try.func13, Try.ntmps13
    go_wp2_with fail
    refine (l26Good_any A n c lo hi f _ (HS.out.below BX) hn hnc).mono ?_
    rw [hg]
    rintro e w1 ⟨rfl, hb1⟩
    have B1 := BX.trans (hb1.mono (by omega))
    have b1 := (hb1.block w.heap.size (by omega)).trans b0
    have q0 : w1.cell? ⟨w.heap.size, 0, none⟩ = some (.int .i64 (r 0)) := by rw [cell_of_row w1 w.heap.size 0 _ _ (0, 0) b1]; rfl
    have q1 : w1.cell? ⟨w.heap.size, 1, none⟩ = some (.int .i64 (r 1)) := by rw [cell_of_row w1 w.heap.size 1 _ _ (0, 0) b1]; rfl
    have q2 : w1.cell? ⟨w.heap.size, 2, none⟩ = some (.int .i64 (r 2)) := by rw [cell_of_row w1 w.heap.size 2 _ _ (0, 0) b1]; rfl
    have q3 : w1.cell? ⟨w.heap.size, 3, none⟩ = some (.int .i64 (r 3)) := by rw [cell_of_row w1 w.heap.size 3 _ _ (0, 0) b1]; rfl
    have q4 : w1.cell? ⟨w.heap.size, 4, none⟩ = some (.int .i64 (r 4)) := by rw [cell_of_row w1 w.heap.size 4 _ _ (0, 0) b1]; rfl
    clear hb1 b0 b1
    go_wp2_with fail
    refine (l26One_any _ _ _ _ _ _).mono ?_
    rw [hok]
    rintro e w2 ⟨rfl, hb2⟩
    have B2 := below_of B1 hb2 B1.size
    go_wp2
    go_ret2
    exact ⟨_, _, rfl, Nat.le_refl _, Nat.zero_le _, Own.none_ (Nat.le_refl _), B2.alloc B2.size _⟩
  | true =>
  go_enter Try.func13, Try.ntmps13
  go_wp2_with fail
  refine (l26Good_any A n c lo hi f _ (HS.out.below BX) hn hnc).mono ?_
  rw [hg]
  rintro e w1 ⟨rfl, hb1⟩
  have B1 := BX.trans (hb1.mono (by omega))
  have b1 := (hb1.block w.heap.size (by omega)).trans b0
  have q0 : w1.cell? ⟨w.heap.size, 0, none⟩ = some (.int .i64 (r 0)) := by rw [cell_of_row w1 w.heap.size 0 _ _ (0, 0) b1]; rfl
  have q1 : w1.cell? ⟨w.heap.size, 1, none⟩ = some (.int .i64 (r 1)) := by rw [cell_of_row w1 w.heap.size 1 _ _ (0, 0) b1]; rfl
  have q2 : w1.cell? ⟨w.heap.size, 2, none⟩ = some (.int .i64 (r 2)) := by rw [cell_of_row w1 w.heap.size 2 _ _ (0, 0) b1]; rfl
  have q3 : w1.cell? ⟨w.heap.size, 3, none⟩ = some (.int .i64 (r 3)) := by rw [cell_of_row w1 w.heap.size 3 _ _ (0, 0) b1]; rfl
  have q4 : w1.cell? ⟨w.heap.size, 4, none⟩ = some (.int .i64 (r 4)) := by rw [cell_of_row w1 w.heap.size 4 _ _ (0, 0) b1]; rfl
  clear hb1 b0
  go_wp2_with fail
  refine (l26One_any _ _ _ _ _ _).mono ?_
  rw [hok]
  rintro e w2 ⟨rfl, hb2⟩
  have B2 := below_of B1 hb2 B1.size
  have b2 := (hb2.block w.heap.size (Array.getElem?_eq_some_iff.1 b1).1).trans b1
  have hs2 := HS.out.below B2
  clear hb2 b1 B1 BX zX q0 q1 q2 q3 q4
  have hn12 := goodRows_le hg
  clear hn
  have HG := Lib.hid hg
  have HOK := Lib.hid hok
  clear hg hok
  have hile := HS.out.hi_le
  clear HS
  have HS2 := Lib.hid hs2
  clear hs2
  have HB2 := Lib.hid B2
  have hX2 := B2.size
  have bl := (Array.getElem?_eq_some_iff.1 b2).1
  clear B2
  go_wp2_with fail
  go_loopw [6] (fun kv wr => (∃ k : Nat, k ≤ n ∧ kv = .int .i64 k ∧ atC f n (r 0) = placeC f (r 0) (n - k) k) ∧ Below w2.heap.size w2 wr) (fun kv _ => n - (intOf kv).toNat)
  case atStart => exact ⟨⟨0, Nat.zero_le _, rfl, rfl⟩, Below.refl _ _⟩
  case round =>
    obtain ⟨⟨k, hk, rfl, hpl⟩, hbel⟩ := hrel
    have b3 := (hbel.block w.heap.size bl).trans b2
    have zr := hbel.size
    have q0 : wr.cell? ⟨w.heap.size, 0, none⟩ = some (.int .i64 (r 0)) := by rw [cell_of_row wr w.heap.size 0 _ _ (0, 0) b3]; rfl
    have q1 : wr.cell? ⟨w.heap.size, 1, none⟩ = some (.int .i64 (r 1)) := by rw [cell_of_row wr w.heap.size 1 _ _ (0, 0) b3]; rfl
    have q2 : wr.cell? ⟨w.heap.size, 2, none⟩ = some (.int .i64 (r 2)) := by rw [cell_of_row wr w.heap.size 2 _ _ (0, 0) b3]; rfl
    have q3 : wr.cell? ⟨w.heap.size, 3, none⟩ = some (.int .i64 (r 3)) := by rw [cell_of_row wr w.heap.size 3 _ _ (0, 0) b3]; rfl
    have q4 : wr.cell? ⟨w.heap.size, 4, none⟩ = some (.int .i64 (r 4)) := by rw [cell_of_row wr w.heap.size 4 _ _ (0, 0) b3]; rfl
    have hk0i : (0 : Int) ≤ (k : Int) := by omega
    have hkc : (k : Int) ≤ (c : Int) := by omega
    have hkcn : k ≤ c := by omega
    by_cases hlt : k < n
    · obtain ⟨b, off, rfl, hbw, HC⟩ := HS2.out.open_ hbel (by omega)
      obtain ⟨c0, c1, c2, c3, c4⟩ := cell5 HC hlt
      have hki : (k : Int) < (n : Int) := by omega
      by_cases hyr : f (k * 5) < r 0
      · have HP : Hid (atC f n (r 0) = placeC f (r 0) (n - (k + 1)) (k + 1)) := hpl.trans (placeC_step hlt hyr)
        clear hpl HC
        go_wp2
        go_quiet (fail)
        go_wp2
        go_roundw
        case rel => exact ⟨⟨k + 1, by omega, by go_num, HP.out⟩, below_drewN hbel _⟩
        case measure => simp [intOf]; omega
      · have HP : Hid (atC f n (r 0) = k) := hpl.trans (placeC_stop hlt hyr)
        clear hpl HC
        have hck : ¬ (c = k) := by omega
        have hnk : (0 : Int) < (n : Int) - (k : Int) := by omega
        have hnk' : 0 < n - k := by omega
        go_wp2
        go_quiet (fail)
        go_wp2
        by_cases he : f (k * 5) = r 0
        · have heb : (f (k * 5) == r 0) = true := by simp [he]
          have HM : Hid (mrgB f n (r 0) = true) := mrgB_yes HP.out hlt he
          have HE := Lib.hid he
          clear he hyr
          go_quiet (fail)
          go_upto_region 8 with fail
          refine nameW ?_
          intro wq hwq
          have hq : Below wr.heap.size wr wq := by rw [hwq]; exact below_drewN (below_drewN (Below.refl _ _) _) _
          have d0 := (hq.cell (p := ⟨b, off + k * 5, none⟩) hbw).trans c0
          have d1 := (hq.cell (p := ⟨b, off + k * 5 + 1, none⟩) hbw).trans c1
          have d2 := (hq.cell (p := ⟨b, off + k * 5 + 2, none⟩) hbw).trans c2
          have d3 := (hq.cell (p := ⟨b, off + k * 5 + 3, none⟩) hbw).trans c3
          have d4 := (hq.cell (p := ⟨b, off + k * 5 + 4, none⟩) hbw).trans c4
          have b4 := (hq.block w.heap.size (by omega)).trans b3
          have zq := hq.size
          have hbq : w.heap.size < wq.heap.size := by omega
          clear c0 c1 c2 c3 c4 b3 q0 q1 q2 q3 q4 hwq
          have q0 : wq.cell? ⟨w.heap.size, 0, none⟩ = some (.int .i64 (r 0)) := by rw [cell_of_row wq w.heap.size 0 _ _ (0, 0) b4]; rfl
          have q1 : wq.cell? ⟨w.heap.size, 1, none⟩ = some (.int .i64 (r 1)) := by rw [cell_of_row wq w.heap.size 1 _ _ (0, 0) b4]; rfl
          have q2 : wq.cell? ⟨w.heap.size, 2, none⟩ = some (.int .i64 (r 2)) := by rw [cell_of_row wq w.heap.size 2 _ _ (0, 0) b4]; rfl
          have q3 : wq.cell? ⟨w.heap.size, 3, none⟩ = some (.int .i64 (r 3)) := by rw [cell_of_row wq w.heap.size 3 _ _ (0, 0) b4]; rfl
          have q4 : wq.cell? ⟨w.heap.size, 4, none⟩ = some (.int .i64 (r 4)) := by rw [cell_of_row wq w.heap.size 4 _ _ (0, 0) b4]; rfl
          have fz : ∀ j : Nat, wq.frozen? ⟨w.heap.size, j, none⟩ = false := fun j => by simp [World.frozen?, b4]
          by_cases hc1 : c - k = 1
          · go_upto_region 11 with fail
            refine nameW ?_
            intro wx hwx
            have hFR : Fr w.heap.size (w.heap.size + 1) w2 wx := by rw [hwx]; exact (((((((Fr.of_below w.heap.size (w.heap.size + 1) (below_of hbel hq hbel.size)).setCell (p := ⟨w.heap.size, 0, none⟩) (Nat.le_refl _) (Nat.lt_succ_self _) _).setCell (p := ⟨w.heap.size, 1, none⟩) (Nat.le_refl _) (Nat.lt_succ_self _) _).setCell (p := ⟨w.heap.size, 2, none⟩) (Nat.le_refl _) (Nat.lt_succ_self _) _).setCell (p := ⟨w.heap.size, 3, none⟩) (Nat.le_refl _) (Nat.lt_succ_self _) _).setCell (p := ⟨w.heap.size, 4, none⟩) (Nat.le_refl _) (Nat.lt_succ_self _) _).alloc _)
            have BW : Below w.heap.size w wx := by rw [hwx]; exact (((((((below_of HB2.out (below_of hbel hq hbel.size) HB2.out.size).setCell (Nat.le_refl _) _).setCell (Nat.le_refl _) _).setCell (Nat.le_refl _) _).setCell (Nat.le_refl _) _).setCell (Nat.le_refl _) _).alloc (by simp [World.setCell]; omega) _)
            have HSX := Lib.hid (HS2.out.fr hFR (Or.inl hile))
            have hbx : w.heap.size < wx.heap.size := Nat.lt_of_lt_of_le bl hFR.size
            have m0 : wx.cell? ⟨w.heap.size, 0, none⟩ = some (.int .i64 (f (k * 5))) := by rw [hwx]; go_simp
            have m1 : wx.cell? ⟨w.heap.size, 1, none⟩ = some (.int .i64 (wrap64 (f (k * 5 + 1) + r 1))) := by rw [hwx]; go_simp
            have m2 : wx.cell? ⟨w.heap.size, 2, none⟩ = some (.int .i64 (wrap64 (f (k * 5 + 2) + r 2))) := by rw [hwx]; go_simp
            have m3 : wx.cell? ⟨w.heap.size, 3, none⟩ = some (.int .i64 (wrap64 (f (k * 5 + 3) + r 3))) := by rw [hwx]; go_simp
            have m4 : wx.cell? ⟨w.heap.size, 4, none⟩ = some (.int .i64 (f (k * 5 + 4))) := by rw [hwx]; go_simp
            clear hwx b4 fz d0 d1 d2 d3 d4 q0 q1 q2 q3 q4 hq hbq zq
            have hn1 : Hid (n - k - 1 = 0) := by show n - k - 1 = 0; omega
            have HF : Hid (∀ w', Below wx.heap.size wx w' → w'.cell? ⟨w.heap.size, 0, none⟩ = some (.int .i64 (f (k * 5))) ∧ w'.cell? ⟨w.heap.size, 1, none⟩ = some (.int .i64 (wrap64 (f (k * 5 + 1) + r 1))) ∧ w'.cell? ⟨w.heap.size, 2, none⟩ = some (.int .i64 (wrap64 (f (k * 5 + 2) + r 2))) ∧ w'.cell? ⟨w.heap.size, 3, none⟩ = some (.int .i64 (wrap64 (f (k * 5 + 3) + r 3))) ∧ w'.cell? ⟨w.heap.size, 4, none⟩ = some (.int .i64 (f (k * 5 + 4)))) := fun w' hq => ⟨(hq.cell (p := ⟨w.heap.size, 0, none⟩) hbx).trans m0, (hq.cell (p := ⟨w.heap.size, 1, none⟩) hbx).trans m1, (hq.cell (p := ⟨w.heap.size, 2, none⟩) hbx).trans m2, (hq.cell (p := ⟨w.heap.size, 3, none⟩) hbx).trans m3, (hq.cell (p := ⟨w.heap.size, 4, none⟩) hbx).trans m4⟩
            clear m0 m1 m2 m3 m4
            refine wp_region_held_drew (S := fun w' => Below (wx).heap.size (wx) w') (by kernel_rfl) ((Below.refl _ _).drew) (fun hHeld => ?_)
            refine wpAnyH_takeD (i := 1) (d := 76) (v := ?_) rfl (by kernel_rfl) (by kernel_rfl) (by kernel_rfl) (fun _ _ _ h => h) (by rfl) ?_ hHeld ?_
            rotate_left
            · intro wS hS
              have eF := HF.out wS hS
              go_simp
              try with_reducible rfl
            simp only [Act.put, List.setIfInBounds_toArray, List.set_cons_zero, List.set_cons_succ]
            refine wpAnyH_takeD (i := 2) (d := 77) (v := ?_) rfl (by kernel_rfl) (by kernel_rfl) (by kernel_rfl) (fun _ _ _ h => h) (by rfl) ?_ hHeld ?_
            rotate_left
            · intro wS hS
              have eF := HF.out wS hS
              go_simp
              try with_reducible rfl
            simp only [Act.put, List.setIfInBounds_toArray, List.set_cons_zero, List.set_cons_succ]
            refine wpAnyH_takeD (i := 3) (d := 78) (v := ?_) rfl (by kernel_rfl) (by kernel_rfl) (by kernel_rfl) (fun _ _ _ h => h) (by rfl) ?_ hHeld ?_
            rotate_left
            · intro wS hS
              have eF := HF.out wS hS
              go_simp
              try with_reducible rfl
            simp only [Act.put, List.setIfInBounds_toArray, List.set_cons_zero, List.set_cons_succ]
            refine wpAnyH_takeD (i := 5) (d := 80) (v := ?_) rfl (by kernel_rfl) (by kernel_rfl) (by kernel_rfl) (fun _ _ _ h => h) (by rfl) ?_ hHeld ?_
            rotate_left
            · intro wS hS
              have eF := HF.out wS hS
              go_simp
              try with_reducible rfl
            simp only [Act.put, List.setIfInBounds_toArray, List.set_cons_zero, List.set_cons_succ]
            refine wpAnyH_takeD (i := 8) (d := 83) (v := ?_) rfl (by kernel_rfl) (by kernel_rfl) (by kernel_rfl) (fun _ _ _ h => h) (by rfl) ?_ hHeld ?_
            rotate_left
            · intro wS hS
              have eF := HF.out wS hS
              go_simp
              try with_reducible rfl
            simp only [Act.put, List.setIfInBounds_toArray, List.set_cons_zero, List.set_cons_succ]
            refine wpAnyH_append3 (fuel := 1) (i0 := 0) (i1 := 4) (iB := 6) (i2 := 7) (i3 := 9) (d0 := 75) (d1 := 79) (dB := 81) (d2 := 82) (d3 := 84) (j1 := 78) (j3 := 83) rfl rfl rfl rfl rfl ⟨rfl, rfl⟩ ⟨rfl, rfl⟩ (by kernel_rfl) (by kernel_rfl) (by kernel_rfl) (by kernel_rfl) (by kernel_rfl) (by kernel_rfl) (by kernel_rfl) (by decide) (by decide) (by simp) 33 5 40 (.agg #[.int .i64 0, .int .i64 0, .int .i64 0, .int .i64 0, .int .i64 0]) Try.underlying24 infoKCropRow rfl (by decide) (by decide) ?run0a [f (k * 5), wrap64 (f (k * 5 + 1) + r 1), wrap64 (f (k * 5 + 2) + r 2), wrap64 (f (k * 5 + 3) + r 3), f (k * 5 + 4)] rfl ?runBa ((cellsTo f (n * 5)).take (k * 5)) ((cellsTo f (n * 5)).drop ((k + 1) * 5)) k c (n - k - 1) (0) (some ⟨b, off, none⟩) (some ⟨b, off + k * 5, none⟩) rfl rfl hHeld ?s1a ?s3a (by omega) ?nexta
            case run0a => intro a w; go_simp
            case runBa =>
              intro a' w hev
              have h1 : a'.eval (.tmp 80) = .agg #[.int .i64 (f (k * 5)), .int .i64 (wrap64 (f (k * 5 + 1) + r 1)), .int .i64 (wrap64 (f (k * 5 + 2) + r 2)), .int .i64 (wrap64 (f (k * 5 + 3) + r 3)), .int .i64 (f (k * 5 + 4))] := (hev 80 (by decide) (by decide)).trans rfl
              have h2 : a'.tmps[80]?.getD undef = .agg #[.int .i64 (f (k * 5)), .int .i64 (wrap64 (f (k * 5 + 1) + r 1)), .int .i64 (wrap64 (f (k * 5 + 2) + r 2)), .int .i64 (wrap64 (f (k * 5 + 3) + r 3)), .int .i64 (f (k * 5 + 4))] := by simpa [Act.eval] using h1
              clear h1 hev
              go_simp
            case s1a =>
              intro w' hb'
              exact (HSX.out.below hb').srcTakeK (by intro e; cases e) hk
            case s3a =>
              intro w' hb'
              rw [hn1.out]; exact Src.nothing (List.drop_of_length_le (by rw [cellsTo_length]; omega))
            case nexta =>
            intro u0 u1 uB u2 g' c' w' hc1 hc2 hg1 hown' hB'
            clear hHeld
            have hHeld := hB'
            simp only [Act.put, List.setIfInBounds_toArray, List.set_cons_zero, List.set_cons_succ]
            refine wpAnyH_takeD (i := 10) (d := 9) (v := ?_) rfl (by kernel_rfl) (by kernel_rfl) (by kernel_rfl) (fun _ _ _ h => h) (by rfl) ?_ hHeld ?_
            rotate_left
            · intro wS hS
              have eF := HF.out wS hS
              go_simp
              try with_reducible rfl
            simp only [Act.put, List.setIfInBounds_toArray, List.set_cons_zero, List.set_cons_succ]
            refine wpAnyH_done (by kernel_rfl) ?_ _
            have hN : addN f r n = n := by simp [addN, HM.out]
            have hFe : addF f r n = mrgF f r k := by simp [addF, HM.out, HP.out]
            obtain ⟨hk, h1, h0⟩ := addM_of HG.out HOK.out hN hFe
            have HFE := Lib.hid hFe
            have HK := Lib.hid hk
            have hO0 := own_of_row hown'
            have hM : k + 1 + (n - k - 1) = n := by omega
            rw [hM] at hO0 hc1 ⊢
            obtain ⟨A', cc, eA, hcc1, hcc2, hO1⟩ := hO0
            simp only [Value.slice.injEq, true_and] at eA
            obtain ⟨rfl, rfl⟩ := eA
            have hO2 := hO1.congr (g := mrgF f r k) (fun j hj => mrg_get f r n k hlt j (by omega))
            have hB3 := below_of BW hB' BW.size
            have hO3 := hO2.lo_le (lo' := w.heap.size) BW.size
            have hle : n ≤ 13 := by omega
            have HO3 := Lib.hid hO3
            have HH1 := Lib.hid h1
            have HH0 := Lib.hid h0
            have HB3 := Lib.hid hB3
            clear hO1 hO2 hO3 h1 h0 hB3 hown' hB' hHeld HF hN hFe hM hg1 hk
            go_wp2_with fail
            refine (l26Good_any _ (n) _ _ _ (mrgF f r k) _ HO3.out.sl (by omega) hc1).mono ?_
            rintro e w5 ⟨rfl, hb5⟩
            cases hres : goodRows (mrgF f r k) (n) with
            | false =>
              go_wp2
              go_ret2
              rw [HFE.out, HK.out, HH0.out hres, hres]
              have hB5 := below_of HB3.out hb5 HB3.out.size
              exact ⟨_, _, rfl, Nat.le_refl _, Nat.zero_le _, Own.none_ (Nat.le_refl _), hB5.alloc hB5.size _⟩
            | true =>
              go_wp2
              go_ret2
              rw [HFE.out, HK.out, HH1.out hres, hres]
              exact ⟨_, _, rfl, hc1, hc2, (HO3.out.below hb5).hi_le_mono hb5.size, below_of HB3.out hb5 HB3.out.size⟩
          · go_upto_region 11 with fail
            refine nameW ?_
            intro wx hwx
            have hFR : Fr w.heap.size (w.heap.size + 1) w2 wx := by rw [hwx]; exact (((((((Fr.of_below w.heap.size (w.heap.size + 1) (below_of hbel hq hbel.size)).setCell (p := ⟨w.heap.size, 0, none⟩) (Nat.le_refl _) (Nat.lt_succ_self _) _).setCell (p := ⟨w.heap.size, 1, none⟩) (Nat.le_refl _) (Nat.lt_succ_self _) _).setCell (p := ⟨w.heap.size, 2, none⟩) (Nat.le_refl _) (Nat.lt_succ_self _) _).setCell (p := ⟨w.heap.size, 3, none⟩) (Nat.le_refl _) (Nat.lt_succ_self _) _).setCell (p := ⟨w.heap.size, 4, none⟩) (Nat.le_refl _) (Nat.lt_succ_self _) _).alloc _)
            have BW : Below w.heap.size w wx := by rw [hwx]; exact (((((((below_of HB2.out (below_of hbel hq hbel.size) HB2.out.size).setCell (Nat.le_refl _) _).setCell (Nat.le_refl _) _).setCell (Nat.le_refl _) _).setCell (Nat.le_refl _) _).setCell (Nat.le_refl _) _).alloc (by simp [World.setCell]; omega) _)
            have HSX := Lib.hid (HS2.out.fr hFR (Or.inl hile))
            have hbx : w.heap.size < wx.heap.size := Nat.lt_of_lt_of_le bl hFR.size
            have m0 : wx.cell? ⟨w.heap.size, 0, none⟩ = some (.int .i64 (f (k * 5))) := by rw [hwx]; go_simp
            have m1 : wx.cell? ⟨w.heap.size, 1, none⟩ = some (.int .i64 (wrap64 (f (k * 5 + 1) + r 1))) := by rw [hwx]; go_simp
            have m2 : wx.cell? ⟨w.heap.size, 2, none⟩ = some (.int .i64 (wrap64 (f (k * 5 + 2) + r 2))) := by rw [hwx]; go_simp
            have m3 : wx.cell? ⟨w.heap.size, 3, none⟩ = some (.int .i64 (wrap64 (f (k * 5 + 3) + r 3))) := by rw [hwx]; go_simp
            have m4 : wx.cell? ⟨w.heap.size, 4, none⟩ = some (.int .i64 (f (k * 5 + 4))) := by rw [hwx]; go_simp
            clear hwx b4 fz d0 d1 d2 d3 d4 q0 q1 q2 q3 q4 hq hbq zq
            have HF : Hid (∀ w', Below wx.heap.size wx w' → w'.cell? ⟨w.heap.size, 0, none⟩ = some (.int .i64 (f (k * 5))) ∧ w'.cell? ⟨w.heap.size, 1, none⟩ = some (.int .i64 (wrap64 (f (k * 5 + 1) + r 1))) ∧ w'.cell? ⟨w.heap.size, 2, none⟩ = some (.int .i64 (wrap64 (f (k * 5 + 2) + r 2))) ∧ w'.cell? ⟨w.heap.size, 3, none⟩ = some (.int .i64 (wrap64 (f (k * 5 + 3) + r 3))) ∧ w'.cell? ⟨w.heap.size, 4, none⟩ = some (.int .i64 (f (k * 5 + 4)))) := fun w' hq => ⟨(hq.cell (p := ⟨w.heap.size, 0, none⟩) hbx).trans m0, (hq.cell (p := ⟨w.heap.size, 1, none⟩) hbx).trans m1, (hq.cell (p := ⟨w.heap.size, 2, none⟩) hbx).trans m2, (hq.cell (p := ⟨w.heap.size, 3, none⟩) hbx).trans m3, (hq.cell (p := ⟨w.heap.size, 4, none⟩) hbx).trans m4⟩
            clear m0 m1 m2 m3 m4
            refine wp_region_held_drew (S := fun w' => Below (wx).heap.size (wx) w') (by kernel_rfl) ((Below.refl _ _).drew) (fun hHeld => ?_)
            refine wpAnyH_takeD (i := 1) (d := 76) (v := ?_) rfl (by kernel_rfl) (by kernel_rfl) (by kernel_rfl) (fun _ _ _ h => h) (by rfl) ?_ hHeld ?_
            rotate_left
            · intro wS hS
              have eF := HF.out wS hS
              go_simp
              try with_reducible rfl
            simp only [Act.put, List.setIfInBounds_toArray, List.set_cons_zero, List.set_cons_succ]
            refine wpAnyH_takeD (i := 2) (d := 77) (v := ?_) rfl (by kernel_rfl) (by kernel_rfl) (by kernel_rfl) (fun _ _ _ h => h) (by rfl) ?_ hHeld ?_
            rotate_left
            · intro wS hS
              have eF := HF.out wS hS
              go_simp
              try with_reducible rfl
            simp only [Act.put, List.setIfInBounds_toArray, List.set_cons_zero, List.set_cons_succ]
            refine wpAnyH_takeD (i := 3) (d := 78) (v := ?_) rfl (by kernel_rfl) (by kernel_rfl) (by kernel_rfl) (fun _ _ _ h => h) (by rfl) ?_ hHeld ?_
            rotate_left
            · intro wS hS
              have eF := HF.out wS hS
              go_simp
              try with_reducible rfl
            simp only [Act.put, List.setIfInBounds_toArray, List.set_cons_zero, List.set_cons_succ]
            refine wpAnyH_takeD (i := 5) (d := 80) (v := ?_) rfl (by kernel_rfl) (by kernel_rfl) (by kernel_rfl) (fun _ _ _ h => h) (by rfl) ?_ hHeld ?_
            rotate_left
            · intro wS hS
              have eF := HF.out wS hS
              go_simp
              try with_reducible rfl
            simp only [Act.put, List.setIfInBounds_toArray, List.set_cons_zero, List.set_cons_succ]
            refine wpAnyH_takeD (i := 8) (d := 83) (v := ?_) rfl (by kernel_rfl) (by kernel_rfl) (by kernel_rfl) (fun _ _ _ h => h) (by rfl) ?_ hHeld ?_
            rotate_left
            · intro wS hS
              have eF := HF.out wS hS
              go_simp
              try with_reducible rfl
            simp only [Act.put, List.setIfInBounds_toArray, List.set_cons_zero, List.set_cons_succ]
            refine wpAnyH_append3 (fuel := 1) (i0 := 0) (i1 := 4) (iB := 6) (i2 := 7) (i3 := 9) (d0 := 75) (d1 := 79) (dB := 81) (d2 := 82) (d3 := 84) (j1 := 78) (j3 := 83) rfl rfl rfl rfl rfl ⟨rfl, rfl⟩ ⟨rfl, rfl⟩ (by kernel_rfl) (by kernel_rfl) (by kernel_rfl) (by kernel_rfl) (by kernel_rfl) (by kernel_rfl) (by kernel_rfl) (by decide) (by decide) (by simp) 33 5 40 (.agg #[.int .i64 0, .int .i64 0, .int .i64 0, .int .i64 0, .int .i64 0]) Try.underlying24 infoKCropRow rfl (by decide) (by decide) ?run0b [f (k * 5), wrap64 (f (k * 5 + 1) + r 1), wrap64 (f (k * 5 + 2) + r 2), wrap64 (f (k * 5 + 3) + r 3), f (k * 5 + 4)] rfl ?runBb ((cellsTo f (n * 5)).take (k * 5)) ((cellsTo f (n * 5)).drop ((k + 1) * 5)) k c (n - k - 1) (c - k - 1) (some ⟨b, off, none⟩) (some ⟨b, off + k * 5 + 5, none⟩) rfl rfl hHeld ?s1b ?s3b (by omega) ?nextb
            case run0b => intro a w; go_simp
            case runBb =>
              intro a' w hev
              have h1 : a'.eval (.tmp 80) = .agg #[.int .i64 (f (k * 5)), .int .i64 (wrap64 (f (k * 5 + 1) + r 1)), .int .i64 (wrap64 (f (k * 5 + 2) + r 2)), .int .i64 (wrap64 (f (k * 5 + 3) + r 3)), .int .i64 (f (k * 5 + 4))] := (hev 80 (by decide) (by decide)).trans rfl
              have h2 : a'.tmps[80]?.getD undef = .agg #[.int .i64 (f (k * 5)), .int .i64 (wrap64 (f (k * 5 + 1) + r 1)), .int .i64 (wrap64 (f (k * 5 + 2) + r 2)), .int .i64 (wrap64 (f (k * 5 + 3) + r 3)), .int .i64 (f (k * 5 + 4))] := by simpa [Act.eval] using h1
              clear h1 hev
              go_simp
            case s1b =>
              intro w' hb'
              exact (HSX.out.below hb').srcTakeK (by intro e; cases e) hk
            case s3b =>
              intro w' hb'
              have h := (HSX.out.below hb').srcDropK (c' := c - k - 1) (p := k + 1) (by omega); rw [show off + (k + 1) * 5 = off + k * 5 + 5 by omega, show n - (k + 1) = n - k - 1 by omega] at h; exact h
            case nextb =>
            intro u0 u1 uB u2 g' c' w' hc1 hc2 hg1 hown' hB'
            clear hHeld
            have hHeld := hB'
            simp only [Act.put, List.setIfInBounds_toArray, List.set_cons_zero, List.set_cons_succ]
            refine wpAnyH_takeD (i := 10) (d := 9) (v := ?_) rfl (by kernel_rfl) (by kernel_rfl) (by kernel_rfl) (fun _ _ _ h => h) (by rfl) ?_ hHeld ?_
            rotate_left
            · intro wS hS
              have eF := HF.out wS hS
              go_simp
              try with_reducible rfl
            simp only [Act.put, List.setIfInBounds_toArray, List.set_cons_zero, List.set_cons_succ]
            refine wpAnyH_done (by kernel_rfl) ?_ _
            have hN : addN f r n = n := by simp [addN, HM.out]
            have hFe : addF f r n = mrgF f r k := by simp [addF, HM.out, HP.out]
            obtain ⟨hk, h1, h0⟩ := addM_of HG.out HOK.out hN hFe
            have HFE := Lib.hid hFe
            have HK := Lib.hid hk
            have hO0 := own_of_row hown'
            have hM : k + 1 + (n - k - 1) = n := by omega
            rw [hM] at hO0 hc1 ⊢
            obtain ⟨A', cc, eA, hcc1, hcc2, hO1⟩ := hO0
            simp only [Value.slice.injEq, true_and] at eA
            obtain ⟨rfl, rfl⟩ := eA
            have hO2 := hO1.congr (g := mrgF f r k) (fun j hj => mrg_get f r n k hlt j (by omega))
            have hB3 := below_of BW hB' BW.size
            have hO3 := hO2.lo_le (lo' := w.heap.size) BW.size
            have hle : n ≤ 13 := by omega
            have HO3 := Lib.hid hO3
            have HH1 := Lib.hid h1
            have HH0 := Lib.hid h0
            have HB3 := Lib.hid hB3
            clear hO1 hO2 hO3 h1 h0 hB3 hown' hB' hHeld HF hN hFe hM hg1 hk
            go_wp2_with fail
            refine (l26Good_any _ (n) _ _ _ (mrgF f r k) _ HO3.out.sl (by omega) hc1).mono ?_
            rintro e w5 ⟨rfl, hb5⟩
            cases hres : goodRows (mrgF f r k) (n) with
            | false =>
              go_wp2
              go_ret2
              rw [HFE.out, HK.out, HH0.out hres, hres]
              have hB5 := below_of HB3.out hb5 HB3.out.size
              exact ⟨_, _, rfl, Nat.le_refl _, Nat.zero_le _, Own.none_ (Nat.le_refl _), hB5.alloc hB5.size _⟩
            | true =>
              go_wp2
              go_ret2
              rw [HFE.out, HK.out, HH1.out hres, hres]
              exact ⟨_, _, rfl, hc1, hc2, (HO3.out.below hb5).hi_le_mono hb5.size, below_of HB3.out hb5 HB3.out.size⟩
        · have heb : (f (k * 5) == r 0) = false := by simp [he]
          have HM : Hid (mrgB f n (r 0) = false) := mrgB_no HP.out (fun h => he h.2)
          clear he hyr
          go_quiet (fail)
          go_upto_region 11 with fail
          refine nameW ?_
          intro wx hwx
          have hq : Below wr.heap.size wr wx := by rw [hwx]; exact below_drewN (below_drewN (Below.refl _ _) _) _
          have hFR : Fr w.heap.size (w.heap.size + 1) w2 wx := Fr.of_below w.heap.size (w.heap.size + 1) (below_of hbel hq hbel.size)
          have BW : Below w.heap.size w wx := below_of HB2.out (below_of hbel hq hbel.size) HB2.out.size
          have HSX := Lib.hid (HS2.out.fr hFR (Or.inl hile))
          have hbx : w.heap.size < wx.heap.size := Nat.lt_of_lt_of_le bl hFR.size
          have b4 := (hq.block w.heap.size (by omega)).trans b3
          have m0 : wx.cell? ⟨w.heap.size, 0, none⟩ = some (.int .i64 (r 0)) := by rw [cell_of_row wx w.heap.size 0 _ _ (0, 0) b4]; rfl
          have m1 : wx.cell? ⟨w.heap.size, 1, none⟩ = some (.int .i64 (r 1)) := by rw [cell_of_row wx w.heap.size 1 _ _ (0, 0) b4]; rfl
          have m2 : wx.cell? ⟨w.heap.size, 2, none⟩ = some (.int .i64 (r 2)) := by rw [cell_of_row wx w.heap.size 2 _ _ (0, 0) b4]; rfl
          have m3 : wx.cell? ⟨w.heap.size, 3, none⟩ = some (.int .i64 (r 3)) := by rw [cell_of_row wx w.heap.size 3 _ _ (0, 0) b4]; rfl
          have m4 : wx.cell? ⟨w.heap.size, 4, none⟩ = some (.int .i64 (r 4)) := by rw [cell_of_row wx w.heap.size 4 _ _ (0, 0) b4]; rfl
          clear b4
          clear c0 c1 c2 c3 c4 b3 q0 q1 q2 q3 q4 hwx
          have HF : Hid (∀ w', Below wx.heap.size wx w' → w'.cell? ⟨w.heap.size, 0, none⟩ = some (.int .i64 (r 0)) ∧ w'.cell? ⟨w.heap.size, 1, none⟩ = some (.int .i64 (r 1)) ∧ w'.cell? ⟨w.heap.size, 2, none⟩ = some (.int .i64 (r 2)) ∧ w'.cell? ⟨w.heap.size, 3, none⟩ = some (.int .i64 (r 3)) ∧ w'.cell? ⟨w.heap.size, 4, none⟩ = some (.int .i64 (r 4))) := fun w' hq => ⟨(hq.cell (p := ⟨w.heap.size, 0, none⟩) hbx).trans m0, (hq.cell (p := ⟨w.heap.size, 1, none⟩) hbx).trans m1, (hq.cell (p := ⟨w.heap.size, 2, none⟩) hbx).trans m2, (hq.cell (p := ⟨w.heap.size, 3, none⟩) hbx).trans m3, (hq.cell (p := ⟨w.heap.size, 4, none⟩) hbx).trans m4⟩
          clear m0 m1 m2 m3 m4
          refine wp_region_held_drew (S := fun w' => Below (wx).heap.size (wx) w') (by kernel_rfl) ((Below.refl _ _).drew) (fun hHeld => ?_)
          refine wpAnyH_takeD (i := 1) (d := 76) (v := ?_) rfl (by kernel_rfl) (by kernel_rfl) (by kernel_rfl) (fun _ _ _ h => h) (by rfl) ?_ hHeld ?_
          rotate_left
          · intro wS hS
            have eF := HF.out wS hS
            go_simp
            try with_reducible rfl
          simp only [Act.put, List.setIfInBounds_toArray, List.set_cons_zero, List.set_cons_succ]
          refine wpAnyH_takeD (i := 2) (d := 77) (v := ?_) rfl (by kernel_rfl) (by kernel_rfl) (by kernel_rfl) (fun _ _ _ h => h) (by rfl) ?_ hHeld ?_
          rotate_left
          · intro wS hS
            have eF := HF.out wS hS
            go_simp
            try with_reducible rfl
          simp only [Act.put, List.setIfInBounds_toArray, List.set_cons_zero, List.set_cons_succ]
          refine wpAnyH_takeD (i := 3) (d := 78) (v := ?_) rfl (by kernel_rfl) (by kernel_rfl) (by kernel_rfl) (fun _ _ _ h => h) (by rfl) ?_ hHeld ?_
          rotate_left
          · intro wS hS
            have eF := HF.out wS hS
            go_simp
            try with_reducible rfl
          simp only [Act.put, List.setIfInBounds_toArray, List.set_cons_zero, List.set_cons_succ]
          refine wpAnyH_takeD (i := 5) (d := 80) (v := ?_) rfl (by kernel_rfl) (by kernel_rfl) (by kernel_rfl) (fun _ _ _ h => h) (by rfl) ?_ hHeld ?_
          rotate_left
          · intro wS hS
            have eF := HF.out wS hS
            go_simp
            try with_reducible rfl
          simp only [Act.put, List.setIfInBounds_toArray, List.set_cons_zero, List.set_cons_succ]
          refine wpAnyH_takeD (i := 8) (d := 83) (v := ?_) rfl (by kernel_rfl) (by kernel_rfl) (by kernel_rfl) (fun _ _ _ h => h) (by rfl) ?_ hHeld ?_
          rotate_left
          · intro wS hS
            have eF := HF.out wS hS
            go_simp
            try with_reducible rfl
          simp only [Act.put, List.setIfInBounds_toArray, List.set_cons_zero, List.set_cons_succ]
          refine wpAnyH_append3 (fuel := 1) (i0 := 0) (i1 := 4) (iB := 6) (i2 := 7) (i3 := 9) (d0 := 75) (d1 := 79) (dB := 81) (d2 := 82) (d3 := 84) (j1 := 78) (j3 := 83) rfl rfl rfl rfl rfl ⟨rfl, rfl⟩ ⟨rfl, rfl⟩ (by kernel_rfl) (by kernel_rfl) (by kernel_rfl) (by kernel_rfl) (by kernel_rfl) (by kernel_rfl) (by kernel_rfl) (by decide) (by decide) (by simp) 33 5 40 (.agg #[.int .i64 0, .int .i64 0, .int .i64 0, .int .i64 0, .int .i64 0]) Try.underlying24 infoKCropRow rfl (by decide) (by decide) ?run0c [r 0, r 1, r 2, r 3, r 4] rfl ?runBc ((cellsTo f (n * 5)).take (k * 5)) ((cellsTo f (n * 5)).drop (k * 5)) k c (n - k) (c - k) (some ⟨b, off, none⟩) (some ⟨b, off + k * 5, none⟩) rfl rfl hHeld ?s1c ?s3c (by omega) ?nextc
          case run0c => intro a w; go_simp
          case runBc =>
            intro a' w hev
            have h1 : a'.eval (.tmp 80) = .agg #[.int .i64 (r 0), .int .i64 (r 1), .int .i64 (r 2), .int .i64 (r 3), .int .i64 (r 4)] := (hev 80 (by decide) (by decide)).trans rfl
            have h2 : a'.tmps[80]?.getD undef = .agg #[.int .i64 (r 0), .int .i64 (r 1), .int .i64 (r 2), .int .i64 (r 3), .int .i64 (r 4)] := by simpa [Act.eval] using h1
            clear h1 hev
            go_simp
          case s1c =>
            intro w' hb'
            exact (HSX.out.below hb').srcTakeK (by intro e; cases e) hk
          case s3c =>
            intro w' hb'
            exact (HSX.out.below hb').srcDropK (c' := c - k) (p := k) hk
          case nextc =>
          intro u0 u1 uB u2 g' c' w' hc1 hc2 hg1 hown' hB'
          clear hHeld
          have hHeld := hB'
          simp only [Act.put, List.setIfInBounds_toArray, List.set_cons_zero, List.set_cons_succ]
          refine wpAnyH_takeD (i := 10) (d := 9) (v := ?_) rfl (by kernel_rfl) (by kernel_rfl) (by kernel_rfl) (fun _ _ _ h => h) (by rfl) ?_ hHeld ?_
          rotate_left
          · intro wS hS
            have eF := HF.out wS hS
            go_simp
            try with_reducible rfl
          simp only [Act.put, List.setIfInBounds_toArray, List.set_cons_zero, List.set_cons_succ]
          refine wpAnyH_done (by kernel_rfl) ?_ _
          have hN : addN f r n = n + 1 := by simp [addN, HM.out]
          have hFe : addF f r n = insF f r k := by simp [addF, HM.out, HP.out]
          obtain ⟨hk, h1, h0⟩ := addM_of HG.out HOK.out hN hFe
          have HFE := Lib.hid hFe
          have HK := Lib.hid hk
          have hO0 := own_of_row hown'
          have hM : k + 1 + (n - k) = n + 1 := by omega
          rw [hM] at hO0 hc1 ⊢
          obtain ⟨A', cc, eA, hcc1, hcc2, hO1⟩ := hO0
          simp only [Value.slice.injEq, true_and] at eA
          obtain ⟨rfl, rfl⟩ := eA
          have hO2 := hO1.congr (g := insF f r k) (fun j hj => ins_get f r n k (by omega) _ rfl j (by omega))
          have hB3 := below_of BW hB' BW.size
          have hO3 := hO2.lo_le (lo' := w.heap.size) BW.size
          have hle : n + 1 ≤ 13 := by omega
          have HO3 := Lib.hid hO3
          have HH1 := Lib.hid h1
          have HH0 := Lib.hid h0
          have HB3 := Lib.hid hB3
          clear hO1 hO2 hO3 h1 h0 hB3 hown' hB' hHeld HF hN hFe hM hg1 hk
          go_wp2_with fail
          refine (l26Good_any _ (n + 1) _ _ _ (insF f r k) _ HO3.out.sl (by omega) hc1).mono ?_
          rintro e w5 ⟨rfl, hb5⟩
          cases hres : goodRows (insF f r k) (n + 1) with
          | false =>
            go_wp2
            go_ret2
            rw [HFE.out, HK.out, HH0.out hres, hres]
            have hB5 := below_of HB3.out hb5 HB3.out.size
            exact ⟨_, _, rfl, Nat.le_refl _, Nat.zero_le _, Own.none_ (Nat.le_refl _), hB5.alloc hB5.size _⟩
          | true =>
            go_wp2
            go_ret2
            rw [HFE.out, HK.out, HH1.out hres, hres]
            exact ⟨_, _, rfl, hc1, hc2, (HO3.out.below hb5).hi_le_mono hb5.size, below_of HB3.out hb5 HB3.out.size⟩
    · obtain rfl : k = n := by omega
      have HP : Hid (atC f k (r 0) = k) := hpl.trans (placeC_end _ _ _)
      have HM : Hid (mrgB f k (r 0) = false) := mrgB_no HP.out (fun h => by omega)
      clear hpl
      have hki : ¬ ((k : Int) < (k : Int)) := by omega
      cases A with
      | none =>
        have H0 := Lib.hid (hnone rfl)
        clear hnone
        go_wp2
        go_quiet (fail)
        go_wp2
        go_quiet (fail)
        go_upto_region 11 with fail
        refine nameW ?_
        intro wx hwx
        have hq : Below wr.heap.size wr wx := by rw [hwx]; exact below_drewN (below_drewN (Below.refl _ _) _) _
        have hFR : Fr w.heap.size (w.heap.size + 1) w2 wx := Fr.of_below w.heap.size (w.heap.size + 1) (below_of hbel hq hbel.size)
        have BW : Below w.heap.size w wx := below_of HB2.out (below_of hbel hq hbel.size) HB2.out.size
        have HSX := Lib.hid (HS2.out.fr hFR (Or.inl hile))
        have hbx : w.heap.size < wx.heap.size := Nat.lt_of_lt_of_le bl hFR.size
        have b4 := (hq.block w.heap.size (by omega)).trans b3
        have m0 : wx.cell? ⟨w.heap.size, 0, none⟩ = some (.int .i64 (r 0)) := by rw [cell_of_row wx w.heap.size 0 _ _ (0, 0) b4]; rfl
        have m1 : wx.cell? ⟨w.heap.size, 1, none⟩ = some (.int .i64 (r 1)) := by rw [cell_of_row wx w.heap.size 1 _ _ (0, 0) b4]; rfl
        have m2 : wx.cell? ⟨w.heap.size, 2, none⟩ = some (.int .i64 (r 2)) := by rw [cell_of_row wx w.heap.size 2 _ _ (0, 0) b4]; rfl
        have m3 : wx.cell? ⟨w.heap.size, 3, none⟩ = some (.int .i64 (r 3)) := by rw [cell_of_row wx w.heap.size 3 _ _ (0, 0) b4]; rfl
        have m4 : wx.cell? ⟨w.heap.size, 4, none⟩ = some (.int .i64 (r 4)) := by rw [cell_of_row wx w.heap.size 4 _ _ (0, 0) b4]; rfl
        clear b4
        clear b3 q0 q1 q2 q3 q4 hwx
        have HF : Hid (∀ w', Below wx.heap.size wx w' → w'.cell? ⟨w.heap.size, 0, none⟩ = some (.int .i64 (r 0)) ∧ w'.cell? ⟨w.heap.size, 1, none⟩ = some (.int .i64 (r 1)) ∧ w'.cell? ⟨w.heap.size, 2, none⟩ = some (.int .i64 (r 2)) ∧ w'.cell? ⟨w.heap.size, 3, none⟩ = some (.int .i64 (r 3)) ∧ w'.cell? ⟨w.heap.size, 4, none⟩ = some (.int .i64 (r 4))) := fun w' hq => ⟨(hq.cell (p := ⟨w.heap.size, 0, none⟩) hbx).trans m0, (hq.cell (p := ⟨w.heap.size, 1, none⟩) hbx).trans m1, (hq.cell (p := ⟨w.heap.size, 2, none⟩) hbx).trans m2, (hq.cell (p := ⟨w.heap.size, 3, none⟩) hbx).trans m3, (hq.cell (p := ⟨w.heap.size, 4, none⟩) hbx).trans m4⟩
        clear m0 m1 m2 m3 m4
        refine wp_region_held_drew (S := fun w' => Below (wx).heap.size (wx) w') (by kernel_rfl) ((Below.refl _ _).drew) (fun hHeld => ?_)
        refine wpAnyH_takeD (i := 1) (d := 76) (v := ?_) rfl (by kernel_rfl) (by kernel_rfl) (by kernel_rfl) (fun _ _ _ h => h) (by rfl) ?_ hHeld ?_
        rotate_left
        · intro wS hS
          have eF := HF.out wS hS
          go_simp
          try with_reducible rfl
        simp only [Act.put, List.setIfInBounds_toArray, List.set_cons_zero, List.set_cons_succ]
        refine wpAnyH_takeD (i := 2) (d := 77) (v := ?_) rfl (by kernel_rfl) (by kernel_rfl) (by kernel_rfl) (fun _ _ _ h => h) (by rfl) ?_ hHeld ?_
        rotate_left
        · intro wS hS
          have eF := HF.out wS hS
          go_simp
          try with_reducible rfl
        simp only [Act.put, List.setIfInBounds_toArray, List.set_cons_zero, List.set_cons_succ]
        refine wpAnyH_takeD (i := 3) (d := 78) (v := ?_) rfl (by kernel_rfl) (by kernel_rfl) (by kernel_rfl) (fun _ _ _ h => h) (by rfl) ?_ hHeld ?_
        rotate_left
        · intro wS hS
          have eF := HF.out wS hS
          go_simp
          try with_reducible rfl
        simp only [Act.put, List.setIfInBounds_toArray, List.set_cons_zero, List.set_cons_succ]
        refine wpAnyH_takeD (i := 5) (d := 80) (v := ?_) rfl (by kernel_rfl) (by kernel_rfl) (by kernel_rfl) (fun _ _ _ h => h) (by rfl) ?_ hHeld ?_
        rotate_left
        · intro wS hS
          have eF := HF.out wS hS
          go_simp
          try with_reducible rfl
        simp only [Act.put, List.setIfInBounds_toArray, List.set_cons_zero, List.set_cons_succ]
        refine wpAnyH_takeD (i := 8) (d := 83) (v := ?_) rfl (by kernel_rfl) (by kernel_rfl) (by kernel_rfl) (fun _ _ _ h => h) (by rfl) ?_ hHeld ?_
        rotate_left
        · intro wS hS
          have eF := HF.out wS hS
          go_simp
          try with_reducible rfl
        simp only [Act.put, List.setIfInBounds_toArray, List.set_cons_zero, List.set_cons_succ]
        refine wpAnyH_append3 (fuel := 1) (i0 := 0) (i1 := 4) (iB := 6) (i2 := 7) (i3 := 9) (d0 := 75) (d1 := 79) (dB := 81) (d2 := 82) (d3 := 84) (j1 := 78) (j3 := 83) rfl rfl rfl rfl rfl ⟨rfl, rfl⟩ ⟨rfl, rfl⟩ (by kernel_rfl) (by kernel_rfl) (by kernel_rfl) (by kernel_rfl) (by kernel_rfl) (by kernel_rfl) (by kernel_rfl) (by decide) (by decide) (by simp) 33 5 40 (.agg #[.int .i64 0, .int .i64 0, .int .i64 0, .int .i64 0, .int .i64 0]) Try.underlying24 infoKCropRow rfl (by decide) (by decide) ?run0d [r 0, r 1, r 2, r 3, r 4] rfl ?runBd ((cellsTo f (k * 5)).take (k * 5)) ((cellsTo f (k * 5)).drop (k * 5)) k c (0) (c - k) none none rfl rfl hHeld ?s1d ?s3d (by omega) ?nextd
        case run0d => intro a w; go_simp
        case runBd =>
          intro a' w hev
          have h1 : a'.eval (.tmp 80) = .agg #[.int .i64 (r 0), .int .i64 (r 1), .int .i64 (r 2), .int .i64 (r 3), .int .i64 (r 4)] := (hev 80 (by decide) (by decide)).trans rfl
          have h2 : a'.tmps[80]?.getD undef = .agg #[.int .i64 (r 0), .int .i64 (r 1), .int .i64 (r 2), .int .i64 (r 3), .int .i64 (r 4)] := by simpa [Act.eval] using h1
          clear h1 hev
          go_simp
        case s1d =>
          intro w' hb'
          exact (HSX.out.below hb').srcTakeK (fun _ => H0.out) hk
        case s3d =>
          intro w' hb'
          exact ⟨by rw [List.drop_of_length_le (by rw [cellsTo_length]; exact Nat.le_refl _)]; rfl, fun _ => ⟨rfl, by have := H0.out; omega⟩, fun ad had => by cases had⟩
        case nextd =>
        intro u0 u1 uB u2 g' c' w' hc1 hc2 hg1 hown' hB'
        clear hHeld
        have hHeld := hB'
        simp only [Act.put, List.setIfInBounds_toArray, List.set_cons_zero, List.set_cons_succ]
        refine wpAnyH_takeD (i := 10) (d := 9) (v := ?_) rfl (by kernel_rfl) (by kernel_rfl) (by kernel_rfl) (fun _ _ _ h => h) (by rfl) ?_ hHeld ?_
        rotate_left
        · intro wS hS
          have eF := HF.out wS hS
          go_simp
          try with_reducible rfl
        simp only [Act.put, List.setIfInBounds_toArray, List.set_cons_zero, List.set_cons_succ]
        refine wpAnyH_done (by kernel_rfl) ?_ _
        have hN : addN f r k = k + 1 := by simp [addN, HM.out]
        have hFe : addF f r k = insF f r k := by simp [addF, HM.out, HP.out]
        obtain ⟨hk, h1, h0⟩ := addM_of HG.out HOK.out hN hFe
        have HFE := Lib.hid hFe
        have HK := Lib.hid hk
        have hO0 := own_of_row hown'
        have hM : k + 1 + (0) = k + 1 := by omega
        rw [hM] at hO0 hc1 ⊢
        obtain ⟨A', cc, eA, hcc1, hcc2, hO1⟩ := hO0
        simp only [Value.slice.injEq, true_and] at eA
        obtain ⟨rfl, rfl⟩ := eA
        have hO2 := hO1.congr (g := insF f r k) (fun j hj => ins_get f r k k (by omega) _ rfl j (by omega))
        have hB3 := below_of BW hB' BW.size
        have hO3 := hO2.lo_le (lo' := w.heap.size) BW.size
        have hle : k + 1 ≤ 13 := by omega
        have HO3 := Lib.hid hO3
        have HH1 := Lib.hid h1
        have HH0 := Lib.hid h0
        have HB3 := Lib.hid hB3
        clear hO1 hO2 hO3 h1 h0 hB3 hown' hB' hHeld HF hN hFe hM hg1 hk
        go_wp2_with fail
        refine (l26Good_any _ (k + 1) _ _ _ (insF f r k) _ HO3.out.sl (by omega) hc1).mono ?_
        rintro e w5 ⟨rfl, hb5⟩
        cases hres : goodRows (insF f r k) (k + 1) with
        | false =>
          go_wp2
          go_ret2
          rw [HFE.out, HK.out, HH0.out hres, hres]
          have hB5 := below_of HB3.out hb5 HB3.out.size
          exact ⟨_, _, rfl, Nat.le_refl _, Nat.zero_le _, Own.none_ (Nat.le_refl _), hB5.alloc hB5.size _⟩
        | true =>
          go_wp2
          go_ret2
          rw [HFE.out, HK.out, HH1.out hres, hres]
          exact ⟨_, _, rfl, hc1, hc2, (HO3.out.below hb5).hi_le_mono hb5.size, below_of HB3.out hb5 HB3.out.size⟩
      | some ad =>
        obtain ⟨b, off, rfl⟩ := hform ad rfl
        by_cases hck : c = k
        · subst hck
          go_wp2
          go_quiet (fail)
          go_wp2
          go_quiet (fail)
          go_upto_region 11 with fail
          refine nameW ?_
          intro wx hwx
          have hq : Below wr.heap.size wr wx := by rw [hwx]; exact below_drewN (below_drewN (Below.refl _ _) _) _
          have hFR : Fr w.heap.size (w.heap.size + 1) w2 wx := Fr.of_below w.heap.size (w.heap.size + 1) (below_of hbel hq hbel.size)
          have BW : Below w.heap.size w wx := below_of HB2.out (below_of hbel hq hbel.size) HB2.out.size
          have HSX := Lib.hid (HS2.out.fr hFR (Or.inl hile))
          have hbx : w.heap.size < wx.heap.size := Nat.lt_of_lt_of_le bl hFR.size
          have b4 := (hq.block w.heap.size (by omega)).trans b3
          have m0 : wx.cell? ⟨w.heap.size, 0, none⟩ = some (.int .i64 (r 0)) := by rw [cell_of_row wx w.heap.size 0 _ _ (0, 0) b4]; rfl
          have m1 : wx.cell? ⟨w.heap.size, 1, none⟩ = some (.int .i64 (r 1)) := by rw [cell_of_row wx w.heap.size 1 _ _ (0, 0) b4]; rfl
          have m2 : wx.cell? ⟨w.heap.size, 2, none⟩ = some (.int .i64 (r 2)) := by rw [cell_of_row wx w.heap.size 2 _ _ (0, 0) b4]; rfl
          have m3 : wx.cell? ⟨w.heap.size, 3, none⟩ = some (.int .i64 (r 3)) := by rw [cell_of_row wx w.heap.size 3 _ _ (0, 0) b4]; rfl
          have m4 : wx.cell? ⟨w.heap.size, 4, none⟩ = some (.int .i64 (r 4)) := by rw [cell_of_row wx w.heap.size 4 _ _ (0, 0) b4]; rfl
          clear b4
          clear b3 q0 q1 q2 q3 q4 hwx
          have HF : Hid (∀ w', Below wx.heap.size wx w' → w'.cell? ⟨w.heap.size, 0, none⟩ = some (.int .i64 (r 0)) ∧ w'.cell? ⟨w.heap.size, 1, none⟩ = some (.int .i64 (r 1)) ∧ w'.cell? ⟨w.heap.size, 2, none⟩ = some (.int .i64 (r 2)) ∧ w'.cell? ⟨w.heap.size, 3, none⟩ = some (.int .i64 (r 3)) ∧ w'.cell? ⟨w.heap.size, 4, none⟩ = some (.int .i64 (r 4))) := fun w' hq => ⟨(hq.cell (p := ⟨w.heap.size, 0, none⟩) hbx).trans m0, (hq.cell (p := ⟨w.heap.size, 1, none⟩) hbx).trans m1, (hq.cell (p := ⟨w.heap.size, 2, none⟩) hbx).trans m2, (hq.cell (p := ⟨w.heap.size, 3, none⟩) hbx).trans m3, (hq.cell (p := ⟨w.heap.size, 4, none⟩) hbx).trans m4⟩
          clear m0 m1 m2 m3 m4
          refine wp_region_held_drew (S := fun w' => Below (wx).heap.size (wx) w') (by kernel_rfl) ((Below.refl _ _).drew) (fun hHeld => ?_)
          refine wpAnyH_takeD (i := 1) (d := 76) (v := ?_) rfl (by kernel_rfl) (by kernel_rfl) (by kernel_rfl) (fun _ _ _ h => h) (by rfl) ?_ hHeld ?_
          rotate_left
          · intro wS hS
            have eF := HF.out wS hS
            go_simp
            try with_reducible rfl
          simp only [Act.put, List.setIfInBounds_toArray, List.set_cons_zero, List.set_cons_succ]
          refine wpAnyH_takeD (i := 2) (d := 77) (v := ?_) rfl (by kernel_rfl) (by kernel_rfl) (by kernel_rfl) (fun _ _ _ h => h) (by rfl) ?_ hHeld ?_
          rotate_left
          · intro wS hS
            have eF := HF.out wS hS
            go_simp
            try with_reducible rfl
          simp only [Act.put, List.setIfInBounds_toArray, List.set_cons_zero, List.set_cons_succ]
          refine wpAnyH_takeD (i := 3) (d := 78) (v := ?_) rfl (by kernel_rfl) (by kernel_rfl) (by kernel_rfl) (fun _ _ _ h => h) (by rfl) ?_ hHeld ?_
          rotate_left
          · intro wS hS
            have eF := HF.out wS hS
            go_simp
            try with_reducible rfl
          simp only [Act.put, List.setIfInBounds_toArray, List.set_cons_zero, List.set_cons_succ]
          refine wpAnyH_takeD (i := 5) (d := 80) (v := ?_) rfl (by kernel_rfl) (by kernel_rfl) (by kernel_rfl) (fun _ _ _ h => h) (by rfl) ?_ hHeld ?_
          rotate_left
          · intro wS hS
            have eF := HF.out wS hS
            go_simp
            try with_reducible rfl
          simp only [Act.put, List.setIfInBounds_toArray, List.set_cons_zero, List.set_cons_succ]
          refine wpAnyH_takeD (i := 8) (d := 83) (v := ?_) rfl (by kernel_rfl) (by kernel_rfl) (by kernel_rfl) (fun _ _ _ h => h) (by rfl) ?_ hHeld ?_
          rotate_left
          · intro wS hS
            have eF := HF.out wS hS
            go_simp
            try with_reducible rfl
          simp only [Act.put, List.setIfInBounds_toArray, List.set_cons_zero, List.set_cons_succ]
          refine wpAnyH_append3 (fuel := 1) (i0 := 0) (i1 := 4) (iB := 6) (i2 := 7) (i3 := 9) (d0 := 75) (d1 := 79) (dB := 81) (d2 := 82) (d3 := 84) (j1 := 78) (j3 := 83) rfl rfl rfl rfl rfl ⟨rfl, rfl⟩ ⟨rfl, rfl⟩ (by kernel_rfl) (by kernel_rfl) (by kernel_rfl) (by kernel_rfl) (by kernel_rfl) (by kernel_rfl) (by kernel_rfl) (by decide) (by decide) (by simp) 33 5 40 (.agg #[.int .i64 0, .int .i64 0, .int .i64 0, .int .i64 0, .int .i64 0]) Try.underlying24 infoKCropRow rfl (by decide) (by decide) ?run0e [r 0, r 1, r 2, r 3, r 4] rfl ?runBe ((cellsTo f (c * 5)).take (c * 5)) ((cellsTo f (c * 5)).drop (c * 5)) c c (0) (0) (some ⟨b, off, none⟩) (some ⟨b, off, none⟩) rfl rfl hHeld ?s1e ?s3e (by omega) ?nexte
          case run0e => intro a w; go_simp
          case runBe =>
            intro a' w hev
            have h1 : a'.eval (.tmp 80) = .agg #[.int .i64 (r 0), .int .i64 (r 1), .int .i64 (r 2), .int .i64 (r 3), .int .i64 (r 4)] := (hev 80 (by decide) (by decide)).trans rfl
            have h2 : a'.tmps[80]?.getD undef = .agg #[.int .i64 (r 0), .int .i64 (r 1), .int .i64 (r 2), .int .i64 (r 3), .int .i64 (r 4)] := by simpa [Act.eval] using h1
            clear h1 hev
            go_simp
          case s1e =>
            intro w' hb'
            exact (HSX.out.below hb').srcTakeK (by intro e; cases e) (by omega)
          case s3e =>
            intro w' hb'
            exact Src.nothing (List.drop_of_length_le (by rw [cellsTo_length]; exact Nat.le_refl _))
          case nexte =>
          intro u0 u1 uB u2 g' c' w' hc1 hc2 hg1 hown' hB'
          clear hHeld
          have hHeld := hB'
          simp only [Act.put, List.setIfInBounds_toArray, List.set_cons_zero, List.set_cons_succ]
          refine wpAnyH_takeD (i := 10) (d := 9) (v := ?_) rfl (by kernel_rfl) (by kernel_rfl) (by kernel_rfl) (fun _ _ _ h => h) (by rfl) ?_ hHeld ?_
          rotate_left
          · intro wS hS
            have eF := HF.out wS hS
            go_simp
            try with_reducible rfl
          simp only [Act.put, List.setIfInBounds_toArray, List.set_cons_zero, List.set_cons_succ]
          refine wpAnyH_done (by kernel_rfl) ?_ _
          have hN : addN f r c = c + 1 := by simp [addN, HM.out]
          have hFe : addF f r c = insF f r c := by simp [addF, HM.out, HP.out]
          obtain ⟨hk, h1, h0⟩ := addM_of HG.out HOK.out hN hFe
          have HFE := Lib.hid hFe
          have HK := Lib.hid hk
          have hO0 := own_of_row hown'
          have hM : c + 1 + (0) = c + 1 := by omega
          rw [hM] at hO0 hc1 ⊢
          obtain ⟨A', cc, eA, hcc1, hcc2, hO1⟩ := hO0
          simp only [Value.slice.injEq, true_and] at eA
          obtain ⟨rfl, rfl⟩ := eA
          have hO2 := hO1.congr (g := insF f r c) (fun j hj => ins_get f r c c (by omega) _ rfl j (by omega))
          have hB3 := below_of BW hB' BW.size
          have hO3 := hO2.lo_le (lo' := w.heap.size) BW.size
          have hle : c + 1 ≤ 13 := by omega
          have HO3 := Lib.hid hO3
          have HH1 := Lib.hid h1
          have HH0 := Lib.hid h0
          have HB3 := Lib.hid hB3
          clear hO1 hO2 hO3 h1 h0 hB3 hown' hB' hHeld HF hN hFe hM hg1 hk
          go_wp2_with fail
          refine (l26Good_any _ (c + 1) _ _ _ (insF f r c) _ HO3.out.sl (by omega) hc1).mono ?_
          rintro e w5 ⟨rfl, hb5⟩
          cases hres : goodRows (insF f r c) (c + 1) with
          | false =>
            go_wp2
            go_ret2
            rw [HFE.out, HK.out, HH0.out hres, hres]
            have hB5 := below_of HB3.out hb5 HB3.out.size
            exact ⟨_, _, rfl, Nat.le_refl _, Nat.zero_le _, Own.none_ (Nat.le_refl _), hB5.alloc hB5.size _⟩
          | true =>
            go_wp2
            go_ret2
            rw [HFE.out, HK.out, HH1.out hres, hres]
            exact ⟨_, _, rfl, hc1, hc2, (HO3.out.below hb5).hi_le_mono hb5.size, below_of HB3.out hb5 HB3.out.size⟩
        · have hck2 : ¬ (c - k = 0) := by omega
          go_wp2
          go_quiet (fail)
          go_wp2
          go_quiet (fail)
          go_upto_region 11 with fail
          refine nameW ?_
          intro wx hwx
          have hq : Below wr.heap.size wr wx := by rw [hwx]; exact below_drewN (below_drewN (Below.refl _ _) _) _
          have hFR : Fr w.heap.size (w.heap.size + 1) w2 wx := Fr.of_below w.heap.size (w.heap.size + 1) (below_of hbel hq hbel.size)
          have BW : Below w.heap.size w wx := below_of HB2.out (below_of hbel hq hbel.size) HB2.out.size
          have HSX := Lib.hid (HS2.out.fr hFR (Or.inl hile))
          have hbx : w.heap.size < wx.heap.size := Nat.lt_of_lt_of_le bl hFR.size
          have b4 := (hq.block w.heap.size (by omega)).trans b3
          have m0 : wx.cell? ⟨w.heap.size, 0, none⟩ = some (.int .i64 (r 0)) := by rw [cell_of_row wx w.heap.size 0 _ _ (0, 0) b4]; rfl
          have m1 : wx.cell? ⟨w.heap.size, 1, none⟩ = some (.int .i64 (r 1)) := by rw [cell_of_row wx w.heap.size 1 _ _ (0, 0) b4]; rfl
          have m2 : wx.cell? ⟨w.heap.size, 2, none⟩ = some (.int .i64 (r 2)) := by rw [cell_of_row wx w.heap.size 2 _ _ (0, 0) b4]; rfl
          have m3 : wx.cell? ⟨w.heap.size, 3, none⟩ = some (.int .i64 (r 3)) := by rw [cell_of_row wx w.heap.size 3 _ _ (0, 0) b4]; rfl
          have m4 : wx.cell? ⟨w.heap.size, 4, none⟩ = some (.int .i64 (r 4)) := by rw [cell_of_row wx w.heap.size 4 _ _ (0, 0) b4]; rfl
          clear b4
          clear b3 q0 q1 q2 q3 q4 hwx
          have HF : Hid (∀ w', Below wx.heap.size wx w' → w'.cell? ⟨w.heap.size, 0, none⟩ = some (.int .i64 (r 0)) ∧ w'.cell? ⟨w.heap.size, 1, none⟩ = some (.int .i64 (r 1)) ∧ w'.cell? ⟨w.heap.size, 2, none⟩ = some (.int .i64 (r 2)) ∧ w'.cell? ⟨w.heap.size, 3, none⟩ = some (.int .i64 (r 3)) ∧ w'.cell? ⟨w.heap.size, 4, none⟩ = some (.int .i64 (r 4))) := fun w' hq => ⟨(hq.cell (p := ⟨w.heap.size, 0, none⟩) hbx).trans m0, (hq.cell (p := ⟨w.heap.size, 1, none⟩) hbx).trans m1, (hq.cell (p := ⟨w.heap.size, 2, none⟩) hbx).trans m2, (hq.cell (p := ⟨w.heap.size, 3, none⟩) hbx).trans m3, (hq.cell (p := ⟨w.heap.size, 4, none⟩) hbx).trans m4⟩
          clear m0 m1 m2 m3 m4
          refine wp_region_held_drew (S := fun w' => Below (wx).heap.size (wx) w') (by kernel_rfl) ((Below.refl _ _).drew) (fun hHeld => ?_)
          refine wpAnyH_takeD (i := 1) (d := 76) (v := ?_) rfl (by kernel_rfl) (by kernel_rfl) (by kernel_rfl) (fun _ _ _ h => h) (by rfl) ?_ hHeld ?_
          rotate_left
          · intro wS hS
            have eF := HF.out wS hS
            go_simp
            try with_reducible rfl
          simp only [Act.put, List.setIfInBounds_toArray, List.set_cons_zero, List.set_cons_succ]
          refine wpAnyH_takeD (i := 2) (d := 77) (v := ?_) rfl (by kernel_rfl) (by kernel_rfl) (by kernel_rfl) (fun _ _ _ h => h) (by rfl) ?_ hHeld ?_
          rotate_left
          · intro wS hS
            have eF := HF.out wS hS
            go_simp
            try with_reducible rfl
          simp only [Act.put, List.setIfInBounds_toArray, List.set_cons_zero, List.set_cons_succ]
          refine wpAnyH_takeD (i := 3) (d := 78) (v := ?_) rfl (by kernel_rfl) (by kernel_rfl) (by kernel_rfl) (fun _ _ _ h => h) (by rfl) ?_ hHeld ?_
          rotate_left
          · intro wS hS
            have eF := HF.out wS hS
            go_simp
            try with_reducible rfl
          simp only [Act.put, List.setIfInBounds_toArray, List.set_cons_zero, List.set_cons_succ]
          refine wpAnyH_takeD (i := 5) (d := 80) (v := ?_) rfl (by kernel_rfl) (by kernel_rfl) (by kernel_rfl) (fun _ _ _ h => h) (by rfl) ?_ hHeld ?_
          rotate_left
          · intro wS hS
            have eF := HF.out wS hS
            go_simp
            try with_reducible rfl
          simp only [Act.put, List.setIfInBounds_toArray, List.set_cons_zero, List.set_cons_succ]
          refine wpAnyH_takeD (i := 8) (d := 83) (v := ?_) rfl (by kernel_rfl) (by kernel_rfl) (by kernel_rfl) (fun _ _ _ h => h) (by rfl) ?_ hHeld ?_
          rotate_left
          · intro wS hS
            have eF := HF.out wS hS
            go_simp
            try with_reducible rfl
          simp only [Act.put, List.setIfInBounds_toArray, List.set_cons_zero, List.set_cons_succ]
          refine wpAnyH_append3 (fuel := 1) (i0 := 0) (i1 := 4) (iB := 6) (i2 := 7) (i3 := 9) (d0 := 75) (d1 := 79) (dB := 81) (d2 := 82) (d3 := 84) (j1 := 78) (j3 := 83) rfl rfl rfl rfl rfl ⟨rfl, rfl⟩ ⟨rfl, rfl⟩ (by kernel_rfl) (by kernel_rfl) (by kernel_rfl) (by kernel_rfl) (by kernel_rfl) (by kernel_rfl) (by kernel_rfl) (by decide) (by decide) (by simp) 33 5 40 (.agg #[.int .i64 0, .int .i64 0, .int .i64 0, .int .i64 0, .int .i64 0]) Try.underlying24 infoKCropRow rfl (by decide) (by decide) ?run0g [r 0, r 1, r 2, r 3, r 4] rfl ?runBg ((cellsTo f (k * 5)).take (k * 5)) ((cellsTo f (k * 5)).drop (k * 5)) k c (0) (c - k) (some ⟨b, off, none⟩) (some ⟨b, off + k * 5, none⟩) rfl rfl hHeld ?s1g ?s3g (by omega) ?nextg
          case run0g => intro a w; go_simp
          case runBg =>
            intro a' w hev
            have h1 : a'.eval (.tmp 80) = .agg #[.int .i64 (r 0), .int .i64 (r 1), .int .i64 (r 2), .int .i64 (r 3), .int .i64 (r 4)] := (hev 80 (by decide) (by decide)).trans rfl
            have h2 : a'.tmps[80]?.getD undef = .agg #[.int .i64 (r 0), .int .i64 (r 1), .int .i64 (r 2), .int .i64 (r 3), .int .i64 (r 4)] := by simpa [Act.eval] using h1
            clear h1 hev
            go_simp
          case s1g =>
            intro w' hb'
            exact (HSX.out.below hb').srcTakeK (by intro e; cases e) (by omega)
          case s3g =>
            intro w' hb'
            exact Src.nothing (List.drop_of_length_le (by rw [cellsTo_length]; exact Nat.le_refl _))
          case nextg =>
          intro u0 u1 uB u2 g' c' w' hc1 hc2 hg1 hown' hB'
          clear hHeld
          have hHeld := hB'
          simp only [Act.put, List.setIfInBounds_toArray, List.set_cons_zero, List.set_cons_succ]
          refine wpAnyH_takeD (i := 10) (d := 9) (v := ?_) rfl (by kernel_rfl) (by kernel_rfl) (by kernel_rfl) (fun _ _ _ h => h) (by rfl) ?_ hHeld ?_
          rotate_left
          · intro wS hS
            have eF := HF.out wS hS
            go_simp
            try with_reducible rfl
          simp only [Act.put, List.setIfInBounds_toArray, List.set_cons_zero, List.set_cons_succ]
          refine wpAnyH_done (by kernel_rfl) ?_ _
          have hN : addN f r k = k + 1 := by simp [addN, HM.out]
          have hFe : addF f r k = insF f r k := by simp [addF, HM.out, HP.out]
          obtain ⟨hk, h1, h0⟩ := addM_of HG.out HOK.out hN hFe
          have HFE := Lib.hid hFe
          have HK := Lib.hid hk
          have hO0 := own_of_row hown'
          have hM : k + 1 + (0) = k + 1 := by omega
          rw [hM] at hO0 hc1 ⊢
          obtain ⟨A', cc, eA, hcc1, hcc2, hO1⟩ := hO0
          simp only [Value.slice.injEq, true_and] at eA
          obtain ⟨rfl, rfl⟩ := eA
          have hO2 := hO1.congr (g := insF f r k) (fun j hj => ins_get f r k k (by omega) _ rfl j (by omega))
          have hB3 := below_of BW hB' BW.size
          have hO3 := hO2.lo_le (lo' := w.heap.size) BW.size
          have hle : k + 1 ≤ 13 := by omega
          have HO3 := Lib.hid hO3
          have HH1 := Lib.hid h1
          have HH0 := Lib.hid h0
          have HB3 := Lib.hid hB3
          clear hO1 hO2 hO3 h1 h0 hB3 hown' hB' hHeld HF hN hFe hM hg1 hk
          go_wp2_with fail
          refine (l26Good_any _ (k + 1) _ _ _ (insF f r k) _ HO3.out.sl (by omega) hc1).mono ?_
          rintro e w5 ⟨rfl, hb5⟩
          cases hres : goodRows (insF f r k) (k + 1) with
          | false =>
            go_wp2
            go_ret2
            rw [HFE.out, HK.out, HH0.out hres, hres]
            have hB5 := below_of HB3.out hb5 HB3.out.size
            exact ⟨_, _, rfl, Nat.le_refl _, Nat.zero_le _, Own.none_ (Nat.le_refl _), hB5.alloc hB5.size _⟩
          | true =>
            go_wp2
            go_ret2
            rw [HFE.out, HK.out, HH1.out hres, hres]
            exact ⟨_, _, rfl, hc1, hc2, (HO3.out.below hb5).hi_le_mono hb5.size, below_of HB3.out hb5 HB3.out.size⟩
end Go.Proofs.Ytfejgoohefhjoaa
