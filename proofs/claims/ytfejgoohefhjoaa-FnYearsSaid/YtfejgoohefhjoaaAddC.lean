/-
  AddCrop of the program.
-/
import Derived.Test.YtfejgoohefhjoaaAddM
import Derived.Test.YtfejgoohefhjoaaSrcK
import Derived.Test.YtfejgoohefhjoaaInsK
import Derived.Deep.QuietTactic
import Derived.BigQuiet
import Derived.Deep.Cut
import Derived.Lib.Hide
namespace Go.Proofs.Ytfejgoohefhjoaa
open Go.RowKit
set_option linter.unusedVariables false
set_option linter.unusedSimpArgs false
attribute [local go_sem ↓] Go.wp_at_zero Go.wp_at_succ
set_option maxRecDepth 100000 in
set_option maxHeartbeats 2000000 in
theorem AddCrop_any (A : Option Addr) (n c lo hi : Nat) (f r : Nat → Int) (w : World) (hs : Sl w lo hi 5 A n f) (hn : n ≤ 1048576) (hnc : n ≤ c) (hcm : c ≤ maxLen) (hnone : A = none → n = 0 ∧ c = 0) (hform : ∀ ad, A = some ad → ∃ b off, ad = ⟨b, off, none⟩) :
    Calls Try.prog 12 #[.slice A n c, .agg #[.int .i64 (r 0), .int .i64 (r 1), .int .i64 (r 2), .int .i64 (r 3), .int .i64 (r 4)]] w (RowsPost 33 w (addM f r n) (addF f r n) (addOk f r n)) := by
  have HS : Hid (Sl w lo hi 5 A n f) := hs
  clear hs
  have BX : Below w.heap.size w (w.alloc (.cells #[.int .i64 (r 0), .int .i64 (r 1), .int .i64 (r 2), .int .i64 (r 3), .int .i64 (r 4)] 33)) := (Below.refl _ w).alloc (Nat.le_refl _) _
  have b0 : (w.alloc (.cells #[.int .i64 (r 0), .int .i64 (r 1), .int .i64 (r 2), .int .i64 (r 3), .int .i64 (r 4)] 33)).heap[w.heap.size]? = some (.cells #[.int .i64 (r 0), .int .i64 (r 1), .int .i64 (r 2), .int .i64 (r 3), .int .i64 (r 4)] 33 (0, 0)) := heap_alloc_new w _
  have zX : (w.alloc (.cells #[.int .i64 (r 0), .int .i64 (r 1), .int .i64 (r 2), .int .i64 (r 3), .int .i64 (r 4)] 33)).heap.size = w.heap.size + 1 := by simp
  cases hg : goodRows f n with
  | false =>
    have hm : addM f r n = 0 := by simp [addM, addOk, hg]
    have hk : addOk f r n = false := by simp [addOk, hg]
    rw [hm, hk]
    clear hm hk b0
    go_enter Try.func12, Try.ntmps12
    go_wp2_with fail
    refine (AreCropRows_any A n c lo hi f _ (HS.out.below BX) hn hnc).mono ?_
    rw [hg]
    rintro e w1 ⟨rfl, hb1⟩
    have B1 := BX.trans (hb1.mono (by omega))
    go_wp2
    go_ret2
    exact ⟨_, _, rfl, Nat.le_refl _, Nat.zero_le _, Own.none_ (Nat.le_refl _), B1⟩
  | true =>
  cases hok : okRow (r 0) (r 1) (r 2) (r 3) (r 4) with
  | false =>
    have hm : addM f r n = 0 := by simp [addM, addOk, hok]
    have hk : addOk f r n = false := by simp [addOk, hok]
    rw [hm, hk]
    clear hm hk
    go_enter Try.func12, Try.ntmps12
    go_wp2_with fail
    refine (AreCropRows_any A n c lo hi f _ (HS.out.below BX) hn hnc).mono ?_
    rw [hg]
    rintro e w1 ⟨rfl, hb1⟩
    have B1 := BX.trans (hb1.mono (by omega))
    have b1 := (hb1.block w.heap.size (by omega)).trans b0
    have q0 : w1.cell? ⟨w.heap.size, 0, none⟩ = some (.int .i64 (r 0)) := by rw [cell_of_row w1 w.heap.size 0 _ _ (0, 0) b1]; rfl
    have q1 : w1.cell? ⟨w.heap.size, 1, none⟩ = some (.int .i64 (r 1)) := by rw [cell_of_row w1 w.heap.size 1 _ _ (0, 0) b1]; rfl
    have q2 : w1.cell? ⟨w.heap.size, 2, none⟩ = some (.int .i64 (r 2)) := by rw [cell_of_row w1 w.heap.size 2 _ _ (0, 0) b1]; rfl
    have q3 : w1.cell? ⟨w.heap.size, 3, none⟩ = some (.int .i64 (r 3)) := by rw [cell_of_row w1 w.heap.size 3 _ _ (0, 0) b1]; rfl
    have q4 : w1.cell? ⟨w.heap.size, 4, none⟩ = some (.int .i64 (r 4)) := by rw [cell_of_row w1 w.heap.size 4 _ _ (0, 0) b1]; rfl
    clear hb1 b0 b1
    go_wp2_with fail
    refine (IsCropRow_any _ _ _ _ _ _).mono ?_
    rw [hok]
    rintro e w2 ⟨rfl, hb2⟩
    have B2 := below_of B1 hb2 B1.size
    go_wp2
    go_ret2
    exact ⟨_, _, rfl, Nat.le_refl _, Nat.zero_le _, Own.none_ (Nat.le_refl _), B2⟩
  | true =>
  go_enter Try.func12, Try.ntmps12
  go_wp2_with fail
  refine (AreCropRows_any A n c lo hi f _ (HS.out.below BX) hn hnc).mono ?_
  rw [hg]
  rintro e w1 ⟨rfl, hb1⟩
  have B1 := BX.trans (hb1.mono (by omega))
  have b1 := (hb1.block w.heap.size (by omega)).trans b0
  have q0 : w1.cell? ⟨w.heap.size, 0, none⟩ = some (.int .i64 (r 0)) := by rw [cell_of_row w1 w.heap.size 0 _ _ (0, 0) b1]; rfl
  have q1 : w1.cell? ⟨w.heap.size, 1, none⟩ = some (.int .i64 (r 1)) := by rw [cell_of_row w1 w.heap.size 1 _ _ (0, 0) b1]; rfl
  have q2 : w1.cell? ⟨w.heap.size, 2, none⟩ = some (.int .i64 (r 2)) := by rw [cell_of_row w1 w.heap.size 2 _ _ (0, 0) b1]; rfl
  have q3 : w1.cell? ⟨w.heap.size, 3, none⟩ = some (.int .i64 (r 3)) := by rw [cell_of_row w1 w.heap.size 3 _ _ (0, 0) b1]; rfl
  have q4 : w1.cell? ⟨w.heap.size, 4, none⟩ = some (.int .i64 (r 4)) := by rw [cell_of_row w1 w.heap.size 4 _ _ (0, 0) b1]; rfl
  clear hb1 b0
  go_wp2_with fail
  refine (IsCropRow_any _ _ _ _ _ _).mono ?_
  rw [hok]
  rintro e w2 ⟨rfl, hb2⟩
  have B2 := below_of B1 hb2 B1.size
  have b2 := (hb2.block w.heap.size (Array.getElem?_eq_some_iff.1 b1).1).trans b1
  have hs2 := HS.out.below B2
  clear hb2 b1 B1 BX zX q0 q1 q2 q3 q4
  have hn12 := goodRows_le hg
  clear hn
  have HG := Lib.hid hg
  have HOK := Lib.hid hok
  clear hg hok
  have hile := HS.out.hi_le
  clear HS
  go_wp2_with fail
  refine (cloneCropRow_any A n c lo hi f w2 hs2 (by omega) hnone).mono ?_
  rintro e w3 ⟨v, rfl, hown, hb3⟩
  have B3 := below_of B2 hb3 B2.size
  have b3 := (hb3.block w.heap.size (Array.getElem?_eq_some_iff.1 b2).1).trans b2
  have hX2 := B2.size
  have hX3 := hb3.size
  have bl : w.heap.size < w2.heap.size := (Array.getElem?_eq_some_iff.1 b2).1
  have HB2 := Lib.hid B2
  have HB23 := Lib.hid hb3
  clear hs2 b2 B2 hb3 hnone hform
  obtain ⟨A', c', rfl, hc1, hc2, hO⟩ := own_of_row hown
  have hO := hO.congr (g := f) (fun j hj => cellsTo_get f _ _ hj)
  have HOWN := Lib.hid hown
  have HO := Lib.hid hO
  have HB3 := Lib.hid B3
  have hci : (c' : Int) ≤ 9223372036854775807 := by unfold maxLen at hc2; omega
  clear hown hO B3
  go_wp2_with fail
  go_loopw [7] (fun kv wr => (∃ k : Nat, k ≤ n ∧ kv = .int .i64 k ∧ atC f n (r 0) = placeC f (r 0) (n - k) k) ∧ Below w3.heap.size w3 wr) (fun kv _ => n - (intOf kv).toNat)
  case atStart => exact ⟨⟨0, Nat.zero_le _, rfl, rfl⟩, Below.refl _ _⟩
  case round =>
    obtain ⟨⟨k, hk, rfl, hpl⟩, hbel⟩ := hrel
    have b4 := (hbel.block w.heap.size (by omega)).trans b3
    have zr := hbel.size
    have q0 : wr.cell? ⟨w.heap.size, 0, none⟩ = some (.int .i64 (r 0)) := by rw [cell_of_row wr w.heap.size 0 _ _ (0, 0) b4]; rfl
    have q1 : wr.cell? ⟨w.heap.size, 1, none⟩ = some (.int .i64 (r 1)) := by rw [cell_of_row wr w.heap.size 1 _ _ (0, 0) b4]; rfl
    have q2 : wr.cell? ⟨w.heap.size, 2, none⟩ = some (.int .i64 (r 2)) := by rw [cell_of_row wr w.heap.size 2 _ _ (0, 0) b4]; rfl
    have q3 : wr.cell? ⟨w.heap.size, 3, none⟩ = some (.int .i64 (r 3)) := by rw [cell_of_row wr w.heap.size 3 _ _ (0, 0) b4]; rfl
    have q4 : wr.cell? ⟨w.heap.size, 4, none⟩ = some (.int .i64 (r 4)) := by rw [cell_of_row wr w.heap.size 4 _ _ (0, 0) b4]; rfl
    have hk0i : (0 : Int) ≤ (k : Int) := by omega
    by_cases hlt : k < n
    · obtain ⟨b, off, eA, hbw, HC⟩ := HO.out.sl.open_ hbel (by omega)
      obtain ⟨c0, c1, c2, c3, c4⟩ := cell5 HC hlt
      have hki : (k : Int) < (n : Int) := by omega
      obtain ⟨g, eg⟩ := HO.out.addr (by omega)
      rw [eA] at eg
      simp only [Option.some.injEq, Addr.mk.injEq, and_true] at eg
      obtain ⟨rfl, rfl⟩ := eg
      subst eA
      simp only [Nat.zero_add] at c0 c1 c2 c3 c4
      by_cases hyr : f (k * 5) < r 0
      · have HP : Hid (atC f n (r 0) = placeC f (r 0) (n - (k + 1)) (k + 1)) := hpl.trans (placeC_step hlt hyr)
        clear hpl HC
        go_wp2
        go_quiet (fail)
        go_wp2
        go_roundw
        case rel => exact ⟨⟨k + 1, by omega, by go_num, HP.out⟩, below_drewN hbel _⟩
        case measure => simp [intOf]; omega
      · have HP : Hid (atC f n (r 0) = k) := hpl.trans (placeC_stop hlt hyr)
        clear hpl HC
        go_wp2
        go_quiet (fail)
        go_wp2
        by_cases he : f (k * 5) = r 0
        · have heb : (f (k * 5) == r 0) = true := by simp [he]
          have HM : Hid (mrgB f n (r 0) = true) := mrgB_yes HP.out hlt he
          have HE := Lib.hid he
          clear he hyr
          go_quiet (fail)
          go_upto_region 8 with fail
          refine nameW ?_
          intro wq hwq
          have hq : Below wr.heap.size wr wq := by rw [hwq]; exact below_drewN (below_drewN (Below.refl _ _) _) _
          have d0 := (hq.cell (p := ⟨b, k * 5, none⟩) hbw).trans c0
          have d1 := (hq.cell (p := ⟨b, k * 5 + 1, none⟩) hbw).trans c1
          have d2 := (hq.cell (p := ⟨b, k * 5 + 2, none⟩) hbw).trans c2
          have d3 := (hq.cell (p := ⟨b, k * 5 + 3, none⟩) hbw).trans c3
          have b5 := (hq.block w.heap.size (by omega)).trans b4
          have zq := hq.size
          have hOq := HO.out.below (below_of hbel hq hbel.size)
          have hlo := (hOq.cell_ (i := k * 5) (by omega)).2.2.1
          have fz : ∀ j : Nat, j < 5 → wq.frozen? ⟨b, k * 5 + j, none⟩ = false := fun j hj => (hOq.cell_ (i := k * 5 + j) (by omega)).2.1
          have fz1 := fz 1 (by omega)
          have fz2 := fz 2 (by omega)
          have fz3 := fz 3 (by omega)
          have hne : b ≠ w.heap.size := by omega
          have hne' : w.heap.size ≠ b := by omega
          clear fz hOq c0 c1 c2 c3 c4 b4 q0 q1 q2 q3 q4 hwq
          have q0 : wq.cell? ⟨w.heap.size, 0, none⟩ = some (.int .i64 (r 0)) := by rw [cell_of_row wq w.heap.size 0 _ _ (0, 0) b5]; rfl
          have q1 : wq.cell? ⟨w.heap.size, 1, none⟩ = some (.int .i64 (r 1)) := by rw [cell_of_row wq w.heap.size 1 _ _ (0, 0) b5]; rfl
          have q2 : wq.cell? ⟨w.heap.size, 2, none⟩ = some (.int .i64 (r 2)) := by rw [cell_of_row wq w.heap.size 2 _ _ (0, 0) b5]; rfl
          have q3 : wq.cell? ⟨w.heap.size, 3, none⟩ = some (.int .i64 (r 3)) := by rw [cell_of_row wq w.heap.size 3 _ _ (0, 0) b5]; rfl
          have q4 : wq.cell? ⟨w.heap.size, 4, none⟩ = some (.int .i64 (r 4)) := by rw [cell_of_row wq w.heap.size 4 _ _ (0, 0) b5]; rfl
          have B5 := Lib.hid b5
          clear b5
          go_region
          go_wp2
          go_region
          go_wp2
          go_region
          go_wp2_with fail
          refine nameC ?_
          intro w5 hw5
          have hO5 : Own w5 w2.heap.size w3.heap.size 33 5 (some ⟨b, 0, none⟩) n (mrgF f r k) := by
            have h1 := (((HO.out.below (below_of hbel hq hbel.size)).set_ (i := k * 5 + 1) (by omega) (wrap64 (f (k * 5 + 1) + r 1))).set_ (i := k * 5 + 2) (by omega) (wrap64 (f (k * 5 + 2) + r 2))).set_ (i := k * 5 + 3) (by omega) (wrap64 (f (k * 5 + 3) + r 3))
            rw [hw5]
            refine (h1.below (Below.refl _ _).drew.drew.drew).congr (fun j hj => ?_)
            unfold upd mrgF
            by_cases e1 : j = k * 5 + 1
            · subst e1; rw [if_neg (by omega), if_neg (by omega), if_pos rfl, if_pos rfl]
            · by_cases e2 : j = k * 5 + 2
              · subst e2; rw [if_neg (by omega), if_pos rfl, if_neg (by omega), if_pos rfl]
              · by_cases e3 : j = k * 5 + 3
                · subst e3; rw [if_pos rfl, if_neg (by omega), if_neg (by omega), if_pos rfl]
                · rw [if_neg e3, if_neg e2, if_neg e1, if_neg e1, if_neg e2, if_neg e3]
          have hB5 : Below w.heap.size w w5 := by
            rw [hw5]
            exact ((((below_of HB3.out (below_of hbel hq hbel.size) HB3.out.size).setCell (p := ⟨b, k * 5 + 1, none⟩) (by show _ ≤ b; omega) _).setCell (p := ⟨b, k * 5 + 2, none⟩) (by show _ ≤ b; omega) _).setCell (p := ⟨b, k * 5 + 3, none⟩) (by show _ ≤ b; omega) _).drew.drew.drew
          have hO5 := hO5.lo_le (lo' := w.heap.size) (by omega)
          clear hw5
          have hN : addN f r n = n := by simp [addN, HM.out]
          have hFe : addF f r n = mrgF f r k := by simp [addF, HM.out, HP.out]
          obtain ⟨hk2, h1, h0⟩ := addM_of HG.out HOK.out hN hFe
          have HFE := Lib.hid hFe
          have HK := Lib.hid hk2
          have HO5 := Lib.hid hO5
          have HH1 := Lib.hid h1
          have HH0 := Lib.hid h0
          have HB5 := Lib.hid hB5
          clear hO5 h1 h0 hB5 hN hFe hk2
          refine (AreCropRows_any _ (n) _ _ _ (mrgF f r k) _ HO5.out.sl (by omega) (by assumption)).mono ?_
          rintro e w6 ⟨rfl, hb6⟩
          cases hres : goodRows (mrgF f r k) (n) with
          | false =>
            go_wp2
            go_ret2
            rw [HFE.out, HK.out, HH0.out hres, hres]
            exact ⟨_, _, rfl, Nat.le_refl _, Nat.zero_le _, Own.none_ (Nat.le_refl _), below_of HB5.out hb6 HB5.out.size⟩
          | true =>
            go_wp2
            go_ret2
            rw [HFE.out, HK.out, HH1.out hres, hres]
            exact ⟨_, _, rfl, by assumption, by assumption, (HO5.out.below hb6).hi_le_mono (by have := hb6.size; have := HO5.out.hi_le; omega), below_of HB5.out hb6 HB5.out.size⟩
        · have heb : (f (k * 5) == r 0) = false := by simp [he]
          have HM : Hid (mrgB f n (r 0) = false) := mrgB_no HP.out (fun h => he h.2)
          clear he hyr
          go_quiet (fail)
          go_wp2_with fail
          refine (InsertCropRow_any w2.heap.size n k wr.heap.size 33 _ (cellsTo f (n * 5)) [r 0, r 1, r 2, r 3, r 4] _ (ownsRow_below HOWN.out (below_of hbel ((below_drewN (Below.refl _ _) _).alloc (Nat.le_refl _) _) hbel.size)) hk (by omega) (by simp; omega) rfl (heap_alloc_new (wr.drewN _) _) ?_).mono ?_
          · simp [Value.ownBlock]; omega
          rintro e w4 ⟨v5, rfl, hown5, hgr5⟩
          have hB4 := below_of HB2.out (below_app (below_of HB23.out (below_of hbel ((below_drewN (Below.refl _ _) _).alloc (Nat.le_refl _) _) hbel.size) HB23.out.size) (ownsRow_below HOWN.out (below_of hbel ((below_drewN (Below.refl _ _) _).alloc (Nat.le_refl _) _) hbel.size)) hgr5) HB2.out.size
          obtain ⟨A5, c5, rfl, h51, h52, hO5⟩ := own_of_row hown5
          have hO5 := (hO5.congr (g := insF f r k) (fun j hj => ins_get f r n k hk _ rfl j hj)).lo_le (lo' := w.heap.size) (by omega)
          clear hown5 hgr5
          go_wp2_with fail
          have hN : addN f r n = n + 1 := by simp [addN, HM.out]
          have hFe : addF f r n = insF f r k := by simp [addF, HM.out, HP.out]
          obtain ⟨hk2, h1, h0⟩ := addM_of HG.out HOK.out hN hFe
          have HFE := Lib.hid hFe
          have HK := Lib.hid hk2
          have HO5 := Lib.hid hO5
          have HH1 := Lib.hid h1
          have HH0 := Lib.hid h0
          have HB5 := Lib.hid hB4
          clear hO5 h1 h0 hB4 hN hFe hk2
          refine (AreCropRows_any _ (n + 1) _ _ _ (insF f r k) _ HO5.out.sl (by omega) (by assumption)).mono ?_
          rintro e w6 ⟨rfl, hb6⟩
          cases hres : goodRows (insF f r k) (n + 1) with
          | false =>
            go_wp2
            go_ret2
            rw [HFE.out, HK.out, HH0.out hres, hres]
            exact ⟨_, _, rfl, Nat.le_refl _, Nat.zero_le _, Own.none_ (Nat.le_refl _), below_of HB5.out hb6 HB5.out.size⟩
          | true =>
            go_wp2
            go_ret2
            rw [HFE.out, HK.out, HH1.out hres, hres]
            exact ⟨_, _, rfl, by assumption, by assumption, (HO5.out.below hb6).hi_le_mono (by have := hb6.size; have := HO5.out.hi_le; omega), below_of HB5.out hb6 HB5.out.size⟩
    · obtain rfl : k = n := by omega
      have HP : Hid (atC f k (r 0) = k) := hpl.trans (placeC_end _ _ _)
      have HM : Hid (mrgB f k (r 0) = false) := mrgB_no HP.out (fun h => by omega)
      clear hpl
      have hki : ¬ ((k : Int) < (k : Int)) := by omega
      go_wp2
      go_quiet (fail)
      go_wp2
      go_quiet (fail)
      go_wp2_with fail
      refine (InsertCropRow_any w2.heap.size k k wr.heap.size 33 _ (cellsTo f (k * 5)) [r 0, r 1, r 2, r 3, r 4] _ (ownsRow_below HOWN.out (below_of hbel ((below_drewN (Below.refl _ _) _).alloc (Nat.le_refl _) _) hbel.size)) hk (by omega) (by simp; omega) rfl (heap_alloc_new (wr.drewN _) _) ?_).mono ?_
      · intro e; have := (World.ownsRow.lt HOWN.out _ e.symm).2; omega
      rintro e w4 ⟨v5, rfl, hown5, hgr5⟩
      have hB4 := below_of HB2.out (below_app (below_of HB23.out (below_of hbel ((below_drewN (Below.refl _ _) _).alloc (Nat.le_refl _) _) hbel.size) HB23.out.size) (ownsRow_below HOWN.out (below_of hbel ((below_drewN (Below.refl _ _) _).alloc (Nat.le_refl _) _) hbel.size)) hgr5) HB2.out.size
      obtain ⟨A5, c5, rfl, h51, h52, hO5⟩ := own_of_row hown5
      have hO5 := (hO5.congr (g := insF f r k) (fun j hj => ins_get f r k k hk _ rfl j hj)).lo_le (lo' := w.heap.size) (by omega)
      clear hown5 hgr5
      go_wp2_with fail
      have hN : addN f r k = k + 1 := by simp [addN, HM.out]
      have hFe : addF f r k = insF f r k := by simp [addF, HM.out, HP.out]
      obtain ⟨hk2, h1, h0⟩ := addM_of HG.out HOK.out hN hFe
      have HFE := Lib.hid hFe
      have HK := Lib.hid hk2
      have HO5 := Lib.hid hO5
      have HH1 := Lib.hid h1
      have HH0 := Lib.hid h0
      have HB5 := Lib.hid hB4
      clear hO5 h1 h0 hB4 hN hFe hk2
      refine (AreCropRows_any _ (k + 1) _ _ _ (insF f r k) _ HO5.out.sl (by omega) (by assumption)).mono ?_
      rintro e w6 ⟨rfl, hb6⟩
      cases hres : goodRows (insF f r k) (k + 1) with
      | false =>
        go_wp2
        go_ret2
        rw [HFE.out, HK.out, HH0.out hres, hres]
        exact ⟨_, _, rfl, Nat.le_refl _, Nat.zero_le _, Own.none_ (Nat.le_refl _), below_of HB5.out hb6 HB5.out.size⟩
      | true =>
        go_wp2
        go_ret2
        rw [HFE.out, HK.out, HH1.out hres, hres]
        exact ⟨_, _, rfl, by assumption, by assumption, (HO5.out.below hb6).hi_le_mono (by have := hb6.size; have := HO5.out.hi_le; omega), below_of HB5.out hb6 HB5.out.size⟩
end Go.Proofs.Ytfejgoohefhjoaa
