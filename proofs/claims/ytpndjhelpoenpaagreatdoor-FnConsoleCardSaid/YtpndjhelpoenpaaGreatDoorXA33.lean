/-
  Texts of this claim, merged.
-/
import Derived.Test.YtpndjhelpoenpaaGreatDoorXA32
set_option linter.unusedVariables false
set_option linter.unusedSimpArgs false
set_option maxRecDepth 100000
set_option maxHeartbeats 8000000
namespace Go.Proofs.YtpndjhelpoenpaaGreatDoor
open Go.RowKit
theorem spoilt7_any (t : BA) (ht : t.size ≤ 1048576) (g n c p : Nat) (A : Option Addr) (w : World) (hC : Cur w g A n c p) (hn : n ≤ 65536) (hp : p ≤ 100000000) :
  Calls Tryz.prog 75 #[.pointer (some ⟨g, 0, none⟩), .string t, .string ⟨#[32, 48, 49, 97, 64, 35, 44]⟩] w fun e w' => ∃ s : BA, e = .returned (.string s) ∧ s.size ≤ t.size + 1 ∧ Cur w' g A n c (p + 6) ∧ Fr g (g + 1) w w' := by
 have h5 : (⟨#[32, 48, 49, 97, 64, 35, 44]⟩ : BA).size = 7 := rfl
 generalize (⟨#[32, 48, 49, 97, 64, 35, 44]⟩ : BA) = wi at h5 ⊢
 have h5i : (wi.size : Int) = 7 := by omega
 by_cases h0 : t = ⟨#[]⟩
 ·subst h0
  go_enter Tryz.func75, Tryz.ntmps75
  go_wp2
  go_ret
  exact ⟨_, rfl, by simp [h5], hC.weaken (by omega), Fr.refl _ _ _⟩
 have hts : 0 < t.size := by
  rcases Nat.eq_zero_or_pos t.size with h | h
  ·exact absurd (by apply ba_ext; apply List.eq_nil_of_length_eq_zero; rw [size_list]; exact h) h0
  ·exact h
 have hb0 : t.toList.isEmpty = false := by rw [ByteArray.toList_eq]; cases h : t.data.toList with
  | nil => have := size_list t; rw [h] at this; simp at this; omega
  | cons a l => rfl
 go_enter Tryz.func75, Tryz.ntmps75
 go_wp2_with fail
 refine (pick_any g n c p t.size A w hC hn (by omega) (by omega) (by omega)).mono ?_
 rintro e w1 ⟨i, rfl, hi, hC1, hF1⟩
 go_wp2_with fail
 have hp5 := pick_any g n c _ 7 A w1 hC1 hn (by omega) (by omega) (by omega)
 refine hp5.mono ?_
 rintro e w2 ⟨k, rfl, hk, hC2, hF2⟩
 have hii : (i : Int) ≤ (t.size : Int) := by omega
 have hi1 : (i : Int) + 1 ≤ (t.size : Int) := by omega
 have hiw : IntKind.i64.wrap ((i : Int) + 1) = (i : Int) + 1 := by rw [IntWalk.i64_in _ (by omega)]
 have hki : (k : Int) < (wi.size : Int) := by omega
 have hk5 : (k : Int) ≤ 7 := by omega
 have hks : (wi.extract k 7).size = 7 - k := by simp [ByteArray.size_extract, h5]
 have hks1 : (1 : Int) ≤ ((wi.extract k 7).size : Int) := by omega
 go_wp2_with fail
 refine (pick_any g n c _ 3 A w2 hC2 hn (by omega) (by omega) (by omega)).mono ?_
 rintro e w3 ⟨j, rfl, hj, hC3, hF3⟩
 have hx1 : (t.extract 0 i).size = i := by simp [ByteArray.size_extract]; omega
 have hx2 : (t.extract i t.size).size = t.size - i := by simp [ByteArray.size_extract]
 have hx3 : (t.extract (i + 1) t.size).size = t.size - (i + 1) := by simp [ByteArray.size_extract]
 have hx4 : ((wi.extract k 7).extract 0 1).size = 1 := by simp [ByteArray.size_extract, hks]; omega
 generalize (wi.extract k 7).extract 0 1 = ch at hx4 ⊢
 have hF := (hF1.trans hF2).trans hF3
 clear hC hC1 hC2 hF1 hF2 hF3 hp5
 have HC3 := lh hC3
 have HF3 := lh hF
 clear hC3 hF
 by_cases j0 : j = 0
 ·subst j0
  go_wp2
  go_quiet (fail)
  go_wp2
  go_ret
  exact ⟨_, rfl, by simp [ByteArray.size_append, hx1, hx2, hx4]; omega, (HC3.out.drewN _).weaken nL, HF3.out.trans (Fr.of_below _ _ (below_drewN (Below.refl _ _) _))⟩
 have j0i : ((j : Int) == 0) = false := by simp; omega
 by_cases j1 : j = 1
 ·subst j1
  go_wp2
  go_quiet (fail)
  go_wp2
  go_ret
  exact ⟨_, rfl, by simp [ByteArray.size_append, hx1, hx3, hx4]; omega, (HC3.out.drewN _).weaken nL, HF3.out.trans (Fr.of_below _ _ (below_drewN (Below.refl _ _) _))⟩
 have j1i : ((j : Int) == 1) = false := by simp; omega
 go_wp2
 go_quiet (fail)
 go_wp2
 go_ret
 exact ⟨_, rfl, by simp [ByteArray.size_append, hx1, hx3]; omega, (HC3.out.drewN _).weaken nL, HF3.out.trans (Fr.of_below _ _ (below_drewN (Below.refl _ _) _))⟩
theorem DS.log {w W : World} {g b5 : Nat} {B' : Option Addr} {m c' : Nat} {L : List Int} {I H S P : Int} {D Q : ByteArray} {z : Int} (h : DS w W g b5 B' m c' L I H S P D Q z) (hbx : W.heap[b5]? = some (.cells (cB B' m c' I H S P D Q z) 35 (0, 0))) (D1 Q1 : ByteArray) (z1 : Int) : DS w (((W.setCell ⟨b5, 5, none⟩ (.string D1)).setCell ⟨b5, 6, none⟩ (.string Q1)).setCell ⟨b5, 7, none⟩ (.int .i64 z1)) g b5 B' m c' L I H S P D1 Q1 z1 := by
 have no : ∀ j : Nat, (Value.slice B' m c').ownBlock ≠ some (⟨b5, j, none⟩ : Addr).block := fun j e => row_none_ne h.own hbx (by decide) e
 have h1 := h.g1
 have h2 := h.g2
 refine ⟨((h.be.setCell (p := ⟨b5, 5, none⟩) (by show _ ≤ b5; omega) _).setCell (p := ⟨b5, 6, none⟩) (by show _ ≤ b5; omega) _).setCell (p := ⟨b5, 7, none⟩) (by show _ ≤ b5; omega) _, (heap_setCell_same _ b5 7 (cB B' m c' I H S P D1 Q1 z) 35 (.int .i64 z1) (heap_setCell_same _ b5 6 (cB B' m c' I H S P D1 Q z) 35 (.string Q1) (heap_setCell_same _ b5 5 (cB B' m c' I H S P D Q z) 35 (.string D1) hbx))), ownsRow_setCell_other (ownsRow_setCell_other (ownsRow_setCell_other h.own (no 5) _) (no 6) _) (no 7) _, ?_, h1, h2⟩
 iterate 3 rw [heap_setCell_other _ _ _ _ (by show w.heap.size ≠ b5; omega)]
 exact h.zero
theorem DS.set3 {w W : World} {g b5 b6 : Nat} {B' : Option Addr} {m c' : Nat} {L : List Int} {I H S P : Int} {D Q : ByteArray} {z : Int} {D0 P0 : ByteArray} {z0 : Int} (h : DS w W g b5 B' m c' L I H S P D Q z) (h6 : W.heap[b6]? = some (.cells (lV D0 P0 z0) 33 (0, 0))) (hb : b5 < b6) (D1 Q1 : ByteArray) (z1 : Int) : DS w (((W.setCell ⟨b6, 0, none⟩ (.string D1)).setCell ⟨b6, 1, none⟩ (.string Q1)).setCell ⟨b6, 2, none⟩ (.int .i64 z1)) g b5 B' m c' L I H S P D Q z := by
 have no : ∀ j : Nat, (Value.slice B' m c').ownBlock ≠ some (⟨b6, j, none⟩ : Addr).block := fun j e => row_none_ne h.own h6 (by decide) e
 have h1 := h.g1
 have h2 := h.g2
 refine ⟨((h.be.setCell (p := ⟨b6, 0, none⟩) (by show _ ≤ b6; omega) _).setCell (p := ⟨b6, 1, none⟩) (by show _ ≤ b6; omega) _).setCell (p := ⟨b6, 2, none⟩) (by show _ ≤ b6; omega) _, ?_, ownsRow_setCell_other (ownsRow_setCell_other (ownsRow_setCell_other h.own (no 0) _) (no 1) _) (no 2) _, ?_, h1, h2⟩
 ·iterate 3 rw [heap_setCell_other _ _ _ _ (by show b5 ≠ b6; omega)]
  exact h.box
 ·iterate 3 rw [heap_setCell_other _ _ _ _ (by show w.heap.size ≠ b6; omega)]
  exact h.zero
theorem DrawExecuteCommand_any (A : Option Addr) (n c : Nat) (w : World) (hc : Code w A n) (hn : n ≤ 65536) :
  Calls Tryz.prog 36 #[.slice A n c] w fun e w' => ∃ (B' : Option Addr) (m c' : Nat) (L : List Int) (I H S P : Int) (D Q : ByteArray) (z : Int) (s : ByteArray), e = .returned (.tuple #[.agg (cB B' m c' I H S P D Q z), .string s]) ∧ m ≤ 7 ∧ D.size ≤ 1048576 ∧ Q.size ≤ 1048576 ∧ s.size ≤ 101 ∧ Drawn w' w.heap.size 97 4 B' m c' (lf L) ∧ bW w w' := by
 go_enter Tryz.func36, Tryz.ntmps36
 go_wp2_with fail
 refine nameC ?_
 intro w1 hw1
 have hB2 : bW w (w.alloc (.cells (cB none 0 0 0 0 0 0 ⟨#[]⟩ ⟨#[]⟩ 0) 35)) := (Below.refl _ w).alloc nL _
 have hB : bW w w1 := by rw [hw1]; exact hB2.alloc (by simp) _
 have h2 : w1.heap[w.heap.size]? = some (.cells (cB none 0 0 0 0 0 0 ⟨#[]⟩ ⟨#[]⟩ 0) 35 (0, 0)) := by
  rw [hw1, heap_alloc_old _ _ (by simp)]
  exact heap_alloc_new w _
 have hC : Cur w1 (w.heap.size + 1) A n c 0 := by rw [hw1]; have h := (hc.below hB2).cur (c := c) (T := 89); simpa using h
 obtain ⟨g, hg⟩ : ∃ q, w.heap.size + 1 = q := ⟨_, rfl⟩
 rw [hg] at hC
 try rw [hg]
 have hgl := hC.lt
 clear hw1 hc hB2
 refine (console_any g n c 0 A w1 hC hn (by omega)).mono ?_
 rintro e w2 ⟨B', m, c', L, I, H, S, P, D, Q, z, rfl, hm7, hle, hD, hQ, hbd, hown, hC, hf⟩
 have hz1 := hB.size
 have hzf := hf.size
 have h2 := (hf.block _ (gL h2) (Or.inl (by omega))).trans h2
 have hB := hB.trans (hf.below (by omega) hB.size)
 have hown := ownsRow_monoP hown (show w.heap.size + 2 ≤ w1.heap.size by omega)
 clear hf
 go_upto_region 3 with fail
 refine nameWS ?_
 intro w3 hw3
 have hn2 : bW w2 w3 := by rw [hw3]; exact (Below.refl _ w2).alloc nL _
 have h5 := an hw3
 have hS : DS w w3 g w2.heap.size B' m c' L I H S P D Q z := ⟨below_of hB hn2 hB.size, h5, ownsRow_below hown hn2, rowB h2 hn2, by omega, by omega⟩
 have hC := hC.below hn2
 obtain ⟨b5, hb5⟩ : ∃ q, w2.heap.size = q := ⟨_, rfl⟩
 rw [hb5] at hS
 try rw [hb5]
 clear hw3 hn2 hb5 h5 h2 hown hB hz1 hzf hgl hg
 go_wp2_with fail
 refine (one_any g n c _ 40 A w3 hC hn (by omega) (by omega) (by omega)).mono ?_
 rintro e w4 ⟨bb, rfl, hC, hf⟩
 have hS := hS.step hf
 clear hf
 go_upto_if 15 with fail
 go_cut [] (fun wx => ∃ (D Q : ByteArray) (z : Int), D.size ≤ 1048576 ∧ Q.size ≤ 1048576 ∧ DS w wx g b5 B' m c' L I H S P D Q z ∧ Cur wx g A n c 2000)
 case first =>
  cases bb with
  | false =>
   go_wp2_with fail
   go_meet
   case rel => exact ⟨_, _, _, hD, hQ, hS, hC.weaken (by omega)⟩
  | true =>
   go_upto_region 5 with fail
   refine nameWS ?_
   intro w5 hw5
   have hb : bW w4 w5 := by rw [hw5]; exact (Below.refl _ w4).alloc nL _
   have h6 := an hw5
   have hlt := (gL hS.box)
   have hS := hS.below hb
   have hC := hC.below hb
   obtain ⟨b6, hb6⟩ : ∃ q, w4.heap.size = q := ⟨_, rfl⟩
   rw [hb6] at h6 hlt
   try rw [hb6]
   clear hw5 hb hb6
   go_wp2_with fail
   refine (pick_any g n c _ 2 A w5 hC hn (by omega) (by omega) (by omega)).mono ?_
   rintro e w6 ⟨k0, rfl, hk0, hC, hf⟩
   have hS := hS.step hf
   have h6 := (hf.block _ (gL h6) (Or.inr (by have := hS.g2; omega))).trans h6
   clear hf
   have hqw : IntKind.i64.wrap (59 + (k0 : Int)) = ((59 + k0 : Nat) : Int) := by rw [IntWalk.i64_in _ (by omega)]; omega
   have hin : ∃ (j : Nat) (D1 Q1 : ByteArray) (z1 : Int), j ≤ 60 ∧ (.int .i64 ((59 + k0 : Nat) : Int) : Value) = .int .i64 j ∧ D1.size + Q1.size ≤ 30000 ∧ w6.heap[b6]? = some (.cells (lV D1 Q1 z1) 33 (0, 0)) ∧ DS w w6 g b5 B' m c' L I H S P D Q z ∧ Cur w6 g A n c 1900 := ⟨59 + k0, _, _, _, by omega, rfl, (by decide : (⟨#[]⟩ : ByteArray).size + (⟨#[]⟩ : ByteArray).size ≤ 30000), h6, hS, hC.weaken (by omega)⟩
   clear h6 hS hC
   go_wp2_with fail
   go_loopw [7] (fun nv wr => ∃ (j : Nat) (D1 Q1 : ByteArray) (z1 : Int), j ≤ 60 ∧ nv = .int .i64 j ∧ D1.size + Q1.size ≤ 30000 ∧ wr.heap[b6]? = some (.cells (lV D1 Q1 z1) 33 (0, 0)) ∧ DS w wr g b5 B' m c' L I H S P D Q z ∧ Cur wr g A n c 1900) (fun nv _ => (intOf nv).toNat)
   case atStart => exact hin
   case round =>
    clear hin hqw
    obtain ⟨j, D1, Q1, z1, hj, rfl, hsz, h6, hS, hC⟩ := hrel
    obtain ⟨a0, a1, a2, af0, af1, af2⟩ := row3 h6
    have hg1 := hS.g1
    have hg2 := hS.g2
    by_cases hlt2 : 0 < j
    ·have hki : (0 : Int) < (j : Int) := by omega
     have hkw : IntKind.i64.wrap ((j : Int) - 1) = ((j - 1 : Nat) : Int) := by rw [IntWalk.i64_in _ (by omega)]; omega
     go_wp2_with fail
     refine (sAppend_sz D1 Q1 z1 ⟨#[120]⟩ ⟨#[]⟩ hsz (by decide) (by decide) wr).mono ?_
     rintro e wb ⟨P', z', kk, rfl, hszb, hbb⟩
     have h6b := rowB h6 hbb
     obtain ⟨e0, e1, e2, ef0, ef1, ef2⟩ := row3 h6b
     have HR := lh (show (((wb.setCell ⟨b6, 0, none⟩ (.string D1)).setCell ⟨b6, 1, none⟩ (.string P')).setCell ⟨b6, 2, none⟩ (.int .i64 z')).heap[b6]? = some (.cells (lV D1 P' z') 33 (0, 0)) from row3_set h6b)
     have HS := lh ((hS.below hbb).set3 h6b hlt D1 P' z')
     have HC := lh ((((hC.below hbb).setOwn (q := ⟨b6, 0, none⟩) (by show g < b6; omega) (.string D1)).setOwn (q := ⟨b6, 1, none⟩) (by show g < b6; omega) (.string P')).setOwn (q := ⟨b6, 2, none⟩) (by show g < b6; omega) (.int .i64 z'))
     clear a0 a1 a2 af0 af1 af2 h6 hS hC hbb h6b
     go_wp2
     go_roundw
     case rel => exact ⟨j - 1, _, _, _, by omega, by go_num, hszb, HR.out, HS.out, HC.out⟩
     case measure => simp [intOf]; omega
    ·have hki : ¬ ((0 : Int) < (j : Int)) := by omega
     have hbx := hS.box
     obtain ⟨e0, e1, e2, e3, e4, e5, e6, e7⟩ := cells8 hbx
     have ef := fz hbx
     have hne : b5 ≠ b6 := by omega
     have hne2 : b6 ≠ b5 := by omega
     have HS := lh (hS.log hbx D1 Q1 z1)
     have HC := lh (((hC.setOwn (q := ⟨b5, 5, none⟩) hg2 (.string D1)).setOwn (q := ⟨b5, 6, none⟩) hg2 (.string Q1)).setOwn (q := ⟨b5, 7, none⟩) hg2 (.int .i64 z1))
     clear hS hC hbx h6
     go_wp2_with fail
     go_meet
     case rel => exact ⟨_, _, _, by omega, by omega, HS.out, HC.out.weaken (by omega)⟩
 case rest =>
  clear hD hQ hS hC
  obtain ⟨D2, Q2, z2, hD, hQ, hS, hC⟩ := hcut
  obtain ⟨w7, hw7⟩ : ∃ v, wc = v := ⟨_, rfl⟩
  rw [hw7] at hS hC
  try rw [hw7]
  clear hw7 wc
  have h5 := hS.box
  obtain ⟨e0, e1, e2, e3, e4, e5, e6, e7⟩ := cells8 h5
  clear h5
  go_wp2_with fail
  refine (command_any g n c _ A B' m c' (w.heap.size + 2) w7.heap.size (lf L) I H S P D2 Q2 z2 w7 hC hn (by omega) (own_sl hS.own) (by have := hS.g1; omega) (by omega) hle hbd).mono ?_
  rintro e w8 ⟨s0, rfl, hs0, hC, hf⟩
  have hS := hS.step hf
  clear hf
  clear e0 e1 e2 e3 e4 e5 e6 e7
  go_wp2_with fail
  refine (one_any g n c _ 8 A w8 hC hn (by omega) (by omega) (by omega)).mono ?_
  rintro e w9 ⟨b8, rfl, hC, hf⟩
  have hS := hS.step hf
  clear hf
  go_upto_if 36 with fail
  go_cut [8] (fun s8 wx => ∃ s : ByteArray, s8 = .string s ∧ s.size ≤ 101 ∧ DS w wx g b5 B' m c' L I H S P D2 Q2 z2 ∧ Cur wx g A n c 2100)
  case first =>
   cases b8 with
   | false =>
    go_wp2_with fail
    go_meet
    case rel => exact ⟨_, rfl, by omega, hS, hC.weaken (by omega)⟩
   | true =>
    go_wp2_with fail
    refine (spoilt7_any s0 (by omega) g n c _ A w9 hC hn (by omega)).mono ?_
    rintro e w10 ⟨s1, rfl, hs1, hC, hf⟩
    have hS := hS.step hf
    clear hf
    go_wp2_with fail
    go_meet
    case rel => exact ⟨_, rfl, by omega, hS, hC.weaken (by omega)⟩
  case rest =>
   clear hS hC
   obtain ⟨s9, rfl, hs9, hS, hC⟩ := hcut
   obtain ⟨wz, hwz⟩ : ∃ v, wc = v := ⟨_, rfl⟩
   rw [hwz] at hS hC
   try rw [hwz]
   clear hwz wc
   have h5 := hS.box
   have h2 := hS.zero
   obtain ⟨e0, e1, e2, e3, e4, e5, e6, e7⟩ := cells8 h5
   obtain ⟨r0, r1, r2, r3, r4, r5, r6, r7⟩ := cells8 h2
   have rf := fz h2
   have H2 := lh h2
   have HS := lh hS
   have hne : b5 ≠ w.heap.size := by have := hS.g1; have := hS.g2; omega
   have hne2 : w.heap.size ≠ b5 := hne.symm
   clear h2 h5 hS hC
   go_wp2
   obtain ⟨wq, hwq⟩ : ∃ wq, wq = ((((((((wz.setCell ⟨w.heap.size, 0, none⟩ (.slice B' m c')).setCell ⟨w.heap.size, 1, none⟩ (.int .i64 I)).setCell ⟨w.heap.size, 2, none⟩ (.int .i64 H)).setCell ⟨w.heap.size, 3, none⟩ (.int .i64 S)).setCell ⟨w.heap.size, 4, none⟩ (.int .i64 P)).setCell ⟨w.heap.size, 5, none⟩ (.string D2)).setCell ⟨w.heap.size, 6, none⟩ (.string Q2)).setCell ⟨w.heap.size, 7, none⟩ (.int .i64 z2)) := ⟨_, rfl⟩
   rw [← hwq]
   have q0 : cE wq w.heap.size 0 (.slice B' m c') := by rw [hwq]; go_simp
   have q1 : cI wq w.heap.size 1 I := by rw [hwq]; go_simp
   have q2 : cI wq w.heap.size 2 H := by rw [hwq]; go_simp
   have q3 : cI wq w.heap.size 3 S := by rw [hwq]; go_simp
   have q4 : cI wq w.heap.size 4 P := by rw [hwq]; go_simp
   have q5 : cE wq w.heap.size 5 (.string D2) := by rw [hwq]; go_simp
   have q6 : cE wq w.heap.size 6 (.string Q2) := by rw [hwq]; go_simp
   have q7 : cI wq w.heap.size 7 z2 := by rw [hwq]; go_simp
   have no : ∀ j : Nat, (Value.slice B' m c').ownBlock ≠ some (⟨w.heap.size, j, none⟩ : Addr).block := fun j e => row_none_ne HS.out.own H2.out (by decide) e
   have hq := (ownsRow_setCell_other (ownsRow_setCell_other (ownsRow_setCell_other (ownsRow_setCell_other (ownsRow_setCell_other (ownsRow_setCell_other (ownsRow_setCell_other (ownsRow_setCell_other HS.out.own (no 0) (.slice B' m c')) (no 1) (.int .i64 I)) (no 2) (.int .i64 H)) (no 3) (.int .i64 S)) (no 4) (.int .i64 P)) (no 5) (.string D2)) (no 6) (.string Q2)) (no 7) (.int .i64 z2))
   have hBq := ((((((((HS.out.be.setCell (p := ⟨w.heap.size, 0, none⟩) nL (.slice B' m c')).setCell (p := ⟨w.heap.size, 1, none⟩) nL (.int .i64 I)).setCell (p := ⟨w.heap.size, 2, none⟩) nL (.int .i64 H)).setCell (p := ⟨w.heap.size, 3, none⟩) nL (.int .i64 S)).setCell (p := ⟨w.heap.size, 4, none⟩) nL (.int .i64 P)).setCell (p := ⟨w.heap.size, 5, none⟩) nL (.string D2)).setCell (p := ⟨w.heap.size, 6, none⟩) nL (.string Q2)).setCell (p := ⟨w.heap.size, 7, none⟩) nL (.int .i64 z2))
   rw [← hwq] at hq hBq
   obtain ⟨B9, c9, e9, hd⟩ := drawnRow_of 4 hq (show w.heap.size ≤ w.heap.size + 2 by omega)
   cases e9
   clear hwq HS H2
   try simp only [Exit.inBlock, Exit.then]
   refine bodyPost_ret (by simp [results, Tryz.results36, go_sem, q0, q1, q2, q3, q4, q5, q6, q7]; try rfl) rfl ?_
   exact ⟨_, _, _, _, _, _, _, _, _, _, _, _, rfl, hm7, by omega, by omega, by omega, hd, hBq⟩
theorem sl_cellsL {w : World} {lo hi n : Nat} {A : Option Addr} {f : Nat → Int} (h : Sl w lo hi 4 A n (lf (cellsL f n))) : Sl w lo hi 4 A n f := h.congr (fun j hj => lf_cells f n hj)
theorem cellB9 {a b : World} {p : Addr} {v : Value} (e : a.cell? p = some v) (h : bW a b) : b.cell? p = some v := (h.cell (World.block_lt_of_cell? _ _ e)).trans e
theorem FnConsole_walk (A0 : Option Addr) (n0 c0 : Nat) (w : World) (hnc0 : n0 ≤ c0) (hcm0 : c0 ≤ maxLen) (hk0 : Code w A0 n0) (ht : Tab w) (hm : Mx w) (he : Er w) :
  Calls Tryz.prog 8 #[.slice A0 n0 c0] w fun e w' => e = .returned (.bool true) ∧ bW w w' := by
 by_cases hbig : 65536 < n0
 ·go_enter Tryz.func8, Tryz.ntmps8
  go_wp2_with fail
  refine (vBig_any A0 n0 c0 w).mono ?_
  rw [decide_eq_true hbig]
  rintro e w1 ⟨rfl, rfl⟩
  go_wp2
  go_ret
  exact ⟨rfl, Below.refl _ _⟩
 go_enter Tryz.func8, Tryz.ntmps8
 go_wp2_with fail
 refine (vBig_any A0 n0 c0 w).mono ?_
 rw [decide_eq_false hbig]
 rintro e wx ⟨rfl, hwx⟩
 rw [hwx]
 clear hwx wx
 go_wp2_with fail
 refine (DrawExecuteCommand_any A0 n0 c0 w hk0 (by omega)).mono ?_
 rintro e w1 ⟨B0, m0, cm0, L0, I0, H0, S0, P0, D, Q, z, s, rfl, hm0, hD, hQ, hs, hd, hB⟩
 have HT := lh ht
 have HM := lh hm
 have HE := lh he
 clear hk0 ht hm he
 have BX := hB
 clear hB
 have hs0 := hd.own.sl
 have hle0 := hd.le
 have hn0 := hd.nil
 clear hd
 go_upto_region 4 with fail
 refine name_wp ?_
 intro v1 hw
 have hb := ba hw
 have hr3 := an hw
 clear hw
 have sz1 := hb.size
 have BX := below_of BX hb BX.size
 have hs0 := hs0.below hb
 clear hb
 have j3 := rowLt hr3
 obtain ⟨x3, hq3⟩ : ∃ q, w1.heap.size = q := ⟨_, rfl⟩
 rw [hq3] at hr3 j3
 try rw [hq3]
 clear hq3
 obtain ⟨go, L2, m2, I2, H2, S2, P2, Q2, z2, r, gv, g2, hm2, hQ2, HY, HN, HI, HS, HVI, HVS, HV2⟩ : ∃ (go : Bool) (L2 : List Int) (m2 : Nat) (I2 H2 S2 P2 : Int) (Q2 : ByteArray) (z2 : Int) (r : ByteArray) (gv g2 : Bool), m2 ≤ 1048576 ∧ Q2.size ≤ 1048576 ∧
   Hid (go = true → ∃ k : Nat, k ≤ 60 ∧ z = (k : Int) ∧ z2 = (k : Int) + 1 ∧ lrN D Q2 z2 = k + 1 ∧ lrF D Q2 (k * 2) = s ∧ lrF D Q2 (k * 2 + 1) = r ∧ g2 = true ∧ logOk D Q2 z2 = true) ∧
   Hid (go = false → L2 = cellsL (lf L0) m0 ∧ m2 = m0 ∧ I2 = I0 ∧ H2 = H0 ∧ S2 = S0 ∧ P2 = P0 ∧ Q2 = Q ∧ z2 = z ∧ (r = ⟨#[110, 111]⟩ ∨ r = ⟨#[98, 97, 100]⟩ ∨ r = ⟨#[102, 117, 108, 108]⟩)) ∧
   Hid (∀ (W : World) (lo hi : Nat), Sl W lo hi 4 B0 m0 (lf L0) → Tab W → Mx W → Er W → Calls Tryz.prog 12 #[.agg (cB B0 m0 cm0 I0 H0 S0 P0 D Q z), .string s] W fun e w' => ∃ (A' : Option Addr) (c' : Nat), e = .returned (.tuple #[.agg (cB A' m2 c' I2 H2 S2 P2 D Q2 z2), .string r]) ∧ m2 ≤ c' ∧ w'.ownsRow W.heap.size 97 4 (.slice A' m2 c') m2 (L2.map (Value.int .i64)) ∧ bW W w') ∧ Hid (∀ (W : World) (lo hi : Nat), Sl W lo hi 4 B0 m0 (lf L0) → Calls Tryz.prog 10 #[.agg (cB B0 m0 cm0 I0 H0 S0 P0 D Q z), .string s] W fun e w' => ∃ (A' : Option Addr) (c' : Nat), e = .returned (.tuple #[.agg (cB A' m2 c' I2 H2 S2 P2 D Q2 z2), .string r]) ∧ m2 ≤ c' ∧ w'.ownsRow W.heap.size 97 4 (.slice A' m2 c') m2 (L2.map (Value.int .i64)) ∧ bW W w') ∧
   Hid (∀ (W : World) (lo hi : Nat), Sl W lo hi 4 B0 m0 (lf L0) → Tab W → Mx W → Calls Tryz.prog 37 #[.agg (cB B0 m0 cm0 I0 H0 S0 P0 D Q z)] W fun e w' => e = .returned (.bool gv) ∧ bW W w') ∧ Hid (∀ (W : World) (lo hi : Nat), Sl W lo hi 4 B0 m0 (lf L0) → Calls Tryz.prog 38 #[.agg (cB B0 m0 cm0 I0 H0 S0 P0 D Q z)] W fun e w' => e = .returned (.bool gv) ∧ bW W w') ∧ Hid (∀ (W : World) (lo hi : Nat) (A : Option Addr) (c : Nat), Sl W lo hi 4 A m2 (lf L2) → m2 ≤ c → Tab W → Mx W → Calls Tryz.prog 37 #[.agg (cB A m2 c I2 H2 S2 P2 D Q2 z2)] W fun e w' => e = .returned (.bool g2) ∧ bW W w') := by
  have hfit : Fit ⟨lf L0, m0, I0, H0, S0, P0, D, Q, z⟩ := ⟨by show m0 ≤ 1048576; omega, hD, hQ⟩
  have hf2 := hfit.next s
  refine ⟨xcGo (lf L0) m0 I0 H0 S0 P0 D Q z s, xcL (lf L0) m0 I0 H0 S0 P0 D Q z s, xcN (lf L0) m0 I0 H0 S0 P0 D Q z s, xcI (lf L0) m0 I0 H0 S0 P0 D Q z s, xcH (lf L0) m0 I0 H0 S0 P0 D Q z s, xcS (lf L0) m0 I0 H0 S0 P0 D Q z s, xcP (lf L0) m0 I0 H0 S0 P0 D Q z s, xcQ (lf L0) m0 I0 H0 S0 P0 D Q z s, xcZ (lf L0) m0 I0 H0 S0 P0 D Q z s, xcR (lf L0) m0 I0 H0 S0 P0 D Q z s, (goodWorks (lf L0) m0 I0 H0 S0 P0 && logOk D Q z), (goodWorks (lf (xcL (lf L0) m0 I0 H0 S0 P0 D Q z s)) (xcN (lf L0) m0 I0 H0 S0 P0 D Q z s) (xcI (lf L0) m0 I0 H0 S0 P0 D Q z s) (xcH (lf L0) m0 I0 H0 S0 P0 D Q z s) (xcS (lf L0) m0 I0 H0 S0 P0 D Q z s) (xcP (lf L0) m0 I0 H0 S0 P0 D Q z s) && logOk D (xcQ (lf L0) m0 I0 H0 S0 P0 D Q z s) (xcZ (lf L0) m0 I0 H0 S0 P0 D Q z s)), hf2.1, hf2.2.2, ?_, ?_, ?_, ?_, ?_, ?_, ?_⟩
  ·intro h
   obtain ⟨k, h1, h2, h3, h4, h5, h6, h7, h8⟩ := cons_yes h
   exact ⟨k, h1, h2, h3, h4, h5, h6, by rw [h7, h8]; rfl, h8⟩
  ·intro h
   obtain ⟨h1, h2, h3, h4, h5, h6, h7, h8⟩ := no_keep h
   exact ⟨h1, h2, h3, h4, h5, h6, h7, h8, no_says h⟩
  ·exact fun W lo hi h1 ht hm he => ExecuteCommand_any B0 m0 cm0 lo hi (lf L0) I0 H0 S0 P0 D Q z s W h1 (by omega) hle0 hn0 hD hQ (by omega) ht hm he
  ·exact fun W lo hi h1 => sExecuteCommand_any B0 m0 cm0 lo hi (lf L0) I0 H0 S0 P0 D Q z s W h1 (by omega) hle0 hn0 hD hQ (by omega)
  ·exact fun W lo hi h1 ht hm => IsValidConsole_any B0 m0 cm0 lo hi (lf L0) I0 H0 S0 P0 D Q z W h1 (by omega) hle0 hD hQ ht hm
  ·exact fun W lo hi h1 => sIsValidConsole_any B0 m0 cm0 lo hi (lf L0) I0 H0 S0 P0 D Q z W h1 (by omega) hle0 hD hQ
  ·exact fun W lo hi A c h1 hc ht hm => IsValidConsole_any A _ c lo hi _ _ _ _ _ D _ _ W h1 hf2.1 hc hD hf2.2.2 ht hm
 obtain ⟨e0, e1, e2, e3, e4, e5, e6, e7⟩ := cells8 hr3
 go_wp2_with fail
 refine (HI.out v1 _ _ hs0 (HT.out.below BX) (HM.out.below BX) (HE.out.below BX)).mono ?_
 rintro e v2 ⟨A5, c5, rfl, hc5, hown, hb⟩
 have sz2 := hb.size
 have BX := below_of BX hb BX.size
 have hr3 := rowB hr3 hb
 have hs0 := hs0.below hb
 clear hb
 have hs5 := own_sl hown
 clear hown
 clear e0 e1 e2 e3 e4 e5 e6 e7
 go_upto_region 5 with fail
 refine name_wp ?_
 intro v3 hw
 have hb := ba hw
 have hr5 := an hw
 clear hw
 have sz3 := hb.size
 have BX := below_of BX hb BX.size
 have hr3 := rowB hr3 hb
 have hs0 := hs0.below hb
 have hs5 := hs5.below hb
 clear hb
 have j5 := rowLt hr5
 obtain ⟨x5, hq5⟩ : ∃ q, v2.heap.size = q := ⟨_, rfl⟩
 rw [hq5] at hr5 j5
 try rw [hq5]
 clear hq5
 obtain ⟨e0, e1, e2, e3, e4, e5, e6, e7⟩ := cells8 hr3
 go_wp2_with fail
 refine (HS.out v3 _ _ hs0).mono ?_
 rintro e v4 ⟨A7, c7, rfl, hc7, hown, hb⟩
 have sz4 := hb.size
 have BX := below_of BX hb BX.size
 have hr3 := rowB hr3 hb
 have hr5 := rowB hr5 hb
 have hs0 := hs0.below hb
 have hs5 := hs5.below hb
 clear hb
 have hs7 := own_sl hown
 clear hown
 clear e0 e1 e2 e3 e4 e5 e6 e7
 go_upto_region 6 with fail
 refine name_wp ?_
 intro v5 hw
 have hb := ba hw
 have hr7 := an hw
 clear hw
 have sz5 := hb.size
 have BX := below_of BX hb BX.size
 have hr3 := rowB hr3 hb
 have hr5 := rowB hr5 hb
 have hs0 := hs0.below hb
 have hs5 := hs5.below hb
 have hs7 := hs7.below hb
 clear hb
 have j7 := rowLt hr7
 obtain ⟨x7, hq7⟩ : ∃ q, v4.heap.size = q := ⟨_, rfl⟩
 rw [hq7] at hr7 j7
 try rw [hq7]
 clear hq7
 clear HI HS
 go_upto_region 6 with fail
 go_cut [45] (fun sb wx => sb = .bool false ∧ bW v5 wx)
 case first =>
  have HF : Hid (∀ w', bW v5 w' → cE w' x5 0 (.slice A5 m2 c5) ∧ cI w' x5 1 I2 ∧ cI w' x5 2 H2 ∧ cI w' x5 3 S2 ∧ cI w' x5 4 P2 ∧ cE w' x5 5 (.string D) ∧ cE w' x5 6 (.string Q2) ∧ cI w' x5 7 z2 ∧ cE w' x7 0 (.slice A7 m2 c7) ∧ cI w' x7 1 I2 ∧ cI w' x7 2 H2 ∧ cI w' x7 3 S2 ∧ cI w' x7 4 P2 ∧ cE w' x7 5 (.string D) ∧ cE w' x7 6 (.string Q2) ∧ cI w' x7 7 z2 ∧ cE w' x3 0 (.slice B0 m0 cm0) ∧ cI w' x3 1 I0 ∧ cI w' x3 2 H0 ∧ cI w' x3 3 S0 ∧ cI w' x3 4 P0 ∧ cE w' x3 5 (.string D) ∧ cE w' x3 6 (.string Q) ∧ cI w' x3 7 z) := fun w' hq => by
   have h5 := rowB hr5 hq
   have h7 := rowB hr7 hq
   have h3 := rowB hr3 hq
   exact ⟨by rw [cell_of_row w' x5 0 _ _ (0, 0) h5]; rfl, by rw [cell_of_row w' x5 1 _ _ (0, 0) h5]; rfl, by rw [cell_of_row w' x5 2 _ _ (0, 0) h5]; rfl, by rw [cell_of_row w' x5 3 _ _ (0, 0) h5]; rfl, by rw [cell_of_row w' x5 4 _ _ (0, 0) h5]; rfl, by rw [cell_of_row w' x5 5 _ _ (0, 0) h5]; rfl, by rw [cell_of_row w' x5 6 _ _ (0, 0) h5]; rfl, by rw [cell_of_row w' x5 7 _ _ (0, 0) h5]; rfl, by rw [cell_of_row w' x7 0 _ _ (0, 0) h7]; rfl, by rw [cell_of_row w' x7 1 _ _ (0, 0) h7]; rfl, by rw [cell_of_row w' x7 2 _ _ (0, 0) h7]; rfl, by rw [cell_of_row w' x7 3 _ _ (0, 0) h7]; rfl, by rw [cell_of_row w' x7 4 _ _ (0, 0) h7]; rfl, by rw [cell_of_row w' x7 5 _ _ (0, 0) h7]; rfl, by rw [cell_of_row w' x7 6 _ _ (0, 0) h7]; rfl, by rw [cell_of_row w' x7 7 _ _ (0, 0) h7]; rfl, cells8 h3⟩
  have hrr : (r.toList != r.toList) = false := bne_self_eq_false _
  refine wp_region_held_drew (S := fun w' => bW v5 w') (by kernel_rfl) ((Below.refl _ _).drew) (fun jd => ?_)
  obtain ⟨y0, hv0⟩ : ∃ v, v5.drew = v := ⟨_, rfl⟩
  rw [hv0] at jd ⊢
  clear hv0
  refine tj4 0 30 1 31 2 32 3 33 HF jd ?_
  refine tj2 4 34 5 35 HF jd ?_
  refine wpAnyH_ready (rs := [6]) (by kernel_rfl) (by simp) ?_
  refine (AllReadyH.cons rfl (fun K hK => ?_) AllReadyH.nil)
  go_simp
  refine (vConsole_same A5 A7 m2 c5 c7 _ _ _ _ (lf L2) I2 H2 S2 P2 D Q2 z2 y0 (hs5.below jd) (hs7.below jd) hm2).mono ?_
  rintro e y1 ⟨rfl, hb2⟩
  refine hK.out _ _ (jd.trans (hb2.mono jd.size)) (fun jd => ?_)
  clear hK K hb2
  refine tj4 7 37 8 38 9 39 10 40 HF jd ?_
  refine tj 12 42 HF rfl jd ?_
  refine wpAnyH_ready (rs := [11]) (by kernel_rfl) (by simp) ?_
  refine (AllReadyH.cons rfl (fun K hK => ?_) AllReadyH.nil)
  go_simp
  refine (HVI.out y1 _ _ (hs0.below jd) (HT.out.below (BX.trans (jd.mono BX.size))) (HM.out.below (BX.trans (jd.mono BX.size)))).mono ?_
  rintro e y2 ⟨rfl, hb2⟩
  refine hK.out _ _ (jd.trans (hb2.mono jd.size)) (fun jd => ?_)
  clear hK K hb2
  refine wpAnyH_ready (rs := [13]) (by kernel_rfl) (by simp) ?_
  refine (AllReadyH.cons rfl (fun K hK => ?_) AllReadyH.nil)
  go_simp
  refine (HVS.out y2 _ _ (hs0.below jd)).mono ?_
  rintro e y3 ⟨rfl, hb2⟩
  refine hK.out _ _ (jd.trans (hb2.mono jd.size)) (fun jd => ?_)
  clear hK K hb2
  have hgg : (gv != gv) = false := by simp
  refine tj2 14 44 15 45 HF jd ?_
  refine wpAnyH_done (by kernel_rfl) ?_ _
  go_wp2_with fail
  go_meet
  case rel => exact ⟨rfl, jd⟩
 case rest =>
  obtain ⟨rfl, hb⟩ := hcut
  obtain ⟨v6, hwe⟩ : ∃ v, wc = v := ⟨_, rfl⟩
  rw [hwe] at hb
  try rw [hwe]
  clear hwe wc HVI HVS hr7 hs7
  have sz6 := hb.size
  have BX := below_of BX hb BX.size
  have hr3 := rowB hr3 hb
  have hr5 := rowB hr5 hb
  have hs0 := hs0.below hb
  have hs5 := hs5.below hb
  clear hb
  obtain ⟨d0, d1, d2, d3, d4, d5, d6, d7⟩ := cells8 hr5
  obtain ⟨e0, e1, e2, e3, e4, e5, e6, e7⟩ := cells8 hr3
  cases go with
  | false =>
   obtain ⟨rfl, rfl, rfl, rfl, rfl, rfl, rfl, rfl, hr⟩ := HN.out rfl
   clear HN HY HV2
   have hs5 := sl_cellsL hs5
   go_wp2_with fail
   refine (vConsole_same A5 B0 _ c5 cm0 _ _ _ _ (lf L0) _ _ _ _ D _ _ v6 hs5 hs0 hm2).mono ?_
   rintro e v7 ⟨rfl, hb⟩
   have BX := below_of BX hb BX.size
   clear hb hs5 hs0
   clear d0 d1 d2 d3 d4 d5 d6 d7
   clear e0 e1 e2 e3 e4 e5 e6 e7
   rcases hr with rfl | rfl | rfl
   all_goals
    go_wp2
    go_ret
    exact ⟨rfl, BX⟩
  | true =>
   obtain ⟨k, hk, rfl, rfl, hN, hfs, hfr, rfl, hlk⟩ := HY.out rfl
   clear HN HY
   have hkk : ((k : Int) + 1 == (k : Int)) = false := by simp; omega
   have hkw : IntKind.i64.wrap ((k : Int) + 1) = (k : Int) + 1 := IntWalk.i64_in _ (by omega)
   go_wp2_with fail
   refine (LogRecords_any D Q2 ((k : Int) + 1) hD hQ2 v6 (HT.out.below BX) (HM.out.below BX)).mono ?_
   rintro e v8 ⟨A9, c9, rfl, hle9, _, hown9, hb⟩
   rw [hlk]
   rw [hN] at hown9 hle9
   try rw [hN]
   obtain ⟨b9, o9, rfl, hb9l, hb9h, hc9⟩ := hown9.sl.here (by omega)
   have d9a := hc9 (k * 2) (by omega)
   have d9b := hc9 (k * 2 + 1) (by omega)
   rw [hfs] at d9a
   rw [hfr, ← Nat.add_assoc] at d9b
   clear hc9 hown9 hfs hfr hlk hN
   clear d0 d1 d2 d3 d4 d5 d6 d7
   clear e0 e1 e2 e3 e4 e5 e6 e7
   have sz8 := hb.size
   have BX := below_of BX hb BX.size
   have hr3 := rowB hr3 hb
   have hr5 := rowB hr5 hb
   have hs0 := hs0.below hb
   have hs5 := hs5.below hb
   clear hb
   obtain ⟨d0, d1, d2, d3, d4, d5, d6, d7⟩ := cells8 hr5
   obtain ⟨e0, e1, e2, e3, e4, e5, e6, e7⟩ := cells8 hr3
   have hk1 : ((k + 1 : Nat) : Int) = (k : Int) + 1 := by omega
   go_wp2_with fail
   refine (HV2.out v8 _ _ A5 c5 hs5 hc5 (HT.out.below BX) (HM.out.below BX)).mono ?_
   rintro e v9 ⟨rfl, hb⟩
   have d9a := cellB9 d9a hb
   have d9b := cellB9 d9b hb
   clear d0 d1 d2 d3 d4 d5 d6 d7
   clear e0 e1 e2 e3 e4 e5 e6 e7
   have sz9 := hb.size
   have BX := below_of BX hb BX.size
   have hr3 := rowB hr3 hb
   have hr5 := rowB hr5 hb
   have hs0 := hs0.below hb
   have hs5 := hs5.below hb
   clear hb
   obtain ⟨d0, d1, d2, d3, d4, d5, d6, d7⟩ := cells8 hr5
   obtain ⟨e0, e1, e2, e3, e4, e5, e6, e7⟩ := cells8 hr3
   have hix : ((k : Int) + 1 - 1).toNat = k := by omega
   have hkv : IntKind.i64.wrap ((k : Int) + 1 - 1) = (k : Int) := by rw [IntWalk.i64_in _ (by omega)]; omega
   have hk0 : (0 : Int) ≤ (k : Int) := by omega
   have hkl : (k : Int) < (k : Int) + 1 := by omega
   have hkt : ((k : Int)).toNat = k := by omega
   go_wp2
   go_ret
   exact ⟨by simp, BX⟩
end Go.Proofs.YtpndjhelpoenpaaGreatDoor
