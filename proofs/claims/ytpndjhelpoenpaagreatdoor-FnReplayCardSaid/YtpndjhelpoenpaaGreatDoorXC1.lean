/-
  Texts of this claim, merged.
-/
import Derived.Test.YtpndjhelpoenpaaGreatDoorXA3
set_option linter.unusedVariables false
set_option linter.unusedSimpArgs false
set_option maxRecDepth 100000
set_option maxHeartbeats 8000000
namespace Go.Proofs.YtpndjhelpoenpaaGreatDoor
open Go.RowKit
theorem y90 {P Q : Prop} (k : Q) (h : ZK Q → P := by
 intro zK
 refine nameWS ?_
 intro w1 hw1
 have hz1 := an hw1
 have hF1 : Fr g (g + 1) w w1 := by rw [hw1]; exact (Fr.refl _ _ w).alloc' _
 have hC : Cur w1 g A n c (p + 0) := by rw [hw1]; exact hC0.alloc _
 have hs1 : w.heap.size < w1.heap.size := (gL hz1)
 revert w1 hw1 hz1 hF1 hC hs1
 exact zK.1) : P := h ⟨k⟩
theorem y91 {P Q : Prop} (k : Q) (h : ZK Q → P := by
 intro zK K hK hS2
 refine hK.out _ _ hS2 (fun jd => ?_)
 clear hK K hS2
 revert jd
 exact zK.1) : P := h ⟨k⟩
theorem y92 {P Q : Prop} (k : Q) (h : ZK Q → P := by
 intro zK
 refine (AllReadyH.cons rfl (fun K hK => ?_) AllReadyH.nil)
 revert K hK
 exact zK.1) : P := h ⟨k⟩
theorem y93 {P : Prop} (h : P := by
 intro v9 hh hgw hS3
 clear jd
 have jd := hS3
 clear hS3
 have hh : v9.heap[g5]? = some (.cells (wB Ar m2 cr I2 H2 S2 P2) 32 (0, 0)) := hh
 have hown := own_other hown h8 (by decide) hgw
 have hC := hC.grown hgw (by omega)
 clear h8 hgw
 refine tj 10 6 HF rfl jd ?_
 refine y94 ?_
 intro hkw
 clear HF
 cases ok with
 | false =>
  have HIN : Hid (WIn w v9 g A n c (p + 2 + 20 * (35 - (k - 1))) b3) := ⟨_, _, _, _, _, _, _, _, jd, HGS.out, hC.weaken (by omega)⟩
  clear jd hC hh hown
  exact y95
 | true =>
  have hne : g5 ≠ b3 := by omega
  have hne2 : b3 ≠ g5 := by omega
  have hbx := jd.box
  obtain ⟨y0, y1, y2, y3, y4⟩ := cells5 hh
  obtain ⟨e0, e1, e2, e3, e4⟩ := cells5 hbx
  have ef := fz hbx
  have HX := lh hbx
  have HO := lh hown
  have HH := lh jd
  have HC := lh hC
  clear hbx hown jd hC hh
  go_upto_region 4 with fail
  refine nameWS ?_
  intro w8 hw8'
  have hw8 : w8 = (((((v9.setCell ⟨b3, 0, none⟩ (.slice Ar m2 cr)).setCell ⟨b3, 1, none⟩ (.int .i64 I2)).setCell ⟨b3, 2, none⟩ (.int .i64 H2)).setCell ⟨b3, 3, none⟩ (.int .i64 S2)).setCell ⟨b3, 4, none⟩ (.int .i64 P2)) := hw8'
  clear hw8' e0 e1 e2 e3 e4 ef y0 y1 y2 y3 y4
  have hbx8 : w8.heap[b3]? = some (.cells (wB Ar m2 cr I2 H2 S2 P2) 32 (0, 0)) := by
   rw [hw8]
   exact (heap_setCell_same _ (b3) 4 (wB Ar m2 cr I2 H2 S2 P) 32 (.int .i64 P2) (heap_setCell_same _ (b3) 3 (wB Ar m2 cr I2 H2 S P) 32 (.int .i64 S2) (heap_setCell_same _ (b3) 2 (wB Ar m2 cr I2 H S P) 32 (.int .i64 H2) (heap_setCell_same _ (b3) 1 (wB Ar m2 cr I H S P) 32 (.int .i64 I2) (heap_setCell_same _ (b3) 0 (wB B' m c' I H S P) 32 (.slice Ar m2 cr) HX.out)))))
  have no0 : ∀ j : Nat, (Value.slice Ar m2 cr).ownBlock ≠ some (⟨b3, j, none⟩ : Addr).block := fun j e => row_none_ne HO.out HX.out (by decide) e
  have hown8 := (ownsRow_setCell_other (ownsRow_setCell_other (ownsRow_setCell_other (ownsRow_setCell_other (ownsRow_setCell_other HO.out (no0 0) (.slice Ar m2 cr)) (no0 1) (.int .i64 I2)) (no0 2) (.int .i64 H2)) (no0 3) (.int .i64 S2)) (no0 4) (.int .i64 P2))
  rw [← hw8] at hown8
  have hz8 : w8.heap[w.heap.size]? = some (.cells (wB none 0 0 0 0 0 0) 32 (0, 0)) := by
   rw [hw8]
   iterate 5 rw [heap_setCell_other _ _ _ _ (by show w.heap.size ≠ b3; omega)]
   exact HH.out.zero
  have hF8 : Fr g (g + 1) w w8 := by
   rw [hw8]
   exact ((((HH.out.fr.setOwn (j := 0) (p := ⟨b3, 0, none⟩) (by show _ ≤ b3; omega) _).setOwn (j := 0) (p := ⟨b3, 1, none⟩) (by show _ ≤ b3; omega) _).setOwn (j := 0) (p := ⟨b3, 2, none⟩) (by show _ ≤ b3; omega) _).setOwn (j := 0) (p := ⟨b3, 3, none⟩) (by show _ ≤ b3; omega) _).setOwn (j := 0) (p := ⟨b3, 4, none⟩) (by show _ ≤ b3; omega) _
  have hC8 : Cur w8 g A n c (p + 2 + 20 * (35 - k) + 20) := by
   rw [hw8]
   exact ((((HC.out.setOwn (q := ⟨b3, 0, none⟩) (by show g < b3; omega) _).setOwn (q := ⟨b3, 1, none⟩) (by show g < b3; omega) _).setOwn (q := ⟨b3, 2, none⟩) (by show g < b3; omega) _).setOwn (q := ⟨b3, 3, none⟩) (by show g < b3; omega) _).setOwn (q := ⟨b3, 4, none⟩) (by show g < b3; omega) _
  have HIN : Hid (WIn w w8 g A n c (p + 2 + 20 * (35 - (k - 1))) b3) := ⟨_, _, _, _, _, _, _, _, ⟨hF8, hbx8, hown8, hz8, hm1, hm2⟩, HGD.out rfl, hC8.weaken (by omega)⟩
  clear hw8 hbx8 hown8 hz8 hF8 hC8 HX HO HH HC no0
  exact y95) : P := h
theorem y94 {P Q : Prop} (k : Q) (h : ZK Q → P := by
 intro zK
 refine wpAnyH_done (by kernel_rfl) ?_ _
 have hkw : IntKind.i64.wrap ((k : Int) - 1) = ((k - 1 : Nat) : Int) := by rw [IntWalk.i64_in _ (by omega)]; omega
 revert hkw
 exact zK.1) : P := h ⟨k⟩
theorem y95 {P : Prop} (h : P := by
 go_wp2
 go_roundw
 case rel => exact ⟨k - 1, by omega, by go_num, HIN.out⟩
 case measure => simp [intOf]; omega) : P := h
theorem y96 {P Q : Prop} (k : Q) (h : ZK Q → P := by
 intro zK
 refine wpAnyH_ready (rs := [4]) (by kernel_rfl) (by simp) ?_
 exact zK.1) : P := h ⟨k⟩
theorem y97 {P Q : Prop} (k : Q) (h : ZK Q → P := by
 intro zK
 refine wpAnyH_ready (rs := [3]) (by kernel_rfl) (by simp) ?_
 exact zK.1) : P := h ⟨k⟩
theorem y98 {P Q : Prop} (k : Q) (h : ZK Q → P := by
 intro zK hW
 have hFd : Fr g (g + 1) w w5.drew := hW.fr.trans (Fr.of_below _ _ (below_drewN (Below.refl _ _) 1))
 have hC := hC.drewN 1
 have hbx : (w5.drewN 1).heap[b3]? = some (.cells (wB B' m c' I H S P) 32 (0, 0)) := hW.box
 have hzr : (w5.drewN 1).heap[w.heap.size]? = some (.cells (wB none 0 0 0 0 0 0) 32 (0, 0)) := hW.zero
 have hown := ownsRow_below hW.own (below_drewN (Below.refl _ w5) 1)
 have hmc := hW.le
 have hmx := hW.max
 clear hW
 refine wp_region_held_drew (S := fun w' => Fr g (g + 1) w w') (by kernel_rfl) hFd (fun jd => ?_)
 clear hFd
 revert hC hbx hzr hown hmc hmx jd
 exact zK.1) : P := h ⟨k⟩
theorem y99 {P Q : Prop} (k : Q) (h : ZK Q → P := by
 intro zK
 go_simp
 have hnb := (Below.refl _ v12).alloc nL (.cells (jV 1 (-1)) 3)
 have hL' := sl_lit [1, -1] (w := v12) (cs := (jV 1 (-1))) (T := 3) rfl
 have hLz : w.heap.size < v12.heap.size := (gL hzr)
 revert hnb hL' hLz
 exact zK.1) : P := h ⟨k⟩
theorem y910 {P Q : Prop} (k : Q) (h : ZK Q → P := by
 intro zK
 have hS2 := jd.trans (Fr.of_below g (g + 1) hnb)
 have hbx := rowB hbx hnb
 have hzr := rowB hzr hnb
 have hown := ownsRow_below hown hnb
 have hC := hC.below hnb
 revert hS2 hbx hzr hown hC
 exact zK.1) : P := h ⟨k⟩
theorem y911 {P Q : Prop} (k : Q) (h : ZK Q → P := by
 intro zK jd K hK hf
 refine y912 ?_
 intro hS2 hbx hzr hown
 clear hf jd
 revert K hK hS2
 refine y91 ?_
 intro jd
 revert hbx hzr hown jd
 exact zK.1) : P := h ⟨k⟩
theorem y912 {P Q : Prop} (k : Q) (h : ZK Q → P := by
 intro zK
 have hS2 := jd.trans hf
 have hbx := (hf.block _ (gL hbx) (Or.inr (by omega))).trans hbx
 have hzr := (hf.block _ (gL hzr) (Or.inr (by omega))).trans hzr
 have hown := own_step hown hg hf
 revert hS2 hbx hzr hown
 exact zK.1) : P := h ⟨k⟩
theorem y913 {P : Prop} (h : P := by
 refine y914 ?_
 intro hzr hC
 have hown := own_other hown hbx (by decide) hgw
 have hW := mk_wk hFn hh hown hzr hmc hmx
 clear hFn hh hown hzr hbx hgw
 refine wpAnyH_done (by kernel_rfl) ?_ _
 exact y915) : P := h
theorem y914 {P Q : Prop} (k : Q) (h : ZK Q → P := by
 intro zK
 have hzr := (hgw.block _ (gL hzr) (fun e => by have := Option.some.inj e; omega)).trans hzr
 have hC := hC.grown hgw (by omega)
 revert hzr hC
 exact zK.1) : P := h ⟨k⟩
theorem y915 {P : Prop} (h : P := by
 go_wp2_with fail
 go_meet
 case rel => exact ⟨_, _, _, _, _, _, _, _, hW, by omega, hC.weaken (by omega), HBD⟩) : P := h
theorem y916 {P Q : Prop} (k : Q) (h : ZK Q → P := by
 intro zK
 simp only [Act.put, p1, p2, p3]
 exact zK.1) : P := h ⟨k⟩
theorem y917 {P : Prop} (h : P := by
 exact N134679.out _ _ ⟨_, _, _, _, _, rfl, jd, hC.weaken (by omega), hbx, hzr, hown, hBza, hBzb, hsrc⟩) : P := h
theorem y918 {P Q : Prop} (k : Q) (h : ZK Q → P := by
 intro zK hN hkk
 have hBzb : Hid (Rg (([0, 5, 100001] : List Int).getD kk 0)) := rg_at (L := [0, 5, 100001]) ⟨by decide, by decide, by decide, trivial⟩ hkk
 clear hkk
 generalize (([0, 5, 100001] : List Int).getD kk 0) = zb at hBzb ⊢
 clear hN
 revert zb hBzb
 exact zK.1) : P := h ⟨k⟩
theorem y919 {P Q : Prop} (k : Q) (h : ZK Q → P := by
 intro zK
 go_simp
 have hnb := (Below.refl _ W).alloc nL (.cells #[.int .i64 0, .int .i64 5, .int .i64 100001] 3)
 have hN' := sl_lit [0, 5, 100001] (w := W) (cs := #[.int .i64 0, .int .i64 5, .int .i64 100001]) (T := 3) rfl
 have hNz : w.heap.size < W.heap.size := (gL hzr)
 revert hnb hN' hNz
 exact zK.1) : P := h ⟨k⟩
theorem y920 {P Q : Prop} (k : Q) (h : ZK Q → P := by
 intro zK hN' hNz
 obtain ⟨hNg, hNe⟩ : ∃ q, W.heap.size = q := ⟨_, rfl⟩
 rw [hNe] at hN' hNz
 try rw [hNe]
 clear hNe
 revert hNg hNz hN'
 exact zK.1) : P := h ⟨k⟩
theorem y921 {P : Prop} (h : P := by
 exact N1346.out _ _ ⟨_, _, _, rfl, jd, hC.weaken (by omega), hbx, hzr, hown, hN, hNz, hBza⟩) : P := h
theorem y922 {P Q : Prop} (k : Q) (h : ZK Q → P := by
 intro zK
 go_simp
 refine (among_any g n c _ 3 _ hMg (hMg + 1) A _ _ W hC hn (by omega) (by omega) (by omega) hM (by omega)).mono ?_
 exact zK.1) : P := h ⟨k⟩
theorem y923 {P Q : Prop} (k : Q) (h : ZK Q → P := by
 intro zK hM hkk
 have hBza : Hid (Rg (([0, 1, 99] : List Int).getD kk 0)) := rg_at (L := [0, 1, 99]) ⟨by decide, by decide, by decide, trivial⟩ hkk
 clear hkk
 generalize (([0, 1, 99] : List Int).getD kk 0) = za at hBza ⊢
 clear hM
 revert za hBza
 exact zK.1) : P := h ⟨k⟩
theorem y924 {P : Prop} (h : P := by
 exact N136.out _ _ ⟨_, _, rfl, jd, hC.weaken (by omega), hbx, hzr, hown, hM, hMz, hN, hNz⟩) : P := h
theorem y925 {P Q : Prop} (k : Q) (h : ZK Q → P := by
 intro zK
 go_simp
 have hnb := (Below.refl _ W).alloc nL (.cells #[.int .i64 0, .int .i64 1, .int .i64 99] 3)
 have hM' := sl_lit [0, 1, 99] (w := W) (cs := #[.int .i64 0, .int .i64 1, .int .i64 99]) (T := 3) rfl
 have hMz : w.heap.size < W.heap.size := (gL hzr)
 revert hnb hM' hMz
 exact zK.1) : P := h ⟨k⟩
theorem y926 {P Q : Prop} (k : Q) (h : ZK Q → P := by
 intro zK jd K hK
 have c1 : cE W b3 0 (.slice B' m c') := by rw [cell_of_row W b3 0 _ _ (0, 0) hbx]; rfl
 go_simp
 have hS2 := jd
 clear jd c1
 revert K hK hS2
 refine y91 ?_
 intro jd
 revert jd
 exact zK.1) : P := h ⟨k⟩
theorem y927 {P Q : Prop} (k : Q) (h : ZK Q → P := by
 intro zK
 have rf := fz hzr
 have HW := lh hW
 have HC := lh hC
 have hne : b3 ≠ w.heap.size := by omega
 have hne2 : w.heap.size ≠ b3 := by omega
 have HZ := lh hzr
 revert rf HW HC hne hne2 HZ
 exact zK.1) : P := h ⟨k⟩
theorem y928 {P Q : Prop} (k : Q) (h : ZK Q → P := by
 intro zK
 rw [← hwq]
 have q0 : cE wq w.heap.size 0 (.slice B' m c') := by rw [hwq]; go_simp
 have q1 : cI wq w.heap.size 1 I := by rw [hwq]; go_simp
 have q2 : cI wq w.heap.size 2 H := by rw [hwq]; go_simp
 have q3 : cI wq w.heap.size 3 S := by rw [hwq]; go_simp
 have q4 : cI wq w.heap.size 4 P := by rw [hwq]; go_simp
 revert q0 q1 q2 q3 q4
 exact zK.1) : P := h ⟨k⟩
theorem y929 {P Q : Prop} (k : Q) (h : ZK Q → P := by
 intro zK
 have no : ∀ j : Nat, (Value.slice B' m c').ownBlock ≠ some (⟨w.heap.size, j, none⟩ : Addr).block := fun j e => row_none_ne HW.out.own HZ.out (by decide) e
 revert no
 exact zK.1) : P := h ⟨k⟩
theorem y930 {P : Prop} (h : P := by
 intro wS hS
 have eF := HF.out wS hS
 go_simp
 first | with_reducible rfl | (refine ⟨?_, ?_⟩ <;> with_reducible rfl)) : P := h
theorem y931 {P : Prop} (h : P := by
 rintro e w2 ⟨rfl, hb2⟩
 refine ⟨?_, hS.trans (hb2.mono hS.size)⟩
 with_reducible rfl) : P := h
theorem y932 {P : Prop} (h : P := by
 clear hk
 by_cases k1 : a0 = 1
 ·subst k1
  exact y933
 have t1 : (a0 == 1) = false := by simp [k1]
 by_cases k2 : a0 = 2
 ·subst k2
  exact y933
 have t2 : (a0 == 2) = false := by simp [k2]
 by_cases k3 : a0 = 3
 ·subst k3
  exact y933
 have t3 : (a0 == 3) = false := by simp [k3]
 by_cases k4 : a0 = 4
 ·subst k4
  exact y933
 have t4 : (a0 == 4) = false := by simp [k4]
 by_cases k5 : a0 = 5
 ·subst k5
  exact y933
 have t5 : (a0 == 5) = false := by simp [k5]
 by_cases k6 : a0 = 6
 ·subst k6
  exact y933
 have t6 : (a0 == 6) = false := by simp [k6]
 exact y933) : P := h
theorem y933 {P : Prop} (h : P := by
 go_wp2
 go_ret
 exact ⟨_, rfl, by (try simp only [ByteArray.size_append', ByteArray.size_mk', List.size_toArray, List.length_cons, List.length_nil]); omega, HC4.out.weaken (by omega), HF4.out⟩) : P := h
theorem y934 {P : Prop} (h : P := by
 rintro e w5 ⟨s, rfl, hs5, hC5, hF5⟩
 have HC5 := lh hC5
 have HF5 := lh (HF4.out.trans hF5)
 clear hC5 hF5 hC4 HC4 HF4
 go_wp2
 go_ret
 exact ⟨_, rfl, by omega, HC5.out.weaken (by omega), HF5.out⟩) : P := h
theorem y935 {P : Prop} (h : P := by
 obtain ⟨B', m, c', L, I, H, S, P, D, Q, z, h1, h2⟩ := h
 exact ⟨B', m, c', L, I, H, S, P, D, Q, z, h1, h2.weaken hq⟩) : P := h
theorem y936 {P : Prop} (h : P := by
 rintro e w6 ⟨bb, rfl, hC, hf⟩
 have hW := hW.step hf hg (by omega)
 clear hf
 cases bb with
 | false =>
  have hbx := hW.box
  have hzr := hW.zero
  obtain ⟨e0, e1, e2, e3, e4, e5, e6, e7⟩ := cells8 hbx
  obtain ⟨r0, r1, r2, r3, r4, r5, r6, r7⟩ := cells8 hzr
  refine y927 ?_
  intro rf HW HC hne hne2 HZ
  clear hbx hzr hW hC
  go_wp2
  obtain ⟨wq, hwq⟩ : ∃ wq, wq = ((((((((w6.setCell ⟨w.heap.size, 0, none⟩ (.slice B' m c')).setCell ⟨w.heap.size, 1, none⟩ (.int .i64 I)).setCell ⟨w.heap.size, 2, none⟩ (.int .i64 H)).setCell ⟨w.heap.size, 3, none⟩ (.int .i64 S)).setCell ⟨w.heap.size, 4, none⟩ (.int .i64 P)).setCell ⟨w.heap.size, 5, none⟩ (.string D)).setCell ⟨w.heap.size, 6, none⟩ (.string Q)).setCell ⟨w.heap.size, 7, none⟩ (.int .i64 z)) := ⟨_, rfl⟩
  refine y928 ?_
  intro q0 q1 q2 q3 q4
  have q5 : cE wq w.heap.size 5 (.string D) := by rw [hwq]; go_simp
  have q6 : cE wq w.heap.size 6 (.string Q) := by rw [hwq]; go_simp
  have q7 : cI wq w.heap.size 7 z := by rw [hwq]; go_simp
  refine y929 ?_
  intro no
  have hOq := (ownsRow_setCell_other (ownsRow_setCell_other (ownsRow_setCell_other (ownsRow_setCell_other (ownsRow_setCell_other (ownsRow_setCell_other (ownsRow_setCell_other (ownsRow_setCell_other HW.out.own (no 0) (.slice B' m c')) (no 1) (.int .i64 I)) (no 2) (.int .i64 H)) (no 3) (.int .i64 S)) (no 4) (.int .i64 P)) (no 5) (.string D)) (no 6) (.string Q)) (no 7) (.int .i64 z))
  rw [← hwq] at hOq
  refine y937 ?_
  intro hFq
  have hCq : Cur wq g A n c (p + 1500) := by rw [hwq]; exact (((((((((HC.out.weaken (by omega) : Cur w6 g A n c (p + 1500)).setOwn (q := ⟨w.heap.size, 0, none⟩) hg _).setOwn (q := ⟨w.heap.size, 1, none⟩) hg _).setOwn (q := ⟨w.heap.size, 2, none⟩) hg _).setOwn (q := ⟨w.heap.size, 3, none⟩) hg _).setOwn (q := ⟨w.heap.size, 4, none⟩) hg _).setOwn (q := ⟨w.heap.size, 5, none⟩) hg _).setOwn (q := ⟨w.heap.size, 6, none⟩) hg _).setOwn (q := ⟨w.heap.size, 7, none⟩) hg _)
  exact y938
 | true =>
  go_wp2_with fail
  refine (anyLog_any g n c _ A w6 hC hn (by omega)).mono ?_
  rintro e w7 ⟨D1, Q1, z1, rfl, hsz, hC, hf⟩
  have hW := hW.step hf hg (by omega)
  clear hf
  have hbx := hW.box
  obtain ⟨e0, e1, e2, e3, e4, e5, e6, e7⟩ := cells8 hbx
  have ef := fz hbx
  go_upto_region 8 with fail
  refine nameWS ?_
  intro w8 hw8'
  have hw8 : w8 = (((w7.setCell ⟨b3, 5, none⟩ (.string D1)).setCell ⟨b3, 6, none⟩ (.string Q1)).setCell ⟨b3, 7, none⟩ (.int .i64 z1)) := hw8'
  have hbx8 : w8.heap[b3]? = some (.cells (cB B' m c' I H S P D1 Q1 z1) 35 (0, 0)) := by rw [hw8]; exact (heap_setCell_same _ b3 7 (cB B' m c' I H S P D1 Q1 z) 35 (.int .i64 z1) (heap_setCell_same _ b3 6 (cB B' m c' I H S P D1 Q z) 35 (.string Q1) (heap_setCell_same _ b3 5 (cB B' m c' I H S P D Q z) 35 (.string D1) hbx)))
  have no : ∀ j : Nat, (Value.slice B' m c').ownBlock ≠ some (⟨b3, j, none⟩ : Addr).block := fun j e => row_none_ne hW.own hbx (by decide) e
  have hown8 : w8.ownsRow w.heap.size 97 4 (.slice B' m c') m (L.map (Value.int .i64)) := by rw [hw8]; exact ownsRow_setCell_other (ownsRow_setCell_other (ownsRow_setCell_other hW.own (no 5) _) (no 6) _) (no 7) _
  have hz8 : w8.heap[w.heap.size]? = some (.cells (cB none 0 0 0 0 0 0 ⟨#[]⟩ ⟨#[]⟩ 0) 35 (0, 0)) := by
   rw [hw8]
   iterate 3 rw [heap_setCell_other _ _ _ _ (by show w.heap.size ≠ b3; omega)]
   exact hW.zero
  have hF8 : Fr g (g + 1) w w8 := by rw [hw8]; exact ((hW.fr.setOwn (j := 0) (p := ⟨b3, 5, none⟩) (by show _ ≤ b3; omega) _).setOwn (j := 0) (p := ⟨b3, 6, none⟩) (by show _ ≤ b3; omega) _).setOwn (j := 0) (p := ⟨b3, 7, none⟩) (by show _ ≤ b3; omega) _
  have hC8 : Cur w8 g A n c (p + 1450) := by rw [hw8]; exact (((hC.weaken (by omega) : Cur w7 g A n c (p + 1450)).setOwn (q := ⟨b3, 5, none⟩) (by show g < b3; omega) _).setOwn (q := ⟨b3, 6, none⟩) (by show g < b3; omega) _).setOwn (q := ⟨b3, 7, none⟩) (by show g < b3; omega) _
  have hW8 : KC w w8 g b3 B' m c' L I H S P D1 Q1 z1 := ⟨hF8, hbx8, hown8, hz8, hW.le, hW.m7, by omega, by omega, hW.bd⟩
  clear hw8' hw8 hbx hbx8 no hown8 hz8 hF8 ef hW hC e0 e1 e2 e3 e4 e5 e6 e7
  have hW := hW8
  have hC := hC8
  clear hW8 hC8
  have hbx := hW.box
  have hzr := hW.zero
  obtain ⟨e0, e1, e2, e3, e4, e5, e6, e7⟩ := cells8 hbx
  obtain ⟨r0, r1, r2, r3, r4, r5, r6, r7⟩ := cells8 hzr
  refine y927 ?_
  intro rf HW HC hne hne2 HZ
  clear hbx hzr hW hC
  go_wp2
  obtain ⟨wq, hwq⟩ : ∃ wq, wq = ((((((((w8.setCell ⟨w.heap.size, 0, none⟩ (.slice B' m c')).setCell ⟨w.heap.size, 1, none⟩ (.int .i64 I)).setCell ⟨w.heap.size, 2, none⟩ (.int .i64 H)).setCell ⟨w.heap.size, 3, none⟩ (.int .i64 S)).setCell ⟨w.heap.size, 4, none⟩ (.int .i64 P)).setCell ⟨w.heap.size, 5, none⟩ (.string D1)).setCell ⟨w.heap.size, 6, none⟩ (.string Q1)).setCell ⟨w.heap.size, 7, none⟩ (.int .i64 z1)) := ⟨_, rfl⟩
  refine y928 ?_
  intro q0 q1 q2 q3 q4
  have q5 : cE wq w.heap.size 5 (.string D1) := by rw [hwq]; go_simp
  have q6 : cE wq w.heap.size 6 (.string Q1) := by rw [hwq]; go_simp
  have q7 : cI wq w.heap.size 7 z1 := by rw [hwq]; go_simp
  refine y929 ?_
  intro no
  have hOq := (ownsRow_setCell_other (ownsRow_setCell_other (ownsRow_setCell_other (ownsRow_setCell_other (ownsRow_setCell_other (ownsRow_setCell_other (ownsRow_setCell_other (ownsRow_setCell_other HW.out.own (no 0) (.slice B' m c')) (no 1) (.int .i64 I)) (no 2) (.int .i64 H)) (no 3) (.int .i64 S)) (no 4) (.int .i64 P)) (no 5) (.string D1)) (no 6) (.string Q1)) (no 7) (.int .i64 z1))
  rw [← hwq] at hOq
  refine y937 ?_
  intro hFq
  have hCq : Cur wq g A n c (p + 1500) := by rw [hwq]; exact (((((((((HC.out.weaken (by omega) : Cur w8 g A n c (p + 1500)).setOwn (q := ⟨w.heap.size, 0, none⟩) hg _).setOwn (q := ⟨w.heap.size, 1, none⟩) hg _).setOwn (q := ⟨w.heap.size, 2, none⟩) hg _).setOwn (q := ⟨w.heap.size, 3, none⟩) hg _).setOwn (q := ⟨w.heap.size, 4, none⟩) hg _).setOwn (q := ⟨w.heap.size, 5, none⟩) hg _).setOwn (q := ⟨w.heap.size, 6, none⟩) hg _).setOwn (q := ⟨w.heap.size, 7, none⟩) hg _)
  exact y938) : P := h
theorem y937 {P Q : Prop} (k : Q) (h : ZK Q → P := by
 intro zK
 have hFq : Fr g (g + 1) w wq := by rw [hwq]; exact ((((((((HW.out.fr.setOwn (j := 0) (p := ⟨w.heap.size, 0, none⟩) nL _).setOwn (j := 0) (p := ⟨w.heap.size, 1, none⟩) nL _).setOwn (j := 0) (p := ⟨w.heap.size, 2, none⟩) nL _).setOwn (j := 0) (p := ⟨w.heap.size, 3, none⟩) nL _).setOwn (j := 0) (p := ⟨w.heap.size, 4, none⟩) nL _).setOwn (j := 0) (p := ⟨w.heap.size, 5, none⟩) nL _).setOwn (j := 0) (p := ⟨w.heap.size, 6, none⟩) nL _).setOwn (j := 0) (p := ⟨w.heap.size, 7, none⟩) nL _)
 revert hFq
 exact zK.1) : P := h ⟨k⟩
theorem y938 {P : Prop} (h : P := by
 have hle := HW.out.le
 have hm7 := HW.out.m7
 have hD := HW.out.d
 have hQ := HW.out.q
 have hbd := HW.out.bd
 clear hwq HW HC HZ
 try simp only [Exit.inBlock, Exit.then]
 refine bodyPost_ret (by simp [results, Tryz.results60, go_sem, q0, q1, q2, q3, q4, q5, q6, q7]; try rfl) rfl ?_
 exact ⟨_, _, _, _, _, _, _, _, _, _, _, rfl, hm7, hle, hD, hQ, hbd, hOq, hCq, hFq⟩) : P := h
theorem y939 {P Q : Prop} (k : Q) (h : ZK Q → P := by
 intro zK jd K hK
 have e0 : cE v0 b3 0 (.slice B' m c') := by rw [cell_of_row v0 (b3) 0 _ _ (0, 0) hbx]; rfl
 have e1 : cI v0 b3 1 I := by rw [cell_of_row v0 (b3) 1 _ _ (0, 0) hbx]; rfl
 have e2 : cI v0 b3 2 H := by rw [cell_of_row v0 (b3) 2 _ _ (0, 0) hbx]; rfl
 have e3 : cI v0 b3 3 S := by rw [cell_of_row v0 (b3) 3 _ _ (0, 0) hbx]; rfl
 have e4 : cI v0 b3 4 P := by rw [cell_of_row v0 (b3) 4 _ _ (0, 0) hbx]; rfl
 have e5 : cE v0 b3 5 (.string D) := by rw [cell_of_row v0 (b3) 5 _ _ (0, 0) hbx]; rfl
 have e6 : cE v0 b3 6 (.string Q) := by rw [cell_of_row v0 (b3) 6 _ _ (0, 0) hbx]; rfl
 have e7 : cI v0 b3 7 z := by rw [cell_of_row v0 (b3) 7 _ _ (0, 0) hbx]; rfl
 go_simp
 have hS2 := jd
 clear jd e0 e1 e2 e3 e4 e5 e6 e7
 revert K hK hS2
 refine y91 ?_
 intro jd
 revert jd
 exact zK.1) : P := h ⟨k⟩
theorem y940 {P Q : Prop} (k : Q) (h : ZK Q → P := by
 intro zK jd
 obtain ⟨e0, e1, e2, e3, e4, e5, e6, e7⟩ := cells8 hbx
 go_simp
 have hS2 := jd
 clear jd e0 e1 e2 e3 e4 e5 e6 e7
 revert hS2
 exact zK.1) : P := h ⟨k⟩
theorem y941 {P Q : Prop} (k : Q) (h : ZK Q → P := by
 intro zK
 go_simp
 refine (command_any g n c _ A B' m c' w.heap.size v0.heap.size (lf L) I H S P D Q z v0 hC hn (by omega) (own_sl hown) (by omega) (by omega) hmc (bd_good HGS.out)).mono ?_
 rintro e v1 ⟨s, rfl, hs, hC, hf⟩
 revert v1 s hs hC hf
 exact zK.1) : P := h ⟨k⟩
theorem y942 {P Q : Prop} (k : Q) (h : ZK Q → P := by
 intro zK jd
 refine y96 ?_
 refine y92 ?_
 intro K hK
 have hzl := (gL hzr)
 go_simp
 refine (sExec_draw B' m c' w.heap.size v1.heap.size L I H S P D Q z s v1 (own_sl hown) (by omega) hmc (fun e => own_nilK hown e) hD hQ (by omega) HGS.out).mono ?_
 rintro e v2 ⟨A2, m2, c2, L2, I2, H2, S2, P2, Q2, z2, rr, rfl, hg2, hq2, hmc2, hown2, hb⟩
 have HG2 := lh hg2
 clear hg2
 have hS2 := jd.trans (Fr.of_below _ _ hb)
 have hbx := rowB hbx hb
 have hzr := rowB hzr hb
 have hC := hC.below hb
 have hown := ownsRow_monoP hown2 (show w.heap.size ≤ v1.heap.size from Nat.le_of_lt hzl)
 clear hb hown2 jd
 revert K hK hS2
 refine y91 ?_
 intro jd
 refine tj3 5 18 6 24 7 25 HF jd ?_
 revert hzl v2 A2 m2 c2 L2 I2 H2 S2 P2 Q2 z2 rr hq2 hmc2 HG2 hbx hzr hC hown jd
 exact zK.1) : P := h ⟨k⟩
theorem y943 {P : Prop} (h : P := by
 intro v3 hh hgw hS3
 clear jd
 have hh : v3.heap[b3]? = some (.cells (cB A2 m2 c2 I2 H2 S2 P2 D Q2 z2) 35 (0, 0)) := hh
 have hown := own_other hown hbx (by decide) hgw
 refine y914 ?_
 intro hzr hC
 have HIN : Hid (KIn w v3 g A n c (p + 1100 + 40 * (6 - (k - 1))) b3) := ⟨_, _, _, _, _, _, _, _, _, _, _, ⟨hS3, hh, hown, hzr, hmc2, by have := good_len HG2.out; omega, hD, hq2, bd_good HG2.out⟩, hC.weaken (by omega)⟩
 clear hh hS3 hown hzr hC hbx hgw
 refine y94 ?_
 intro hkw
 exact y95) : P := h
theorem y944 {P Q : Prop} (k : Q) (h : ZK Q → P := by
 intro zK jd K hK
 have e0 : cE v0 b6 0 (.slice B' m c') := by rw [cell_of_row v0 (b6) 0 _ _ (0, 0) hbx]; rfl
 have e1 : cI v0 b6 1 I := by rw [cell_of_row v0 (b6) 1 _ _ (0, 0) hbx]; rfl
 have e2 : cI v0 b6 2 H := by rw [cell_of_row v0 (b6) 2 _ _ (0, 0) hbx]; rfl
 have e3 : cI v0 b6 3 S := by rw [cell_of_row v0 (b6) 3 _ _ (0, 0) hbx]; rfl
 have e4 : cI v0 b6 4 P := by rw [cell_of_row v0 (b6) 4 _ _ (0, 0) hbx]; rfl
 have e5 : cE v0 b6 5 (.string D) := by rw [cell_of_row v0 (b6) 5 _ _ (0, 0) hbx]; rfl
 have e6 : cE v0 b6 6 (.string Q) := by rw [cell_of_row v0 (b6) 6 _ _ (0, 0) hbx]; rfl
 have e7 : cI v0 b6 7 z := by rw [cell_of_row v0 (b6) 7 _ _ (0, 0) hbx]; rfl
 go_simp
 have hS2 := jd
 clear jd e0 e1 e2 e3 e4 e5 e6 e7
 revert K hK hS2
 refine y91 ?_
 intro jd
 revert jd
 exact zK.1) : P := h ⟨k⟩
theorem y945 {P Q : Prop} (k : Q) (h : ZK Q → P := by
 intro zK jd
 go_simp
 refine (command_any g n c _ A B' m c' (w.heap.size + 2) v0.heap.size (lf L) I H S P D Q z v0 hC hn (by omega) (own_sl hown) (by omega) (by omega) hmc (bd_good HGS.out)).mono ?_
 rintro e v1 ⟨s, rfl, hs, hC, hf⟩
 have hS2 := jd.trans (hf.below (by omega) jd.size)
 have hbx := (hf.block _ (gL hbx) (Or.inr (by omega))).trans hbx
 have hzr := (hf.block _ (gL hzr) (Or.inl (by omega))).trans hzr
 have hown := own_step hown (by omega) hf
 clear hf jd
 revert v1 s hs hC hS2 hbx hzr hown
 exact zK.1) : P := h ⟨k⟩
theorem y946 {P Q : Prop} (k : Q) (h : ZK Q → P := by
 intro zK K hK hS2
 revert K hK hS2
 refine y91 ?_
 intro jd
 refine y96 ?_
 refine y92 ?_
 intro K hK
 have hbl := (gL hbx)
 go_simp
 refine (sExec_draw B' m c' (w.heap.size + 2) v1.heap.size L I H S P D Q z s v1 (own_sl hown) (by omega) hmc (fun e => own_nilK hown e) hD hQ (by omega) HGS.out).mono ?_
 rintro e v2 ⟨A2, m2, c2, L2, I2, H2, S2, P2, Q2, z2, rr, rfl, hg2', hq2, hmc2, hown2, hb⟩
 have HG2 := lh hg2'
 clear hg2'
 have hS2 := below_of jd hb jd.size
 have hbx := rowB hbx hb
 have hzr := rowB hzr hb
 have hC := hC.below hb
 have hown := ownsRow_monoP hown2 (show w.heap.size + 2 ≤ v1.heap.size by omega)
 clear hb hown2 jd
 revert K hK hS2
 refine y91 ?_
 intro jd
 refine tj3 5 31 6 37 7 38 HF jd ?_
 revert hbl v2 A2 m2 c2 L2 I2 H2 S2 P2 Q2 z2 rr hq2 hmc2 HG2 hbx hzr hC hown jd
 exact zK.1) : P := h ⟨k⟩
theorem y947 {P : Prop} (h : P := by
 intro v3 hh hgw hS3
 clear jd
 have hh : v3.heap[b6]? = some (.cells (cB A2 m2 c2 I2 H2 S2 P2 D Q2 z2) 35 (0, 0)) := hh
 have hown := own_other hown hbx (by decide) hgw
 refine y914 ?_
 intro hzr hC
 have HIN : Hid (DPIn w v3 g A n c (100 + 40 * (11 - (k - 1))) b6) := ⟨_, _, _, _, _, _, _, _, _, _, _, ⟨hS3, hh, hown, hzr, hmc2, hD, hq2, HG2, hg1, hg2⟩, hC.weaken (by omega)⟩
 clear hh hS3 hown hzr hC hbx hgw
 refine y94 ?_
 intro hkw
 exact y95) : P := h
theorem z356 {P Q : Prop} (k : Q) (h : ZK Q → P := by
 intro zK
 refine (AllReadyH.cons rfl (fun K hK => ?_) AllReadyH.nil)
 have hr2 := rowC HBX.out hbd
 obtain ⟨e0, e1, e2, e3, e4, e5, e6, e7⟩ := cells8 hr2
 go_simp
 refine hK.out _ _ jd (fun jd => ?_)
 clear hK K e0 e1 e2 e3 e4 e5 e6 e7
 revert hr2 jd
 exact zK.1) : P := h ⟨k⟩
theorem z361 {P Q : Prop} (k : Q) (h : ZK Q → P := by
 intro zK
 have hR0 : (w.alloc (.cells (cB none 0 0 0 0 0 0 ⟨#[]⟩ ⟨#[]⟩ 0) 35)).heap[w.heap.size]? = some (.cells (cB none 0 0 0 0 0 0 ⟨#[]⟩ ⟨#[]⟩ 0) 35 (0, 0)) := heap_alloc_new w _
 have hb0 : bW w (w.alloc (.cells (cB none 0 0 0 0 0 0 ⟨#[]⟩ ⟨#[]⟩ 0) 35)) := (Below.refl _ w).alloc nL _
 revert hR0 hb0
 exact zK.1) : P := h ⟨k⟩
theorem z362 {P Q : Prop} (k : Q) (h : ZK Q → P := by
 intro zK
 have u1 : cI wq w.heap.size 1 0 := by rw [hwq]; go_simp
 have u2 : cI wq w.heap.size 2 0 := by rw [hwq]; go_simp
 have u3 : cI wq w.heap.size 3 0 := by rw [hwq]; go_simp
 have u4 : cI wq w.heap.size 4 0 := by rw [hwq]; go_simp
 have u5 : cE wq w.heap.size 5 (.string ⟨#[]⟩) := by rw [hwq]; go_simp
 have u6 : cE wq w.heap.size 6 (.string ⟨#[]⟩) := by rw [hwq]; go_simp
 have u7 : cI wq w.heap.size 7 0 := by rw [hwq]; go_simp
 have hBq : bW w wq := by
  rw [hwq]
  exact ((((((((HBW.out.setCell (show w.heap.size ≤ w.heap.size from Nat.le_refl _) _).setCell (show w.heap.size ≤ w.heap.size from Nat.le_refl _) _).setCell (show w.heap.size ≤ w.heap.size from Nat.le_refl _) _).setCell (show w.heap.size ≤ w.heap.size from Nat.le_refl _) _).setCell (show w.heap.size ≤ w.heap.size from Nat.le_refl _) _).setCell (show w.heap.size ≤ w.heap.size from Nat.le_refl _) _).setCell (show w.heap.size ≤ w.heap.size from Nat.le_refl _) _).setCell (show w.heap.size ≤ w.heap.size from Nat.le_refl _) _)
 revert u1 u2 u3 u4 u5 u6 u7 hBq
 exact zK.1) : P := h ⟨k⟩
theorem z364 {P Q : Prop} (k : Q) (h : ZK Q → P := by
 intro zK hX h3
 intro w1 hw1
 rw [← hw1] at hX h3
 clear hw1
 obtain ⟨g3, hg3⟩ : ∃ q, w.heap.size = q := ⟨_, rfl⟩
 rw [hg3] at h3
 try rw [hg3]
 have l3 := (gL h3)
 have HB := lh hX
 have H3 := lh h3
 clear hX h3
 obtain ⟨ok, hok⟩ : ∃ b, inR hz 1 100000 = b := ⟨_, rfl⟩
 revert w1 g3 hg3 l3 HB H3 ok hok
 exact zK.1) : P := h ⟨k⟩
theorem z365 {P Q : Prop} (k : Q) (h : ZK Q → P := by
 intro zK
 try rw [hg6]
 have HLE := lh (show w.heap.size ≤ g6 by omega)
 have l6 := (gL h6)
 have HB := lh (HB2.out.trans (hb.mono HB2.out.size))
 have H3 := lh (rowC H3'.out hb)
 have H6 := lh h6
 have HO := lh (ownsRow_below HOW.out hb)
 revert HLE l6 HB H3 H6 HO
 exact zK.1) : P := h ⟨k⟩
theorem z366 {P Q : Prop} (k : Q) (h : ZK Q → P := by
 intro zK
 have HB_ := lh (HB.out.trans (hb.mono HB.out.size))
 have HO_ := lh (ownsRow_below HO.out hb)
 have l6_ := Nat.lt_of_lt_of_le l6 hb.size
 revert HB_ HO_ l6_
 exact zK.1) : P := h ⟨k⟩
theorem z367 {P : Prop} (h : P := by
 go_ret2
 exact rl_none (by rw [rlOk, HOK.out, HLK.out]; rfl) HB.out) : P := h
theorem z368 {P Q : Prop} (k : Q) (h : ZK Q → P := by
 intro zK hcp hfit HON H6
 obtain ⟨c0, hc0⟩ : ∃ c, newC hz = c := ⟨_, rfl⟩
 obtain ⟨F, hF⟩ : ∃ q, lrF D Q = q := ⟨_, rfl⟩
 obtain ⟨p, hp⟩ : ∃ q, rlP hz D Q = q := ⟨_, rfl⟩
 obtain ⟨ws, hws⟩ : ∃ q : Nat → ByteArray, (fun j => F (j * 2)) = q := ⟨_, rfl⟩
 have HPK : Hid (∀ k, p k = decide (rpN c0 ws k = F (k * 2 + 1))) := fun k => by rw [← hp, rlP, hc0, hF, hws]
 have HWS : Hid (∀ k, ws k = F (k * 2)) := fun k => by rw [← hws]
 have HFZ : Hid (∀ j, (F j).size ≤ 1048576) := fun j => by rw [← hF]; exact lrF_size D Q j
 have HO2 := HO.out
 have H62 := H6.out
 have HSL0 := lh (own_sl HO2)
 have HNN0 := lh (fun e : A0 = none => own_nilK HO2 e)
 have HSL1 : Hid (Sl _ _ _ 4 A0 (newC hz).n (newC hz).f) := HSL0.out
 rw [hc0] at HSL1 HNN0 hcp hfit H62
 rw [hF] at HON
 have HPP := lh hp
 clear hp hF hws hc0 HO2 HSL0
 have H6s := lh H62
 clear H62 H6
 revert c0 hfit hcp F HON p ws HPK HWS HFZ HNN0 HSL1 HPP H6s
 exact zK.1) : P := h ⟨k⟩
theorem z369 {P : Prop} (h : P := by
 exact ⟨0, A0, cp, _, _, Nat.zero_le _, rfl, H6s.out, HSL1.out, hcp, HNN0.out, fun j hj => absurd hj (by omega), grow_refl _ _⟩) : P := h
theorem z370 {P Q : Prop} (k : Q) (h : ZK Q → P := by
 intro zK Aw HON eB hcw
 have hbw := Nat.lt_of_lt_of_le hbw HON.out.hi_le
 have hwg : bw ≠ g6 := by omega
 subst eB
 have HD0 : Hid (cE w4 bw (ow + k * 2) (.string (F (k * 2)))) := hcw (k * 2) (by omega)
 have HD1 : Hid (cE w4 bw (ow + k * 2 + 1) (.string (F (k * 2 + 1)))) := hcw (k * 2 + 1) (by omega)
 clear hcw
 revert hbw hwg HON HD0 HD1
 exact zK.1) : P := h ⟨k⟩
theorem z371 {P : Prop} (h : P := by
 exact ⟨HHH.out, HSD.out, hnc2, HND.out, fun j hj => (by rcases Nat.lt_succ_iff_lt_or_eq.1 hj with h | h; exact HALL.out j h; rw [h]; exact HPT.out), HGE.out⟩) : P := h
theorem z372 {P : Prop} (h : P := by
 ·obtain rfl : k = m := by omega
  refine z177 ?_
  intro hki
  clear HBX HSL HNN'
  go_wp2
  go_ret2
  exact rl_some HOK.out HLK.out (by rw [HPP.out, HMM.out]; exact lead_all HALL.out) HBR.out) : P := h
end Go.Proofs.YtpndjhelpoenpaaGreatDoor
