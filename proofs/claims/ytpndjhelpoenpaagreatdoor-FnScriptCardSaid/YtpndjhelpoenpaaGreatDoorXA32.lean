/-
  Texts of this claim, merged.
-/
import Derived.Test.YtpndjhelpoenpaaGreatDoorXA31
import Derived.Test.YtpndjhelpoenpaaGreatDoorXA30
set_option linter.unusedVariables false
set_option linter.unusedSimpArgs false
set_option maxRecDepth 100000
set_option maxHeartbeats 8000000
namespace Go.Proofs.YtpndjhelpoenpaaGreatDoor
open Go.RowKit
theorem anyLog_any (g n c p : Nat) (A : Option Addr) (w : World) (hC : Cur w g A n c p) (hn : n ≤ 65536) (hp : p ≤ 80000000) :
  Calls Tryz.prog 104 #[.pointer (some ⟨g, 0, none⟩)] w fun e w' => ∃ (D P : BA) (z : Int), e = .returned (.agg (lV D P z)) ∧ D.size + P.size ≤ 61000 ∧ Cur w' g A n c (p + 80) ∧ Fr g (g + 1) w w' := by
 go_enter Tryz.func104, Tryz.ntmps104
 go_upto_region 1 with fail
 revert hC
 refine z348 ?_
 intro w0 h2 hC0 hF hg2
 go_wp2_with fail
 refine (log_any g n c p A w0 hC0 hn (by omega)).mono ?_
 rintro e w2 ⟨D, P, z, rfl, hsz, hC2, hF2⟩
 have h2 := rowFr h2 hF2 hg2
 have hF := hF.trans hF2
 clear hC0 hF2
 go_upto_region 2 with fail
 refine nameW0 ?_
 intro w3 hw3
 have h3 := an hw3
 have hg3 : w.heap.size < w2.heap.size := rowLt h2
 have h2 := (by rw [hw3]; exact rowAl h2 _ : w3.heap[w.heap.size]? = some (.cells (lV ⟨#[]⟩ ⟨#[]⟩ 0) 33 (0, 0)))
 have hC3 := (by rw [hw3]; exact hC2.alloc _ : Cur w3 g A n c (p + 70))
 have hF := (by rw [hw3]; exact hF.alloc' _ : Fr g (g + 1) w w3)
 clear hw3 hC2
 generalize w2.heap.size = b3 at h3 hg3 ⊢
 go_wp2_with fail
 refine (pick_any g n c _ 24 A w3 hC3 hn (by omega) (by omega) (by omega)).mono ?_
 rintro e w4 ⟨m, rfl, hm, hC4, hF4⟩
 have h2 := rowFr h2 hF4 hg2
 have h3 := rowFr h3 hF4 (by omega)
 have hF := hF.trans hF4
 clear hC3 hF4
 by_cases m0 : m = 0
 ·subst m0
  obtain ⟨u0, u1, u2, uf0, uf1, uf2⟩ := row3 h2
  obtain ⟨v0, v1, v2, vf0, vf1, vf2⟩ := row3 h3
  refine z349 ?_
  intro hne hne2
  have HC := lh hC4
  have HF := lh hF
  have HG := lh hg2
  have HB3 := lh hg3
  clear h2 h3 hF hC4
  go_wp2
  obtain ⟨wq, hwq⟩ : ∃ wq, wq = ((((w4.setCell ⟨b3, 2, none⟩ (.int .i64 (wrap64 (z + 1)))).setCell ⟨w.heap.size, 0, none⟩ (.string D)).setCell ⟨w.heap.size, 1, none⟩ (.string P)).setCell ⟨w.heap.size, 2, none⟩ (.int .i64 (wrap64 (z + 1)))) := ⟨_, rfl⟩
  rw [← hwq]
  have q0 : cE wq w.heap.size 0 (.string D) := by rw [hwq]; go_simp
  have q1 : cE wq w.heap.size 1 (.string P) := by rw [hwq]; go_simp
  have q2 : cI wq w.heap.size 2 (wrap64 (z + 1)) := by rw [hwq]; go_simp
  have hFq : Fr g (g + 1) w wq := by rw [hwq]; exact ((((HF.out.setOwn (j := 0) (p := ⟨b3, 2, none⟩) (Nat.le_of_lt HB3.out) _).setOwn (j := 0) (p := ⟨w.heap.size, 0, none⟩) nL _).setOwn (j := 0) (p := ⟨w.heap.size, 1, none⟩) nL _).setOwn (j := 0) (p := ⟨w.heap.size, 2, none⟩) nL _)
  have hCq : Cur wq g A n c (p + 80) := by rw [hwq]; exact (((((HC.out.weaken (by omega) : Cur w4 g A n c (p + 80)).setOwn (q := ⟨b3, 2, none⟩) (Nat.lt_trans HG.out HB3.out) _).setOwn (q := ⟨w.heap.size, 0, none⟩) HG.out _).setOwn (q := ⟨w.heap.size, 1, none⟩) HG.out _).setOwn (q := ⟨w.heap.size, 2, none⟩) HG.out _)
  exact z351
 have m0i : ((m : Int) == 0) = false := by simp; omega
 by_cases m1 : m = 1
 ·subst m1
  obtain ⟨t0, t1, t2, tf0, tf1, tf2⟩ := row3 h3
  go_wp2_with fail
  clear t0 t1 t2 tf0 tf1 tf2
  refine (spoilt_any P (by omega) g n c _ A w4 hC4 hn (by omega)).mono ?_
  rintro e w5 ⟨s, rfl, hs, hC5, hF5⟩
  have h2 := rowFr h2 hF5 hg2
  have h3 := rowFr h3 hF5 (by omega)
  have hF := hF.trans hF5
  clear hC4 hF5
  obtain ⟨u0, u1, u2, uf0, uf1, uf2⟩ := row3 h2
  obtain ⟨v0, v1, v2, vf0, vf1, vf2⟩ := row3 h3
  refine z349 ?_
  intro hne hne2
  have HC := lh hC5
  have HF := lh hF
  have HG := lh hg2
  have HB3 := lh hg3
  clear h2 h3 hF hC5
  go_wp2
  obtain ⟨wq, hwq⟩ : ∃ wq, wq = ((((w5.setCell ⟨b3, 1, none⟩ (.string s)).setCell ⟨w.heap.size, 0, none⟩ (.string D)).setCell ⟨w.heap.size, 1, none⟩ (.string s)).setCell ⟨w.heap.size, 2, none⟩ (.int .i64 z)) := ⟨_, rfl⟩
  rw [← hwq]
  have q0 : cE wq w.heap.size 0 (.string D) := by rw [hwq]; go_simp
  have q1 : cE wq w.heap.size 1 (.string s) := by rw [hwq]; go_simp
  have q2 : cI wq w.heap.size 2 z := by rw [hwq]; go_simp
  have hFq : Fr g (g + 1) w wq := by rw [hwq]; exact ((((HF.out.setOwn (j := 0) (p := ⟨b3, 1, none⟩) (Nat.le_of_lt HB3.out) _).setOwn (j := 0) (p := ⟨w.heap.size, 0, none⟩) nL _).setOwn (j := 0) (p := ⟨w.heap.size, 1, none⟩) nL _).setOwn (j := 0) (p := ⟨w.heap.size, 2, none⟩) nL _)
  have hCq : Cur wq g A n c (p + 80) := by rw [hwq]; exact (((((HC.out.weaken (by omega) : Cur w5 g A n c (p + 80)).setOwn (q := ⟨b3, 1, none⟩) (Nat.lt_trans HG.out HB3.out) _).setOwn (q := ⟨w.heap.size, 0, none⟩) HG.out _).setOwn (q := ⟨w.heap.size, 1, none⟩) HG.out _).setOwn (q := ⟨w.heap.size, 2, none⟩) HG.out _)
  clear hwq
  refine z352 ?_
  have hbd : D.size + s.size ≤ 61000 := by omega
  first | exact ⟨D, s, _, rfl, hbd, hCq, hFq⟩ | exact ⟨D, s, ⟨_, rfl⟩, hbd, hCq, hFq⟩
 have m1i : ((m : Int) == 1) = false := by simp; omega
 by_cases m2 : m = 2
 ·subst m2
  have hszi : (D.size : Int) + (P.size : Int) ≤ 30000 := by omega
  obtain ⟨u0, u1, u2, uf0, uf1, uf2⟩ := row3 h2
  obtain ⟨v0, v1, v2, vf0, vf1, vf2⟩ := row3 h3
  refine z349 ?_
  intro hne hne2
  have HC := lh hC4
  have HF := lh hF
  have HG := lh hg2
  have HB3 := lh hg3
  clear h2 h3 hF hC4
  go_wp2
  obtain ⟨wq, hwq⟩ : ∃ wq, wq = ((((w4.setCell ⟨b3, 0, none⟩ (.string (D ++ P))).setCell ⟨w.heap.size, 0, none⟩ (.string (D ++ P))).setCell ⟨w.heap.size, 1, none⟩ (.string P)).setCell ⟨w.heap.size, 2, none⟩ (.int .i64 z)) := ⟨_, rfl⟩
  rw [← hwq]
  have q0 : cE wq w.heap.size 0 (.string (D ++ P)) := by rw [hwq]; go_simp
  have q1 : cE wq w.heap.size 1 (.string P) := by rw [hwq]; go_simp
  have q2 : cI wq w.heap.size 2 z := by rw [hwq]; go_simp
  have hFq : Fr g (g + 1) w wq := by rw [hwq]; exact ((((HF.out.setOwn (j := 0) (p := ⟨b3, 0, none⟩) (Nat.le_of_lt HB3.out) _).setOwn (j := 0) (p := ⟨w.heap.size, 0, none⟩) nL _).setOwn (j := 0) (p := ⟨w.heap.size, 1, none⟩) nL _).setOwn (j := 0) (p := ⟨w.heap.size, 2, none⟩) nL _)
  have hCq : Cur wq g A n c (p + 80) := by rw [hwq]; exact (((((HC.out.weaken (by omega) : Cur w4 g A n c (p + 80)).setOwn (q := ⟨b3, 0, none⟩) (Nat.lt_trans HG.out HB3.out) _).setOwn (q := ⟨w.heap.size, 0, none⟩) HG.out _).setOwn (q := ⟨w.heap.size, 1, none⟩) HG.out _).setOwn (q := ⟨w.heap.size, 2, none⟩) HG.out _)
  clear hwq
  refine z352 ?_
  have hbd : (D ++ P).size + P.size ≤ 61000 := by simp only [ByteArray.size_append']; omega
  first | exact ⟨(D ++ P), P, _, rfl, hbd, hCq, hFq⟩ | exact ⟨(D ++ P), P, ⟨_, rfl⟩, hbd, hCq, hFq⟩
 have m2i : ((m : Int) == 2) = false := by simp; omega
 obtain ⟨u0, u1, u2, uf0, uf1, uf2⟩ := row3 h2
 obtain ⟨v0, v1, v2, vf0, vf1, vf2⟩ := row3 h3
 refine z349 ?_
 intro hne hne2
 have HC := lh hC4
 have HF := lh hF
 have HG := lh hg2
 have HB3 := lh hg3
 clear h2 h3 hF hC4
 go_wp2
 obtain ⟨wq, hwq⟩ : ∃ wq, wq = (((w4.setCell ⟨w.heap.size, 0, none⟩ (.string D)).setCell ⟨w.heap.size, 1, none⟩ (.string P)).setCell ⟨w.heap.size, 2, none⟩ (.int .i64 z)) := ⟨_, rfl⟩
 rw [← hwq]
 have q0 : cE wq w.heap.size 0 (.string D) := by rw [hwq]; go_simp
 have q1 : cE wq w.heap.size 1 (.string P) := by rw [hwq]; go_simp
 have q2 : cI wq w.heap.size 2 z := by rw [hwq]; go_simp
 have hFq : Fr g (g + 1) w wq := by rw [hwq]; exact (((HF.out.setOwn (j := 0) (p := ⟨w.heap.size, 0, none⟩) nL _).setOwn (j := 0) (p := ⟨w.heap.size, 1, none⟩) nL _).setOwn (j := 0) (p := ⟨w.heap.size, 2, none⟩) nL _)
 have hCq : Cur wq g A n c (p + 80) := by rw [hwq]; exact ((((HC.out.weaken (by omega) : Cur w4 g A n c (p + 80)).setOwn (q := ⟨w.heap.size, 0, none⟩) HG.out _).setOwn (q := ⟨w.heap.size, 1, none⟩) HG.out _).setOwn (q := ⟨w.heap.size, 2, none⟩) HG.out _)
 exact z351
theorem infoConK : (Tryz.prog.info? 35).map (·.size) = some 8 := by kernel_rfl
theorem sExec_draw (A : Option Addr) (n c lo hi : Nat) (L : List Int) (I H S P : Int) (D Q : ByteArray) (z : Int) (s : ByteArray) (w : World) (hs : Sl w lo hi 4 A n (lf L)) (hn : n ≤ 1048576) (hnc : n ≤ c) (hnone : A = none → n = 0 ∧ c = 0) (hD : D.size ≤ 1048576) (hQ : Q.size ≤ 1048576) (hsz : s.size ≤ 1048576) (hg : goodWorks (lf L) n I H S P = true) :
  Calls Tryz.prog 10 #[.agg (cB A n c I H S P D Q z), .string s] w fun e w' => ∃ (A2 : Option Addr) (m2 c2 : Nat) (L2 : List Int) (I2 H2 S2 P2 : Int) (Q2 : ByteArray) (z2 : Int) (r : ByteArray), e = .returned (.tuple #[.agg (cB A2 m2 c2 I2 H2 S2 P2 D Q2 z2), .string r]) ∧ goodWorks (lf L2) m2 I2 H2 S2 P2 = true ∧ Q2.size ≤ 1048576 ∧ m2 ≤ c2 ∧ w'.ownsRow w.heap.size 97 4 (.slice A2 m2 c2) m2 (L2.map (Value.int .i64)) ∧ bW w w' := by
 refine (sExecuteCommand_any A n c lo hi (lf L) I H S P D Q z s w hs hn hnc hnone hD hQ hsz).mono ?_
 rintro e w' ⟨A', c', he, hc, hown, hb⟩
 exact ⟨_, _, _, _, _, _, _, _, _, _, _, he, xc_good hg, (Fit.next (c := ⟨lf L, n, I, H, S, P, D, Q, z⟩) ⟨hn, hD, hQ⟩ s).2.2, hc, hown, hb⟩
structure KC (w W : World) (g b3 : Nat) (B' : Option Addr) (m c' : Nat) (L : List Int) (I H S P : Int) (D Q : ByteArray) (z : Int) : Prop where
 fr : Fr g (g + 1) w W
 box : W.heap[b3]? = some (.cells (cB B' m c' I H S P D Q z) 35 (0, 0))
 own : W.ownsRow w.heap.size 97 4 (.slice B' m c') m (L.map (Value.int .i64))
 zero : W.heap[w.heap.size]? = some (.cells (cB none 0 0 0 0 0 0 ⟨#[]⟩ ⟨#[]⟩ 0) 35 (0, 0))
 le : m ≤ c'
 m7 : m ≤ 7
 d : D.size ≤ 1048576
 q : Q.size ≤ 1048576
 bd : Hid (BD L m H)
theorem KC.step {w W W' : World} {g b3 : Nat} {B' : Option Addr} {m c' : Nat} {L : List Int} {I H S P : Int} {D Q : ByteArray} {z : Int} (h : KC w W g b3 B' m c' L I H S P D Q z) (hf : Fr g (g + 1) W W') (hg : g < w.heap.size) (hb3 : w.heap.size < b3) : KC w W' g b3 B' m c' L I H S P D Q z :=
 ⟨h.fr.trans hf, (hf.block _ (gL h.box) (Or.inr (by omega))).trans h.box, own_step h.own (by omega) hf, (hf.block _ (gL h.zero) (Or.inr (by omega))).trans h.zero, h.le, h.m7, h.d, h.q, h.bd⟩
theorem KC.below {w W W' : World} {g b3 : Nat} {B' : Option Addr} {m c' : Nat} {L : List Int} {I H S P : Int} {D Q : ByteArray} {z : Int} (h : KC w W g b3 B' m c' L I H S P D Q z) (hb : bW W W') : KC w W' g b3 B' m c' L I H S P D Q z :=
 ⟨h.fr.trans (Fr.of_below _ _ hb), rowB h.box hb, ownsRow_below h.own hb, rowB h.zero hb, h.le, h.m7, h.d, h.q, h.bd⟩
def KIn (w W : World) (g : Nat) (A : Option Addr) (n c q b3 : Nat) : Prop := ∃ (B' : Option Addr) (m c' : Nat) (L : List Int) (I H S P : Int) (D Q : ByteArray) (z : Int), KC w W g b3 B' m c' L I H S P D Q z ∧ Cur W g A n c q
theorem KIn.weaken {w W : World} {g n c q q' b3 : Nat} {A : Option Addr} (h : KIn w W g A n c q b3) (hq : q ≤ q') : KIn w W g A n c q' b3 := by
 obtain ⟨B', m, c', L, I, H, S, P, D, Q, z, h1, h2⟩ := h
 exact ⟨B', m, c', L, I, H, S, P, D, Q, z, h1, h2.weaken hq⟩
theorem console_any (g n c p : Nat) (A : Option Addr) (w : World) (hC0 : Cur w g A n c p) (hn : n ≤ 65536) (hp : p ≤ 1000000) :
  Calls Tryz.prog 60 #[.pointer (some ⟨g, 0, none⟩)] w fun e w' => ∃ (B' : Option Addr) (m c' : Nat) (L : List Int) (I H S P : Int) (D Q : ByteArray) (z : Int), e = .returned (.agg (cB B' m c' I H S P D Q z)) ∧ m ≤ 7 ∧ m ≤ c' ∧ D.size ≤ 1048576 ∧ Q.size ≤ 1048576 ∧ Hid (BD L m H) ∧ w'.ownsRow w.heap.size 97 4 (.slice B' m c') m (L.map (Value.int .i64)) ∧ Cur w' g A n c (p + 1500) ∧ Fr g (g + 1) w w' := by
 go_enter Tryz.func60, Tryz.ntmps60
 have hg : g < w.heap.size := hC0.lt
 go_upto_region 1 with fail
 refine nameWS ?_
 intro w1 hw1
 have hz1 := an hw1
 have hF1 : Fr g (g + 1) w w1 := by rw [hw1]; exact (Fr.refl _ _ w).alloc' _
 have hC : Cur w1 g A n c (p + 0) := by rw [hw1]; exact hC0.alloc _
 have hs1 : w.heap.size < w1.heap.size := (gL hz1)
 clear hw1 hC0
 go_wp2_with fail
 refine (works_any g n c _ A w1 hC hn (by omega)).mono ?_
 rintro e w2 ⟨B', m, c', L, I, H, S, P, rfl, hm7, hle, hmx, hbd, hown, hC, hf⟩
 have hz1 := (hf.block _ hs1 (Or.inr (by omega))).trans hz1
 have hF1 := hF1.trans hf
 have hown := ownsRow_monoP hown (Nat.le_of_lt hs1)
 have hsz2 := hf.size
 clear hf hmx
 go_upto_region 2 with fail
 refine nameWS ?_
 intro w3 hw3
 have hb : bW w2 w3 := by rw [hw3]; exact (Below.refl _ w2).alloc nL _
 have hbx := an hw3
 have hC := hC.below hb
 have hin : KC w w3 g w2.heap.size B' m c' L I H S P ⟨#[]⟩ ⟨#[]⟩ 0 := ⟨hF1.trans (Fr.of_below _ _ hb), hbx, ownsRow_below hown hb, rowB hz1 hb, hle, hm7, by decide, by decide, hbd⟩
 obtain ⟨b3, hb3e⟩ : ∃ q, w2.heap.size = q := ⟨_, rfl⟩
 have hb3 : w.heap.size < b3 := by omega
 rw [hb3e] at hin
 try rw [hb3e]
 clear hw3 hb hbx hown hz1 hF1 hb3e hs1 hsz2 hbd
 go_wp2_with fail
 refine (pick_any g n c _ 7 A w3 hC hn (by omega) (by omega) (by omega)).mono ?_
 rintro e w4 ⟨k0, rfl, hk0, hC, hf⟩
 have hin : KIn w w4 g A n c (p + 1100) b3 := ⟨_, _, _, _, _, _, _, _, _, _, _, hin.step hf hg hb3, hC.weaken (by omega)⟩
 clear hC hf
 have HB3 := lh hb3
 go_wp2_with fail
 go_loopw [4] (fun nv wr => ∃ k : Nat, k ≤ 6 ∧ nv = .int .i64 k ∧ KIn w wr g A n c (p + 1100 + 40 * (6 - k)) b3) (fun nv _ => (intOf nv).toNat)
 case atStart => exact ⟨k0, by omega, rfl, hin.weaken (by omega)⟩
 case round =>
  obtain ⟨k, hk, rfl, hin2⟩ := hrel
  clear hin hle hm7
  obtain ⟨B', m, c', L, I, H, S, P, D, Q, z, hW, hC⟩ := hin2
  by_cases hlt : 0 < k
  ·have hki : (0 : Int) < (k : Int) := by omega
   have hkd : decide ((0 : Int) < (k : Int)) = true := decide_eq_true hki
   have hbx := hW.box
   obtain ⟨e0, e1, e2, e3, e4, e5, e6, e7⟩ := cells8 hbx
   clear hbx
   go_wp2_with fail
   refine (l28Good_any B' m c' w.heap.size wr.heap.size (lf L) I H S P D Q z wr (own_sl hW.own) (by have := hW.m7; omega) hW.le hW.d hW.q).mono ?_
   rintro e w5 ⟨rfl, hb⟩
   have hW := hW.below hb
   have hC := hC.below hb
   clear hb e0 e1 e2 e3 e4 e5 e6 e7
   cases hgl : (goodWorks (lf L) m I H S P && logOk D Q z) with
   | false =>
    clear hgl
    go_wp2_with fail
    refine (one_any g n c _ 24 A w5 hC hn (by omega) (by omega) (by omega)).mono ?_
    rintro e w6 ⟨bb, rfl, hC, hf⟩
    have hW := hW.step hf hg (by omega)
    clear hf
    cases bb with
    | false =>
     have hbx := hW.box
     have hzr := hW.zero
     obtain ⟨e0, e1, e2, e3, e4, e5, e6, e7⟩ := cells8 hbx
     obtain ⟨r0, r1, r2, r3, r4, r5, r6, r7⟩ := cells8 hzr
     have rf := fz hzr
     have HW := lh hW
     have HC := lh hC
     have hne : b3 ≠ w.heap.size := by omega
     have hne2 : w.heap.size ≠ b3 := by omega
     have HZ := lh hzr
     clear hbx hzr hW hC
     go_wp2
     obtain ⟨wq, hwq⟩ : ∃ wq, wq = ((((((((w6.setCell ⟨w.heap.size, 0, none⟩ (.slice B' m c')).setCell ⟨w.heap.size, 1, none⟩ (.int .i64 I)).setCell ⟨w.heap.size, 2, none⟩ (.int .i64 H)).setCell ⟨w.heap.size, 3, none⟩ (.int .i64 S)).setCell ⟨w.heap.size, 4, none⟩ (.int .i64 P)).setCell ⟨w.heap.size, 5, none⟩ (.string D)).setCell ⟨w.heap.size, 6, none⟩ (.string Q)).setCell ⟨w.heap.size, 7, none⟩ (.int .i64 z)) := ⟨_, rfl⟩
     rw [← hwq]
     have q0 : cE wq w.heap.size 0 (.slice B' m c') := by rw [hwq]; go_simp
     have q1 : cI wq w.heap.size 1 I := by rw [hwq]; go_simp
     have q2 : cI wq w.heap.size 2 H := by rw [hwq]; go_simp
     have q3 : cI wq w.heap.size 3 S := by rw [hwq]; go_simp
     have q4 : cI wq w.heap.size 4 P := by rw [hwq]; go_simp
     have q5 : cE wq w.heap.size 5 (.string D) := by rw [hwq]; go_simp
     have q6 : cE wq w.heap.size 6 (.string Q) := by rw [hwq]; go_simp
     have q7 : cI wq w.heap.size 7 z := by rw [hwq]; go_simp
     have no : ∀ j : Nat, (Value.slice B' m c').ownBlock ≠ some (⟨w.heap.size, j, none⟩ : Addr).block := fun j e => row_none_ne HW.out.own HZ.out (by decide) e
     have hOq := (ownsRow_setCell_other (ownsRow_setCell_other (ownsRow_setCell_other (ownsRow_setCell_other (ownsRow_setCell_other (ownsRow_setCell_other (ownsRow_setCell_other (ownsRow_setCell_other HW.out.own (no 0) (.slice B' m c')) (no 1) (.int .i64 I)) (no 2) (.int .i64 H)) (no 3) (.int .i64 S)) (no 4) (.int .i64 P)) (no 5) (.string D)) (no 6) (.string Q)) (no 7) (.int .i64 z))
     rw [← hwq] at hOq
     have hFq : Fr g (g + 1) w wq := by rw [hwq]; exact ((((((((HW.out.fr.setOwn (j := 0) (p := ⟨w.heap.size, 0, none⟩) nL _).setOwn (j := 0) (p := ⟨w.heap.size, 1, none⟩) nL _).setOwn (j := 0) (p := ⟨w.heap.size, 2, none⟩) nL _).setOwn (j := 0) (p := ⟨w.heap.size, 3, none⟩) nL _).setOwn (j := 0) (p := ⟨w.heap.size, 4, none⟩) nL _).setOwn (j := 0) (p := ⟨w.heap.size, 5, none⟩) nL _).setOwn (j := 0) (p := ⟨w.heap.size, 6, none⟩) nL _).setOwn (j := 0) (p := ⟨w.heap.size, 7, none⟩) nL _)
     have hCq : Cur wq g A n c (p + 1500) := by rw [hwq]; exact (((((((((HC.out.weaken (by omega) : Cur w6 g A n c (p + 1500)).setOwn (q := ⟨w.heap.size, 0, none⟩) hg _).setOwn (q := ⟨w.heap.size, 1, none⟩) hg _).setOwn (q := ⟨w.heap.size, 2, none⟩) hg _).setOwn (q := ⟨w.heap.size, 3, none⟩) hg _).setOwn (q := ⟨w.heap.size, 4, none⟩) hg _).setOwn (q := ⟨w.heap.size, 5, none⟩) hg _).setOwn (q := ⟨w.heap.size, 6, none⟩) hg _).setOwn (q := ⟨w.heap.size, 7, none⟩) hg _)
     have hle := HW.out.le
     have hm7 := HW.out.m7
     have hD := HW.out.d
     have hQ := HW.out.q
     have hbd := HW.out.bd
     clear hwq HW HC HZ
     try simp only [Exit.inBlock, Exit.then]
     refine bodyPost_ret (by simp [results, Tryz.results60, go_sem, q0, q1, q2, q3, q4, q5, q6, q7]; try rfl) rfl ?_
     exact ⟨_, _, _, _, _, _, _, _, _, _, _, rfl, hm7, hle, hD, hQ, hbd, hOq, hCq, hFq⟩
    | true =>
     go_wp2_with fail
     refine (anyLog_any g n c _ A w6 hC hn (by omega)).mono ?_
     rintro e w7 ⟨D1, Q1, z1, rfl, hsz, hC, hf⟩
     have hW := hW.step hf hg (by omega)
     clear hf
     have hbx := hW.box
     obtain ⟨e0, e1, e2, e3, e4, e5, e6, e7⟩ := cells8 hbx
     have ef := fz hbx
     go_upto_region 8 with fail
     refine nameWS ?_
     intro w8 hw8'
     have hw8 : w8 = (((w7.setCell ⟨b3, 5, none⟩ (.string D1)).setCell ⟨b3, 6, none⟩ (.string Q1)).setCell ⟨b3, 7, none⟩ (.int .i64 z1)) := hw8'
     have hbx8 : w8.heap[b3]? = some (.cells (cB B' m c' I H S P D1 Q1 z1) 35 (0, 0)) := by rw [hw8]; exact (heap_setCell_same _ b3 7 (cB B' m c' I H S P D1 Q1 z) 35 (.int .i64 z1) (heap_setCell_same _ b3 6 (cB B' m c' I H S P D1 Q z) 35 (.string Q1) (heap_setCell_same _ b3 5 (cB B' m c' I H S P D Q z) 35 (.string D1) hbx)))
     have no : ∀ j : Nat, (Value.slice B' m c').ownBlock ≠ some (⟨b3, j, none⟩ : Addr).block := fun j e => row_none_ne hW.own hbx (by decide) e
     have hown8 : w8.ownsRow w.heap.size 97 4 (.slice B' m c') m (L.map (Value.int .i64)) := by rw [hw8]; exact ownsRow_setCell_other (ownsRow_setCell_other (ownsRow_setCell_other hW.own (no 5) _) (no 6) _) (no 7) _
     have hz8 : w8.heap[w.heap.size]? = some (.cells (cB none 0 0 0 0 0 0 ⟨#[]⟩ ⟨#[]⟩ 0) 35 (0, 0)) := by
      rw [hw8]
      iterate 3 rw [heap_setCell_other _ _ _ _ (by show w.heap.size ≠ b3; omega)]
      exact hW.zero
     have hF8 : Fr g (g + 1) w w8 := by rw [hw8]; exact ((hW.fr.setOwn (j := 0) (p := ⟨b3, 5, none⟩) (by show _ ≤ b3; omega) _).setOwn (j := 0) (p := ⟨b3, 6, none⟩) (by show _ ≤ b3; omega) _).setOwn (j := 0) (p := ⟨b3, 7, none⟩) (by show _ ≤ b3; omega) _
     have hC8 : Cur w8 g A n c (p + 1450) := by rw [hw8]; exact (((hC.weaken (by omega) : Cur w7 g A n c (p + 1450)).setOwn (q := ⟨b3, 5, none⟩) (by show g < b3; omega) _).setOwn (q := ⟨b3, 6, none⟩) (by show g < b3; omega) _).setOwn (q := ⟨b3, 7, none⟩) (by show g < b3; omega) _
     have hW8 : KC w w8 g b3 B' m c' L I H S P D1 Q1 z1 := ⟨hF8, hbx8, hown8, hz8, hW.le, hW.m7, by omega, by omega, hW.bd⟩
     clear hw8' hw8 hbx hbx8 no hown8 hz8 hF8 ef hW hC e0 e1 e2 e3 e4 e5 e6 e7
     have hW := hW8
     have hC := hC8
     clear hW8 hC8
     have hbx := hW.box
     have hzr := hW.zero
     obtain ⟨e0, e1, e2, e3, e4, e5, e6, e7⟩ := cells8 hbx
     obtain ⟨r0, r1, r2, r3, r4, r5, r6, r7⟩ := cells8 hzr
     have rf := fz hzr
     have HW := lh hW
     have HC := lh hC
     have hne : b3 ≠ w.heap.size := by omega
     have hne2 : w.heap.size ≠ b3 := by omega
     have HZ := lh hzr
     clear hbx hzr hW hC
     go_wp2
     obtain ⟨wq, hwq⟩ : ∃ wq, wq = ((((((((w8.setCell ⟨w.heap.size, 0, none⟩ (.slice B' m c')).setCell ⟨w.heap.size, 1, none⟩ (.int .i64 I)).setCell ⟨w.heap.size, 2, none⟩ (.int .i64 H)).setCell ⟨w.heap.size, 3, none⟩ (.int .i64 S)).setCell ⟨w.heap.size, 4, none⟩ (.int .i64 P)).setCell ⟨w.heap.size, 5, none⟩ (.string D1)).setCell ⟨w.heap.size, 6, none⟩ (.string Q1)).setCell ⟨w.heap.size, 7, none⟩ (.int .i64 z1)) := ⟨_, rfl⟩
     rw [← hwq]
     have q0 : cE wq w.heap.size 0 (.slice B' m c') := by rw [hwq]; go_simp
     have q1 : cI wq w.heap.size 1 I := by rw [hwq]; go_simp
     have q2 : cI wq w.heap.size 2 H := by rw [hwq]; go_simp
     have q3 : cI wq w.heap.size 3 S := by rw [hwq]; go_simp
     have q4 : cI wq w.heap.size 4 P := by rw [hwq]; go_simp
     have q5 : cE wq w.heap.size 5 (.string D1) := by rw [hwq]; go_simp
     have q6 : cE wq w.heap.size 6 (.string Q1) := by rw [hwq]; go_simp
     have q7 : cI wq w.heap.size 7 z1 := by rw [hwq]; go_simp
     have no : ∀ j : Nat, (Value.slice B' m c').ownBlock ≠ some (⟨w.heap.size, j, none⟩ : Addr).block := fun j e => row_none_ne HW.out.own HZ.out (by decide) e
     have hOq := (ownsRow_setCell_other (ownsRow_setCell_other (ownsRow_setCell_other (ownsRow_setCell_other (ownsRow_setCell_other (ownsRow_setCell_other (ownsRow_setCell_other (ownsRow_setCell_other HW.out.own (no 0) (.slice B' m c')) (no 1) (.int .i64 I)) (no 2) (.int .i64 H)) (no 3) (.int .i64 S)) (no 4) (.int .i64 P)) (no 5) (.string D1)) (no 6) (.string Q1)) (no 7) (.int .i64 z1))
     rw [← hwq] at hOq
     have hFq : Fr g (g + 1) w wq := by rw [hwq]; exact ((((((((HW.out.fr.setOwn (j := 0) (p := ⟨w.heap.size, 0, none⟩) nL _).setOwn (j := 0) (p := ⟨w.heap.size, 1, none⟩) nL _).setOwn (j := 0) (p := ⟨w.heap.size, 2, none⟩) nL _).setOwn (j := 0) (p := ⟨w.heap.size, 3, none⟩) nL _).setOwn (j := 0) (p := ⟨w.heap.size, 4, none⟩) nL _).setOwn (j := 0) (p := ⟨w.heap.size, 5, none⟩) nL _).setOwn (j := 0) (p := ⟨w.heap.size, 6, none⟩) nL _).setOwn (j := 0) (p := ⟨w.heap.size, 7, none⟩) nL _)
     have hCq : Cur wq g A n c (p + 1500) := by rw [hwq]; exact (((((((((HC.out.weaken (by omega) : Cur w8 g A n c (p + 1500)).setOwn (q := ⟨w.heap.size, 0, none⟩) hg _).setOwn (q := ⟨w.heap.size, 1, none⟩) hg _).setOwn (q := ⟨w.heap.size, 2, none⟩) hg _).setOwn (q := ⟨w.heap.size, 3, none⟩) hg _).setOwn (q := ⟨w.heap.size, 4, none⟩) hg _).setOwn (q := ⟨w.heap.size, 5, none⟩) hg _).setOwn (q := ⟨w.heap.size, 6, none⟩) hg _).setOwn (q := ⟨w.heap.size, 7, none⟩) hg _)
     have hle := HW.out.le
     have hm7 := HW.out.m7
     have hD := HW.out.d
     have hQ := HW.out.q
     have hbd := HW.out.bd
     clear hwq HW HC HZ
     try simp only [Exit.inBlock, Exit.then]
     refine bodyPost_ret (by simp [results, Tryz.results60, go_sem, q0, q1, q2, q3, q4, q5, q6, q7]; try rfl) rfl ?_
     exact ⟨_, _, _, _, _, _, _, _, _, _, _, rfl, hm7, hle, hD, hQ, hbd, hOq, hCq, hFq⟩
   | true =>
    have HGS := lh (show goodWorks (lf L) m I H S P = true by rw [Bool.and_eq_true] at hgl; exact hgl.1)
    clear hgl
    go_upto_region 5 with fail
    have hFd : Fr g (g + 1) w w5.drew := hW.fr.trans (Fr.of_below _ _ (below_drewN (Below.refl _ _) 1))
    have hC := hC.drewN 1
    have hbx : (w5.drewN 1).heap[b3]? = some (.cells (cB B' m c' I H S P D Q z) 35 (0, 0)) := hW.box
    have hzr : (w5.drewN 1).heap[w.heap.size]? = some (.cells (cB none 0 0 0 0 0 0 ⟨#[]⟩ ⟨#[]⟩ 0) 35 (0, 0)) := hW.zero
    have hown := ownsRow_below hW.own (below_drewN (Below.refl _ w5) 1)
    have hmc := hW.le
    have hD := hW.d
    have hQ := hW.q
    have hm7 := hW.m7
    clear hW
    refine wp_region_held_drew (S := fun w' => Fr g (g + 1) w w') (by kernel_rfl) hFd (fun jd => ?_)
    clear hFd
    obtain ⟨v0, hv⟩ : ∃ v, w5.drewN 1 = v := ⟨_, rfl⟩
    have hv' : w5.drew = v0 := hv
    rw [hv] at hC hbx hzr hown
    rw [hv'] at jd ⊢
    clear hv hv'
    have HF : Hid (∀ w', Fr g (g + 1) w w' → True) := fun _ _ => trivial
    refine tj 1 20 HF rfl jd ?_
    refine wpAnyH_ready (rs := [0, 2]) (by kernel_rfl) (by simp) ?_
    refine (AllReadyH.cons rfl (fun K hK => ?_) (AllReadyH.cons rfl (fun K hK => ?_) AllReadyH.nil))
    ·have e0 : cE v0 b3 0 (.slice B' m c') := by rw [cell_of_row v0 (b3) 0 _ _ (0, 0) hbx]; rfl
     have e1 : cI v0 b3 1 I := by rw [cell_of_row v0 (b3) 1 _ _ (0, 0) hbx]; rfl
     have e2 : cI v0 b3 2 H := by rw [cell_of_row v0 (b3) 2 _ _ (0, 0) hbx]; rfl
     have e3 : cI v0 b3 3 S := by rw [cell_of_row v0 (b3) 3 _ _ (0, 0) hbx]; rfl
     have e4 : cI v0 b3 4 P := by rw [cell_of_row v0 (b3) 4 _ _ (0, 0) hbx]; rfl
     have e5 : cE v0 b3 5 (.string D) := by rw [cell_of_row v0 (b3) 5 _ _ (0, 0) hbx]; rfl
     have e6 : cE v0 b3 6 (.string Q) := by rw [cell_of_row v0 (b3) 6 _ _ (0, 0) hbx]; rfl
     have e7 : cI v0 b3 7 z := by rw [cell_of_row v0 (b3) 7 _ _ (0, 0) hbx]; rfl
     go_simp
     have hS2 := jd
     clear jd e0 e1 e2 e3 e4 e5 e6 e7
     refine hK.out _ _ hS2 (fun jd => ?_)
     clear hK K hS2
     refine wpAnyH_ready (rs := [2]) (by kernel_rfl) (by simp) ?_
     refine (AllReadyH.cons rfl (fun K hK => ?_) AllReadyH.nil)
     obtain ⟨e0, e1, e2, e3, e4, e5, e6, e7⟩ := cells8 hbx
     go_simp
     have hS2 := jd
     clear jd e0 e1 e2 e3 e4 e5 e6 e7
     refine hK.out _ _ hS2 (fun jd => ?_)
     clear hK K hS2
     refine wpAnyH_ready (rs := [3]) (by kernel_rfl) (by simp) ?_
     refine (AllReadyH.cons rfl (fun K hK => ?_) AllReadyH.nil)
     go_simp
     refine (command_any g n c _ A B' m c' w.heap.size v0.heap.size (lf L) I H S P D Q z v0 hC hn (by omega) (own_sl hown) (by omega) (by omega) hmc (bd_good HGS.out)).mono ?_
     rintro e v1 ⟨s, rfl, hs, hC, hf⟩
     have hS2 := jd.trans hf
     have hbx := (hf.block _ (gL hbx) (Or.inr (by omega))).trans hbx
     have hzr := (hf.block _ (gL hzr) (Or.inr (by omega))).trans hzr
     have hown := own_step hown hg hf
     clear hf jd
     refine hK.out _ _ hS2 (fun jd => ?_)
     clear hK K hS2
     refine wpAnyH_ready (rs := [4]) (by kernel_rfl) (by simp) ?_
     refine (AllReadyH.cons rfl (fun K hK => ?_) AllReadyH.nil)
     have hzl := (gL hzr)
     go_simp
     refine (sExec_draw B' m c' w.heap.size v1.heap.size L I H S P D Q z s v1 (own_sl hown) (by omega) hmc (fun e => own_nilK hown e) hD hQ (by omega) HGS.out).mono ?_
     rintro e v2 ⟨A2, m2, c2, L2, I2, H2, S2, P2, Q2, z2, rr, rfl, hg2, hq2, hmc2, hown2, hb⟩
     have HG2 := lh hg2
     clear hg2
     have hS2 := jd.trans (Fr.of_below _ _ hb)
     have hbx := rowB hbx hb
     have hzr := rowB hzr hb
     have hC := hC.below hb
     have hown := ownsRow_monoP hown2 (show w.heap.size ≤ v1.heap.size from Nat.le_of_lt hzl)
     clear hb hown2 jd
     refine hK.out _ _ hS2 (fun jd => ?_)
     clear hK K hS2
     refine tj3 5 18 6 24 7 25 HF jd ?_
     refine wS0 8 b3 (cB A2 m2 c2 I2 H2 S2 P2 D Q2 z2) 35 infoConK hbx (fun w' hg' => fr_grown jd hg' (by omega)) ?ks1
     case ks1 =>
      intro v3 hh hgw hS3
      clear jd
      have hh : v3.heap[b3]? = some (.cells (cB A2 m2 c2 I2 H2 S2 P2 D Q2 z2) 35 (0, 0)) := hh
      have hown := own_other hown hbx (by decide) hgw
      have hzr := (hgw.block _ (gL hzr) (fun e => by have := Option.some.inj e; omega)).trans hzr
      have hC := hC.grown hgw (by omega)
      have HIN : Hid (KIn w v3 g A n c (p + 1100 + 40 * (6 - (k - 1))) b3) := ⟨_, _, _, _, _, _, _, _, _, _, _, ⟨hS3, hh, hown, hzr, hmc2, by have := good_len HG2.out; omega, hD, hq2, bd_good HG2.out⟩, hC.weaken (by omega)⟩
      clear hh hS3 hown hzr hC hbx hgw
      refine wpAnyH_done (by kernel_rfl) ?_ _
      have hkw : IntKind.i64.wrap ((k : Int) - 1) = ((k - 1 : Nat) : Int) := by rw [IntWalk.i64_in _ (by omega)]; omega
      go_wp2
      go_roundw
      case rel => exact ⟨k - 1, by omega, by go_num, HIN.out⟩
      case measure => simp [intOf]; omega
    ·have e0 : cE v0 b3 0 (.slice B' m c') := by rw [cell_of_row v0 (b3) 0 _ _ (0, 0) hbx]; rfl
     have e1 : cI v0 b3 1 I := by rw [cell_of_row v0 (b3) 1 _ _ (0, 0) hbx]; rfl
     have e2 : cI v0 b3 2 H := by rw [cell_of_row v0 (b3) 2 _ _ (0, 0) hbx]; rfl
     have e3 : cI v0 b3 3 S := by rw [cell_of_row v0 (b3) 3 _ _ (0, 0) hbx]; rfl
     have e4 : cI v0 b3 4 P := by rw [cell_of_row v0 (b3) 4 _ _ (0, 0) hbx]; rfl
     have e5 : cE v0 b3 5 (.string D) := by rw [cell_of_row v0 (b3) 5 _ _ (0, 0) hbx]; rfl
     have e6 : cE v0 b3 6 (.string Q) := by rw [cell_of_row v0 (b3) 6 _ _ (0, 0) hbx]; rfl
     have e7 : cI v0 b3 7 z := by rw [cell_of_row v0 (b3) 7 _ _ (0, 0) hbx]; rfl
     go_simp
     have hS2 := jd
     clear jd e0 e1 e2 e3 e4 e5 e6 e7
     refine hK.out _ _ hS2 (fun jd => ?_)
     clear hK K hS2
     refine wpAnyH_ready (rs := [0, 3]) (by kernel_rfl) (by simp) ?_
     refine (AllReadyH.cons rfl (fun K hK => ?_) (AllReadyH.cons rfl (fun K hK => ?_) AllReadyH.nil))
     ·have e0 : cE v0 b3 0 (.slice B' m c') := by rw [cell_of_row v0 (b3) 0 _ _ (0, 0) hbx]; rfl
      have e1 : cI v0 b3 1 I := by rw [cell_of_row v0 (b3) 1 _ _ (0, 0) hbx]; rfl
      have e2 : cI v0 b3 2 H := by rw [cell_of_row v0 (b3) 2 _ _ (0, 0) hbx]; rfl
      have e3 : cI v0 b3 3 S := by rw [cell_of_row v0 (b3) 3 _ _ (0, 0) hbx]; rfl
      have e4 : cI v0 b3 4 P := by rw [cell_of_row v0 (b3) 4 _ _ (0, 0) hbx]; rfl
      have e5 : cE v0 b3 5 (.string D) := by rw [cell_of_row v0 (b3) 5 _ _ (0, 0) hbx]; rfl
      have e6 : cE v0 b3 6 (.string Q) := by rw [cell_of_row v0 (b3) 6 _ _ (0, 0) hbx]; rfl
      have e7 : cI v0 b3 7 z := by rw [cell_of_row v0 (b3) 7 _ _ (0, 0) hbx]; rfl
      go_simp
      have hS2 := jd
      clear jd e0 e1 e2 e3 e4 e5 e6 e7
      refine hK.out _ _ hS2 (fun jd => ?_)
      clear hK K hS2
      refine wpAnyH_ready (rs := [3]) (by kernel_rfl) (by simp) ?_
      refine (AllReadyH.cons rfl (fun K hK => ?_) AllReadyH.nil)
      go_simp
      refine (command_any g n c _ A B' m c' w.heap.size v0.heap.size (lf L) I H S P D Q z v0 hC hn (by omega) (own_sl hown) (by omega) (by omega) hmc (bd_good HGS.out)).mono ?_
      rintro e v1 ⟨s, rfl, hs, hC, hf⟩
      have hS2 := jd.trans hf
      have hbx := (hf.block _ (gL hbx) (Or.inr (by omega))).trans hbx
      have hzr := (hf.block _ (gL hzr) (Or.inr (by omega))).trans hzr
      have hown := own_step hown hg hf
      clear hf jd
      refine hK.out _ _ hS2 (fun jd => ?_)
      clear hK K hS2
      refine wpAnyH_ready (rs := [4]) (by kernel_rfl) (by simp) ?_
      refine (AllReadyH.cons rfl (fun K hK => ?_) AllReadyH.nil)
      have hzl := (gL hzr)
      go_simp
      refine (sExec_draw B' m c' w.heap.size v1.heap.size L I H S P D Q z s v1 (own_sl hown) (by omega) hmc (fun e => own_nilK hown e) hD hQ (by omega) HGS.out).mono ?_
      rintro e v2 ⟨A2, m2, c2, L2, I2, H2, S2, P2, Q2, z2, rr, rfl, hg2, hq2, hmc2, hown2, hb⟩
      have HG2 := lh hg2
      clear hg2
      have hS2 := jd.trans (Fr.of_below _ _ hb)
      have hbx := rowB hbx hb
      have hzr := rowB hzr hb
      have hC := hC.below hb
      have hown := ownsRow_monoP hown2 (show w.heap.size ≤ v1.heap.size from Nat.le_of_lt hzl)
      clear hb hown2 jd
      refine hK.out _ _ hS2 (fun jd => ?_)
      clear hK K hS2
      refine tj3 5 18 6 24 7 25 HF jd ?_
      refine wS0 8 b3 (cB A2 m2 c2 I2 H2 S2 P2 D Q2 z2) 35 infoConK hbx (fun w' hg' => fr_grown jd hg' (by omega)) ?ks2
      case ks2 =>
       intro v3 hh hgw hS3
       clear jd
       have hh : v3.heap[b3]? = some (.cells (cB A2 m2 c2 I2 H2 S2 P2 D Q2 z2) 35 (0, 0)) := hh
       have hown := own_other hown hbx (by decide) hgw
       have hzr := (hgw.block _ (gL hzr) (fun e => by have := Option.some.inj e; omega)).trans hzr
       have hC := hC.grown hgw (by omega)
       have HIN : Hid (KIn w v3 g A n c (p + 1100 + 40 * (6 - (k - 1))) b3) := ⟨_, _, _, _, _, _, _, _, _, _, _, ⟨hS3, hh, hown, hzr, hmc2, by have := good_len HG2.out; omega, hD, hq2, bd_good HG2.out⟩, hC.weaken (by omega)⟩
       clear hh hS3 hown hzr hC hbx hgw
       refine wpAnyH_done (by kernel_rfl) ?_ _
       have hkw : IntKind.i64.wrap ((k : Int) - 1) = ((k - 1 : Nat) : Int) := by rw [IntWalk.i64_in _ (by omega)]; omega
       go_wp2
       go_roundw
       case rel => exact ⟨k - 1, by omega, by go_num, HIN.out⟩
       case measure => simp [intOf]; omega
     ·go_simp
      refine (command_any g n c _ A B' m c' w.heap.size v0.heap.size (lf L) I H S P D Q z v0 hC hn (by omega) (own_sl hown) (by omega) (by omega) hmc (bd_good HGS.out)).mono ?_
      rintro e v1 ⟨s, rfl, hs, hC, hf⟩
      have hS2 := jd.trans hf
      have hbx := (hf.block _ (gL hbx) (Or.inr (by omega))).trans hbx
      have hzr := (hf.block _ (gL hzr) (Or.inr (by omega))).trans hzr
      have hown := own_step hown hg hf
      clear hf jd
      refine hK.out _ _ hS2 (fun jd => ?_)
      clear hK K hS2
      refine wpAnyH_ready (rs := [0]) (by kernel_rfl) (by simp) ?_
      refine (AllReadyH.cons rfl (fun K hK => ?_) AllReadyH.nil)
      obtain ⟨e0, e1, e2, e3, e4, e5, e6, e7⟩ := cells8 hbx
      go_simp
      have hS2 := jd
      clear jd e0 e1 e2 e3 e4 e5 e6 e7
      refine hK.out _ _ hS2 (fun jd => ?_)
      clear hK K hS2
      refine wpAnyH_ready (rs := [4]) (by kernel_rfl) (by simp) ?_
      refine (AllReadyH.cons rfl (fun K hK => ?_) AllReadyH.nil)
      have hzl := (gL hzr)
      go_simp
      refine (sExec_draw B' m c' w.heap.size v1.heap.size L I H S P D Q z s v1 (own_sl hown) (by omega) hmc (fun e => own_nilK hown e) hD hQ (by omega) HGS.out).mono ?_
      rintro e v2 ⟨A2, m2, c2, L2, I2, H2, S2, P2, Q2, z2, rr, rfl, hg2, hq2, hmc2, hown2, hb⟩
      have HG2 := lh hg2
      clear hg2
      have hS2 := jd.trans (Fr.of_below _ _ hb)
      have hbx := rowB hbx hb
      have hzr := rowB hzr hb
      have hC := hC.below hb
      have hown := ownsRow_monoP hown2 (show w.heap.size ≤ v1.heap.size from Nat.le_of_lt hzl)
      clear hb hown2 jd
      refine hK.out _ _ hS2 (fun jd => ?_)
      clear hK K hS2
      refine tj3 5 18 6 24 7 25 HF jd ?_
      refine wS0 8 b3 (cB A2 m2 c2 I2 H2 S2 P2 D Q2 z2) 35 infoConK hbx (fun w' hg' => fr_grown jd hg' (by omega)) ?ks3
      case ks3 =>
       intro v3 hh hgw hS3
       clear jd
       have hh : v3.heap[b3]? = some (.cells (cB A2 m2 c2 I2 H2 S2 P2 D Q2 z2) 35 (0, 0)) := hh
       have hown := own_other hown hbx (by decide) hgw
       have hzr := (hgw.block _ (gL hzr) (fun e => by have := Option.some.inj e; omega)).trans hzr
       have hC := hC.grown hgw (by omega)
       have HIN : Hid (KIn w v3 g A n c (p + 1100 + 40 * (6 - (k - 1))) b3) := ⟨_, _, _, _, _, _, _, _, _, _, _, ⟨hS3, hh, hown, hzr, hmc2, by have := good_len HG2.out; omega, hD, hq2, bd_good HG2.out⟩, hC.weaken (by omega)⟩
       clear hh hS3 hown hzr hC hbx hgw
       refine wpAnyH_done (by kernel_rfl) ?_ _
       have hkw : IntKind.i64.wrap ((k : Int) - 1) = ((k - 1 : Nat) : Int) := by rw [IntWalk.i64_in _ (by omega)]; omega
       go_wp2
       go_roundw
       case rel => exact ⟨k - 1, by omega, by go_num, HIN.out⟩
       case measure => simp [intOf]; omega
  ·have hki : ¬ ((0 : Int) < (k : Int)) := by omega
   go_wp2_with fail
   refine (one_any g n c _ 24 A wr hC hn (by omega) (by omega) (by omega)).mono ?_
   rintro e w6 ⟨bb, rfl, hC, hf⟩
   have hW := hW.step hf hg (by omega)
   clear hf
   cases bb with
   | false =>
    have hbx := hW.box
    have hzr := hW.zero
    obtain ⟨e0, e1, e2, e3, e4, e5, e6, e7⟩ := cells8 hbx
    obtain ⟨r0, r1, r2, r3, r4, r5, r6, r7⟩ := cells8 hzr
    have rf := fz hzr
    have HW := lh hW
    have HC := lh hC
    have hne : b3 ≠ w.heap.size := by omega
    have hne2 : w.heap.size ≠ b3 := by omega
    have HZ := lh hzr
    clear hbx hzr hW hC
    go_wp2
    obtain ⟨wq, hwq⟩ : ∃ wq, wq = ((((((((w6.setCell ⟨w.heap.size, 0, none⟩ (.slice B' m c')).setCell ⟨w.heap.size, 1, none⟩ (.int .i64 I)).setCell ⟨w.heap.size, 2, none⟩ (.int .i64 H)).setCell ⟨w.heap.size, 3, none⟩ (.int .i64 S)).setCell ⟨w.heap.size, 4, none⟩ (.int .i64 P)).setCell ⟨w.heap.size, 5, none⟩ (.string D)).setCell ⟨w.heap.size, 6, none⟩ (.string Q)).setCell ⟨w.heap.size, 7, none⟩ (.int .i64 z)) := ⟨_, rfl⟩
    rw [← hwq]
    have q0 : cE wq w.heap.size 0 (.slice B' m c') := by rw [hwq]; go_simp
    have q1 : cI wq w.heap.size 1 I := by rw [hwq]; go_simp
    have q2 : cI wq w.heap.size 2 H := by rw [hwq]; go_simp
    have q3 : cI wq w.heap.size 3 S := by rw [hwq]; go_simp
    have q4 : cI wq w.heap.size 4 P := by rw [hwq]; go_simp
    have q5 : cE wq w.heap.size 5 (.string D) := by rw [hwq]; go_simp
    have q6 : cE wq w.heap.size 6 (.string Q) := by rw [hwq]; go_simp
    have q7 : cI wq w.heap.size 7 z := by rw [hwq]; go_simp
    have no : ∀ j : Nat, (Value.slice B' m c').ownBlock ≠ some (⟨w.heap.size, j, none⟩ : Addr).block := fun j e => row_none_ne HW.out.own HZ.out (by decide) e
    have hOq := (ownsRow_setCell_other (ownsRow_setCell_other (ownsRow_setCell_other (ownsRow_setCell_other (ownsRow_setCell_other (ownsRow_setCell_other (ownsRow_setCell_other (ownsRow_setCell_other HW.out.own (no 0) (.slice B' m c')) (no 1) (.int .i64 I)) (no 2) (.int .i64 H)) (no 3) (.int .i64 S)) (no 4) (.int .i64 P)) (no 5) (.string D)) (no 6) (.string Q)) (no 7) (.int .i64 z))
    rw [← hwq] at hOq
    have hFq : Fr g (g + 1) w wq := by rw [hwq]; exact ((((((((HW.out.fr.setOwn (j := 0) (p := ⟨w.heap.size, 0, none⟩) nL _).setOwn (j := 0) (p := ⟨w.heap.size, 1, none⟩) nL _).setOwn (j := 0) (p := ⟨w.heap.size, 2, none⟩) nL _).setOwn (j := 0) (p := ⟨w.heap.size, 3, none⟩) nL _).setOwn (j := 0) (p := ⟨w.heap.size, 4, none⟩) nL _).setOwn (j := 0) (p := ⟨w.heap.size, 5, none⟩) nL _).setOwn (j := 0) (p := ⟨w.heap.size, 6, none⟩) nL _).setOwn (j := 0) (p := ⟨w.heap.size, 7, none⟩) nL _)
    have hCq : Cur wq g A n c (p + 1500) := by rw [hwq]; exact (((((((((HC.out.weaken (by omega) : Cur w6 g A n c (p + 1500)).setOwn (q := ⟨w.heap.size, 0, none⟩) hg _).setOwn (q := ⟨w.heap.size, 1, none⟩) hg _).setOwn (q := ⟨w.heap.size, 2, none⟩) hg _).setOwn (q := ⟨w.heap.size, 3, none⟩) hg _).setOwn (q := ⟨w.heap.size, 4, none⟩) hg _).setOwn (q := ⟨w.heap.size, 5, none⟩) hg _).setOwn (q := ⟨w.heap.size, 6, none⟩) hg _).setOwn (q := ⟨w.heap.size, 7, none⟩) hg _)
    have hle := HW.out.le
    have hm7 := HW.out.m7
    have hD := HW.out.d
    have hQ := HW.out.q
    have hbd := HW.out.bd
    clear hwq HW HC HZ
    try simp only [Exit.inBlock, Exit.then]
    refine bodyPost_ret (by simp [results, Tryz.results60, go_sem, q0, q1, q2, q3, q4, q5, q6, q7]; try rfl) rfl ?_
    exact ⟨_, _, _, _, _, _, _, _, _, _, _, rfl, hm7, hle, hD, hQ, hbd, hOq, hCq, hFq⟩
   | true =>
    go_wp2_with fail
    refine (anyLog_any g n c _ A w6 hC hn (by omega)).mono ?_
    rintro e w7 ⟨D1, Q1, z1, rfl, hsz, hC, hf⟩
    have hW := hW.step hf hg (by omega)
    clear hf
    have hbx := hW.box
    obtain ⟨e0, e1, e2, e3, e4, e5, e6, e7⟩ := cells8 hbx
    have ef := fz hbx
    go_upto_region 8 with fail
    refine nameWS ?_
    intro w8 hw8'
    have hw8 : w8 = (((w7.setCell ⟨b3, 5, none⟩ (.string D1)).setCell ⟨b3, 6, none⟩ (.string Q1)).setCell ⟨b3, 7, none⟩ (.int .i64 z1)) := hw8'
    have hbx8 : w8.heap[b3]? = some (.cells (cB B' m c' I H S P D1 Q1 z1) 35 (0, 0)) := by rw [hw8]; exact (heap_setCell_same _ b3 7 (cB B' m c' I H S P D1 Q1 z) 35 (.int .i64 z1) (heap_setCell_same _ b3 6 (cB B' m c' I H S P D1 Q z) 35 (.string Q1) (heap_setCell_same _ b3 5 (cB B' m c' I H S P D Q z) 35 (.string D1) hbx)))
    have no : ∀ j : Nat, (Value.slice B' m c').ownBlock ≠ some (⟨b3, j, none⟩ : Addr).block := fun j e => row_none_ne hW.own hbx (by decide) e
    have hown8 : w8.ownsRow w.heap.size 97 4 (.slice B' m c') m (L.map (Value.int .i64)) := by rw [hw8]; exact ownsRow_setCell_other (ownsRow_setCell_other (ownsRow_setCell_other hW.own (no 5) _) (no 6) _) (no 7) _
    have hz8 : w8.heap[w.heap.size]? = some (.cells (cB none 0 0 0 0 0 0 ⟨#[]⟩ ⟨#[]⟩ 0) 35 (0, 0)) := by
     rw [hw8]
     iterate 3 rw [heap_setCell_other _ _ _ _ (by show w.heap.size ≠ b3; omega)]
     exact hW.zero
    have hF8 : Fr g (g + 1) w w8 := by rw [hw8]; exact ((hW.fr.setOwn (j := 0) (p := ⟨b3, 5, none⟩) (by show _ ≤ b3; omega) _).setOwn (j := 0) (p := ⟨b3, 6, none⟩) (by show _ ≤ b3; omega) _).setOwn (j := 0) (p := ⟨b3, 7, none⟩) (by show _ ≤ b3; omega) _
    have hC8 : Cur w8 g A n c (p + 1450) := by rw [hw8]; exact (((hC.weaken (by omega) : Cur w7 g A n c (p + 1450)).setOwn (q := ⟨b3, 5, none⟩) (by show g < b3; omega) _).setOwn (q := ⟨b3, 6, none⟩) (by show g < b3; omega) _).setOwn (q := ⟨b3, 7, none⟩) (by show g < b3; omega) _
    have hW8 : KC w w8 g b3 B' m c' L I H S P D1 Q1 z1 := ⟨hF8, hbx8, hown8, hz8, hW.le, hW.m7, by omega, by omega, hW.bd⟩
    clear hw8' hw8 hbx hbx8 no hown8 hz8 hF8 ef hW hC e0 e1 e2 e3 e4 e5 e6 e7
    have hW := hW8
    have hC := hC8
    clear hW8 hC8
    have hbx := hW.box
    have hzr := hW.zero
    obtain ⟨e0, e1, e2, e3, e4, e5, e6, e7⟩ := cells8 hbx
    obtain ⟨r0, r1, r2, r3, r4, r5, r6, r7⟩ := cells8 hzr
    have rf := fz hzr
    have HW := lh hW
    have HC := lh hC
    have hne : b3 ≠ w.heap.size := by omega
    have hne2 : w.heap.size ≠ b3 := by omega
    have HZ := lh hzr
    clear hbx hzr hW hC
    go_wp2
    obtain ⟨wq, hwq⟩ : ∃ wq, wq = ((((((((w8.setCell ⟨w.heap.size, 0, none⟩ (.slice B' m c')).setCell ⟨w.heap.size, 1, none⟩ (.int .i64 I)).setCell ⟨w.heap.size, 2, none⟩ (.int .i64 H)).setCell ⟨w.heap.size, 3, none⟩ (.int .i64 S)).setCell ⟨w.heap.size, 4, none⟩ (.int .i64 P)).setCell ⟨w.heap.size, 5, none⟩ (.string D1)).setCell ⟨w.heap.size, 6, none⟩ (.string Q1)).setCell ⟨w.heap.size, 7, none⟩ (.int .i64 z1)) := ⟨_, rfl⟩
    rw [← hwq]
    have q0 : cE wq w.heap.size 0 (.slice B' m c') := by rw [hwq]; go_simp
    have q1 : cI wq w.heap.size 1 I := by rw [hwq]; go_simp
    have q2 : cI wq w.heap.size 2 H := by rw [hwq]; go_simp
    have q3 : cI wq w.heap.size 3 S := by rw [hwq]; go_simp
    have q4 : cI wq w.heap.size 4 P := by rw [hwq]; go_simp
    have q5 : cE wq w.heap.size 5 (.string D1) := by rw [hwq]; go_simp
    have q6 : cE wq w.heap.size 6 (.string Q1) := by rw [hwq]; go_simp
    have q7 : cI wq w.heap.size 7 z1 := by rw [hwq]; go_simp
    have no : ∀ j : Nat, (Value.slice B' m c').ownBlock ≠ some (⟨w.heap.size, j, none⟩ : Addr).block := fun j e => row_none_ne HW.out.own HZ.out (by decide) e
    have hOq := (ownsRow_setCell_other (ownsRow_setCell_other (ownsRow_setCell_other (ownsRow_setCell_other (ownsRow_setCell_other (ownsRow_setCell_other (ownsRow_setCell_other (ownsRow_setCell_other HW.out.own (no 0) (.slice B' m c')) (no 1) (.int .i64 I)) (no 2) (.int .i64 H)) (no 3) (.int .i64 S)) (no 4) (.int .i64 P)) (no 5) (.string D1)) (no 6) (.string Q1)) (no 7) (.int .i64 z1))
    rw [← hwq] at hOq
    have hFq : Fr g (g + 1) w wq := by rw [hwq]; exact ((((((((HW.out.fr.setOwn (j := 0) (p := ⟨w.heap.size, 0, none⟩) nL _).setOwn (j := 0) (p := ⟨w.heap.size, 1, none⟩) nL _).setOwn (j := 0) (p := ⟨w.heap.size, 2, none⟩) nL _).setOwn (j := 0) (p := ⟨w.heap.size, 3, none⟩) nL _).setOwn (j := 0) (p := ⟨w.heap.size, 4, none⟩) nL _).setOwn (j := 0) (p := ⟨w.heap.size, 5, none⟩) nL _).setOwn (j := 0) (p := ⟨w.heap.size, 6, none⟩) nL _).setOwn (j := 0) (p := ⟨w.heap.size, 7, none⟩) nL _)
    have hCq : Cur wq g A n c (p + 1500) := by rw [hwq]; exact (((((((((HC.out.weaken (by omega) : Cur w8 g A n c (p + 1500)).setOwn (q := ⟨w.heap.size, 0, none⟩) hg _).setOwn (q := ⟨w.heap.size, 1, none⟩) hg _).setOwn (q := ⟨w.heap.size, 2, none⟩) hg _).setOwn (q := ⟨w.heap.size, 3, none⟩) hg _).setOwn (q := ⟨w.heap.size, 4, none⟩) hg _).setOwn (q := ⟨w.heap.size, 5, none⟩) hg _).setOwn (q := ⟨w.heap.size, 6, none⟩) hg _).setOwn (q := ⟨w.heap.size, 7, none⟩) hg _)
    have hle := HW.out.le
    have hm7 := HW.out.m7
    have hD := HW.out.d
    have hQ := HW.out.q
    have hbd := HW.out.bd
    clear hwq HW HC HZ
    try simp only [Exit.inBlock, Exit.then]
    refine bodyPost_ret (by simp [results, Tryz.results60, go_sem, q0, q1, q2, q3, q4, q5, q6, q7]; try rfl) rfl ?_
    exact ⟨_, _, _, _, _, _, _, _, _, _, _, rfl, hm7, hle, hD, hQ, hbd, hOq, hCq, hFq⟩
structure DS (w W : World) (g b5 : Nat) (B' : Option Addr) (m c' : Nat) (L : List Int) (I H S P : Int) (D Q : ByteArray) (z : Int) : Prop where
 be : bW w W
 box : W.heap[b5]? = some (.cells (cB B' m c' I H S P D Q z) 35 (0, 0))
 own : W.ownsRow (w.heap.size + 2) 97 4 (.slice B' m c') m (L.map (Value.int .i64))
 zero : W.heap[w.heap.size]? = some (.cells (cB none 0 0 0 0 0 0 ⟨#[]⟩ ⟨#[]⟩ 0) 35 (0, 0))
 g1 : w.heap.size + 1 = g
 g2 : g < b5
theorem DS.step {w W W' : World} {g b5 : Nat} {B' : Option Addr} {m c' : Nat} {L : List Int} {I H S P : Int} {D Q : ByteArray} {z : Int} (h : DS w W g b5 B' m c' L I H S P D Q z) (hf : Fr g (g + 1) W W') : DS w W' g b5 B' m c' L I H S P D Q z := by
 have h1 := h.g1
 have h2 := h.g2
 exact ⟨h.be.trans (hf.below (by omega) h.be.size), (hf.block _ (gL h.box) (Or.inr (by omega))).trans h.box, own_step h.own (by omega) hf, (hf.block _ (gL h.zero) (Or.inl (by omega))).trans h.zero, h1, h2⟩
theorem DS.below {w W W' : World} {g b5 : Nat} {B' : Option Addr} {m c' : Nat} {L : List Int} {I H S P : Int} {D Q : ByteArray} {z : Int} (h : DS w W g b5 B' m c' L I H S P D Q z) (hb : bW W W') : DS w W' g b5 B' m c' L I H S P D Q z :=
 ⟨below_of h.be hb h.be.size, rowB h.box hb, ownsRow_below h.own hb, rowB h.zero hb, h.g1, h.g2⟩
end Go.Proofs.YtpndjhelpoenpaaGreatDoor
