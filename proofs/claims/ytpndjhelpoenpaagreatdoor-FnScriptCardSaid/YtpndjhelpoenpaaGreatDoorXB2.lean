/-
  Texts of this claim, merged.
-/
import Derived.Test.YtpndjhelpoenpaaGreatDoorXA32
import Derived.Test.YtpndjhelpoenpaaGreatDoorXB1
set_option linter.unusedVariables false
set_option linter.unusedSimpArgs false
set_option maxRecDepth 100000
set_option maxHeartbeats 8000000
namespace Go.Proofs.YtpndjhelpoenpaaGreatDoor
open Go.RowKit
theorem DrawRunScript_any (A : Option Addr) (n c : Nat) (w : World) (hc : Code w A n) (hn : n ≤ 65536) :
  Calls Tryz.prog 26 #[.slice A n c] w fun e w' => ∃ (B' : Option Addr) (m c' : Nat) (L : List Int) (I H S P : Int) (D Q : ByteArray) (z : Int) (s : ByteArray), e = .returned (.tuple #[.agg (cB B' m c' I H S P D Q z), .string s]) ∧ m ≤ 7 ∧ D.size ≤ 1048576 ∧ Q.size ≤ 1048576 ∧ s.size ≤ 1000 ∧ Drawn w' w.heap.size 97 4 B' m c' (lf L) ∧ bW w w' := by
 go_enter Tryz.func26, Tryz.ntmps26
 go_wp2_with fail
 refine nameC ?_
 intro w1 hw1
 have hB2 : bW w (w.alloc (.cells (cB none 0 0 0 0 0 0 ⟨#[]⟩ ⟨#[]⟩ 0) 35)) := (Below.refl _ w).alloc nL _
 have hB : bW w w1 := by rw [hw1]; exact hB2.alloc (by simp) _
 have h2 : w1.heap[w.heap.size]? = some (.cells (cB none 0 0 0 0 0 0 ⟨#[]⟩ ⟨#[]⟩ 0) 35 (0, 0)) := by
  rw [hw1, heap_alloc_old _ _ (by simp)]
  exact heap_alloc_new w _
 have hC : Cur w1 (w.heap.size + 1) A n c 0 := by rw [hw1]; have h := (hc.below hB2).cur (c := c) (T := 89); simpa using h
 obtain ⟨g, hg⟩ : ∃ q, w.heap.size + 1 = q := ⟨_, rfl⟩
 rw [hg] at hC
 try rw [hg]
 have hgl := hC.lt
 clear hw1 hc hB2
 refine (console_any g n c 0 A w1 hC hn (by omega)).mono ?_
 rintro e w2 ⟨B', m, c', L, I, H, S, P, D, Q, z, rfl, hm7, hle, hD, hQ, hbd, hown, hC, hf⟩
 have hz1 := hB.size
 have hzf := hf.size
 have h2 := (hf.block _ (gL h2) (Or.inl (by omega))).trans h2
 have hB := hB.trans (hf.below (by omega) hB.size)
 have hown := ownsRow_monoP hown (show w.heap.size + 2 ≤ w1.heap.size by omega)
 clear hf
 go_upto_region 3 with fail
 refine nameWS ?_
 intro w3 hw3
 have hn2 : bW w2 w3 := by rw [hw3]; exact (Below.refl _ w2).alloc nL _
 have h5 := an hw3
 have hS : DS w w3 g w2.heap.size B' m c' L I H S P D Q z := ⟨below_of hB hn2 hB.size, h5, ownsRow_below hown hn2, rowB h2 hn2, by omega, by omega⟩
 have hC := hC.below hn2
 obtain ⟨b5, hb5⟩ : ∃ q, w2.heap.size = q := ⟨_, rfl⟩
 rw [hb5] at hS
 try rw [hb5]
 clear hw3 hn2 hb5 h5 h2 hown hB hz1 hzf hgl hg
 have h5 := hS.box
 obtain ⟨e0, e1, e2, e3, e4, e5, e6, e7⟩ := cells8 h5
 clear h5
 go_wp2_with fail
 refine (command_any g n c _ A B' m c' (w.heap.size + 2) w3.heap.size (lf L) I H S P D Q z w3 hC hn (by omega) (own_sl hS.own) (by have := hS.g1; omega) (by omega) hle hbd).mono ?_
 rintro e w4 ⟨s0, rfl, hs0, hC, hf⟩
 have hS := hS.step hf
 clear hf
 clear e0 e1 e2 e3 e4 e5 e6 e7
 go_wp2_with fail
 refine (pick_any g n c _ 5 A w4 hC hn (by omega) (by omega) (by omega)).mono ?_
 rintro e w5 ⟨k0, rfl, hk0, hC, hf⟩
 have hS := hS.step hf
 clear hf
 have hin : ∃ (k : Nat) (s : ByteArray), k ≤ 4 ∧ (.int .i64 (k0 : Int) : Value) = .int .i64 k ∧ (.string s0 : Value) = .string s ∧ s.size ≤ 100 + 101 * (4 - k) ∧ DS w w5 g b5 B' m c' L I H S P D Q z ∧ Cur w5 g A n c (2000 + 24 * (4 - k)) := ⟨k0, s0, by omega, rfl, rfl, by omega, hS, hC.weaken (by omega)⟩
 clear hS hC hs0
 go_wp2_with fail
 go_loopw [6, 7] (fun sv nv wr => ∃ (k : Nat) (s : ByteArray), k ≤ 4 ∧ nv = .int .i64 k ∧ sv = .string s ∧ s.size ≤ 100 + 101 * (4 - k) ∧ DS w wr g b5 B' m c' L I H S P D Q z ∧ Cur wr g A n c (2000 + 24 * (4 - k))) (fun _ nv _ => (intOf nv).toNat)
 case atStart => exact hin
 case round =>
  clear hin
  obtain ⟨k, s, hk, rfl, rfl, hs, hS, hC⟩ := hrel
  by_cases hlt : 0 < k
  ·have hki : (0 : Int) < (k : Int) := by omega
   have hkw : IntKind.i64.wrap ((k : Int) - 1) = ((k - 1 : Nat) : Int) := by rw [IntWalk.i64_in _ (by omega)]; omega
   have h5 := hS.box
   obtain ⟨e0, e1, e2, e3, e4, e5, e6, e7⟩ := cells8 h5
   clear h5
   go_wp2_with fail
   refine (command_any g n c _ A B' m c' (w.heap.size + 2) wr.heap.size (lf L) I H S P D Q z wr hC hn (by omega) (own_sl hS.own) (by have := hS.g1; omega) (by omega) hle hbd).mono ?_
   rintro e w6 ⟨s1, rfl, hs1, hC, hf⟩
   have hS := hS.step hf
   clear hf
   clear e0 e1 e2 e3 e4 e5 e6 e7
   have HS := lh hS
   have HC := lh hC
   clear hS hC
   go_wp2
   go_roundw
   case rel => exact ⟨k - 1, _, by omega, by go_num, rfl, by (try simp only [ByteArray.size_append', ByteArray.size_mk', List.size_toArray, List.length_cons, List.length_nil]); omega, HS.out, HC.out.weaken (by omega)⟩
   case measure => simp [intOf]; omega
  ·have hki : ¬ ((0 : Int) < (k : Int)) := by omega
   go_wp2_with fail
   refine (one_any g n c _ 20 A wr hC hn (by omega) (by omega) (by omega)).mono ?_
   rintro e w7 ⟨bb, rfl, hC, hf⟩
   have hS := hS.step hf
   clear hf
   cases bb with
   | false =>
    have h5 := hS.box
    have h2 := hS.zero
    obtain ⟨e0, e1, e2, e3, e4, e5, e6, e7⟩ := cells8 h5
    obtain ⟨r0, r1, r2, r3, r4, r5, r6, r7⟩ := cells8 h2
    have rf := fz h2
    have H2 := lh h2
    have HS := lh hS
    have hne : b5 ≠ w.heap.size := by have := hS.g1; have := hS.g2; omega
    have hne2 : w.heap.size ≠ b5 := hne.symm
    clear h2 h5 hS hC
    go_wp2
    obtain ⟨wq, hwq⟩ : ∃ wq, wq = ((((((((w7.setCell ⟨w.heap.size, 0, none⟩ (.slice B' m c')).setCell ⟨w.heap.size, 1, none⟩ (.int .i64 I)).setCell ⟨w.heap.size, 2, none⟩ (.int .i64 H)).setCell ⟨w.heap.size, 3, none⟩ (.int .i64 S)).setCell ⟨w.heap.size, 4, none⟩ (.int .i64 P)).setCell ⟨w.heap.size, 5, none⟩ (.string D)).setCell ⟨w.heap.size, 6, none⟩ (.string Q)).setCell ⟨w.heap.size, 7, none⟩ (.int .i64 z)) := ⟨_, rfl⟩
    rw [← hwq]
    have q0 : cE wq w.heap.size 0 (.slice B' m c') := by rw [hwq]; go_simp
    have q1 : cI wq w.heap.size 1 I := by rw [hwq]; go_simp
    have q2 : cI wq w.heap.size 2 H := by rw [hwq]; go_simp
    have q3 : cI wq w.heap.size 3 S := by rw [hwq]; go_simp
    have q4 : cI wq w.heap.size 4 P := by rw [hwq]; go_simp
    have q5 : cE wq w.heap.size 5 (.string D) := by rw [hwq]; go_simp
    have q6 : cE wq w.heap.size 6 (.string Q) := by rw [hwq]; go_simp
    have q7 : cI wq w.heap.size 7 z := by rw [hwq]; go_simp
    have no : ∀ j : Nat, (Value.slice B' m c').ownBlock ≠ some (⟨w.heap.size, j, none⟩ : Addr).block := fun j e => row_none_ne HS.out.own H2.out (by decide) e
    have hq := (ownsRow_setCell_other (ownsRow_setCell_other (ownsRow_setCell_other (ownsRow_setCell_other (ownsRow_setCell_other (ownsRow_setCell_other (ownsRow_setCell_other (ownsRow_setCell_other HS.out.own (no 0) (.slice B' m c')) (no 1) (.int .i64 I)) (no 2) (.int .i64 H)) (no 3) (.int .i64 S)) (no 4) (.int .i64 P)) (no 5) (.string D)) (no 6) (.string Q)) (no 7) (.int .i64 z))
    have hBq := ((((((((HS.out.be.setCell (p := ⟨w.heap.size, 0, none⟩) nL (.slice B' m c')).setCell (p := ⟨w.heap.size, 1, none⟩) nL (.int .i64 I)).setCell (p := ⟨w.heap.size, 2, none⟩) nL (.int .i64 H)).setCell (p := ⟨w.heap.size, 3, none⟩) nL (.int .i64 S)).setCell (p := ⟨w.heap.size, 4, none⟩) nL (.int .i64 P)).setCell (p := ⟨w.heap.size, 5, none⟩) nL (.string D)).setCell (p := ⟨w.heap.size, 6, none⟩) nL (.string Q)).setCell (p := ⟨w.heap.size, 7, none⟩) nL (.int .i64 z))
    rw [← hwq] at hq hBq
    obtain ⟨B9, c9, e9, hd⟩ := drawnRow_of 4 hq (show w.heap.size ≤ w.heap.size + 2 by omega)
    cases e9
    clear hwq HS H2
    try simp only [Exit.inBlock, Exit.then]
    refine bodyPost_ret (by simp [results, Tryz.results26, go_sem, q0, q1, q2, q3, q4, q5, q6, q7]; try rfl) rfl ?_
    exact ⟨_, _, _, _, _, _, _, _, _, _, _, _, rfl, hm7, by omega, by omega, by omega, hd, hBq⟩
   | true =>
    clear hs
    go_wp2_with fail
    refine (pick_any g n c _ 2 A w7 hC hn (by omega) (by omega) (by omega)).mono ?_
    rintro e w8 ⟨k2, rfl, hk2, hC, hf⟩
    have hS := hS.step hf
    clear hf
    have hkw : IntKind.i64.wrap (29 + (k2 : Int)) = ((29 + k2 : Nat) : Int) := by rw [IntWalk.i64_in _ (by omega)]; omega
    have hin : ∃ (j : Nat) (s : ByteArray), j ≤ 30 ∧ (.int .i64 ((29 + k2 : Nat) : Int) : Value) = .int .i64 j ∧ (.string ⟨#[]⟩ : Value) = .string s ∧ s.size ≤ 30 - j + 30 ∧ DS w w8 g b5 B' m c' L I H S P D Q z := ⟨29 + k2, _, by omega, rfl, rfl, Nat.zero_le _, hS⟩
    clear hS hC
    go_wp2_with fail
    go_loopw [6, 8] (fun sv nv wr => ∃ (j : Nat) (s : ByteArray), j ≤ 30 ∧ nv = .int .i64 j ∧ sv = .string s ∧ s.size ≤ 30 - j + 30 ∧ DS w wr g b5 B' m c' L I H S P D Q z) (fun _ nv _ => (intOf nv).toNat)
    case atStart => exact hin
    case round =>
     clear hin hkw
     obtain ⟨j, s, hj, rfl, rfl, hs, hS⟩ := hrel
     by_cases hlt : 0 < j
     ·have hki : (0 : Int) < (j : Int) := by omega
      have hkw : IntKind.i64.wrap ((j : Int) - 1) = ((j - 1 : Nat) : Int) := by rw [IntWalk.i64_in _ (by omega)]; omega
      have HS := lh hS
      clear hS
      go_wp2
      go_roundw
      case rel => exact ⟨j - 1, _, by omega, by go_num, rfl, by (try simp only [ByteArray.size_append', ByteArray.size_mk', List.size_toArray, List.length_cons, List.length_nil]); omega, HS.out⟩
      case measure => simp [intOf]; omega
     ·have hki : ¬ ((0 : Int) < (j : Int)) := by omega
      have h5 := hS.box
      have h2 := hS.zero
      obtain ⟨e0, e1, e2, e3, e4, e5, e6, e7⟩ := cells8 h5
      obtain ⟨r0, r1, r2, r3, r4, r5, r6, r7⟩ := cells8 h2
      have rf := fz h2
      have H2 := lh h2
      have HS := lh hS
      have hne : b5 ≠ w.heap.size := by have := hS.g1; have := hS.g2; omega
      have hne2 : w.heap.size ≠ b5 := hne.symm
      clear h2 h5 hS
      go_wp2
      obtain ⟨wq, hwq⟩ : ∃ wq, wq = ((((((((wr.setCell ⟨w.heap.size, 0, none⟩ (.slice B' m c')).setCell ⟨w.heap.size, 1, none⟩ (.int .i64 I)).setCell ⟨w.heap.size, 2, none⟩ (.int .i64 H)).setCell ⟨w.heap.size, 3, none⟩ (.int .i64 S)).setCell ⟨w.heap.size, 4, none⟩ (.int .i64 P)).setCell ⟨w.heap.size, 5, none⟩ (.string D)).setCell ⟨w.heap.size, 6, none⟩ (.string Q)).setCell ⟨w.heap.size, 7, none⟩ (.int .i64 z)) := ⟨_, rfl⟩
      rw [← hwq]
      have q0 : cE wq w.heap.size 0 (.slice B' m c') := by rw [hwq]; go_simp
      have q1 : cI wq w.heap.size 1 I := by rw [hwq]; go_simp
      have q2 : cI wq w.heap.size 2 H := by rw [hwq]; go_simp
      have q3 : cI wq w.heap.size 3 S := by rw [hwq]; go_simp
      have q4 : cI wq w.heap.size 4 P := by rw [hwq]; go_simp
      have q5 : cE wq w.heap.size 5 (.string D) := by rw [hwq]; go_simp
      have q6 : cE wq w.heap.size 6 (.string Q) := by rw [hwq]; go_simp
      have q7 : cI wq w.heap.size 7 z := by rw [hwq]; go_simp
      have no : ∀ j : Nat, (Value.slice B' m c').ownBlock ≠ some (⟨w.heap.size, j, none⟩ : Addr).block := fun j e => row_none_ne HS.out.own H2.out (by decide) e
      have hq := (ownsRow_setCell_other (ownsRow_setCell_other (ownsRow_setCell_other (ownsRow_setCell_other (ownsRow_setCell_other (ownsRow_setCell_other (ownsRow_setCell_other (ownsRow_setCell_other HS.out.own (no 0) (.slice B' m c')) (no 1) (.int .i64 I)) (no 2) (.int .i64 H)) (no 3) (.int .i64 S)) (no 4) (.int .i64 P)) (no 5) (.string D)) (no 6) (.string Q)) (no 7) (.int .i64 z))
      have hBq := ((((((((HS.out.be.setCell (p := ⟨w.heap.size, 0, none⟩) nL (.slice B' m c')).setCell (p := ⟨w.heap.size, 1, none⟩) nL (.int .i64 I)).setCell (p := ⟨w.heap.size, 2, none⟩) nL (.int .i64 H)).setCell (p := ⟨w.heap.size, 3, none⟩) nL (.int .i64 S)).setCell (p := ⟨w.heap.size, 4, none⟩) nL (.int .i64 P)).setCell (p := ⟨w.heap.size, 5, none⟩) nL (.string D)).setCell (p := ⟨w.heap.size, 6, none⟩) nL (.string Q)).setCell (p := ⟨w.heap.size, 7, none⟩) nL (.int .i64 z))
      rw [← hwq] at hq hBq
      obtain ⟨B9, c9, e9, hd⟩ := drawnRow_of 4 hq (show w.heap.size ≤ w.heap.size + 2 by omega)
      cases e9
      clear hwq HS H2
      try simp only [Exit.inBlock, Exit.then]
      refine bodyPost_ret (by simp [results, Tryz.results26, go_sem, q0, q1, q2, q3, q4, q5, q6, q7]; try rfl) rfl ?_
      exact ⟨_, _, _, _, _, _, _, _, _, _, _, _, rfl, hm7, by omega, by omega, by omega, hd, hBq⟩
end Go.Proofs.YtpndjhelpoenpaaGreatDoor
namespace Go.Proofs.YtpndjhelpoenpaaGreatDoor
open Go.RowKit
theorem cellB8 {a b : World} {p : Addr} {v : Value} (e : a.cell? p = some v) (h : bW a b) : b.cell? p = some v := (h.cell (World.block_lt_of_cell? _ _ e)).trans e
theorem sc_own2 {c : CS} {s : ByteArray} {w w' : World} {e : Ending} (h : ScPost c s w e w') :
  ∃ A' c' lo' hi', e = .returned (.tuple #[.slice A' (scL c s).length c', .bool (scOk c s)]) ∧ (scL c s).length ≤ c' ∧ OwnT w' lo' hi' 9 1 A' (scL c s).length (fun j => (scL c s).getD j ⟨#[]⟩) ∧ bW w w' := by
 obtain ⟨v, rfl, ho, hb⟩ := h
 obtain ⟨A', c', rfl, h1, h2, h3⟩ := ownT_of_row ho
 exact ⟨A', c', _, _, rfl, h1, h3, hb⟩
theorem FnScript_walk (A0 : Option Addr) (n0 c0 : Nat) (w : World) (hnc0 : n0 ≤ c0) (hcm0 : c0 ≤ maxLen) (hk0 : Code w A0 n0) (ht : Tab w) (hm : Mx w) (he : Er w) :
  Calls Tryz.prog 6 #[.slice A0 n0 c0] w fun e w' => e = .returned (.bool true) ∧ bW w w' := by
 by_cases hbig : 65536 < n0
 ·go_enter Tryz.func6, Tryz.ntmps6
  go_wp2_with fail
  refine (vBig_any A0 n0 c0 w).mono ?_
  rw [decide_eq_true hbig]
  rintro e w1 ⟨rfl, rfl⟩
  go_wp2
  go_ret
  exact ⟨rfl, Below.refl _ _⟩
 go_enter Tryz.func6, Tryz.ntmps6
 go_wp2_with fail
 refine (vBig_any A0 n0 c0 w).mono ?_
 rw [decide_eq_false hbig]
 rintro e wx ⟨rfl, hwx⟩
 rw [hwx]
 clear hwx wx
 go_wp2_with fail
 refine (DrawRunScript_any A0 n0 c0 w hk0 (by omega)).mono ?_
 rintro e w1 ⟨B0, m0, cm0, L0, I0, H0, S0, P0, D, Q, z, s, rfl, hm0, hD, hQ, hs, hd, hB⟩
 have HT := lh ht
 have HM := lh hm
 have HE := lh he
 clear hk0 ht hm he
 have BX := hB
 clear hB
 have hs0 := hd.own.sl
 have hle0 := hd.le
 have hn0 := hd.nil
 clear hd
 go_upto_region 4 with fail
 refine name_wp ?_
 intro v1 hw
 have hb := ba hw
 have hr3 := an hw
 clear hw
 have sz1 := hb.size
 have BX := below_of BX hb BX.size
 have hs0 := hs0.below hb
 clear hb
 have j3 := rowLt hr3
 obtain ⟨x3, hq3⟩ : ∃ q, w1.heap.size = q := ⟨_, rfl⟩
 rw [hq3] at hr3 j3
 try rw [hq3]
 clear hq3
 obtain ⟨ok, K, G, nl, LN, t, fk, hK, hnl, HK, HI, HS, H1, HSP, HFI, HFS⟩ : ∃ (ok : Bool) (K : Nat) (G : Nat → ByteArray) (nl : Nat) (LN : Nat → ByteArray) (t : ByteArray) (fk : Bool), K ≤ 30 ∧ nl ≤ 1001 ∧ Hid ((ok = true → 0 < K) ∧ (ok = false → K = 0)) ∧
   Hid (∀ (W : World) (lo hi : Nat), Sl W lo hi 4 B0 m0 (lf L0) → Tab W → Mx W → Er W → Calls Tryz.prog 17 #[.agg (cB B0 m0 cm0 I0 H0 S0 P0 D Q z), .string s] W fun e w' => ∃ (A' : Option Addr) (c' lo' hi' : Nat), e = .returned (.tuple #[.slice A' K c', .bool ok]) ∧ K ≤ c' ∧ OwnT w' lo' hi' 9 1 A' K G ∧ bW W w') ∧ Hid (∀ (W : World) (lo hi : Nat), Sl W lo hi 4 B0 m0 (lf L0) → Calls Tryz.prog 16 #[.agg (cB B0 m0 cm0 I0 H0 S0 P0 D Q z), .string s] W fun e w' => ∃ (A' : Option Addr) (c' lo' hi' : Nat), e = .returned (.tuple #[.slice A' K c', .bool ok]) ∧ K ≤ c' ∧ OwnT w' lo' hi' 9 1 A' K G ∧ bW W w') ∧ Hid (ok = true → ∀ (W : World) (lo hi : Nat), Sl W lo hi 4 B0 m0 (lf L0) → Tab W → Mx W → Er W → Calls Tryz.prog 17 #[.agg (cB B0 m0 cm0 I0 H0 S0 P0 D Q z), .string (LN 0)] W fun e w' => ∃ (A' : Option Addr) (c' lo' hi' : Nat), e = .returned (.tuple #[.slice A' 1 c', .bool true]) ∧ 1 ≤ c' ∧ OwnT w' lo' hi' 9 1 A' 1 (fun _ => G 0) ∧ bW W w') ∧ Hid (∀ W : World, Calls Tryz.prog 27 (sV s ⟨#[10]⟩) W fun e w' => ∃ (A' : Option Addr) (c' : Nat), e = .returned (.tuple #[.slice A' nl c', .bool true]) ∧ nl ≤ c' ∧ SlT w' W.heap.size w'.heap.size 1 A' nl LN ∧ bW W w') ∧
   Hid (∀ (W : World) (lo hi : Nat), Sl W lo hi 4 B0 m0 (lf L0) → Tab W → Mx W → Calls Tryz.prog 28 #[.agg (cB B0 m0 cm0 I0 H0 S0 P0 D Q z)] W fun e w' => e = .returned (.tuple #[.string t, .bool fk]) ∧ bW W w') ∧ Hid (∀ (W : World) (lo hi : Nat), Sl W lo hi 4 B0 m0 (lf L0) → Calls Tryz.prog 29 #[.agg (cB B0 m0 cm0 I0 H0 S0 P0 D Q z)] W fun e w' => e = .returned (.tuple #[.string t, .bool fk]) ∧ bW W w') := by
  have hfit : Fit (⟨lf L0, m0, I0, H0, S0, P0, D, Q, z⟩ : CS) := ⟨by show m0 ≤ 1048576; omega, hD, hQ⟩
  refine ⟨scOk (⟨lf L0, m0, I0, H0, S0, P0, D, Q, z⟩ : CS) s, (scL (⟨lf L0, m0, I0, H0, S0, P0, D, Q, z⟩ : CS) s).length, fun j => (scL (⟨lf L0, m0, I0, H0, S0, P0, D, Q, z⟩ : CS) s).getD j ⟨#[]⟩, (wordsV 10 s).length, lnV s, cond (goodWorks (lf L0) m0 I0 H0 S0 P0 && logOk D Q z) (fmtB (lf L0) m0 I0 H0 S0 z) ⟨#[]⟩, (goodWorks (lf L0) m0 I0 H0 S0 P0 && logOk D Q z), sc_long _ _, by have := wordsV_le 10 s; omega, ⟨fun h => (sc_first h).2.2.2, fun h => sc_not h⟩, ?_, ?_, ?_, ?_, ?_, ?_⟩
  ·exact fun W lo hi h1 ht hm he => (RunScript_any (⟨lf L0, m0, I0, H0, S0, P0, D, Q, z⟩ : CS) hfit B0 cm0 lo hi s (by omega) W h1 hle0 hn0 ht hm he).mono fun _ _ h => sc_own2 h
  ·exact fun W lo hi h1 => (sRunScript_any (⟨lf L0, m0, I0, H0, S0, P0, D, Q, z⟩ : CS) hfit B0 cm0 lo hi s (by omega) W h1 hle0 hn0).mono fun _ _ h => sc_own2 h
  ·intro hok W lo hi h1 ht hm he
   obtain ⟨g1, g2, g3, _⟩ := sc_first hok
   have hz := lnV_size s 0
   refine (RunScript_any (⟨lf L0, m0, I0, H0, S0, P0, D, Q, z⟩ : CS) hfit B0 cm0 lo hi (lnV s 0) (by omega) W h1 hle0 hn0 ht hm he).mono fun e w' h => ?_
   obtain ⟨A', c', lo', hi', h2, h3, h4, h5⟩ := sc_own2 h
   rw [g1, g2] at h2
   rw [g2] at h3 h4
   refine ⟨A', c', lo', hi', h2, h3, h4.congr fun j hj => ?_, h5⟩
   have e0 : j = 0 := by simp at hj; omega
   subst e0
   exact g3.symm
  ·exact fun W => SplitString_any s (by omega) W
  ·exact fun W lo hi h1 ht hm => FormatConsole_any B0 m0 cm0 lo hi (lf L0) I0 H0 S0 P0 D Q z W h1 (by omega) hle0 hD hQ ht hm
  ·exact fun W lo hi h1 => sFormatConsole_any B0 m0 cm0 lo hi (lf L0) I0 H0 S0 P0 D Q z W h1 (by omega) hle0 hD hQ
 obtain ⟨e0, e1, e2, e3, e4, e5, e6, e7⟩ := cells8 hr3
 go_wp2_with fail
 refine (HI.out v1 _ _ hs0 (HT.out.below BX) (HM.out.below BX) (HE.out.below BX)).mono ?_
 rintro e v2 ⟨A5, c5, lo5, hi5, rfl, hc5, ho5, hb⟩
 clear e0 e1 e2 e3 e4 e5 e6 e7
 have sz2 := hb.size
 have BX := below_of BX hb BX.size
 have hr3 := rowB hr3 hb
 have hs0 := hs0.below hb
 clear hb
 obtain ⟨e0, e1, e2, e3, e4, e5, e6, e7⟩ := cells8 hr3
 go_wp2_with fail
 refine (HS.out v2 _ _ hs0).mono ?_
 rintro e v3 ⟨A7, c7, lo7, hi7, rfl, hc7, ho7, hb⟩
 clear e0 e1 e2 e3 e4 e5 e6 e7
 have sz3 := hb.size
 have BX := below_of BX hb BX.size
 have hr3 := rowB hr3 hb
 have hs0 := hs0.below hb
 have ho5 := ho5.below hb
 clear hb
 clear HI HS
 have hoo : (ok != ok) = false := by simp
 have hkk : ((K : Int) != (K : Int)) = false := by simp
 have HO5 := lh ho5
 have HO7 := lh ho7
 have HR3 := lh hr3
 have HS0 := lh hs0
 have HBX := lh BX
 clear ho5 ho7 hr3 hs0 BX
 go_wp2_with fail
 go_loopw [9] (fun iv wr => ∃ k : Nat, k ≤ K ∧ iv = .int .i64 k ∧ bW v3 wr) (fun iv _ => K - (intOf iv).toNat)
 case atStart => exact ⟨0, Nat.zero_le _, rfl, Below.refl _ _⟩
 case round =>
  obtain ⟨k, hk, rfl, hbel⟩ := hrel
  by_cases hlt : k < K
  ·obtain ⟨b, off, rfl, hb, HC⟩ := HO5.out.sl.open_ hbel (by omega)
   obtain ⟨b', off', rfl, hb', HD⟩ := HO7.out.sl.open_ hbel (by omega)
   have c0 : cE wr b (off + k) (.string (G k)) := HC.out k (by omega)
   have d0 : cE wr b' (off' + k) (.string (G k)) := HD.out k (by omega)
   clear HC HD HO5 HO7
   have hk0 : (0 : Int) ≤ (k : Int) := by omega
   have hk1 : (k : Int) < (K : Int) := by omega
   generalize G k = gk at *
   have hgg : (gk.toList != gk.toList) = false := bne_self_eq_false _
   go_wp2
   go_quiet (fail)
   go_wp2
   go_roundw
   case rel => exact ⟨k + 1, by omega, by go_num, below_drewN hbel _⟩
   case measure => simp [intOf]; omega
  ·have hke : k = K := by omega
   subst hke
   have hki : ¬ ((k : Int) < (k : Int)) := by omega
   obtain ⟨wl, hwl⟩ : ∃ v, wr = v := ⟨_, rfl⟩
   rw [hwl] at hbel
   try rw [hwl]
   clear hwl wr
   have hr3 := rowB HR3.out hbel
   have hs0 := HS0.out.below hbel
   have ho5 := HO5.out.below hbel
   have BX := below_of HBX.out hbel HBX.out.size
   clear HR3 HS0 HO5 HO7 HBX hbel hoo hkk
   go_wp2_with fail
   refine (HSP.out wl).mono ?_
   rintro e v4 ⟨A10, c10, rfl, hc10, hs10, hb⟩
   clear HSP
   have sz4 := hb.size
   have BX := below_of BX hb BX.size
   have hr3 := rowB hr3 hb
   have hs0 := hs0.below hb
   have ho5 := ho5.below hb
   clear hb
   obtain ⟨hK1, hK0⟩ := HK.out
   clear HK
   cases ok with
   | false =>
    have hkz := hK0 rfl
    subst hkz
    go_wp2
    go_ret
    exact ⟨by simp, BX⟩
   | true =>
    have hk1 := hK1 rfl
    clear hK0 hK1
    by_cases h2 : nl < 2
    ·have h2i : (nl : Int) < 2 := by omega
     have h2d : decide ((nl : Int) < 2) = true := decide_eq_true h2i
     go_wp2
     go_ret
     exact ⟨by simp, BX⟩
    ·have h2i : ¬ ((nl : Int) < 2) := by omega
     have h2d : decide ((nl : Int) < 2) = false := decide_eq_false h2i
     have h0n : (0 : Int) < (nl : Int) := by omega
     go_upto_region 16 with fail
     obtain ⟨b10, o10, rfl, hb10l, hb10h, hc10c⟩ := hs10.here (by omega)
     have d0 := hc10c 0 (by omega)
     rw [Nat.add_zero] at d0
     have h0N : 0 < nl := by omega
     clear hc10c
     generalize LN 0 = s0 at *
     have HF : Hid (∀ w', bW v4 w' → cE w' x3 0 (.slice B0 m0 cm0) ∧ cI w' x3 1 I0 ∧ cI w' x3 2 H0 ∧ cI w' x3 3 S0 ∧ cI w' x3 4 P0 ∧ cE w' x3 5 (.string D) ∧ cE w' x3 6 (.string Q) ∧ cI w' x3 7 z ∧ cE w' b10 o10 (.string s0)) := fun w' hq => by
      have h3 := rowB hr3 hq
      exact ⟨by rw [cell_of_row w' x3 0 _ _ (0, 0) h3]; rfl, by rw [cell_of_row w' x3 1 _ _ (0, 0) h3]; rfl, by rw [cell_of_row w' x3 2 _ _ (0, 0) h3]; rfl, by rw [cell_of_row w' x3 3 _ _ (0, 0) h3]; rfl, by rw [cell_of_row w' x3 4 _ _ (0, 0) h3]; rfl, by rw [cell_of_row w' x3 5 _ _ (0, 0) h3]; rfl, by rw [cell_of_row w' x3 6 _ _ (0, 0) h3]; rfl, by rw [cell_of_row w' x3 7 _ _ (0, 0) h3]; rfl, cellB8 d0 hq⟩
     clear d0 hs10
     refine wp_region_held_drew (S := fun w' => bW v4 w') (by kernel_rfl) ((Below.refl _ _).drew) (fun jd => ?_)
     obtain ⟨y0, hv0⟩ : ∃ v, v4.drew = v := ⟨_, rfl⟩
     rw [hv0] at jd ⊢
     clear hv0
     refine tj4 0 81 1 82 2 83 3 84 HF jd ?_
     refine wpAnyH_ready (rs := [4]) (by kernel_rfl) (by simp) ?_
     refine (AllReadyH.cons rfl (fun K hK => ?_) AllReadyH.nil)
     go_simp
     refine (H1.out (by simp) y0 _ _ (hs0.below jd) (HT.out.below (BX.trans (jd.mono BX.size))) (HM.out.below (BX.trans (jd.mono BX.size))) (HE.out.below (BX.trans (jd.mono BX.size)))).mono ?_
     rintro e v5 ⟨A12, c12, lo12, hi12, rfl, hc12, ho12, hb2⟩
     have hb := jd.trans (hb2.mono jd.size)
     refine hK.out _ _ hb (fun jd => ?_)
     clear hK K hb2 HF
     have HF : Hid (∀ w', bW v4 w' → True) := fun _ _ => trivial
     refine tj4 5 80 6 86 7 87 8 12 HF jd ?_
     refine tj 9 13 HF rfl jd ?_
     refine wpAnyH_done (by kernel_rfl) ?_ _
     clear jd HF H1
     have sz5 := hb.size
     have BX := below_of BX hb BX.size
     have hr3 := rowB hr3 hb
     have hs0 := hs0.below hb
     have ho5 := ho5.below hb
     clear hb
     obtain ⟨e0, e1, e2, e3, e4, e5, e6, e7⟩ := cells8 hr3
     go_wp2_with fail
     refine (HFI.out v5 _ _ hs0 (HT.out.below BX) (HM.out.below BX)).mono ?_
     rintro e v6 ⟨rfl, hb⟩
     clear e0 e1 e2 e3 e4 e5 e6 e7
     have sz6 := hb.size
     have BX := below_of BX hb BX.size
     have hr3 := rowB hr3 hb
     have hs0 := hs0.below hb
     have ho5 := ho5.below hb
     have ho12 := ho12.below hb
     clear hb
     obtain ⟨e0, e1, e2, e3, e4, e5, e6, e7⟩ := cells8 hr3
     go_wp2_with fail
     refine (HFS.out v6 _ _ hs0).mono ?_
     rintro e v7 ⟨rfl, hb⟩
     clear e0 e1 e2 e3 e4 e5 e6 e7
     have sz7 := hb.size
     have BX := below_of BX hb BX.size
     have hr3 := rowB hr3 hb
     have hs0 := hs0.below hb
     have ho5 := ho5.below hb
     have ho12 := ho12.below hb
     clear hb
     obtain ⟨ba, oa, rfl, hba, HC⟩ := ho5.sl.open_ (Below.refl _ v7) hk1
     obtain ⟨bb, ob, rfl, hbb, HD⟩ := ho12.sl.open_ (Below.refl _ v7) (by omega)
     have c0 : cE v7 ba (oa + 0) (.string (G 0)) := HC.out 0 (by omega)
     have d0 : cE v7 bb (ob + 0) (.string (G 0)) := HD.out 0 (by omega)
     rw [Nat.add_zero] at c0 d0
     clear HC HD ho5 ho12 hr3 hs0 HFI HFS
     generalize G 0 = g0 at *
     have hki1 : (0 : Int) < (k : Int) := by omega
     go_wp2
     go_quiet (fail)
     go_wp2
     go_ret
     exact ⟨by simp, below_drewN BX _⟩
end Go.Proofs.YtpndjhelpoenpaaGreatDoor
