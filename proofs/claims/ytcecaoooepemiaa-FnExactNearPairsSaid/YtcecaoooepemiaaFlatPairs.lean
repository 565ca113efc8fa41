/-
  The helpers of the laws for slices of rows of two ints: equality, marks; each returns what its name says.
-/
import Derived.Test.YtcecaoooepemiaaPairs
import Derived.Test.YtcecaoooepemiaaFlatInt
import Derived.Test.YtcecaoooepemiaaRegionQ
namespace Go.Proofs.Ytcecaoooepemiaa
open Go.RowKit
set_option linter.unusedVariables false
set_option linter.unusedSimpArgs false
attribute [local go_sem ↓] Go.wp_at_zero Go.wp_at_succ

theorem Rws.open_ {w wr : World} {lo hi n : Nat} {A : Option Addr} {f : Nat → Int} (h : Rws w lo hi A n f) (hb : Below w.heap.size w wr) {k : Nat} (hk : k < n) :
    ∃ g q, A = some ⟨g, 0, none⟩ ∧ g < wr.heap.size ∧ wr.cell? ⟨g, k, none⟩ = some (.slice (some ⟨q, 0, none⟩) 2 2) ∧ Sl wr q (q + 1) 1 (some ⟨q, 0, none⟩) 2 (fun i => f (k * 2 + i)) := by
  obtain ⟨gs, h1, h2, h3, h4⟩ := h.below hb
  obtain ⟨g, cur, rfl, a1, a2, a3, a4⟩ := h2 (by omega)
  exact ⟨g, gs k, rfl, by omega, by rw [cell_of_row wr g k cur _ (0, 0) a3]; exact a4 k hk, (h3 k hk).2.2.sl⟩
theorem Fr.sub {lo hi lo' hi' : Nat} {w w' : World} (h : Fr lo' hi' w w') (h1 : lo ≤ lo') (h2 : hi' ≤ hi) : Fr lo hi w w' :=
  ⟨h.os, h.tape, h.output, h.size, fun k hk hx => h.block k hk (by omega)⟩
theorem RwsG.marked {w w2 : World} {lo hi n m : Nat} {A : Option Addr} {gs : Nat → Nat} {k0 : Int} {f : Nat → Int} (h : RwsG w lo hi A n gs (marked k0 (m * 2) f)) (hm : m < n)
    (hO : Own w2 (gs m) (gs m + 1) 3 1 (some ⟨gs m, 0, none⟩) 2 (fun j => k0 + (m : Int) * 2 + j)) (hF : Fr (gs m) (gs m + 1) w w2) : Rws w2 lo hi A n (marked k0 ((m + 1) * 2) f) := by
  obtain ⟨h1, h2, h3, h4⟩ := h
  obtain ⟨g', cur', e', _, _, b3, _⟩ := (h3 m hm).2.2.here (by omega)
  simp only [Option.some.injEq, Addr.mk.injEq, and_true] at e'
  subst e'
  refine ⟨gs, Nat.le_trans h1 hF.size, fun hn => ?_, fun j hj => ?_, h4⟩
  · obtain ⟨g, cur, e, a1, a2, a3, a4⟩ := h2 hn
    have hne : g ≠ gs m := fun e => by subst e; rw [b3] at a3; simp at a3
    exact ⟨g, cur, e, a1, a2, (hF.block g (by omega) (by omega)).trans a3, a4⟩
  · obtain ⟨r1, r2, r3⟩ := h3 j hj
    refine ⟨r1, r2, ?_⟩
    by_cases hjm : j = m
    · subst hjm
      exact hO.congr (fun i hi => by simp only [Go.Proofs.Ytcecaoooepemiaa.marked]; rw [if_pos (by omega)]; push_cast; omega)
    · have hne : gs j ≠ gs m := fun e => hjm (h4 j m hj hm e)
      exact (r3.fr hF (by omega)).congr (fun i hi => by simp only [Go.Proofs.Ytcecaoooepemiaa.marked]; split <;> split <;> first | rfl | omega)

set_option maxHeartbeats 800000 in
theorem eqIntSS_same (A B : Option Addr) (n c d lo hi lo' hi' : Nat) (f : Nat → Int) (w : World) (hs : Rws w lo hi A n f) (ht : Rws w lo' hi' B n f) (hn : n ≤ 1048576) (hnc : n ≤ c) (hnd : n ≤ d) :
    Calls Try.prog 28 #[.slice A n c, .slice B n d] w fun e w' => e = .returned (.bool true) ∧ Below w.heap.size w w' := by
  have HS : Hid (Rws w lo hi A n f) := hs
  have HT : Hid (Rws w lo' hi' B n f) := ht
  clear hs ht
  go_enter Try.func28, Try.ntmps28
  go_wp2
  go_loopw [5] (fun i wr => ∃ k : Nat, k ≤ n ∧ i = .int .i64 k ∧ Below w.heap.size w wr) (fun i _ => n - (intOf i).toNat)
  case atStart => exact ⟨0, Nat.zero_le _, rfl, Below.refl _ _⟩
  case round =>
    obtain ⟨k, hk, rfl, hbel⟩ := hrel
    by_cases hlt : k < n
    · obtain ⟨g, q, rfl, hg, c0, hS0⟩ := HS.out.open_ hbel hlt
      obtain ⟨g', q', rfl, hg', d0, hT0⟩ := HT.out.open_ hbel hlt
      have HF : Hid (∀ w', Below wr.heap.size wr w' → w'.cell? ⟨g, k, none⟩ = some (.slice (some ⟨q, 0, none⟩) 2 2) ∧ w'.cell? ⟨g', k, none⟩ = some (.slice (some ⟨q', 0, none⟩) 2 2)) := fun w' hq => ⟨(hq.cell (p := ⟨g, k, none⟩) hg).trans c0, (hq.cell (p := ⟨g', k, none⟩) hg').trans d0⟩
      have HS2 : Hid (Sl wr q (q + 1) 1 (some ⟨q, 0, none⟩) 2 (fun i => f (k * 2 + i))) := hS0
      have HT2 : Hid (Sl wr q' (q' + 1) 1 (some ⟨q', 0, none⟩) 2 (fun i => f (k * 2 + i))) := hT0
      clear HS HT c0 d0 hS0 hT0
      have hk0 : (0 : Int) ≤ (k : Int) := by omega
      have hk1 : (k : Int) < (n : Int) := by omega
      go_wp2
      refine wp_region_class (C := fun w' => Below (wr).heap.size (wr) w') (by kernel_rfl) (by kernel_rfl) ((Below.refl _ _).drew) ?_
      refine wpQuiet_take (d := 17) (v := ?_) (by rfl) ?_ ?_
      rotate_left
      · intro wS hS
        have eF := HF.out wS hS
        go_simp
        try with_reducible rfl
      simp only [Act.put, List.setIfInBounds_toArray, List.set_cons_zero, List.set_cons_succ]
      refine wpQuiet_take (d := 18) (v := ?_) (by rfl) ?_ ?_
      rotate_left
      · intro wS hS
        have eF := HF.out wS hS
        go_simp
        try with_reducible rfl
      simp only [Act.put, List.setIfInBounds_toArray, List.set_cons_zero, List.set_cons_succ]
      refine wpQuiet_take (d := 19) (v := ?_) (by rfl) ?_ ?_
      rotate_left
      · intro wS hS
        have eF := HF.out wS hS
        go_simp
        try with_reducible rfl
      simp only [Act.put, List.setIfInBounds_toArray, List.set_cons_zero, List.set_cons_succ]
      refine wpQuiet_take (d := 20) (v := ?_) (by rfl) ?_ ?_
      rotate_left
      · intro wS hS
        have eF := HF.out wS hS
        go_simp
        try with_reducible rfl
      simp only [Act.put, List.setIfInBounds_toArray, List.set_cons_zero, List.set_cons_succ]
      refine wpQuiet_take (d := 21) (v := ?_) (by rfl) ?_ ?_
      rotate_left
      · intro wS hS
        have eF := HF.out wS hS
        go_simp
        try with_reducible rfl
      simp only [Act.put, List.setIfInBounds_toArray, List.set_cons_zero, List.set_cons_succ]
      refine wpQuiet_take (d := 22) (v := ?_) (by rfl) ?_ ?_
      rotate_left
      · intro wS hS
        have eF := HF.out wS hS
        go_simp
        try with_reducible rfl
      simp only [Act.put, List.setIfInBounds_toArray, List.set_cons_zero, List.set_cons_succ]
      refine wpQuiet_take (d := 23) (v := ?_) (by rfl) ?_ ?_
      rotate_left
      · intro wS hS
        have eF := HF.out wS hS
        go_simp
        try with_reducible rfl
      simp only [Act.put, List.setIfInBounds_toArray, List.set_cons_zero, List.set_cons_succ]
      refine wpQuiet_take (d := 24) (v := ?_) (by rfl) ?_ ?_
      rotate_left
      · intro wS hS
        have eF := HF.out wS hS
        go_simp
        try with_reducible rfl
      simp only [Act.put, List.setIfInBounds_toArray, List.set_cons_zero, List.set_cons_succ]
      refine wpQuiet_meet (d := 25) (v := ?_) ?_ ?_ (by rfl) ?_ ?_ ?_
      rotate_left
      rotate_left
      rotate_left
      · intro wS hS
        have eF := HF.out wS hS
        go_simp
        first | with_reducible rfl | (refine ⟨?_, ?_⟩ <;> with_reducible rfl)
      · intro wS hS
        refine (eqIntS_same _ _ 2 2 2 _ _ _ _ _ wS (HS2.out.below hS) (HT2.out.below hS) (by omega) (Nat.le_refl _) (Nat.le_refl _)).mono ?_
        rintro e w2 ⟨rfl, hb2⟩
        refine ⟨?_, hS.trans (hb2.mono hS.size)⟩
        with_reducible rfl
      simp only [Act.put, List.setIfInBounds_toArray, List.set_cons_zero, List.set_cons_succ]
      refine wpQuiet_take (d := 26) (v := ?_) (by rfl) ?_ ?_
      rotate_left
      · intro wS hS
        have eF := HF.out wS hS
        go_simp
        try with_reducible rfl
      simp only [Act.put, List.setIfInBounds_toArray, List.set_cons_zero, List.set_cons_succ]
      refine wpQuiet_nil (fun wq hHeld => ?_)
      go_wp2
      go_roundw
      case rel => exact ⟨k + 1, by omega, by go_num, below_of hbel hHeld hbel.size⟩
      case measure => simp [intOf]; omega
    · clear HS HT
      go_wp2
      go_ret
      exact ⟨rfl, hbel⟩

set_option maxHeartbeats 800000 in
theorem markIntSS_any (A : Option Addr) (n c lo hi : Nat) (k0 : Int) (f : Nat → Int) (w : World) (hs : Rws w lo hi A n f) (hn : n ≤ 1048576) (hnc : n ≤ c) (h0 : 0 ≤ k0) (h1 : k0 ≤ 1000000) :
    Calls Try.prog 29 #[.slice A n c, .int .i64 k0] w fun e w' => e = .returned (.int .i64 (k0 + (n : Int) * 2)) ∧ Rws w' lo hi A n (fun j => k0 + j) ∧ Fr lo hi w w' := by
  have HS : Hid (Rws w lo hi A n f) := hs
  clear hs
  go_enter Try.func29, Try.ntmps29
  go_wp2
  go_loopw [1, 5] (fun kv i wr => ∃ m : Nat, m ≤ n ∧ i = .int .i64 m ∧ kv = .int .i64 (k0 + (m : Int) * 2) ∧ Rws wr lo hi A n (marked k0 (m * 2) f) ∧ Fr lo hi w wr) (fun _ i _ => n - (intOf i).toNat)
  case atStart => exact ⟨0, Nat.zero_le _, rfl, by simp, HS.out.congr (fun j _ => by simp [marked]), Fr.refl _ _ _⟩
  case round =>
    obtain ⟨m, hm, rfl, rfl, hR, hfr⟩ := hrel
    clear HS
    by_cases hlt : m < n
    · obtain ⟨gs, hG⟩ := hR
      obtain ⟨g, cur, rfl, a1, a2, a3, a4⟩ := hG.out (by omega)
      obtain ⟨r1, r2, r3⟩ := hG.row m hlt
      have c0 : wr.cell? ⟨g, m, none⟩ = some (.slice (some ⟨gs m, 0, none⟩) 2 2) := by rw [cell_of_row wr g m cur _ (0, 0) a3]; exact a4 m hlt
      have HG : Hid (RwsG wr lo hi (some ⟨g, 0, none⟩) n gs (marked k0 (m * 2) f)) := hG
      have HR3 : Hid (Own wr (gs m) (gs m + 1) 3 1 (some ⟨gs m, 0, none⟩) 2 (fun i => marked k0 (m * 2) f (m * 2 + i))) := r3
      clear hG a1 a2 a3 a4 r3
      go_wp2_with fail
      refine (markIntS_any (some ⟨gs m, 0, none⟩) 2 2 (gs m) (gs m + 1) (k0 + (m : Int) * 2) _ wr HR3.out (by omega) (by omega) (by omega) (by omega)).mono ?_
      rintro e w2 ⟨rfl, hO, hfr2⟩
      have hR2 : Hid (Rws w2 lo hi (some ⟨g, 0, none⟩) n (marked k0 ((m + 1) * 2) f)) := HG.out.marked hlt hO hfr2
      have hF2 : Fr lo hi w w2 := hfr.trans (hfr2.sub r1 (by omega))
      clear HG HR3 hO hfr2 hfr c0
      go_wp2
      go_roundw
      case rel => exact ⟨m + 1, by omega, by go_num, by go_num, hR2.out, hF2⟩
      case measure => simp [intOf]; omega
    · have hmn : m = n := by omega
      go_wp2
      go_ret
      subst hmn
      exact ⟨rfl, hR.congr (fun j hj => by simp only [marked]; rw [if_pos (by omega)]), hfr⟩

set_option maxHeartbeats 800000 in
theorem heldIntSS_any (A : Option Addr) (n c lo hi : Nat) (k0 : Int) (w : World) (hs : Rws w lo hi A n (fun j => k0 + j)) (hn : n ≤ 1048576) (hnc : n ≤ c) (h0 : 0 ≤ k0) (h1 : k0 ≤ 1000000) :
    Calls Try.prog 30 #[.slice A n c, .int .i64 k0] w fun e w' => e = .returned (.int .i64 (k0 + (n : Int) * 2)) ∧ w = w' := by
  have HS : Hid (Rws w lo hi A n (fun j => k0 + j)) := hs
  clear hs
  go_enter Try.func30, Try.ntmps30
  go_wp2
  go_loop [1, 5] (fun kv i => ∃ m : Nat, m ≤ n ∧ i = .int .i64 m ∧ kv = .int .i64 (k0 + (m : Int) * 2)) (fun _ i => n - (intOf i).toNat)
  case atStart => exact ⟨0, Nat.zero_le _, rfl, by simp⟩
  case round =>
    obtain ⟨m, hm, rfl, rfl⟩ := hrel
    by_cases hlt : m < n
    · obtain ⟨g, q, rfl, hg, c0, hS0⟩ := HS.out.open_ (Below.refl _ _) hlt
      have HS2 : Hid (Sl w q (q + 1) 1 (some ⟨q, 0, none⟩) 2 (fun j => k0 + (m : Int) * 2 + j)) := hS0.congr (fun j _ => by push_cast; omega)
      clear HS hS0
      go_wp2_with fail
      refine (heldIntS_any (some ⟨q, 0, none⟩) 2 2 q (q + 1) (k0 + (m : Int) * 2) w HS2.out (by omega) (by omega) (by omega) (by omega)).mono ?_
      rintro e w2 ⟨rfl, rfl⟩
      have hnn : ¬ (k0 + (m : Int) * 2 + ((2 : Nat) : Int) < 0) := by omega
      go_wp2
      go_round
      case rel => exact ⟨m + 1, by omega, by go_num, by go_num⟩
      case measure => simp [intOf]; omega
    · have hmn : m = n := by omega
      clear HS
      go_wp2
      go_ret
      subst hmn
      exact ⟨rfl, rfl⟩
end Go.Proofs.Ytcecaoooepemiaa
