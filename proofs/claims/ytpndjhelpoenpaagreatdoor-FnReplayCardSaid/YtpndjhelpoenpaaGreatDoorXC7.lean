/-
  Texts of this claim, merged.
-/
import Derived.Test.YtpndjhelpoenpaaGreatDoorXA29
import Derived.Test.YtpndjhelpoenpaaGreatDoorXC1
set_option linter.unusedVariables false
set_option linter.unusedSimpArgs false
set_option maxRecDepth 100000
set_option maxHeartbeats 8000000
namespace Go.Proofs.YtpndjhelpoenpaaGreatDoor
open Go.RowKit
theorem strs_new (L : List BA) {cs : Array Value} {w : World} {T : TypeId} (hcs : cs = (L.map Value.string).toArray) (j : Nat) (hj : j < L.length) :
  cE (w.alloc (.cells cs T)) w.heap.size j (.string (L.getD j ⟨#[]⟩)) := by
 subst hcs
 simp [hj, List.getD]
theorem of_any (g n c p cm B b m : Nat) (A : Option Addr) (w : World) (L : List BA) (HR : Hid (∀ j, j < m → cE w b j (.string (L.getD j ⟨#[]⟩)))) (hm1 : 1 ≤ m) (hm2 : m ≤ 1000) (hL : ∀ j, j < m → (L.getD j ⟨#[]⟩).size ≤ B) (hC : Cur w g A n c p) (hn : n ≤ 65536) (hp : p ≤ 900000000) (hb : b < w.heap.size) (hg : g < b) :
  Calls Tryz.prog 107 #[.pointer (some ⟨g, 0, none⟩), .slice (some ⟨b, 0, none⟩) m cm] w fun e w' => ∃ s : BA, e = .returned (.string s) ∧ s.size ≤ B ∧ Cur w' g A n c (p + 2) ∧ Fr g (g + 1) w w' := by
 go_enter Tryz.func107, Tryz.ntmps107
 go_wp2_with fail
 refine (pick_any g n c p m A w hC hn hp hm1 (by omega)).mono ?_
 rintro e w1 ⟨z, rfl, hz, hc1, hf1⟩
 have c0 : cE w1 b z (.string (L.getD z ⟨#[]⟩)) := (World.cell?_of_block (a := ⟨b, z, none⟩) (hf1.block b hb (Or.inr (by omega)))).trans (HR.out z hz)
 have hz1 : (z : Int) < (m : Int) := by omega
 have hsz : (L.getD z ⟨#[]⟩).size ≤ B := hL z hz
 generalize L.getD z ⟨#[]⟩ = s at c0 hsz
 clear HR hL
 go_wp2
 go_ret
 exact ⟨s, rfl, hsz, hc1, hf1⟩
theorem of_lit (g n c p cm B : Nat) (A : Option Addr) (w : World) (L : List BA) (cs : Array Value) (T : TypeId) (m : Nat) (hcs : cs = (L.map Value.string).toArray) (hm : m = L.length) (hm1 : 1 ≤ m) (hm2 : m ≤ 1000) (hL : ∀ s ∈ L, s.size ≤ B) (hC : Cur w g A n c p) (hn : n ≤ 65536) (hp : p ≤ 900000000) :
  Calls Tryz.prog 107 #[.pointer (some ⟨g, 0, none⟩), .slice (some ⟨w.heap.size, 0, none⟩) m cm] (w.alloc (.cells cs T)) fun e w' => ∃ s : BA, e = .returned (.string s) ∧ s.size ≤ B ∧ Cur w' g A n c (p + 2) ∧ Fr g (g + 1) w w' := by
 subst hm
 refine (of_any g n c p cm B w.heap.size L.length A _ L (lh fun j hj => strs_new L hcs j hj) hm1 hm2 (fun j hj => hL _ (by simp only [List.getD, List.getElem?_eq_getElem hj, Option.getD_some]; exact List.getElem_mem hj)) (hC.alloc _) hn hp (by simp) hC.lt).mono ?_
 rintro e w1 ⟨s, rfl, h0, h1, h2⟩
 exact ⟨s, rfl, h0, h1, (Fr.of_below g (g + 1) ((Below.refl _ w).alloc nL _)).trans h2⟩
theorem spoilt_any (t : BA) (ht : t.size ≤ 1048576) (g n c p : Nat) (A : Option Addr) (w : World) (hC : Cur w g A n c p) (hn : n ≤ 65536) (hp : p ≤ 100000000) :
  Calls Tryz.prog 75 #[.pointer (some ⟨g, 0, none⟩), .string t, .string ⟨#[35, 64, 10, 48, 49]⟩] w fun e w' => ∃ s : BA, e = .returned (.string s) ∧ s.size ≤ t.size + 1 ∧ Cur w' g A n c (p + 6) ∧ Fr g (g + 1) w w' := by
 have h5 : (⟨#[35, 64, 10, 48, 49]⟩ : BA).size = 5 := rfl
 generalize (⟨#[35, 64, 10, 48, 49]⟩ : BA) = wi at h5 ⊢
 have h5i : (wi.size : Int) = 5 := by omega
 by_cases h0 : t = ⟨#[]⟩
 ·subst h0
  go_enter Tryz.func75, Tryz.ntmps75
  go_wp2
  go_ret
  exact ⟨_, rfl, by simp [h5], hC.weaken (by omega), Fr.refl _ _ _⟩
 have hts : 0 < t.size := by
  rcases Nat.eq_zero_or_pos t.size with h | h
  ·exact absurd (by apply ba_ext; apply List.eq_nil_of_length_eq_zero; rw [size_list]; exact h) h0
  ·exact h
 have hb0 : t.toList.isEmpty = false := by rw [ByteArray.toList_eq]; cases h : t.data.toList with
  | nil => have := size_list t; rw [h] at this; simp at this; omega
  | cons a l => rfl
 go_enter Tryz.func75, Tryz.ntmps75
 go_wp2_with fail
 refine (pick_any g n c p t.size A w hC hn (by omega) (by omega) (by omega)).mono ?_
 rintro e w1 ⟨i, rfl, hi, hC1, hF1⟩
 go_wp2_with fail
 have hp5 := pick_any g n c _ 5 A w1 hC1 hn (by omega) (by omega) (by omega)
 refine hp5.mono ?_
 rintro e w2 ⟨k, rfl, hk, hC2, hF2⟩
 have hii : (i : Int) ≤ (t.size : Int) := by omega
 have hi1 : (i : Int) + 1 ≤ (t.size : Int) := by omega
 have hiw : IntKind.i64.wrap ((i : Int) + 1) = (i : Int) + 1 := by rw [IntWalk.i64_in _ (by omega)]
 have hki : (k : Int) < (wi.size : Int) := by omega
 have hk5 : (k : Int) ≤ 5 := by omega
 have hks : (wi.extract k 5).size = 5 - k := by simp [ByteArray.size_extract, h5]
 have hks1 : (1 : Int) ≤ ((wi.extract k 5).size : Int) := by omega
 go_wp2_with fail
 refine (pick_any g n c _ 3 A w2 hC2 hn (by omega) (by omega) (by omega)).mono ?_
 rintro e w3 ⟨j, rfl, hj, hC3, hF3⟩
 have hx1 : (t.extract 0 i).size = i := by simp [ByteArray.size_extract]; omega
 have hx2 : (t.extract i t.size).size = t.size - i := by simp [ByteArray.size_extract]
 have hx3 : (t.extract (i + 1) t.size).size = t.size - (i + 1) := by simp [ByteArray.size_extract]
 have hx4 : ((wi.extract k 5).extract 0 1).size = 1 := by simp [ByteArray.size_extract, hks]; omega
 generalize (wi.extract k 5).extract 0 1 = ch at hx4 ⊢
 have hF := (hF1.trans hF2).trans hF3
 clear hC hC1 hC2 hF1 hF2 hF3 hp5
 have HC3 := lh hC3
 have HF3 := lh hF
 clear hC3 hF
 by_cases j0 : j = 0
 ·subst j0
  go_wp2
  go_quiet (fail)
  go_wp2
  go_ret
  exact ⟨_, rfl, by simp [ByteArray.size_append, hx1, hx2, hx4]; omega, (HC3.out.drewN _).weaken nL, HF3.out.trans (Fr.of_below _ _ (below_drewN (Below.refl _ _) _))⟩
 have j0i : ((j : Int) == 0) = false := by simp; omega
 by_cases j1 : j = 1
 ·subst j1
  go_wp2
  go_quiet (fail)
  go_wp2
  go_ret
  exact ⟨_, rfl, by simp [ByteArray.size_append, hx1, hx3, hx4]; omega, (HC3.out.drewN _).weaken nL, HF3.out.trans (Fr.of_below _ _ (below_drewN (Below.refl _ _) _))⟩
 have j1i : ((j : Int) == 1) = false := by simp; omega
 go_wp2
 go_quiet (fail)
 go_wp2
 go_ret
 exact ⟨_, rfl, by simp [ByteArray.size_append, hx1, hx3]; omega, (HC3.out.drewN _).weaken nL, HF3.out.trans (Fr.of_below _ _ (below_drewN (Below.refl _ _) _))⟩
theorem rowFr {w w' : World} {g r : Nat} {o : Obj} (h : w.heap[r]? = some o) (hf : Fr g (g + 1) w w') (hg : g < r) : w'.heap[r]? = some o := (hf.block r (gL h) (Or.inr hg)).trans h
theorem rowAl {w : World} {r : Nat} {o : Obj} (h : w.heap[r]? = some o) (x : Obj) : (w.alloc x).heap[r]? = some o := (((Below.refl _ w).alloc nL x).block r (gL h)).trans h
theorem nameW0 {P : Program} {c : Go.Code} {Q : Exit → Act → World → Prop} {a : Act} {W : World} (h : ∀ w2, w2 = W → c.wp P Q a w2) : c.wp P Q a W := h W rfl
theorem logRecord_any (g n c p : Nat) (A : Option Addr) (w : World) (hC : Cur w g A n c p) (hn : n ≤ 65536) (hp : p ≤ 100000000) :
  Calls Tryz.prog 69 #[.pointer (some ⟨g, 0, none⟩)] w fun e w' => ∃ x y : BA, e = .returned (.agg (sV x y)) ∧ x.size ≤ 20 ∧ y.size ≤ 20 ∧ Cur w' g A n c (p + 8) ∧ Fr g (g + 1) w w' := by
 go_enter Tryz.func69, Tryz.ntmps69
 go_upto_region 1 with fail
 revert hC
 refine z348 ?_
 intro w0 h2 hC0 hF hg2
 go_wp2_with fail
 refine (of_lit g n c _ _ 20 A w0 [⟨#[99, 111, 117, 110, 116]⟩, ⟨#[115, 111, 114, 116, 32, 109, 101, 114, 103, 101]⟩, ⟨#[120]⟩, ⟨#[115, 101, 108, 101, 99, 116, 32, 50]⟩, ⟨#[48, 32, 49]⟩] _ _ _ rfl rfl (by simp) (by simp) (by intro s hs; simp at hs; rcases hs with rfl | rfl | rfl | rfl | rfl <;> decide) hC0 hn (by omega)).mono ?_
 rintro e w1 ⟨x, rfl, hx, hC1, hF1⟩
 have h2 := rowFr h2 hF1 hg2
 have hF := hF.trans hF1
 clear hC0 hF1
 go_wp2_with fail
 refine (of_lit g n c _ _ 20 A w1 [⟨#[]⟩, ⟨#[51]⟩, ⟨#[63]⟩, ⟨#[97, 64, 98]⟩, ⟨#[51, 32, 49, 32, 50]⟩] _ _ _ rfl rfl (by simp) (by simp) (by intro s hs; simp at hs; rcases hs with rfl | rfl | rfl | rfl | rfl <;> decide) hC1 hn (by omega)).mono ?_
 rintro e w2 ⟨y, rfl, hy, hC2, hF2⟩
 have h2 := rowFr h2 hF2 hg2
 have hF := hF.trans hF2
 clear hC1 hF2
 go_upto_region 2 with fail
 refine nameW0 ?_
 intro w3 hw3
 have h3 := an hw3
 have hg3 : w.heap.size < w2.heap.size := rowLt h2
 have h2 := (by rw [hw3]; exact rowAl h2 _ : w3.heap[w.heap.size]? = some (.cells (sV ⟨#[]⟩ ⟨#[]⟩) 70 (0, 0)))
 have hC3 := (by rw [hw3]; exact hC2.alloc _ : Cur w3 g A n c (p + 2 + 2))
 have hF := (by rw [hw3]; exact hF.alloc' _ : Fr g (g + 1) w w3)
 clear hw3 hC2
 generalize w2.heap.size = b3 at h3 hg3 ⊢
 go_wp2_with fail
 refine (pick_any g n c _ 24 A w3 hC3 hn (by omega) (by omega) (by omega)).mono ?_
 rintro e w4 ⟨z, rfl, hz, hC4, hF4⟩
 have h2 := rowFr h2 hF4 hg2
 have h3 := rowFr h3 hF4 (by omega)
 have hF := hF.trans hF4
 clear hC3 hF4
 by_cases z0 : z = 0
 ·subst z0
  obtain ⟨wb, hwb⟩ : ∃ wb, wb = w4.alloc (.cells #[.int .u8 0, .int .u8 0, .int .u8 0] 5) := ⟨_, rfl⟩
  have hmk : (Instr.makeSlice 52 (.int .i64 3) (.int .i64 3)).run Tryz.prog w4 = .ok (.slice (some ⟨w4.heap.size, 0, none⟩) 3 3) wb := by rw [hwb]; kernel_rfl
  have hcv : (convert 52 9 (.slice (some ⟨w4.heap.size, 0, none⟩) 3 3)).run Tryz.prog wb = .ok (.string ⟨#[0, 0, 0]⟩) wb := by
   refine run_convert_bytes_back (P := Tryz.prog) wb 52 9 5 ⟨w4.heap.size, 0, none⟩ 3 [0, 0, 0] Tryz.underlying52 Tryz.underlying5 Tryz.underlying9 (fun j hj => ?_)
   have he : (⟨w4.heap.size, 0, none⟩ : Addr).add j = ⟨w4.heap.size, j, none⟩ := by unfold Addr.add; split <;> simp_all
   rw [he, hwb]
   have hj : j < 3 := hj
   rcases j with _ | _ | _ | j <;> first | (simp; done) | omega
  have h2 := (by rw [hwb]; exact rowAl h2 _ : wb.heap[w.heap.size]? = some (.cells (sV ⟨#[]⟩ ⟨#[]⟩) 70 (0, 0)))
  have h3 := (by rw [hwb]; exact rowAl h3 _ : wb.heap[b3]? = some (.cells (sV x y) 70 (0, 0)))
  have hC4 := (by rw [hwb]; exact hC4.alloc _ : Cur wb g A n c (p + 2 + 2 + 2))
  have hF := (by rw [hwb]; exact hF.alloc' _ : Fr g (g + 1) w wb)
  clear hwb
  go_wp2_with fail
  refine (of_lit g n c _ _ 20 A wb [⟨#[]⟩, ⟨#[97, 64, 98]⟩, ⟨#[97, 35]⟩, ⟨#[10]⟩, ⟨#[0, 0, 0]⟩] _ _ _ rfl rfl (by simp) (by simp) (by intro s hs; simp at hs; rcases hs with rfl | rfl | rfl | rfl | rfl <;> decide) hC4 hn (by omega)).mono ?_
  rintro e w5 ⟨s, rfl, hs, hC5, hF5⟩
  have h2 := rowFr h2 hF5 hg2
  have h3 := rowFr h3 hF5 (by omega)
  have hF := hF.trans hF5
  clear hC4 hF5
  obtain ⟨u0, u1, uf0, uf1⟩ := row2 h2
  obtain ⟨v0, v1, vf0, vf1⟩ := row2 h3
  refine z349 ?_
  intro hne hne2
  have HC := lh hC5
  have HF := lh hF
  clear h2 h3 hF hC5
  go_wp2
  obtain ⟨wq, hwq⟩ : ∃ wq, wq = (((w5.setCell ⟨b3, 0, none⟩ (.string s)).setCell ⟨w.heap.size, 0, none⟩ (.string s)).setCell ⟨w.heap.size, 1, none⟩ (.string y)) := ⟨_, rfl⟩
  rw [← hwq]
  have q0 : cE wq w.heap.size 0 (.string s) := by rw [hwq]; go_simp
  have q1 : cE wq w.heap.size 1 (.string y) := by rw [hwq]; go_simp
  have hFq : Fr g (g + 1) w wq := by rw [hwq]; exact (((HF.out.setOwn (j := 0) (p := ⟨b3, 0, none⟩) (by show _ ≤ b3; omega) _).setOwn (j := 0) (p := ⟨w.heap.size, 0, none⟩) nL _).setOwn (j := 0) (p := ⟨w.heap.size, 1, none⟩) nL _)
  have hCq : Cur wq g A n c (p + 8) := by rw [hwq]; exact ((((HC.out.weaken (by omega) : Cur w5 g A n c (p + 8)).setOwn (q := ⟨b3, 0, none⟩) (by show _ < b3; omega) _).setOwn (q := ⟨w.heap.size, 0, none⟩) hg2 _).setOwn (q := ⟨w.heap.size, 1, none⟩) hg2 _)
  exact z350
 have z0i : ((z : Int) == 0) = false := by simp; omega
 by_cases z1 : z = 1
 ·subst z1
  go_wp2_with fail
  refine (of_lit g n c _ _ 20 A w4 [⟨#[35]⟩, ⟨#[10]⟩, ⟨#[127]⟩] _ _ _ rfl rfl (by simp) (by simp) (by intro s hs; simp at hs; rcases hs with rfl | rfl | rfl <;> decide) hC4 hn (by omega)).mono ?_
  rintro e w5 ⟨s, rfl, hs, hC5, hF5⟩
  have h2 := rowFr h2 hF5 hg2
  have h3 := rowFr h3 hF5 (by omega)
  have hF := hF.trans hF5
  clear hC4 hF5
  obtain ⟨u0, u1, uf0, uf1⟩ := row2 h2
  obtain ⟨v0, v1, vf0, vf1⟩ := row2 h3
  refine z349 ?_
  intro hne hne2
  have HC := lh hC5
  have HF := lh hF
  clear h2 h3 hF hC5
  go_wp2
  obtain ⟨wq, hwq⟩ : ∃ wq, wq = (((w5.setCell ⟨b3, 1, none⟩ (.string s)).setCell ⟨w.heap.size, 0, none⟩ (.string x)).setCell ⟨w.heap.size, 1, none⟩ (.string s)) := ⟨_, rfl⟩
  rw [← hwq]
  have q0 : cE wq w.heap.size 0 (.string x) := by rw [hwq]; go_simp
  have q1 : cE wq w.heap.size 1 (.string s) := by rw [hwq]; go_simp
  have hFq : Fr g (g + 1) w wq := by rw [hwq]; exact (((HF.out.setOwn (j := 0) (p := ⟨b3, 1, none⟩) (by show _ ≤ b3; omega) _).setOwn (j := 0) (p := ⟨w.heap.size, 0, none⟩) nL _).setOwn (j := 0) (p := ⟨w.heap.size, 1, none⟩) nL _)
  have hCq : Cur wq g A n c (p + 8) := by rw [hwq]; exact ((((HC.out.weaken (by omega) : Cur w5 g A n c (p + 8)).setOwn (q := ⟨b3, 1, none⟩) (by show _ < b3; omega) _).setOwn (q := ⟨w.heap.size, 0, none⟩) hg2 _).setOwn (q := ⟨w.heap.size, 1, none⟩) hg2 _)
  exact z350
 have z1i : ((z : Int) == 1) = false := by simp; omega
 obtain ⟨u0, u1, uf0, uf1⟩ := row2 h2
 obtain ⟨v0, v1, vf0, vf1⟩ := row2 h3
 refine z349 ?_
 intro hne hne2
 have HC := lh hC4
 have HF := lh hF
 clear h2 h3 hF hC4
 go_wp2
 obtain ⟨wq, hwq⟩ : ∃ wq, wq = ((w4.setCell ⟨w.heap.size, 0, none⟩ (.string x)).setCell ⟨w.heap.size, 1, none⟩ (.string y)) := ⟨_, rfl⟩
 rw [← hwq]
 have q0 : cE wq w.heap.size 0 (.string x) := by rw [hwq]; go_simp
 have q1 : cE wq w.heap.size 1 (.string y) := by rw [hwq]; go_simp
 have hFq : Fr g (g + 1) w wq := by rw [hwq]; exact ((HF.out.setOwn (j := 0) (p := ⟨w.heap.size, 0, none⟩) nL _).setOwn (j := 0) (p := ⟨w.heap.size, 1, none⟩) nL _)
 have hCq : Cur wq g A n c (p + 8) := by rw [hwq]; exact (((HC.out.weaken (by omega) : Cur w4 g A n c (p + 8)).setOwn (q := ⟨w.heap.size, 0, none⟩) hg2 _).setOwn (q := ⟨w.heap.size, 1, none⟩) hg2 _)
 exact z350
end Go.Proofs.YtpndjhelpoenpaaGreatDoor
namespace Go.Proofs.YtpndjhelpoenpaaGreatDoor
open Go.RowKit
theorem command_any (g n c p : Nat) (A : Option Addr) (B : Option Addr) (m cm lo hi : Nat) (f : Nat → Int) (I H S P : Int) (D Q : ByteArray) (z0 : Int) (w : World) (hC0 : Cur w g A n c p) (hn : n ≤ 65536) (hp : p ≤ 700000000) (hs : Sl w lo hi 4 B m f) (hlo : g < lo) (hm : m ≤ 1000000) (hmc : m ≤ cm) (HBD : Hid ((∀ j, j < m * 4 → Rg (f j)) ∧ H ≤ 9223372036854775807)) :
  Calls Tryz.prog 61 #[.pointer (some ⟨g, 0, none⟩), .agg (cB B m cm I H S P D Q z0)] w fun e w' => ∃ s : ByteArray, e = .returned (.string s) ∧ s.size ≤ 100 ∧ Cur w' g A n c (p + 24) ∧ Fr g (g + 1) w w' := by
 go_enter Tryz.func61, Tryz.ntmps61
 have hg : g < w.heap.size := hC0.lt
 go_upto_region 1 with fail
 refine nameWS ?_
 intro w1 hw1
 have hb : bW w w1 := by rw [hw1]; exact (Below.refl _ w).alloc nL _
 have h1 := an hw1
 have hs := hs.below hb
 have hC := hC0.below hb
 have hF := Fr.of_below g (g + 1) hb
 clear hw1 hC0 hb
 obtain ⟨e0, e1, e2, e3, e4, e5, e6, e7⟩ := cells8 h1
 go_wp2_with fail
 refine (worksStep_any g n c _ A B m cm lo hi f I H S P w1 hC hn (by omega) hs hlo hm hmc HBD).mono ?_
 rintro e w2 ⟨a0, a1, a2, a3, rfl, hbd, hC, hf⟩
 have hF := hF.trans hf
 obtain ⟨hr1, hr2, hr3⟩ := hbd
 clear hf h1 hs e0 e1 e2 e3 e4 e5 e6 e7
 go_upto_region 2 with fail
 refine nameWS ?_
 intro w3 hw3
 have hb : bW w2 w3 := by rw [hw3]; exact (Below.refl _ w2).alloc nL _
 have h5 := an hw3
 have hgz := hC.lt
 have hC := hC.below hb
 have hF := hF.trans (Fr.of_below g (g + 1) hb)
 obtain ⟨b5, hb5⟩ : ∃ q, w2.heap.size = q := ⟨_, rfl⟩
 rw [hb5] at h5 hgz
 try rw [hb5]
 clear hw3 hb hb5
 have hq1 : 0 ≤ mostV 0 a1 ∧ mostV 0 a1 ≤ 9223372036854775807 := by unfold mostV; split <;> omega
 have hq3 : 0 ≤ mostV 0 a3 ∧ mostV 0 a3 ≤ 9223372036854775807 := by unfold mostV; split <;> omega
 have hn1 := numB_size (n := mostV 0 a1) (by omega) (by omega)
 have hn2 := numB_size (n := a2) (by omega) (by omega)
 have hn3 := numB_size (n := mostV 0 a3) (by omega) (by omega)
 have HF : Hid (∀ w', bW w3 w' → cI w' b5 0 a0 ∧ cI w' b5 1 a1 ∧ cI w' b5 2 a2 ∧ cI w' b5 3 a3) := fun w' hq => by
  have h3 := rowB h5 hq
  exact (cells4 h3)
 refine wp_region_class (C := fun w' => bW (w3) w') (by kernel_rfl) (by kernel_rfl) ((Below.refl _ _).drew) ?_
 refine tr 13 HF ?_
 refine tr 14 HF ?_
 refine wpQuiet_meet (d := 15) (v := ?_) ?_ ?_ (by rfl) ?_ ?_ ?_
 rotate_left
 rotate_left
 rotate_left
 ·exact y930
 ·intro wS hS
  refine (quiet_below (l1Most_any _ _ _)).mono ?_
  exact y931
 refine y916 ?_
 refine wpQuiet_meet (d := 16) (v := ?_) ?_ ?_ (by rfl) ?_ ?_ ?_
 rotate_left
 rotate_left
 rotate_left
 ·exact y930
 ·intro wS hS
  refine (l1Num_any (mostV 0 a1) hq1.1 hq1.2 wS).mono ?_
  exact y931
 refine y916 ?_
 refine tr 17 HF ?_
 refine tr 18 HF ?_
 refine wpQuiet_meet (d := 19) (v := ?_) ?_ ?_ (by rfl) ?_ ?_ ?_
 rotate_left
 rotate_left
 rotate_left
 ·exact y930
 ·intro wS hS
  refine (l1Num_any a2 hr2.1 hr2.2 wS).mono ?_
  exact y931
 refine y916 ?_
 refine tr 20 HF ?_
 refine tr 21 HF ?_
 refine wpQuiet_meet (d := 22) (v := ?_) ?_ ?_ (by rfl) ?_ ?_ ?_
 rotate_left
 rotate_left
 rotate_left
 ·exact y930
 ·intro wS hS
  refine (quiet_below (l1Most_any _ _ _)).mono ?_
  exact y931
 refine y916 ?_
 refine wpQuiet_meet (d := 23) (v := ?_) ?_ ?_ (by rfl) ?_ ?_ ?_
 rotate_left
 rotate_left
 rotate_left
 ·exact y930
 ·intro wS hS
  refine (l1Num_any (mostV 0 a3) hq3.1 hq3.2 wS).mono ?_
  exact y931
 refine y916 ?_
 refine tr 6 HF ?_
 refine tr 7 HF ?_
 refine tr 8 HF ?_
 refine wpQuiet_nil (fun wq jd => ?_)
 generalize numB (mostV 0 a1) = sn at hn1 ⊢
 generalize numB a2 = st at hn2 ⊢
 generalize numB (mostV 0 a3) = sv at hn3 ⊢
 have hC := hC.below jd
 have hF := hF.trans (Fr.of_below g (g + 1) jd)
 have h5 := rowB h5 jd
 clear HF jd hq1 hq3 hr1 hr2 hr3
 go_wp2_with fail
 refine (pick_any g n c _ 6 A wq hC hn (by omega) (by omega) (by omega)).mono ?_
 rintro e w4 ⟨k, rfl, hk, hC4, hf⟩
 have hF := hF.trans hf
 have h5 := (hf.block _ (gL h5) (Or.inr (by omega))).trans h5
 have c0 : cI w4 b5 0 a0 := by rw [cell_of_row w4 b5 0 _ _ (0, 0) h5]; rfl
 clear hf h5 hC
 have HC4 := lh hC4
 have HF4 := lh hF
 clear hF
 have h6 : k ≤ 3 ∨ k = 4 ∨ k = 5 := by omega
 rcases h6 with h6 | rfl | rfl
 ·clear hC4
  have h4 : k = 0 ∨ k = 1 ∨ k = 2 ∨ k = 3 := by omega
  skip
  clear h6
  rcases h4 with rfl | rfl | rfl | rfl
  ·exact y932
  ·exact y932
  ·exact y932
  ·exact y932
 ·go_wp2_with fail
  refine (of_lit g n c _ _ 40 A w4 [⟨#[105, 110]⟩, ⟨#[104, 101, 97, 112]⟩, ⟨#[112, 97, 110, 115]⟩, ⟨#[109, 97, 121]⟩, ⟨#[111, 114, 100, 101, 114]⟩, ⟨#[109, 111, 114, 101, 32]⟩ ++ sn, ⟨#[116, 101, 120, 116, 32]⟩ ++ sn] _ _ _ rfl rfl (by simp) (by simp) (by intro s hs; simp only [List.mem_cons, List.not_mem_nil, or_false] at hs; rcases hs with rfl | rfl | rfl | rfl | rfl | rfl | rfl <;> first | decide | (simp only [ByteArray.size_append', ByteArray.size_mk', List.size_toArray, List.length_cons, List.length_nil]; omega)) hC4 hn (by omega)).mono ?_
  exact y934
 ·go_wp2_with fail
  refine (of_lit g n c _ _ 40 A w4 [⟨#[]⟩, ⟨#[119, 104, 97, 116]⟩, ⟨#[116, 97, 107, 101, 32, 49]⟩, ⟨#[100, 114, 121, 32, 120, 32, 49]⟩, ⟨#[100, 114, 121, 32, 49, 32, 48]⟩, ⟨#[115, 104, 117, 116]⟩, ⟨#[109, 111, 114, 101, 32, 48]⟩, ⟨#[97, 64, 98]⟩, ⟨#[105, 110, 32, 49]⟩, ⟨#[108, 101, 97, 100, 32, 49, 32, 49, 32, 49]⟩, ⟨#[116, 101, 120, 116, 32, 45, 49]⟩] _ _ _ rfl rfl (by simp) (by simp) (by intro s hs; simp only [List.mem_cons, List.not_mem_nil, or_false] at hs; rcases hs with rfl | rfl | rfl | rfl | rfl | rfl | rfl | rfl | rfl | rfl | rfl <;> first | decide | (simp only [ByteArray.size_append', ByteArray.size_mk', List.size_toArray, List.length_cons, List.length_nil]; omega)) hC4 hn (by omega)).mono ?_
  exact y934
end Go.Proofs.YtpndjhelpoenpaaGreatDoor
