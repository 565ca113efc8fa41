/-
  Texts of this claim, merged.
-/
import Derived.Test.YtpndjhelpoenpaaGreatDoorXA24
import Derived.Test.YtpndjhelpoenpaaGreatDoorXA29
import Derived.Test.YtpndjhelpoenpaaGreatDoorXC1
set_option linter.unusedVariables false
set_option linter.unusedSimpArgs false
set_option maxRecDepth 100000
set_option maxHeartbeats 8000000
namespace Go.Proofs.YtpndjhelpoenpaaGreatDoor
open Go.RowKit
theorem infoWorksK : (Tryz.prog.info? 32).map (·.size) = some 5 := by kernel_rfl
theorem rowT {w : World} {r : Nat} {cur : Array Value} {T : TypeId} (h : w.heap[r]? = some (.cells cur T (0, 0))) : ∃ cur, w.heap[r]? = some (.cells cur T (0, 0)) := ⟨_, h⟩
theorem own_formK {w : World} {base n c : Nat} {A' : Option Addr} {xs : List Value} (h : w.ownsRow base 97 4 (.slice A' n c) n xs) {ad : Addr} (e : A' = some ad) : ∃ b off, ad = ⟨b, off, none⟩ := by
 subst e
 rcases h.2 with ⟨hv, hn⟩ | ⟨g, cap, cur, hv, _⟩
 ·cases hv
 ·cases hv
  exact ⟨_, _, rfl⟩
theorem good_none : goodWorks (lf []) 0 0 0 0 0 = true := by
 have hw : wrap64 0 = 0 := by rw [← IntWalk.i64_left]; exact IntWalk.i64_in 0 (by omega)
 simp [goodWorks, pansOk, allTo, kilosOk, totalV, sumW, inR, hw]
theorem sStep_draw (A : Option Addr) (n c lo hi : Nat) (f : Nat → Int) (I H S P kd id t0 z : Int) (w : World) (hs : Sl w lo hi 4 A n f) (hn : n ≤ 1048576) (hnc : n ≤ c) (hnone : A = none → n = 0 ∧ c = 0) (hform : ∀ ad, A = some ad → ∃ b off, ad = ⟨b, off, none⟩) :
  Calls Tryz.prog 71 #[.agg (wB A n c I H S P), .agg (iV kd id t0 z)] w fun e w' =>
   ∃ (L2 : List Int) (m2 : Nat) (I2 H2 S2 P2 : Int) (ok : Bool), (ok = true → goodWorks (lf L2) m2 I2 H2 S2 P2 = true) ∧ panPostL w L2 m2 I2 H2 S2 P2 ok e w' := by
 refine (sStepWorks_any A n c lo hi f I H S P kd id t0 z w hs hn hnc hnone hform).mono ?_
 intro e w' hp
 refine ⟨_, _, _, _, _, _, _, fun hk => ?_, hp⟩
 simp only [hk, if_true]
 simp only [stOk, mkOk, Bool.and_eq_true] at hk
 exact hk.2.2.2.2
structure WK (w W : World) (g b3 : Nat) (B' : Option Addr) (m c' : Nat) (L : List Int) (I H S P : Int) : Prop where
 fr : Fr g (g + 1) w W
 box : W.heap[b3]? = some (.cells (wB B' m c' I H S P) 32 (0, 0))
 own : W.ownsRow w.heap.size 97 4 (.slice B' m c') m (L.map (Value.int .i64))
 zero : W.heap[w.heap.size]? = some (.cells (wB none 0 0 0 0 0 0) 32 (0, 0))
 le : m ≤ c'
 max : c' ≤ maxLen
theorem WK.step {w W W' : World} {g b3 : Nat} {B' : Option Addr} {m c' : Nat} {L : List Int} {I H S P : Int} (h : WK w W g b3 B' m c' L I H S P) (hf : Fr g (g + 1) W W') (hg : g < w.heap.size) (hb3 : w.heap.size + 1 < b3) : WK w W' g b3 B' m c' L I H S P :=
 ⟨h.fr.trans hf, (hf.block _ (gL h.box) (Or.inr (by omega))).trans h.box, own_step h.own (by omega) hf, (hf.block _ (gL h.zero) (Or.inr (by omega))).trans h.zero, h.le, h.max⟩
theorem WK.below {w W W' : World} {g b3 : Nat} {B' : Option Addr} {m c' : Nat} {L : List Int} {I H S P : Int} (h : WK w W g b3 B' m c' L I H S P) (hb : bW W W') : WK w W' g b3 B' m c' L I H S P :=
 ⟨h.fr.trans (Fr.of_below _ _ hb), rowB h.box hb, ownsRow_below h.own hb, rowB h.zero hb, h.le, h.max⟩
theorem WK.grown {w W W' : World} {g b3 r : Nat} {B' : Option Addr} {m c' : Nat} {L : List Int} {I H S P : Int} (h : WK w W g b3 B' m c' L I H S P) (hg : W.grownBy W' (some r)) (hr : ∃ cur, W.heap[r]? = some (.cells cur 32 (0, 0))) (hr3 : r ≠ b3) (hrw : w.heap.size < r) : WK w W' g b3 B' m c' L I H S P := by
 obtain ⟨cur, hc⟩ := hr
 exact ⟨⟨hg.os.trans h.fr.os, hg.tape.trans h.fr.tape, hg.output.trans h.fr.output, Nat.le_trans h.fr.size hg.size, fun k hk hx => (hg.block k (Nat.lt_of_lt_of_le hk h.fr.size) (fun e => by have := Option.some.inj e; omega)).trans (h.fr.block k hk hx)⟩,
  (hg.block _ (gL h.box) (fun e => by have := Option.some.inj e; omega)).trans h.box, own_other h.own hc (by decide) hg, (hg.block _ (gL h.zero) (fun e => by have := Option.some.inj e; omega)).trans h.zero, h.le, h.max⟩
def BD (L : List Int) (m : Nat) (H : Int) : Prop := (∀ j, j < m * 4 → Rg (lf L j)) ∧ H ≤ 9223372036854775807
theorem bd_good {L : List Int} {m : Nat} {I H S P : Int} (hg : goodWorks (lf L) m I H S P = true) : Hid (BD L m H) := by
 simp only [goodWorks, pansOk, kilosOk, inR, Bool.and_eq_true, decide_eq_true_eq] at hg
 refine ⟨fun j hj => ?_, by omega⟩
 have hp := allTo_at (k := j / 4) (by omega) hg.1.1.1
 simp only [panStep, okPanAt, okPan, okBrine, inR, Bool.and_eq_true, decide_eq_true_eq] at hp
 have h4 : j = j / 4 * 4 ∨ j = j / 4 * 4 + 1 ∨ j = j / 4 * 4 + 2 ∨ j = j / 4 * 4 + 3 := by omega
 generalize j / 4 = k at hp h4
 rcases h4 with rfl | rfl | rfl | rfl <;> exact ⟨by omega, by omega⟩
theorem bd_app {w : World} {base m : Nat} {v : Value} {L : List Int} {H za zb : Int} (h : Hid (BD L m H)) (ho : w.ownsRow base 97 4 v m (L.map (Value.int .i64))) (ha : Hid (Rg za)) (hb : Hid (Rg zb)) : Hid (BD (L ++ [za, zb, 0, 0]) (m + 1) H) := by
 have hl : L.length = m * 4 := by have := ho.1; simpa using this
 refine ⟨fun j hj => ?_, h.out.2⟩
 by_cases hlt : j < m * 4
 ·have := h.out.1 j hlt
  simpa [lf, List.getD, List.getElem?_append_left (show j < L.length by omega)] using this
 ·have e : lf (L ++ [za, zb, 0, 0]) j = [za, zb, 0, 0].getD (j - m * 4) 0 := by
   simp only [lf, List.getD, List.getElem?_append_right (show L.length ≤ j by omega), hl]
  rw [e]
  have h4 : j - m * 4 = 0 ∨ j - m * 4 = 1 ∨ j - m * 4 = 2 ∨ j - m * 4 = 3 := by omega
  rcases h4 with h4 | h4 | h4 | h4 <;> rw [h4]
  ·exact ha
  ·exact hb
  ·exact (show Rg 0 by decide)
  ·exact (show Rg 0 by decide)
theorem fr_grown {w W W' : World} {g r : Nat} (h : Fr g (g + 1) w W) (hg : W.grownBy W' (some r)) (hr : w.heap.size ≤ r) : Fr g (g + 1) w W' :=
 ⟨hg.os.trans h.os, hg.tape.trans h.tape, hg.output.trans h.output, Nat.le_trans h.size hg.size, fun k hk hx => (hg.block k (Nat.lt_of_lt_of_le hk h.size) (fun e => by have := Option.some.inj e; omega)).trans (h.block k hk hx)⟩
theorem cls_fr (w : World) (g : Nat) : Cls (fun w' => Fr g (g + 1) w w') w.heap.size :=
 ⟨fun w' h => h.size, fun w' o h => h.alloc' o, fun w' w'' k h hg hk => by
  cases k with
  | none => exact ⟨hg.os.trans h.os, hg.tape.trans h.tape, hg.output.trans h.output, Nat.le_trans h.size hg.size, fun k hk hx => (hg.block k (Nat.lt_of_lt_of_le hk h.size) (fun e => by cases e)).trans (h.block k hk hx)⟩
  | some r => exact fr_grown h hg (hk r rfl)⟩
theorem row_keep {w w' : World} {base k n b : Nat} {e T0 : TypeId} {v : Value} {xs : List Value} {cur : Array Value} (h : w.ownsRow base e k v n xs) (hb : w.heap[b]? = some (.cells cur T0 (0, 0))) (hne : e ≠ T0) (hg : w.grownBy w' v.ownBlock) : w'.heap[b]? = some (.cells cur T0 (0, 0)) :=
 (hg.block b (gL hb) (fun e => row_none_ne h hb hne e.symm)).trans hb
theorem mk_wk {w W : World} {g b3 : Nat} {B' : Option Addr} {m c' : Nat} {L : List Int} {I H S P : Int} (hf : Fr g (g + 1) w W) (hb : W.heap[b3]? = some (.cells (wB B' m c' I H S P) 32 (0, 0))) (ho : W.ownsRow w.heap.size 97 4 (.slice B' m c') m (L.map (Value.int .i64))) (hz : W.heap[w.heap.size]? = some (.cells (wB none 0 0 0 0 0 0) 32 (0, 0))) (h1 : m ≤ c') (h2 : c' ≤ maxLen) : WK w W g b3 B' m c' L I H S P := ⟨hf, hb, ho, hz, h1, h2⟩
theorem WK.set2 {w W : World} {g b3 : Nat} {B' : Option Addr} {m c' : Nat} {L : List Int} {I H S P : Int} (h : WK w W g b3 B' m c' L I H S P) (hb : w.heap.size < b3) (v : Int) : WK w (W.setCell ⟨b3, 2, none⟩ (.int .i64 v)) g b3 B' m c' L I v S P :=
 ⟨h.fr.setOwn (j := 0) (p := ⟨b3, 2, none⟩) (by show w.heap.size ≤ b3; omega) _, heap_setCell_same _ b3 2 (wB B' m c' I H S P) 32 (.int .i64 v) h.box, ownsRow_setCell_other h.own (fun e => row_none_ne h.own h.box (by decide) e) _, by rw [heap_setCell_other _ _ _ _ (by show w.heap.size ≠ b3; omega)]; exact h.zero, h.le, h.max⟩
theorem Met.nameM {J : Act → World → Prop} {a : Act} {W : World} (h : ∀ w2, w2 = W → Met J a w2) : Met J a W := h W rfl
theorem with_node {P : Program} {md : Region.Mode} {ops : Array Oper} {Q : Exit → Act → World → Prop} {S : World → Prop} {a0 : Act} {fuel : Nat} {listed : Array Bool} {w : World} (C : Act → Act → World → Prop) (f1 : Nat) (l1 : Array Bool)
  (h1 : ∀ a W, C a0 a W → wpAnyH P md ops Q S f1 l1 a W) (h2 : (∀ a W, C a0 a W → wpAnyH P md ops Q S f1 l1 a W) → wpAnyH P md ops Q S fuel listed a0 w) : wpAnyH P md ops Q S fuel listed a0 w := h2 h1
theorem src_lit (w : World) (za zb : Int) : Src (w.alloc (.cells (iV za zb 0 0) 97)) 4 (some ⟨w.heap.size, 0, none⟩) 1 1 [za, zb, 0, 0] := by
 refine ⟨rfl, ?_, ?_⟩
 ·intro e
  cases e
 intro ad e j u hj
 cases e
 have hj4 : j < 4 := by have := (List.getElem?_eq_some_iff.1 hj).1; simpa using this
 have e2 : (⟨w.heap.size, 0, none⟩ : Addr).add j = ⟨w.heap.size, j, none⟩ := by unfold Addr.add; split <;> simp_all
 rw [e2, cell_of_row _ _ j _ _ (0, 0) (heap_alloc_new w _)]
 have : j = 0 ∨ j = 1 ∨ j = 2 ∨ j = 3 := by omega
 rcases this with rfl | rfl | rfl | rfl <;> simp at hj <;> simp [hj]
def WIn (w W : World) (g : Nat) (A : Option Addr) (n c q b3 : Nat) : Prop :=
 ∃ (B' : Option Addr) (m c' : Nat) (L : List Int) (I H S P : Int), WK w W g b3 B' m c' L I H S P ∧ goodWorks (lf L) m I H S P = true ∧ Cur W g A n c q
theorem WIn.weaken {w W : World} {g n c q q' b3 : Nat} {A : Option Addr} (h : WIn w W g A n c q b3) (hq : q ≤ q') : WIn w W g A n c q' b3 := by
 obtain ⟨B', m, c', L, I, H, S, P, h1, h2, h3⟩ := h
 exact ⟨B', m, c', L, I, H, S, P, h1, h2, h3.weaken hq⟩
theorem works_any (g n c p : Nat) (A : Option Addr) (w : World) (hC0 : Cur w g A n c p) (hn : n ≤ 65536) (hp : p ≤ 700000000) :
  Calls Tryz.prog 103 #[.pointer (some ⟨g, 0, none⟩)] w fun e w' => ∃ (B' : Option Addr) (m c' : Nat) (L : List Int) (I H S P : Int), e = .returned (.agg (wB B' m c' I H S P)) ∧ m ≤ 7 ∧ m ≤ c' ∧ c' ≤ maxLen ∧ Hid (BD L m H) ∧ w'.ownsRow w.heap.size 97 4 (.slice B' m c') m (L.map (Value.int .i64)) ∧ Cur w' g A n c (p + 1000) ∧ Fr g (g + 1) w w' := by
 go_enter Tryz.func103, Tryz.ntmps103
 have hg : g < w.heap.size := hC0.lt
 go_upto_region 1 with fail
 refine y90 ?_
 intro w1 hw1 hz1 hF1 hC hs1
 clear hw1 hC0
 go_upto_region 2 with fail
 refine nameWS ?_
 intro w2 hw2'
 have hw2 : w2 = (w1.alloc (.cells #[] 97)).alloc (.cells (wB (some ⟨w1.heap.size, 0, none⟩) 0 0 0 0 0 0) 32) := hw2'
 have hb12 : bW w1 w2 := by rw [hw2]; exact ((Below.refl _ w1).alloc nL _).alloc (by simp) _
 have hrow : w2.heap[w1.heap.size]? = some (.cells #[] 97 (0, 0)) := by
  rw [hw2, heap_alloc_old _ _ (by simp)]
  exact heap_alloc_new w1 _
 have hbox : w2.heap[w1.heap.size + 1]? = some (.cells (wB (some ⟨w1.heap.size, 0, none⟩) 0 0 0 0 0 0) 32 (0, 0)) := by
  rw [hw2]
  have h := heap_alloc_new (w1.alloc (.cells #[] 97)) (.cells (wB (some ⟨w1.heap.size, 0, none⟩) 0 0 0 0 0 0) 32)
  simpa using h
 have hown : w2.ownsRow w.heap.size 97 4 (.slice (some ⟨w1.heap.size, 0, none⟩) 0 0) 0 (([] : List Int).map (Value.int .i64)) :=
  ⟨rfl, .inr ⟨w1.heap.size, 0, _, rfl, by omega, hrow, Nat.le_refl _, by unfold maxLen; omega, rfl, rfl⟩⟩
 have hC := hC.below hb12
 obtain ⟨b3, hb3e⟩ : ∃ q, w1.heap.size + 1 = q := ⟨_, rfl⟩
 have hb3 : w.heap.size + 1 < b3 := by omega
 rw [hb3e] at hbox
 have hW : WK w w2 g b3 (some ⟨w1.heap.size, 0, none⟩) 0 0 [] 0 0 0 0 := ⟨hF1.trans (Fr.of_below _ _ hb12), hbox, hown, rowB hz1 hb12, Nat.le_refl _, by unfold maxLen; omega⟩
 try rw [hb3e]
 clear hw2' hw2 hrow hbox hown hz1 hF1 hb12 hb3e hs1
 go_wp2_with fail
 refine (pick_any g n c _ 36 A w2 hC hn (by omega) (by omega) (by omega)).mono ?_
 rintro e w3 ⟨k0, rfl, hk0, hC, hf⟩
 have hW := hW.step hf hg (by omega)
 have hin : WIn w w3 g A n c (p + 2) b3 := ⟨_, _, _, _, _, _, _, _, hW, good_none, hC.weaken (by omega)⟩
 clear hW hC hf
 have HB3 := lh hb3
 go_wp2_with fail
 go_loopw [4] (fun nv wr => ∃ k : Nat, k ≤ 35 ∧ nv = .int .i64 k ∧ WIn w wr g A n c (p + 2 + 20 * (35 - k)) b3) (fun nv _ => (intOf nv).toNat)
 case atStart => exact ⟨k0, by omega, rfl, hin.weaken (by omega)⟩
 case round =>
  obtain ⟨k, hk, rfl, hin2⟩ := hrel
  clear hin
  obtain ⟨B', m, c', L, I, H, S, P, hW, hgs, hC⟩ := hin2
  have hm6 := good_len hgs
  have HGS := lh hgs
  clear hgs
  by_cases hlt : 0 < k
  ·have hki : (0 : Int) < (k : Int) := by omega
   have HF : Hid (∀ w', WK w w' g b3 B' m c' L I H S P → cE w' b3 0 (.slice B' m c') ∧ cI w' b3 1 I ∧ cI w' b3 2 H ∧ cI w' b3 3 S ∧ cI w' b3 4 P) := fun w' hS => (cells5 hS.box)
   go_upto_region 5 with fail
   have hWd : WK w wr.drew g b3 B' m c' L I H S P := hW.below (below_drewN (Below.refl _ wr) 1)
   have hCd := hC.drewN 1
   clear hW hC
   refine wp_region_held_drew (S := fun w' => WK w w' g b3 B' m c' L I H S P) (by kernel_rfl) hWd (fun jd => ?_)
   clear hWd
   obtain ⟨v0, hv⟩ : ∃ v, wr.drewN 1 = v := ⟨_, rfl⟩
   have hv' : wr.drew = v0 := hv
   rw [hv] at hCd
   rw [hv'] at jd ⊢
   have hC := hCd
   clear hv hv' hCd
   refine tj3 0 16 1 17 2 18 HF jd ?_
   refine wpAnyH_ready (rs := [3, 8]) (by kernel_rfl) (by simp) ?_
   refine (AllReadyH.cons rfl (fun K hK => ?_) (AllReadyH.cons rfl (fun K hK => ?_) AllReadyH.nil))
   ·go_simp
    refine (worksStep_any g n c _ A B' m c' w.heap.size v0.heap.size (lf L) I H S P v0 hC hn (by omega) (own_sl jd.own) (by omega) (by omega) jd.le (bd_good HGS.out)).mono ?_
    rintro e v1 ⟨a0, a1, a2, a3, rfl, _, hC, hf⟩
    have hS2 := jd.step hf hg hb3
    clear hf jd
    revert K hK hS2
    refine y91 ?_
    intro jd
    refine wpAnyH_ready (rs := [4, 8]) (by kernel_rfl) (by simp) ?_
    refine (AllReadyH.cons rfl (fun K hK => ?_) (AllReadyH.cons rfl (fun K hK => ?_) AllReadyH.nil))
    ·go_simp
     refine (sStep_draw B' m c' w.heap.size v1.heap.size (lf L) I H S P a0 a1 a2 a3 v1 (own_sl jd.own) (by omega) jd.le (fun e => own_nilK jd.own e) (fun ad e => own_formK jd.own e)).mono ?_
     rintro e v2 ⟨L2, m2, I2, H2, S2, P2, ok, hgd, Ar, cr, rfl, hm1, hm2, hown, hb⟩
     have HGD := lh hgd
     clear hgd
     have hown := ownsRow_monoP hown (show w.heap.size ≤ v1.heap.size from Nat.le_of_lt (gL jd.zero))
     have hS2 := jd.below hb
     have hC := hC.below hb
     clear hb jd
     revert K hK hS2
     refine y91 ?_
     intro jd
     refine tj3 5 15 6 21 7 22 HF jd ?_
     refine wpAnyH_ready (rs := [8]) (by kernel_rfl) (by simp) ?_
     refine y92 ?_
     intro K hK
     go_simp
     have h8 := heap_alloc_new v2 (.cells (wB none 0 0 0 0 0 0) 32)
     have hS2 := jd.below ((Below.refl _ v2).alloc nL (.cells (wB none 0 0 0 0 0 0) 32))
     have hC := hC.alloc (.cells (wB none 0 0 0 0 0 0) 32)
     have hz8 : v2.heap.size > b3 := (gL jd.box)
     have hown := ownsRow_below hown ((Below.refl _ v2).alloc nL (.cells (wB none 0 0 0 0 0 0) 32))
     obtain ⟨g5, hge⟩ : ∃ q, v2.heap.size = q := ⟨_, rfl⟩
     rw [hge] at h8 hz8
     try rw [hge]
     obtain ⟨v3, hve⟩ : ∃ v, v2.alloc (.cells (wB none 0 0 0 0 0 0) 32) = v := ⟨_, rfl⟩
     rw [hve] at h8 hS2 hC hown
     rw [hve]
     clear hve hge jd
     revert K hK hS2
     refine y91 ?_
     intro jd
     refine wS0 9 g5 (wB Ar m2 cr I2 H2 S2 P2) 32 infoWorksK h8 (fun w' hg' => jd.grown hg' (rowT h8) (by omega) (by omega)) ?ks4
     case ks4 =>
      exact y93
    ·go_simp
     have h8 := heap_alloc_new v1 (.cells (wB none 0 0 0 0 0 0) 32)
     have hS2 := jd.below ((Below.refl _ v1).alloc nL (.cells (wB none 0 0 0 0 0 0) 32))
     have hC := hC.alloc (.cells (wB none 0 0 0 0 0 0) 32)
     have hz8 : v1.heap.size > b3 := (gL jd.box)
     obtain ⟨g5, hge⟩ : ∃ q, v1.heap.size = q := ⟨_, rfl⟩
     rw [hge] at h8 hz8
     try rw [hge]
     obtain ⟨v5, hve⟩ : ∃ v, v1.alloc (.cells (wB none 0 0 0 0 0 0) 32) = v := ⟨_, rfl⟩
     rw [hve] at h8 hS2 hC
     rw [hve]
     clear hve hge jd
     revert K hK hS2
     refine y91 ?_
     intro jd
     refine y96 ?_
     refine y92 ?_
     intro K hK
     go_simp
     refine (sStep_draw B' m c' w.heap.size v5.heap.size (lf L) I H S P a0 a1 a2 a3 v5 (own_sl jd.own) (by omega) jd.le (fun e => own_nilK jd.own e) (fun ad e => own_formK jd.own e)).mono ?_
     rintro e v6 ⟨L2, m2, I2, H2, S2, P2, ok, hgd, Ar, cr, rfl, hm1, hm2, hown, hb⟩
     have HGD := lh hgd
     clear hgd
     have hown := ownsRow_monoP hown (show w.heap.size ≤ v5.heap.size from Nat.le_of_lt (gL jd.zero))
     have hS2 := jd.below hb
     have hC := hC.below hb
     have h8 := rowB h8 hb
     clear hb jd
     revert K hK hS2
     refine y91 ?_
     intro jd
     refine tj3 5 15 6 21 7 22 HF jd ?_
     refine wS0 9 g5 (wB Ar m2 cr I2 H2 S2 P2) 32 infoWorksK h8 (fun w' hg' => jd.grown hg' (rowT h8) (by omega) (by omega)) ?ks7
     case ks7 =>
      exact y93
   ·go_simp
    have h8 := heap_alloc_new v0 (.cells (wB none 0 0 0 0 0 0) 32)
    have hS2 := jd.below ((Below.refl _ v0).alloc nL (.cells (wB none 0 0 0 0 0 0) 32))
    have hC := hC.alloc (.cells (wB none 0 0 0 0 0 0) 32)
    have hz8 : v0.heap.size > b3 := (gL jd.box)
    obtain ⟨g5, hge⟩ : ∃ q, v0.heap.size = q := ⟨_, rfl⟩
    rw [hge] at h8 hz8
    try rw [hge]
    obtain ⟨v8, hve⟩ : ∃ v, v0.alloc (.cells (wB none 0 0 0 0 0 0) 32) = v := ⟨_, rfl⟩
    rw [hve] at h8 hS2 hC
    rw [hve]
    clear hve hge jd
    revert K hK hS2
    refine y91 ?_
    intro jd
    refine y97 ?_
    refine y92 ?_
    intro K hK
    go_simp
    refine (worksStep_any g n c _ A B' m c' w.heap.size v8.heap.size (lf L) I H S P v8 hC hn (by omega) (own_sl jd.own) (by omega) (by omega) jd.le (bd_good HGS.out)).mono ?_
    rintro e v9 ⟨a0, a1, a2, a3, rfl, _, hC, hf⟩
    have hS2 := jd.step hf hg hb3
    have h8 := (hf.block _ (gL h8) (Or.inr (by omega))).trans h8
    clear hf jd
    revert K hK hS2
    refine y91 ?_
    intro jd
    refine y96 ?_
    refine y92 ?_
    intro K hK
    go_simp
    refine (sStep_draw B' m c' w.heap.size v9.heap.size (lf L) I H S P a0 a1 a2 a3 v9 (own_sl jd.own) (by omega) jd.le (fun e => own_nilK jd.own e) (fun ad e => own_formK jd.own e)).mono ?_
    rintro e v10 ⟨L2, m2, I2, H2, S2, P2, ok, hgd, Ar, cr, rfl, hm1, hm2, hown, hb⟩
    have HGD := lh hgd
    clear hgd
    have hown := ownsRow_monoP hown (show w.heap.size ≤ v9.heap.size from Nat.le_of_lt (gL jd.zero))
    have hS2 := jd.below hb
    have hC := hC.below hb
    have h8 := rowB h8 hb
    clear hb jd
    revert K hK hS2
    refine y91 ?_
    intro jd
    refine tj3 5 15 6 21 7 22 HF jd ?_
    refine wS0 9 g5 (wB Ar m2 cr I2 H2 S2 P2) 32 infoWorksK h8 (fun w' hg' => jd.grown hg' (rowT h8) (by omega) (by omega)) ?ks11
    case ks11 =>
     exact y93
  ·have hki : ¬ ((0 : Int) < (k : Int)) := by omega
   clear HB3
   have hb3 : w.heap.size + 1 < b3 := hb3
   have HBD := bd_good HGS.out
   go_wp2_with fail
   refine (pick_any g n c _ 32 A wr hC hn (by omega) (by omega) (by omega)).mono ?_
   rintro e w5 ⟨k5, rfl, hk5, hC, hf⟩
   have hW := hW.step hf hg (by omega)
   clear hf HGS
   go_upto_block 2 with fail
   go_cut [27] (fun s27 wx => ∃ (B' : Option Addr) (m c' : Nat) (L : List Int) (I H S P : Int), WK w wx g b3 B' m c' L I H S P ∧ m ≤ 7 ∧ Cur wx g A n c (p + 900) ∧ Hid (BD L m H))
   case first =>
    by_cases e0 : k5 = 0
    ·subst e0
     go_upto_region 10 with fail
     revert hW
     refine y98 ?_
     intro hC hbx hzr hown hmc hmx jd
     obtain ⟨v12, hv⟩ : ∃ v, w5.drewN 1 = v := ⟨_, rfl⟩
     have hv' : w5.drew = v12 := hv
     rw [hv] at hC hbx hzr hown
     rw [hv'] at jd ⊢
     clear hv hv'
     have HF : Hid (∀ w', Fr g (g + 1) w w' → True) := fun _ _ => trivial
     refine tj2 0 29 2 31 HF jd ?_
     refine wpAnyH_ready (rs := [1, 3]) (by kernel_rfl) (by simp) ?_
     refine (AllReadyH.cons rfl (fun K hK => ?_) (AllReadyH.cons rfl (fun K hK => ?_) AllReadyH.nil))
     ·have c1 : cI v12 b3 1 I := by rw [cell_of_row v12 b3 1 _ _ (0, 0) hbx]; rfl
      go_simp
      have hS2 := jd
      clear jd c1
      revert K hK hS2
      refine y91 ?_
      intro jd
      refine y97 ?_
      refine y92 ?_
      intro K hK
      refine y99 ?_
      intro hnb hL' hLz
      refine y910 ?_
      intro hS2 hbx hzr hown hC
      obtain ⟨hLg, hLe⟩ : ∃ q, v12.heap.size = q := ⟨_, rfl⟩
      rw [hLe] at hL' hLz
      try rw [hLe]
      clear hLe
      obtain ⟨v13, hve⟩ : ∃ v, v12.alloc (.cells (jV 1 (-1)) 3) = v := ⟨_, rfl⟩
      rw [hve] at hS2 hbx hzr hown hC hL'
      rw [hve]
      clear hve jd hnb
      revert K hK hS2
      refine y91 ?_
      intro jd
      have hL := hL'
      clear hL'
      refine y96 ?_
      refine y92 ?_
      intro K hK
      go_simp
      refine (among_any g n c _ 2 _ hLg (hLg + 1) A _ _ v13 hC hn (by omega) (by omega) (by omega) hL (by omega)).mono ?_
      rintro e v14 ⟨kk, _, rfl, hC, hf⟩
      generalize (([1, -1] : List Int).getD kk 0) = za
      clear hL
      revert jd K hK hf
      refine y911 ?_
      intro hbx hzr hown jd
      refine tj2 5 34 6 35 HF jd ?_
      refine wpAnyH_store (fuel := 0) (i := 7) rfl (by kernel_rfl) b3 1 (.int .i64 (IntKind.i64.wrap (I + za))) 32 _ rfl rfl (by kernel_rfl) hbx (by simp [Value.cells]) (by simp [Value.cells, Value.oneCell']) (fun w' hg' => fr_grown jd hg' (by omega)) ?ks15
      case ks15 =>
       intro v16 hh hgw hS3
       clear jd
       have hFn := hS3
       clear hS3
       have hh : v16.heap[b3]? = some (.cells (wB B' m c' (IntKind.i64.wrap (I + za)) H S P) 32 (0, 0)) := hh
       exact y913
     ·refine y99 ?_
      intro hnb hL' hLz
      refine y910 ?_
      intro hS2 hbx hzr hown hC
      obtain ⟨hLg, hLe⟩ : ∃ q, v12.heap.size = q := ⟨_, rfl⟩
      rw [hLe] at hL' hLz
      try rw [hLe]
      clear hLe
      obtain ⟨v17, hve⟩ : ∃ v, v12.alloc (.cells (jV 1 (-1)) 3) = v := ⟨_, rfl⟩
      rw [hve] at hS2 hbx hzr hown hC hL'
      rw [hve]
      clear hve jd hnb
      revert K hK hS2
      refine y91 ?_
      intro jd
      have hL := hL'
      clear hL'
      refine wpAnyH_ready (rs := [1, 4]) (by kernel_rfl) (by simp) ?_
      refine (AllReadyH.cons rfl (fun K hK => ?_) (AllReadyH.cons rfl (fun K hK => ?_) AllReadyH.nil))
      ·have c1 : cI v17 b3 1 I := by rw [cell_of_row v17 b3 1 _ _ (0, 0) hbx]; rfl
       go_simp
       have hS2 := jd
       clear jd c1
       revert K hK hS2
       refine y91 ?_
       intro jd
       refine y96 ?_
       refine y92 ?_
       intro K hK
       go_simp
       refine (among_any g n c _ 2 _ hLg (hLg + 1) A _ _ v17 hC hn (by omega) (by omega) (by omega) hL (by omega)).mono ?_
       rintro e v18 ⟨kk, _, rfl, hC, hf⟩
       generalize (([1, -1] : List Int).getD kk 0) = za
       clear hL
       revert jd K hK hf
       refine y911 ?_
       intro hbx hzr hown jd
       refine tj2 5 34 6 35 HF jd ?_
       refine wpAnyH_store (fuel := 0) (i := 7) rfl (by kernel_rfl) b3 1 (.int .i64 (IntKind.i64.wrap (I + za))) 32 _ rfl rfl (by kernel_rfl) hbx (by simp [Value.cells]) (by simp [Value.cells, Value.oneCell']) (fun w' hg' => fr_grown jd hg' (by omega)) ?ks19
       case ks19 =>
        intro v20 hh hgw hS3
        clear jd
        have hFn := hS3
        clear hS3
        have hh : v20.heap[b3]? = some (.cells (wB B' m c' (IntKind.i64.wrap (I + za)) H S P) 32 (0, 0)) := hh
        exact y913
      ·go_simp
       refine (among_any g n c _ 2 _ hLg (hLg + 1) A _ _ v17 hC hn (by omega) (by omega) (by omega) hL (by omega)).mono ?_
       rintro e v21 ⟨kk, _, rfl, hC, hf⟩
       generalize (([1, -1] : List Int).getD kk 0) = za
       clear hL
       revert jd K hK hf
       refine y911 ?_
       intro hbx hzr hown jd
       refine wpAnyH_ready (rs := [1]) (by kernel_rfl) (by simp) ?_
       refine y92 ?_
       intro K hK
       have c1 : cI v21 b3 1 I := by rw [cell_of_row v21 b3 1 _ _ (0, 0) hbx]; rfl
       go_simp
       have hS2 := jd
       clear jd c1
       revert K hK hS2
       refine y91 ?_
       intro jd
       refine tj2 5 34 6 35 HF jd ?_
       refine wpAnyH_store (fuel := 0) (i := 7) rfl (by kernel_rfl) b3 1 (.int .i64 (IntKind.i64.wrap (I + za))) 32 _ rfl rfl (by kernel_rfl) hbx (by simp [Value.cells]) (by simp [Value.cells, Value.oneCell']) (fun w' hg' => fr_grown jd hg' (by omega)) ?ks22
       case ks22 =>
        intro v23 hh hgw hS3
        clear jd
        have hFn := hS3
        clear hS3
        have hh : v23.heap[b3]? = some (.cells (wB B' m c' (IntKind.i64.wrap (I + za)) H S P) 32 (0, 0)) := hh
        exact y913
    have n0 : ((k5 : Int) == 0) = false := by simp; omega
    have n0' : ¬ ((k5 : Int) = 0) := by omega
    by_cases e1 : k5 = 1
    ·subst e1
     go_upto_region 12 with fail
     revert hW
     refine y98 ?_
     intro hC hbx hzr hown hmc hmx jd
     obtain ⟨v24, hv⟩ : ∃ v, w5.drewN 1 = v := ⟨_, rfl⟩
     have hv' : w5.drew = v24 := hv
     rw [hv] at hC hbx hzr hown
     rw [hv'] at jd ⊢
     clear hv hv'
     have HF : Hid (∀ w', Fr g (g + 1) w w' → True) := fun _ _ => trivial
     refine tj3 0 38 2 40 5 43 HF jd ?_
     refine with_node (fun a0 a W => ∃ (mg : Nat) (za : Int) (ng : Nat) (zb : Int) (hpg : Nat), a = (((((((a0.put (some 39) (.slice B' m c')).put (some 41) (.slice (some ⟨mg, 0, none⟩) 3 3)).put (some 42) (.int .i64 za)).put (some 44) (.slice (some ⟨ng, 0, none⟩) 3 3)).put (some 45) (.int .i64 zb)).put (some 46) (.agg (iV za zb 0 0))).put (some 47) (.slice (some ⟨hpg, 0, none⟩) 1 1)) ∧ Fr g (g + 1) w W ∧ Cur W g A n c (p + 824) ∧ W.heap[b3]? = some (.cells (wB B' m c' I H S P) 32 (0, 0)) ∧ W.heap[w.heap.size]? = some (.cells (wB none 0 0 0 0 0 0) 32 (0, 0)) ∧ W.ownsRow w.heap.size 97 4 (.slice B' m c') m (L.map (Value.int .i64)) ∧ Hid (Rg za) ∧ Hid (Rg zb) ∧ Src W 4 (some ⟨hpg, 0, none⟩) 1 1 [za, zb, 0, 0]) 3 #[true, true, true, true, true, true, true, true, true, true, false, false, false] ?_ (fun N1346790 => ?_)
     ·clear jd hC hbx hzr hown
      rintro _ W ⟨mg, za, ng, zb, hpg, rfl, jd, hC, hbx, hzr, hown, hBza, hBzb, hsrc⟩
      refine y916 ?_
      have HBA := bd_app HBD hown hBza hBzb
      refine wpAnyH_appS (fuel := 2) (i := 10) (nb := w.heap.size) rfl (by kernel_rfl) 97 4 32 (.agg (iV 0 0 0 0)) Tryz.underlying30 infoPan rfl (by omega) (by omega) L [za, zb, 0, 0] m 1 1 _ _ rfl rfl (cls_fr w g) jd hown hsrc (by omega) ?kp25
      case kp25 =>
       intro vn v26 hown2 hS2 hgw
       have hbx := row_keep hown hbx (by decide) hgw
       have hzr := row_keep hown hzr (by decide) hgw
       have hC := hC.app hg hown hgw
       clear hgw hown jd hsrc
       have jd := hS2
       clear hS2
       have hown := hown2
       clear hown2
       obtain ⟨An, cn, rfl, hle2, hmx2⟩ := row_slice hown
       refine tj 11 49 HF rfl jd ?_
       refine wpAnyH_store (fuel := 0) (i := 12) rfl (by kernel_rfl) b3 0 (.slice An (m + 1) cn) 32 _ rfl rfl (by kernel_rfl) hbx (by simp [Value.cells]) (by simp [Value.cells, Value.oneCell']) (fun w' hg' => fr_grown jd hg' (by omega)) ?ks27
       case ks27 =>
        intro v28 hh hgw hS3
        clear jd
        have hFn := hS3
        clear hS3
        have hh : v28.heap[b3]? = some (.cells (wB An (m + 1) cn I H S P) 32 (0, 0)) := hh
        refine y914 ?_
        intro hzr hC
        have hown := own_other hown hbx (by decide) hgw
        have hW := mk_wk hFn hh hown hzr hle2 hmx2
        clear hFn hh hown hzr hbx hgw
        refine wpAnyH_done (by kernel_rfl) ?_ _
        go_wp2_with fail
        go_meet
        case rel => exact ⟨_, _, _, _, _, _, _, _, hW, by omega, hC.weaken (by omega), HBA⟩
     have N134679 := lh N1346790
     clear N1346790
     refine with_node (fun a0 a W => ∃ (mg : Nat) (za : Int) (ng : Nat) (zb : Int), a = ((((((a0.put (some 39) (.slice B' m c')).put (some 41) (.slice (some ⟨mg, 0, none⟩) 3 3)).put (some 42) (.int .i64 za)).put (some 44) (.slice (some ⟨ng, 0, none⟩) 3 3)).put (some 45) (.int .i64 zb)).put (some 46) (.agg (iV za zb 0 0))) ∧ Fr g (g + 1) w W ∧ Cur W g A n c (p + 824) ∧ W.heap[b3]? = some (.cells (wB B' m c' I H S P) 32 (0, 0)) ∧ W.heap[w.heap.size]? = some (.cells (wB none 0 0 0 0 0 0) 32 (0, 0)) ∧ W.ownsRow w.heap.size 97 4 (.slice B' m c') m (L.map (Value.int .i64)) ∧ Hid (Rg za) ∧ Hid (Rg zb)) 4 #[true, true, true, true, true, true, true, true, true, false, false, false, false] ?_ (fun N134670 => ?_)
     ·clear jd hC hbx hzr hown
      rintro _ W ⟨mg, za, ng, zb, rfl, jd, hC, hbx, hzr, hown, hBza, hBzb⟩
      refine y916 ?_
      refine wpAnyH_ready (rs := [9]) (by kernel_rfl) (by simp) ?_
      refine y92 ?_
      intro K hK
      go_simp
      have hnb := (Below.refl _ W).alloc nL (.cells (iV za zb 0 0) 97)
      have hsrc := src_lit W za zb
      refine y910 ?_
      intro hS2 hbx hzr hown hC
      obtain ⟨hpg, hpe⟩ : ∃ q, W.heap.size = q := ⟨_, rfl⟩
      rw [hpe] at hsrc
      try rw [hpe]
      clear hpe
      obtain ⟨v29, hve⟩ : ∃ v, W.alloc (.cells (iV za zb 0 0) 97) = v := ⟨_, rfl⟩
      rw [hve] at hS2 hbx hzr hown hC hsrc
      rw [hve]
      clear hve jd hnb
      revert K hK hS2
      refine y91 ?_
      intro jd
      exact y917
     have N13467 := lh N134670
     clear N134670
     refine with_node (fun a0 a W => ∃ (mg : Nat) (za : Int) (hNg : Nat), a = ((((a0.put (some 39) (.slice B' m c')).put (some 41) (.slice (some ⟨mg, 0, none⟩) 3 3)).put (some 42) (.int .i64 za)).put (some 44) (.slice (some ⟨hNg, 0, none⟩) 3 3)) ∧ Fr g (g + 1) w W ∧ Cur W g A n c (p + 822) ∧ W.heap[b3]? = some (.cells (wB B' m c' I H S P) 32 (0, 0)) ∧ W.heap[w.heap.size]? = some (.cells (wB none 0 0 0 0 0 0) 32 (0, 0)) ∧ W.ownsRow w.heap.size 97 4 (.slice B' m c') m (L.map (Value.int .i64)) ∧ Sl W hNg (hNg + 1) 1 (some ⟨hNg, 0, none⟩) 3 (fun j => ([0, 5, 100001] : List Int).getD j 0) ∧ w.heap.size < hNg ∧ Hid (Rg za)) 6 #[true, true, true, true, true, true, true, false, false, false, false, false, false] ?_ (fun N13460 => ?_)
     ·clear jd hC hbx hzr hown
      rintro _ W ⟨mg, za, hNg, rfl, jd, hC, hbx, hzr, hown, hN, hNz, hBza⟩
      refine y916 ?_
      refine wpAnyH_ready (rs := [7]) (by kernel_rfl) (by simp) ?_
      refine y92 ?_
      intro K hK
      go_simp
      refine (among_any g n c _ 3 _ hNg (hNg + 1) A _ _ W hC hn (by omega) (by omega) (by omega) hN (by omega)).mono ?_
      rintro e v30 ⟨kk, hkk, rfl, hC, hf⟩
      revert hN hkk
      refine y918 ?_
      intro zb hBzb
      revert jd K hK hf
      refine y911 ?_
      intro hbx hzr hown jd
      refine tj 8 46 HF rfl jd ?_
      exact N13467.out _ _ ⟨_, _, _, _, rfl, jd, hC.weaken (by omega), hbx, hzr, hown, hBza, hBzb⟩
     have N1346 := lh N13460
     clear N13460
     refine with_node (fun a0 a W => ∃ (mg : Nat) (za : Int), a = (((a0.put (some 39) (.slice B' m c')).put (some 41) (.slice (some ⟨mg, 0, none⟩) 3 3)).put (some 42) (.int .i64 za)) ∧ Fr g (g + 1) w W ∧ Cur W g A n c (p + 822) ∧ W.heap[b3]? = some (.cells (wB B' m c' I H S P) 32 (0, 0)) ∧ W.heap[w.heap.size]? = some (.cells (wB none 0 0 0 0 0 0) 32 (0, 0)) ∧ W.ownsRow w.heap.size 97 4 (.slice B' m c') m (L.map (Value.int .i64)) ∧ Hid (Rg za)) 7 #[true, true, true, true, true, true, false, false, false, false, false, false, false] ?_ (fun N1340 => ?_)
     ·clear jd hC hbx hzr hown
      rintro _ W ⟨mg, za, rfl, jd, hC, hbx, hzr, hown, hBza⟩
      refine y916 ?_
      refine wpAnyH_ready (rs := [6]) (by kernel_rfl) (by simp) ?_
      refine y92 ?_
      intro K hK
      refine y919 ?_
      intro hnb hN' hNz
      refine y910 ?_
      intro hS2 hbx hzr hown hC
      revert hN' hNz
      refine y920 ?_
      intro hNg hNz hN'
      obtain ⟨v31, hve⟩ : ∃ v, W.alloc (.cells #[.int .i64 0, .int .i64 5, .int .i64 100001] 3) = v := ⟨_, rfl⟩
      rw [hve] at hS2 hbx hzr hown hC hN'
      rw [hve]
      clear hve jd hnb
      revert K hK hS2
      refine y91 ?_
      intro jd
      have hN := hN'
      clear hN'
      exact y921
     have N134 := lh N1340
     clear N1340
     refine with_node (fun a0 a W => ∃ (hMg : Nat) (hNg : Nat), a = (((a0.put (some 39) (.slice B' m c')).put (some 41) (.slice (some ⟨hMg, 0, none⟩) 3 3)).put (some 44) (.slice (some ⟨hNg, 0, none⟩) 3 3)) ∧ Fr g (g + 1) w W ∧ Cur W g A n c (p + 820) ∧ W.heap[b3]? = some (.cells (wB B' m c' I H S P) 32 (0, 0)) ∧ W.heap[w.heap.size]? = some (.cells (wB none 0 0 0 0 0 0) 32 (0, 0)) ∧ W.ownsRow w.heap.size 97 4 (.slice B' m c') m (L.map (Value.int .i64)) ∧ Sl W hMg (hMg + 1) 1 (some ⟨hMg, 0, none⟩) 3 (fun j => ([0, 1, 99] : List Int).getD j 0) ∧ w.heap.size < hMg ∧ Sl W hNg (hNg + 1) 1 (some ⟨hNg, 0, none⟩) 3 (fun j => ([0, 5, 100001] : List Int).getD j 0) ∧ w.heap.size < hNg) 7 #[true, true, true, true, false, true, true, false, false, false, false, false, false] ?_ (fun N1360 => ?_)
     ·clear jd hC hbx hzr hown
      rintro _ W ⟨hMg, hNg, rfl, jd, hC, hbx, hzr, hown, hM, hMz, hN, hNz⟩
      refine y916 ?_
      refine y96 ?_
      refine y92 ?_
      intro K hK
      refine y922 ?_
      rintro e v32 ⟨kk, hkk, rfl, hC, hf⟩
      revert hM hkk
      refine y923 ?_
      intro za hBza
      refine y912 ?_
      intro hS2 hbx hzr hown
      have hN := hN.fr hf (Or.inr (by omega))
      clear hf jd
      revert K hK hS2
      refine y91 ?_
      intro jd
      exact y921
     have N136 := lh N1360
     clear N1360
     refine with_node (fun a0 a W => ∃ (hMg : Nat), a = ((a0.put (some 39) (.slice B' m c')).put (some 41) (.slice (some ⟨hMg, 0, none⟩) 3 3)) ∧ Fr g (g + 1) w W ∧ Cur W g A n c (p + 820) ∧ W.heap[b3]? = some (.cells (wB B' m c' I H S P) 32 (0, 0)) ∧ W.heap[w.heap.size]? = some (.cells (wB none 0 0 0 0 0 0) 32 (0, 0)) ∧ W.ownsRow w.heap.size 97 4 (.slice B' m c') m (L.map (Value.int .i64)) ∧ Sl W hMg (hMg + 1) 1 (some ⟨hMg, 0, none⟩) 3 (fun j => ([0, 1, 99] : List Int).getD j 0) ∧ w.heap.size < hMg) 8 #[true, true, true, true, false, true, false, false, false, false, false, false, false] ?_ (fun N130 => ?_)
     ·clear jd hC hbx hzr hown
      rintro _ W ⟨hMg, rfl, jd, hC, hbx, hzr, hown, hM, hMz⟩
      refine y916 ?_
      refine wpAnyH_ready (rs := [4, 6]) (by kernel_rfl) (by simp) ?_
      refine (AllReadyH.cons rfl (fun K hK => ?_) (AllReadyH.cons rfl (fun K hK => ?_) AllReadyH.nil))
      ·refine y922 ?_
       rintro e v33 ⟨kk, hkk, rfl, hC, hf⟩
       revert hM hkk
       refine y923 ?_
       intro za hBza
       revert jd K hK hf
       refine y911 ?_
       intro hbx hzr hown jd
       exact N134.out _ _ ⟨_, _, rfl, jd, hC.weaken (by omega), hbx, hzr, hown, hBza⟩
      ·refine y919 ?_
       intro hnb hN' hNz
       refine y910 ?_
       intro hS2 hbx hzr hown hC
       have hM := hM.below hnb
       revert hN' hNz
       refine y920 ?_
       intro hNg hNz hN'
       obtain ⟨v34, hve⟩ : ∃ v, W.alloc (.cells #[.int .i64 0, .int .i64 5, .int .i64 100001] 3) = v := ⟨_, rfl⟩
       rw [hve] at hS2 hbx hzr hown hC hN' hM
       rw [hve]
       clear hve jd hnb
       revert K hK hS2
       refine y91 ?_
       intro jd
       have hN := hN'
       clear hN'
       exact y924
     have N13 := lh N130
     clear N130
     refine with_node (fun a0 a W => ∃ (hNg : Nat), a = ((a0.put (some 39) (.slice B' m c')).put (some 44) (.slice (some ⟨hNg, 0, none⟩) 3 3)) ∧ Fr g (g + 1) w W ∧ Cur W g A n c (p + 820) ∧ W.heap[b3]? = some (.cells (wB B' m c' I H S P) 32 (0, 0)) ∧ W.heap[w.heap.size]? = some (.cells (wB none 0 0 0 0 0 0) 32 (0, 0)) ∧ W.ownsRow w.heap.size 97 4 (.slice B' m c') m (L.map (Value.int .i64)) ∧ Sl W hNg (hNg + 1) 1 (some ⟨hNg, 0, none⟩) 3 (fun j => ([0, 5, 100001] : List Int).getD j 0) ∧ w.heap.size < hNg) 8 #[true, true, true, false, false, true, true, false, false, false, false, false, false] ?_ (fun N160 => ?_)
     ·clear jd hC hbx hzr hown
      rintro _ W ⟨hNg, rfl, jd, hC, hbx, hzr, hown, hN, hNz⟩
      refine y916 ?_
      refine y97 ?_
      refine y92 ?_
      intro K hK
      refine y925 ?_
      intro hnb hM' hMz
      refine y910 ?_
      intro hS2 hbx hzr hown hC
      have hN := hN.below hnb
      obtain ⟨hMg, hMe⟩ : ∃ q, W.heap.size = q := ⟨_, rfl⟩
      rw [hMe] at hM' hMz
      try rw [hMe]
      clear hMe
      obtain ⟨v35, hve⟩ : ∃ v, W.alloc (.cells #[.int .i64 0, .int .i64 1, .int .i64 99] 3) = v := ⟨_, rfl⟩
      rw [hve] at hS2 hbx hzr hown hC hM' hN
      rw [hve]
      clear hve jd hnb
      revert K hK hS2
      refine y91 ?_
      intro jd
      have hM := hM'
      clear hM'
      exact y924
     have N16 := lh N160
     clear N160
     refine with_node (fun a0 a W => a = (a0.put (some 39) (.slice B' m c')) ∧ Fr g (g + 1) w W ∧ Cur W g A n c (p + 820) ∧ W.heap[b3]? = some (.cells (wB B' m c' I H S P) 32 (0, 0)) ∧ W.heap[w.heap.size]? = some (.cells (wB none 0 0 0 0 0 0) 32 (0, 0)) ∧ W.ownsRow w.heap.size 97 4 (.slice B' m c') m (L.map (Value.int .i64))) 9 #[true, true, true, false, false, true, false, false, false, false, false, false, false] ?_ (fun N10 => ?_)
     ·clear jd hC hbx hzr hown
      rintro _ W ⟨rfl, jd, hC, hbx, hzr, hown⟩
      refine y916 ?_
      refine wpAnyH_ready (rs := [3, 6]) (by kernel_rfl) (by simp) ?_
      refine (AllReadyH.cons rfl (fun K hK => ?_) (AllReadyH.cons rfl (fun K hK => ?_) AllReadyH.nil))
      ·refine y925 ?_
       intro hnb hM' hMz
       refine y910 ?_
       intro hS2 hbx hzr hown hC
       obtain ⟨hMg, hMe⟩ : ∃ q, W.heap.size = q := ⟨_, rfl⟩
       rw [hMe] at hM' hMz
       try rw [hMe]
       clear hMe
       obtain ⟨v36, hve⟩ : ∃ v, W.alloc (.cells #[.int .i64 0, .int .i64 1, .int .i64 99] 3) = v := ⟨_, rfl⟩
       rw [hve] at hS2 hbx hzr hown hC hM'
       rw [hve]
       clear hve jd hnb
       revert K hK hS2
       refine y91 ?_
       intro jd
       have hM := hM'
       clear hM'
       exact N13.out _ _ ⟨_, rfl, jd, hC.weaken (by omega), hbx, hzr, hown, hM, hMz⟩
      ·refine y919 ?_
       intro hnb hN' hNz
       refine y910 ?_
       intro hS2 hbx hzr hown hC
       revert hN' hNz
       refine y920 ?_
       intro hNg hNz hN'
       obtain ⟨v37, hve⟩ : ∃ v, W.alloc (.cells #[.int .i64 0, .int .i64 5, .int .i64 100001] 3) = v := ⟨_, rfl⟩
       rw [hve] at hS2 hbx hzr hown hC hN'
       rw [hve]
       clear hve jd hnb
       revert K hK hS2
       refine y91 ?_
       intro jd
       have hN := hN'
       clear hN'
       exact N16.out _ _ ⟨_, rfl, jd, hC.weaken (by omega), hbx, hzr, hown, hN, hNz⟩
     have N1 := lh N10
     clear N10
     refine with_node (fun a0 a W => ∃ (mg : Nat) (za : Int) (ng : Nat) (zb : Int) (hpg : Nat), a = ((((((a0.put (some 41) (.slice (some ⟨mg, 0, none⟩) 3 3)).put (some 42) (.int .i64 za)).put (some 44) (.slice (some ⟨ng, 0, none⟩) 3 3)).put (some 45) (.int .i64 zb)).put (some 46) (.agg (iV za zb 0 0))).put (some 47) (.slice (some ⟨hpg, 0, none⟩) 1 1)) ∧ Fr g (g + 1) w W ∧ Cur W g A n c (p + 824) ∧ W.heap[b3]? = some (.cells (wB B' m c' I H S P) 32 (0, 0)) ∧ W.heap[w.heap.size]? = some (.cells (wB none 0 0 0 0 0 0) 32 (0, 0)) ∧ W.ownsRow w.heap.size 97 4 (.slice B' m c') m (L.map (Value.int .i64)) ∧ Hid (Rg za) ∧ Hid (Rg zb) ∧ Src W 4 (some ⟨hpg, 0, none⟩) 1 1 [za, zb, 0, 0]) 4 #[true, false, true, true, true, true, true, true, true, true, false, false, false] ?_ (fun N346790 => ?_)
     ·clear jd hC hbx hzr hown
      rintro _ W ⟨mg, za, ng, zb, hpg, rfl, jd, hC, hbx, hzr, hown, hBza, hBzb, hsrc⟩
      refine y916 ?_
      refine wpAnyH_ready (rs := [1]) (by kernel_rfl) (by simp) ?_
      refine y92 ?_
      intro K hK
      revert jd K hK
      refine y926 ?_
      intro jd
      exact y917
     have N34679 := lh N346790
     clear N346790
     refine with_node (fun a0 a W => ∃ (mg : Nat) (za : Int) (ng : Nat) (zb : Int), a = (((((a0.put (some 41) (.slice (some ⟨mg, 0, none⟩) 3 3)).put (some 42) (.int .i64 za)).put (some 44) (.slice (some ⟨ng, 0, none⟩) 3 3)).put (some 45) (.int .i64 zb)).put (some 46) (.agg (iV za zb 0 0))) ∧ Fr g (g + 1) w W ∧ Cur W g A n c (p + 824) ∧ W.heap[b3]? = some (.cells (wB B' m c' I H S P) 32 (0, 0)) ∧ W.heap[w.heap.size]? = some (.cells (wB none 0 0 0 0 0 0) 32 (0, 0)) ∧ W.ownsRow w.heap.size 97 4 (.slice B' m c') m (L.map (Value.int .i64)) ∧ Hid (Rg za) ∧ Hid (Rg zb)) 5 #[true, false, true, true, true, true, true, true, true, false, false, false, false] ?_ (fun N34670 => ?_)
     ·clear jd hC hbx hzr hown
      rintro _ W ⟨mg, za, ng, zb, rfl, jd, hC, hbx, hzr, hown, hBza, hBzb⟩
      refine y916 ?_
      refine wpAnyH_ready (rs := [1, 9]) (by kernel_rfl) (by simp) ?_
      refine (AllReadyH.cons rfl (fun K hK => ?_) (AllReadyH.cons rfl (fun K hK => ?_) AllReadyH.nil))
      ·revert jd K hK
       refine y926 ?_
       intro jd
       exact N13467.out _ _ ⟨_, _, _, _, rfl, jd, hC.weaken (by omega), hbx, hzr, hown, hBza, hBzb⟩
      ·go_simp
       have hnb := (Below.refl _ W).alloc nL (.cells (iV za zb 0 0) 97)
       have hsrc := src_lit W za zb
       refine y910 ?_
       intro hS2 hbx hzr hown hC
       obtain ⟨hpg, hpe⟩ : ∃ q, W.heap.size = q := ⟨_, rfl⟩
       rw [hpe] at hsrc
       try rw [hpe]
       clear hpe
       obtain ⟨v38, hve⟩ : ∃ v, W.alloc (.cells (iV za zb 0 0) 97) = v := ⟨_, rfl⟩
       rw [hve] at hS2 hbx hzr hown hC hsrc
       rw [hve]
       clear hve jd hnb
       revert K hK hS2
       refine y91 ?_
       intro jd
       exact N34679.out _ _ ⟨_, _, _, _, _, rfl, jd, hC.weaken (by omega), hbx, hzr, hown, hBza, hBzb, hsrc⟩
     have N3467 := lh N34670
     clear N34670
     refine with_node (fun a0 a W => ∃ (mg : Nat) (za : Int) (hNg : Nat), a = (((a0.put (some 41) (.slice (some ⟨mg, 0, none⟩) 3 3)).put (some 42) (.int .i64 za)).put (some 44) (.slice (some ⟨hNg, 0, none⟩) 3 3)) ∧ Fr g (g + 1) w W ∧ Cur W g A n c (p + 822) ∧ W.heap[b3]? = some (.cells (wB B' m c' I H S P) 32 (0, 0)) ∧ W.heap[w.heap.size]? = some (.cells (wB none 0 0 0 0 0 0) 32 (0, 0)) ∧ W.ownsRow w.heap.size 97 4 (.slice B' m c') m (L.map (Value.int .i64)) ∧ Sl W hNg (hNg + 1) 1 (some ⟨hNg, 0, none⟩) 3 (fun j => ([0, 5, 100001] : List Int).getD j 0) ∧ w.heap.size < hNg ∧ Hid (Rg za)) 7 #[true, false, true, true, true, true, true, false, false, false, false, false, false] ?_ (fun N3460 => ?_)
     ·clear jd hC hbx hzr hown
      rintro _ W ⟨mg, za, hNg, rfl, jd, hC, hbx, hzr, hown, hN, hNz, hBza⟩
      refine y916 ?_
      refine wpAnyH_ready (rs := [1, 7]) (by kernel_rfl) (by simp) ?_
      refine (AllReadyH.cons rfl (fun K hK => ?_) (AllReadyH.cons rfl (fun K hK => ?_) AllReadyH.nil))
      ·revert jd K hK
       refine y926 ?_
       intro jd
       exact y921
      ·go_simp
       refine (among_any g n c _ 3 _ hNg (hNg + 1) A _ _ W hC hn (by omega) (by omega) (by omega) hN (by omega)).mono ?_
       rintro e v39 ⟨kk, hkk, rfl, hC, hf⟩
       revert hN hkk
       refine y918 ?_
       intro zb hBzb
       revert jd K hK hf
       refine y911 ?_
       intro hbx hzr hown jd
       refine tj 8 46 HF rfl jd ?_
       exact N3467.out _ _ ⟨_, _, _, _, rfl, jd, hC.weaken (by omega), hbx, hzr, hown, hBza, hBzb⟩
     have N346 := lh N3460
     clear N3460
     refine with_node (fun a0 a W => ∃ (mg : Nat) (za : Int), a = ((a0.put (some 41) (.slice (some ⟨mg, 0, none⟩) 3 3)).put (some 42) (.int .i64 za)) ∧ Fr g (g + 1) w W ∧ Cur W g A n c (p + 822) ∧ W.heap[b3]? = some (.cells (wB B' m c' I H S P) 32 (0, 0)) ∧ W.heap[w.heap.size]? = some (.cells (wB none 0 0 0 0 0 0) 32 (0, 0)) ∧ W.ownsRow w.heap.size 97 4 (.slice B' m c') m (L.map (Value.int .i64)) ∧ Hid (Rg za)) 8 #[true, false, true, true, true, true, false, false, false, false, false, false, false] ?_ (fun N340 => ?_)
     ·clear jd hC hbx hzr hown
      rintro _ W ⟨mg, za, rfl, jd, hC, hbx, hzr, hown, hBza⟩
      refine y916 ?_
      refine wpAnyH_ready (rs := [1, 6]) (by kernel_rfl) (by simp) ?_
      refine (AllReadyH.cons rfl (fun K hK => ?_) (AllReadyH.cons rfl (fun K hK => ?_) AllReadyH.nil))
      ·revert jd K hK
       refine y926 ?_
       intro jd
       exact N134.out _ _ ⟨_, _, rfl, jd, hC.weaken (by omega), hbx, hzr, hown, hBza⟩
      ·refine y919 ?_
       intro hnb hN' hNz
       refine y910 ?_
       intro hS2 hbx hzr hown hC
       revert hN' hNz
       refine y920 ?_
       intro hNg hNz hN'
       obtain ⟨v40, hve⟩ : ∃ v, W.alloc (.cells #[.int .i64 0, .int .i64 5, .int .i64 100001] 3) = v := ⟨_, rfl⟩
       rw [hve] at hS2 hbx hzr hown hC hN'
       rw [hve]
       clear hve jd hnb
       revert K hK hS2
       refine y91 ?_
       intro jd
       have hN := hN'
       clear hN'
       exact N346.out _ _ ⟨_, _, _, rfl, jd, hC.weaken (by omega), hbx, hzr, hown, hN, hNz, hBza⟩
     have N34 := lh N340
     clear N340
     refine with_node (fun a0 a W => ∃ (hMg : Nat) (hNg : Nat), a = ((a0.put (some 41) (.slice (some ⟨hMg, 0, none⟩) 3 3)).put (some 44) (.slice (some ⟨hNg, 0, none⟩) 3 3)) ∧ Fr g (g + 1) w W ∧ Cur W g A n c (p + 820) ∧ W.heap[b3]? = some (.cells (wB B' m c' I H S P) 32 (0, 0)) ∧ W.heap[w.heap.size]? = some (.cells (wB none 0 0 0 0 0 0) 32 (0, 0)) ∧ W.ownsRow w.heap.size 97 4 (.slice B' m c') m (L.map (Value.int .i64)) ∧ Sl W hMg (hMg + 1) 1 (some ⟨hMg, 0, none⟩) 3 (fun j => ([0, 1, 99] : List Int).getD j 0) ∧ w.heap.size < hMg ∧ Sl W hNg (hNg + 1) 1 (some ⟨hNg, 0, none⟩) 3 (fun j => ([0, 5, 100001] : List Int).getD j 0) ∧ w.heap.size < hNg) 8 #[true, false, true, true, false, true, true, false, false, false, false, false, false] ?_ (fun N360 => ?_)
     ·clear jd hC hbx hzr hown
      rintro _ W ⟨hMg, hNg, rfl, jd, hC, hbx, hzr, hown, hM, hMz, hN, hNz⟩
      refine y916 ?_
      refine wpAnyH_ready (rs := [1, 4]) (by kernel_rfl) (by simp) ?_
      refine (AllReadyH.cons rfl (fun K hK => ?_) (AllReadyH.cons rfl (fun K hK => ?_) AllReadyH.nil))
      ·revert jd K hK
       refine y926 ?_
       intro jd
       exact y924
      ·refine y922 ?_
       rintro e v41 ⟨kk, hkk, rfl, hC, hf⟩
       revert hM hkk
       refine y923 ?_
       intro za hBza
       refine y912 ?_
       intro hS2 hbx hzr hown
       have hN := hN.fr hf (Or.inr (by omega))
       clear hf jd
       revert K hK hS2
       refine y91 ?_
       intro jd
       exact N346.out _ _ ⟨_, _, _, rfl, jd, hC.weaken (by omega), hbx, hzr, hown, hN, hNz, hBza⟩
     have N36 := lh N360
     clear N360
     refine with_node (fun a0 a W => ∃ (hMg : Nat), a = (a0.put (some 41) (.slice (some ⟨hMg, 0, none⟩) 3 3)) ∧ Fr g (g + 1) w W ∧ Cur W g A n c (p + 820) ∧ W.heap[b3]? = some (.cells (wB B' m c' I H S P) 32 (0, 0)) ∧ W.heap[w.heap.size]? = some (.cells (wB none 0 0 0 0 0 0) 32 (0, 0)) ∧ W.ownsRow w.heap.size 97 4 (.slice B' m c') m (L.map (Value.int .i64)) ∧ Sl W hMg (hMg + 1) 1 (some ⟨hMg, 0, none⟩) 3 (fun j => ([0, 1, 99] : List Int).getD j 0) ∧ w.heap.size < hMg) 9 #[true, false, true, true, false, true, false, false, false, false, false, false, false] ?_ (fun N30 => ?_)
     ·clear jd hC hbx hzr hown
      rintro _ W ⟨hMg, rfl, jd, hC, hbx, hzr, hown, hM, hMz⟩
      refine y916 ?_
      refine wpAnyH_ready (rs := [1, 4, 6]) (by kernel_rfl) (by simp) ?_
      refine (AllReadyH.cons rfl (fun K hK => ?_) (AllReadyH.cons rfl (fun K hK => ?_) (AllReadyH.cons rfl (fun K hK => ?_) AllReadyH.nil)))
      ·revert jd K hK
       refine y926 ?_
       intro jd
       exact N13.out _ _ ⟨_, rfl, jd, hC.weaken (by omega), hbx, hzr, hown, hM, hMz⟩
      ·refine y922 ?_
       rintro e v42 ⟨kk, hkk, rfl, hC, hf⟩
       revert hM hkk
       refine y923 ?_
       intro za hBza
       revert jd K hK hf
       refine y911 ?_
       intro hbx hzr hown jd
       exact N34.out _ _ ⟨_, _, rfl, jd, hC.weaken (by omega), hbx, hzr, hown, hBza⟩
      ·refine y919 ?_
       intro hnb hN' hNz
       refine y910 ?_
       intro hS2 hbx hzr hown hC
       have hM := hM.below hnb
       revert hN' hNz
       refine y920 ?_
       intro hNg hNz hN'
       obtain ⟨v43, hve⟩ : ∃ v, W.alloc (.cells #[.int .i64 0, .int .i64 5, .int .i64 100001] 3) = v := ⟨_, rfl⟩
       rw [hve] at hS2 hbx hzr hown hC hN' hM
       rw [hve]
       clear hve jd hnb
       revert K hK hS2
       refine y91 ?_
       intro jd
       have hN := hN'
       clear hN'
       exact N36.out _ _ ⟨_, _, rfl, jd, hC.weaken (by omega), hbx, hzr, hown, hM, hMz, hN, hNz⟩
     have N3 := lh N30
     clear N30
     refine with_node (fun a0 a W => ∃ (hNg : Nat), a = (a0.put (some 44) (.slice (some ⟨hNg, 0, none⟩) 3 3)) ∧ Fr g (g + 1) w W ∧ Cur W g A n c (p + 820) ∧ W.heap[b3]? = some (.cells (wB B' m c' I H S P) 32 (0, 0)) ∧ W.heap[w.heap.size]? = some (.cells (wB none 0 0 0 0 0 0) 32 (0, 0)) ∧ W.ownsRow w.heap.size 97 4 (.slice B' m c') m (L.map (Value.int .i64)) ∧ Sl W hNg (hNg + 1) 1 (some ⟨hNg, 0, none⟩) 3 (fun j => ([0, 5, 100001] : List Int).getD j 0) ∧ w.heap.size < hNg) 9 #[true, false, true, false, false, true, true, false, false, false, false, false, false] ?_ (fun N60 => ?_)
     ·clear jd hC hbx hzr hown
      rintro _ W ⟨hNg, rfl, jd, hC, hbx, hzr, hown, hN, hNz⟩
      refine y916 ?_
      refine wpAnyH_ready (rs := [1, 3]) (by kernel_rfl) (by simp) ?_
      refine (AllReadyH.cons rfl (fun K hK => ?_) (AllReadyH.cons rfl (fun K hK => ?_) AllReadyH.nil))
      ·revert jd K hK
       refine y926 ?_
       intro jd
       exact N16.out _ _ ⟨_, rfl, jd, hC.weaken (by omega), hbx, hzr, hown, hN, hNz⟩
      ·refine y925 ?_
       intro hnb hM' hMz
       refine y910 ?_
       intro hS2 hbx hzr hown hC
       have hN := hN.below hnb
       obtain ⟨hMg, hMe⟩ : ∃ q, W.heap.size = q := ⟨_, rfl⟩
       rw [hMe] at hM' hMz
       try rw [hMe]
       clear hMe
       obtain ⟨v44, hve⟩ : ∃ v, W.alloc (.cells #[.int .i64 0, .int .i64 1, .int .i64 99] 3) = v := ⟨_, rfl⟩
       rw [hve] at hS2 hbx hzr hown hC hM' hN
       rw [hve]
       clear hve jd hnb
       revert K hK hS2
       refine y91 ?_
       intro jd
       have hM := hM'
       clear hM'
       exact N36.out _ _ ⟨_, _, rfl, jd, hC.weaken (by omega), hbx, hzr, hown, hM, hMz, hN, hNz⟩
     have N6 := lh N60
     clear N60
     refine wpAnyH_ready (rs := [1, 3, 6]) (by kernel_rfl) (by simp) ?_
     refine (AllReadyH.cons rfl (fun K hK => ?_) (AllReadyH.cons rfl (fun K hK => ?_) (AllReadyH.cons rfl (fun K hK => ?_) AllReadyH.nil)))
     ·have c1 : cE v24 b3 0 (.slice B' m c') := by rw [cell_of_row v24 b3 0 _ _ (0, 0) hbx]; rfl
      go_simp
      have hS2 := jd
      clear jd c1
      revert K hK hS2
      refine y91 ?_
      intro jd
      exact N1.out _ _ ⟨rfl, jd, hC.weaken (by omega), hbx, hzr, hown⟩
     ·go_simp
      have hnb := (Below.refl _ v24).alloc nL (.cells #[.int .i64 0, .int .i64 1, .int .i64 99] 3)
      have hM' := sl_lit [0, 1, 99] (w := v24) (cs := #[.int .i64 0, .int .i64 1, .int .i64 99]) (T := 3) rfl
      have hMz : w.heap.size < v24.heap.size := (gL hzr)
      refine y910 ?_
      intro hS2 hbx hzr hown hC
      obtain ⟨hMg, hMe⟩ : ∃ q, v24.heap.size = q := ⟨_, rfl⟩
      rw [hMe] at hM' hMz
      try rw [hMe]
      clear hMe
      obtain ⟨v45, hve⟩ : ∃ v, v24.alloc (.cells #[.int .i64 0, .int .i64 1, .int .i64 99] 3) = v := ⟨_, rfl⟩
      rw [hve] at hS2 hbx hzr hown hC hM'
      rw [hve]
      clear hve jd hnb
      revert K hK hS2
      refine y91 ?_
      intro jd
      have hM := hM'
      clear hM'
      exact N3.out _ _ ⟨_, rfl, jd, hC.weaken (by omega), hbx, hzr, hown, hM, hMz⟩
     ·go_simp
      have hnb := (Below.refl _ v24).alloc nL (.cells #[.int .i64 0, .int .i64 5, .int .i64 100001] 3)
      have hN' := sl_lit [0, 5, 100001] (w := v24) (cs := #[.int .i64 0, .int .i64 5, .int .i64 100001]) (T := 3) rfl
      have hNz : w.heap.size < v24.heap.size := (gL hzr)
      refine y910 ?_
      intro hS2 hbx hzr hown hC
      obtain ⟨hNg, hNe⟩ : ∃ q, v24.heap.size = q := ⟨_, rfl⟩
      rw [hNe] at hN' hNz
      try rw [hNe]
      clear hNe
      obtain ⟨v46, hve⟩ : ∃ v, v24.alloc (.cells #[.int .i64 0, .int .i64 5, .int .i64 100001] 3) = v := ⟨_, rfl⟩
      rw [hve] at hS2 hbx hzr hown hC hN'
      rw [hve]
      clear hve jd hnb
      revert K hK hS2
      refine y91 ?_
      intro jd
      have hN := hN'
      clear hN'
      exact N6.out _ _ ⟨_, rfl, jd, hC.weaken (by omega), hbx, hzr, hown, hN, hNz⟩
    have n1 : ((k5 : Int) == 1) = false := by simp; omega
    have n1' : ¬ ((k5 : Int) = 1) := by omega
    by_cases e2 : k5 = 2
    ·subst e2
     have hbx := hW.box
     obtain ⟨e0, e1, e2, e3, e4⟩ := cells5 hbx
     have ef := fz hbx
     have HW := lh hW
     have HC := lh hC
     clear hbx hW hC
     go_wp2_with fail
     refine Met.nameM ?_
     intro w8 hw8
     have hW : ∃ v, Hid (v ≤ 9223372036854775807) ∧ WK w w8 g b3 B' m c' L I v S P := by rw [hw8]; exact ⟨wrap64 (H + 1), (show wrap64 (H + 1) ≤ 9223372036854775807 by unfold wrap64; omega), HW.out.set2 (by omega) _⟩
     have hC8 : Cur w8 g A n c (p + 900) := by rw [hw8]; exact (HC.out.weaken (by omega)).setOwn (q := ⟨b3, 2, none⟩) (by show g < b3; omega) _
     obtain ⟨zv, hzv, hW⟩ := hW
     go_meet
     case rel => exact ⟨_, _, _, _, _, _, _, _, hW, by omega, hC8, ⟨HBD.out.1, hzv.out⟩⟩
    have n2 : ((k5 : Int) == 2) = false := by simp; omega
    have n2' : ¬ ((k5 : Int) = 2) := by omega
    exact y915
   case rest =>
    obtain ⟨B', m, c', L, I, H, S, P, hW, hm7, hC, HBD⟩ := hcut
    obtain ⟨w9, hw9⟩ : ∃ v, wc = v := ⟨_, rfl⟩
    rw [hw9] at hW hC
    try rw [hw9]
    clear hw9 wc
    have hbx := hW.box
    have hzr := hW.zero
    obtain ⟨e0, e1, e2, e3, e4⟩ := cells5 hbx
    obtain ⟨r0, r1, r2, r3, r4⟩ := cells5 hzr
    refine y927 ?_
    intro rf HW HC hne hne2 HZ
    clear hbx hzr hW hC
    go_wp2
    obtain ⟨wq, hwq⟩ : ∃ wq, wq = (((((w9.setCell ⟨w.heap.size, 0, none⟩ (.slice B' m c')).setCell ⟨w.heap.size, 1, none⟩ (.int .i64 I)).setCell ⟨w.heap.size, 2, none⟩ (.int .i64 H)).setCell ⟨w.heap.size, 3, none⟩ (.int .i64 S)).setCell ⟨w.heap.size, 4, none⟩ (.int .i64 P)) := ⟨_, rfl⟩
    refine y928 ?_
    intro q0 q1 q2 q3 q4
    refine y929 ?_
    intro no
    have hOq := (ownsRow_setCell_other (ownsRow_setCell_other (ownsRow_setCell_other (ownsRow_setCell_other (ownsRow_setCell_other HW.out.own (no 0) (.slice B' m c')) (no 1) (.int .i64 I)) (no 2) (.int .i64 H)) (no 3) (.int .i64 S)) (no 4) (.int .i64 P))
    rw [← hwq] at hOq
    have hFq : Fr g (g + 1) w wq := by rw [hwq]; exact (((((HW.out.fr.setOwn (j := 0) (p := ⟨w.heap.size, 0, none⟩) nL _).setOwn (j := 0) (p := ⟨w.heap.size, 1, none⟩) nL _).setOwn (j := 0) (p := ⟨w.heap.size, 2, none⟩) nL _).setOwn (j := 0) (p := ⟨w.heap.size, 3, none⟩) nL _).setOwn (j := 0) (p := ⟨w.heap.size, 4, none⟩) nL _)
    have hCq : Cur wq g A n c (p + 900) := by rw [hwq]; exact (((((HC.out.setOwn (q := ⟨w.heap.size, 0, none⟩) hg _).setOwn (q := ⟨w.heap.size, 1, none⟩) hg _).setOwn (q := ⟨w.heap.size, 2, none⟩) hg _).setOwn (q := ⟨w.heap.size, 3, none⟩) hg _).setOwn (q := ⟨w.heap.size, 4, none⟩) hg _)
    have hle := HW.out.le
    have hmx := HW.out.max
    clear hwq HW HC HZ
    try simp only [Exit.inBlock, Exit.then]
    refine bodyPost_ret (by simp [results, Tryz.results103, go_sem, q0, q1, q2, q3, q4]; try rfl) rfl ?_
    exact ⟨_, _, _, _, _, _, _, _, rfl, hm7, hle, hmx, HBD, hOq, hCq.weaken (by omega), hFq⟩
end Go.Proofs.YtpndjhelpoenpaaGreatDoor
