/-
  Texts of this claim, merged.
-/
import Derived.Test.YtpndjhelpoenpaaGreatDoorXA31
set_option linter.unusedVariables false
set_option linter.unusedSimpArgs false
set_option maxRecDepth 100000
set_option maxHeartbeats 8000000
namespace Go.Proofs.YtpndjhelpoenpaaGreatDoor
open Go.RowKit
theorem z353 {P Q : Prop} (k : Q) (h : ZK Q → P := by
 intro zK hs hnone hX h2
 intro w1 hw1
 rw [← hw1] at hX h2
 clear hw1
 obtain ⟨g2, hg2⟩ : ∃ q, w.heap.size = q := ⟨_, rfl⟩
 rw [hg2] at h2
 try rw [hg2]
 have HLE := lh (show w.heap.size ≤ g2 by omega)
 have l2 := (gL h2)
 have HS := lh hs
 have HB := lh hX
 have H2 := lh h2
 have HNN := lh hnone
 clear hs hX h2 hnone hg2
 revert w1 g2 HLE l2 HS HB H2 HNN
 exact zK.1) : P := h ⟨k⟩
theorem z354 {P Q : Prop} (k : Q) (h : ZK Q → P := by
 intro zK
 have H2' := lh (rowC H2.out hb)
 have HB' := lh (HB.out.trans (hb.mono HB.out.size))
 have l2' := Nat.lt_of_lt_of_le l2 hb.size
 revert H2' HB' l2'
 exact zK.1) : P := h ⟨k⟩
theorem z355 {P Q : Prop} (k : Q) (h : ZK Q → P := by
 intro zK
 have hOD := own_app (HOC.out.alloc (.cells #[.string r] 9)) (HVC.out.alloc (.cells #[.string r] 9)) (by decide) hgrow3
 have HSD := lh (own_sl hOD)
 have HND := lh (fun e : A2 = none => own_nilK hOD e)
 revert hOD HSD HND
 exact zK.1) : P := h ⟨k⟩
theorem z356 {P Q : Prop} (k : Q) (h : ZK Q → P := by
 intro zK
 refine (AllReadyH.cons rfl (fun K hK => ?_) AllReadyH.nil)
 have hr2 := rowC HBX.out hbd
 obtain ⟨e0, e1, e2, e3, e4, e5, e6, e7⟩ := cells8 hr2
 go_simp
 refine hK.out _ _ jd (fun jd => ?_)
 clear hK K e0 e1 e2 e3 e4 e5 e6 e7
 revert hr2 jd
 exact zK.1) : P := h ⟨k⟩
theorem z357 {P Q : Prop} (k : Q) (h : ZK Q → P := by
 intro zK
 have HX : Hid (bW w (w.alloc (.cells (cB A n c I H S P D Q z) 35))) := (Below.refl _ w).alloc nL _
 have H0 : Hid ((w.alloc (.cells (cB A n c I H S P D Q z) 35)).heap[w.heap.size]? = some (.cells (cB A n c I H S P D Q z) 35 (0, 0))) := heap_alloc_new w _
 have HS : Hid (Sl (w.alloc (.cells (cB A n c I H S P D Q z) 35)) lo hi 4 A n f) := hs.below HX.out
 revert HX H0 HS
 exact zK.1) : P := h ⟨k⟩
theorem z358 {P : Prop} (h : P := by
 rw [hok]
 rintro e w2 ⟨rfl, hb⟩
 have BX2 := below_of HX.out hb HX.out.size
 go_wp2
 go_ret2
 exact ⟨rfl, BX2⟩) : P := h
theorem z359 {P Q : Prop} (k : Q) (h : ZK Q → P := by
 intro zK
 have hgl := hok
 rw [Bool.and_eq_true] at hgl
 obtain ⟨hg, hl⟩ := hgl
 obtain ⟨hI, hH, hS_, hz⟩ := con_nums hg hl
 have hn6 := con_len hg
 have HG := lh hg
 have HL := lh hl
 clear hg hl
 have hz1 := numB_size (n := I) (by omega) (by omega)
 have hz2 := numB_size (n := H) (by omega) (by omega)
 have hz3 := numB_size (n := S) (by omega) (by omega)
 have hz4 := numB_size (n := z) (by omega) (by omega)
 revert hI hH hS_ hz hn6 HG HL hz1 hz2 hz3 hz4
 exact zK.1) : P := h ⟨k⟩
theorem z360 {P : Prop} (h : P := by
 refine tr 2 HF ?_
 refine tr 3 HF ?_
 refine wpQuiet_nil (fun wq jd => ?_)
 go_wp2_with fail
 go_ret2
 exact ⟨rfl, HBr.out.trans (jd.mono HBr.out.size)⟩) : P := h
end Go.Proofs.YtpndjhelpoenpaaGreatDoor
namespace Go.Proofs.YtpndjhelpoenpaaGreatDoor
open Go.RowKit
theorem pans_step (f : Nat → Int) (k : Nat) : (((pansB f k ++ numB (f (k * 4))) ++ ⟨#[58, 32]⟩) ++ panB (f (k * 4 + 1)) (f (k * 4 + 2)) (f (k * 4 + 3))) ++ ⟨#[10]⟩ = pansB f (k + 1) := by
 simp only [pansB, lineP, ByteArray.append_assoc]
theorem panB_size {h wt s : Int} (hh : 1 ≤ h ∧ h ≤ 100000) (hw : 0 ≤ wt ∧ wt ≤ 1000000) (hs : 0 ≤ s ∧ s ≤ 1000000) : (panB h wt s).size ≤ 75 := by
 have h1 := brineB_size hw hs
 have h2 := numB_size (n := h) (by omega) (by omega)
 simp only [panB, ByteArray.size_append', ByteArray.size_mk', List.size_toArray, List.length_cons, List.length_nil]
 omega
theorem con_nums {f : Nat → Int} {n : Nat} {I H S P z : Int} {D Q : ByteArray} (hg : goodWorks f n I H S P = true) (hl : logOk D Q z = true) :
  (0 ≤ I ∧ I ≤ 1000000) ∧ (0 ≤ H ∧ H ≤ 1000000) ∧ (0 ≤ S ∧ S ≤ 1000000) ∧ 0 ≤ z ∧ z ≤ 60 := by
 simp only [goodWorks, kilosOk, inR, Bool.and_eq_true, decide_eq_true_eq] at hg
 simp only [logOk, Bool.and_eq_true, decide_eq_true_eq] at hl
 have := readN_len (D ++ Q) 60
 obtain ⟨⟨_, ⟨⟨hI, hH⟩, hS⟩, _⟩, _⟩ := hg
 refine ⟨by omega, by omega, by omega, by omega, ?_⟩
 rw [hl.2]
 omega
theorem pan_lt {f : Nat → Int} {n : Nat} {I H S P : Int} (hg : goodWorks f n I H S P = true) : ∀ j, j < n → ∀ i, i < j → f (i * 4) < f (j * 4)
 | 0, _, i, hi => by omega
 | j + 1, hj, i, hi => by
  have ih := pan_lt hg j (by omega) i
  revert hg
  refine z111 ?_
  intro hg h
  simp only [panStep, Bool.and_eq_true, Bool.or_eq_true, decide_eq_true_eq] at h
  have h2 : f (j * 4) < f ((j + 1) * 4) := by
   rcases h.2 with h | h
   ·omega
   ·simpa using h
  by_cases e : i = j
  ·subst e; exact h2
  ·have := ih (by omega); omega
theorem pan_find {f : Nat → Int} {n : Nat} {I H S P : Int} (hg : goodWorks f n I H S P = true) {j : Nat} (hj : j < n) : findV (pid f) (f (j * 4)) n 0 = (j : Int) := by
 rcases findV_cases (pid f) (f (j * 4)) n 0 with ⟨_, h⟩ | ⟨i, _, hi, e, hi2⟩
 ·exact absurd (rfl : f (j * 4) = f (j * 4)) (h j (Nat.zero_le _) (by omega))
 ·have hi2 : f (i * 4) = f (j * 4) := hi2
  rcases Nat.lt_trichotomy i j with h | h | h
  ·have := pan_lt hg j hj i h; omega
  ·rw [e, h]
  ·have := pan_lt hg i (by omega) j h; omega
theorem pansB_size {f : Nat → Int} {n : Nat} {I H S P : Int} (hg : goodWorks f n I H S P = true) : ∀ {k : Nat}, k ≤ n → (pansB f k).size ≤ 100 * k
 | 0, _ => Nat.le_refl _
 | k + 1, hk => by
  have ih := pansB_size hg (k := k) (by omega)
  obtain ⟨hid0, hid1⟩ := pan_id hg (j := k) (by omega)
  obtain ⟨hh, hw_, hs_, _, _⟩ := good_pan hg (j := k) (by omega)
  have hy1 := numB_size (n := f (k * 4)) (by omega) (by omega)
  have hy2 := panB_size hh hw_ hs_
  simp only [pansB, lineP, ByteArray.size_append', ByteArray.size_mk', List.size_toArray, List.length_cons, List.length_nil]
  omega
end Go.Proofs.YtpndjhelpoenpaaGreatDoor
namespace Go.Proofs.YtpndjhelpoenpaaGreatDoor
open Go.RowKit
noncomputable section
end
theorem rpL_next (c : CS) (ws : Nat → ByteArray) (k : Nat) : rpL c ws (k + 1) = rpL c ws k ++ [rpN c ws k] := by
 unfold rpL
 rw [List.range_succ, List.map_append, List.map_cons, List.map_nil]
theorem rpL_len (c : CS) (ws : Nat → ByteArray) (k : Nat) : (rpL c ws k).length = k := by simp [rpL]
theorem lnV_size (s : ByteArray) (j : Nat) : (lnV s j).size ≤ s.size := by
 unfold lnV
 by_cases h : j < (wordsV 10 s).length
 ·rw [List.getD_eq_getElem?_getD, List.getElem?_eq_getElem h]
  exact wordsV_size (List.getElem_mem h)
 exact z288
theorem exec_cs (c : CS) (hc : Fit c) (A : Option Addr) (cp lo hi : Nat) (s : ByteArray) (hsz : s.size ≤ 1048576) (w : World) (hs : Sl w lo hi 4 A c.n c.f) (hnc : c.n ≤ cp) (hnone : A = none → c.n = 0 ∧ cp = 0) (ht : Tab w) (hm : Mx w) (he : Er w) :
  Calls Tryz.prog 12 #[.agg (cB A c.n cp c.I c.H c.S c.P c.D c.Q c.z), .string s] w fun e w' => ∃ (A' : Option Addr) (c' : Nat) (L : List Int), (c.next s).f = lf L ∧ e = .returned (.tuple #[.agg (cB A' (c.next s).n c' (c.next s).I (c.next s).H (c.next s).S (c.next s).P (c.next s).D (c.next s).Q (c.next s).z), .string (c.rep s)]) ∧ (c.next s).n ≤ c' ∧ w'.ownsRow w.heap.size 97 4 (.slice A' (c.next s).n c') (c.next s).n (L.map (Value.int .i64)) ∧ bW w w' := by
 refine (ExecuteCommand_any A c.n cp lo hi c.f c.I c.H c.S c.P c.D c.Q c.z s w hs hc.1 hnc hnone hc.2.1 hc.2.2 hsz ht hm he).mono ?_
 rintro e w' ⟨A', c', rfl, h1, h2, h3⟩
 exact ⟨A', c', _, rfl, rfl, h1, h2, h3⟩
theorem sExec_cs (c : CS) (hc : Fit c) (A : Option Addr) (cp lo hi : Nat) (s : ByteArray) (hsz : s.size ≤ 1048576) (w : World) (hs : Sl w lo hi 4 A c.n c.f) (hnc : c.n ≤ cp) (hnone : A = none → c.n = 0 ∧ cp = 0) :
  Calls Tryz.prog 10 #[.agg (cB A c.n cp c.I c.H c.S c.P c.D c.Q c.z), .string s] w fun e w' => ∃ (A' : Option Addr) (c' : Nat) (L : List Int), (c.next s).f = lf L ∧ e = .returned (.tuple #[.agg (cB A' (c.next s).n c' (c.next s).I (c.next s).H (c.next s).S (c.next s).P (c.next s).D (c.next s).Q (c.next s).z), .string (c.rep s)]) ∧ (c.next s).n ≤ c' ∧ w'.ownsRow w.heap.size 97 4 (.slice A' (c.next s).n c') (c.next s).n (L.map (Value.int .i64)) ∧ bW w w' := by
 refine (sExecuteCommand_any A c.n cp lo hi c.f c.I c.H c.S c.P c.D c.Q c.z s w hs hc.1 hnc hnone hc.2.1 hc.2.2 hsz).mono ?_
 rintro e w' ⟨A', c', rfl, h1, h2, h3⟩
 exact ⟨A', c', _, rfl, rfl, h1, h2, h3⟩
end Go.Proofs.YtpndjhelpoenpaaGreatDoor
namespace Go.Proofs.YtpndjhelpoenpaaGreatDoor
open Go.RowKit
attribute [local go_sem ↓] Go.wp_at_zero Go.wp_at_succ
theorem own_app {w w' : World} {base b2 k k2 n m : Nat} {e e2 : TypeId} {u v : Value} {xs ys : List Value} (h : w.ownsRow base e k u n xs) (hv : w.ownsRow b2 e2 k2 v m ys) (hne : e ≠ e2) (hg : w.grownBy w' v.ownBlock) : w'.ownsRow base e k u n xs := by
 rcases hv.2 with ⟨hv1, _⟩ | ⟨g, cap, cur, hv1, _, hcur, _⟩
 ·subst hv1
  exact ownsRow_below h ⟨hg.os, hg.tape, hg.output, hg.size, fun i hi => hg.block i hi (by simp [Value.ownBlock])⟩
 ·subst hv1
  exact own_other h hcur hne hg
theorem grow_below {a b d : World} {r : Option Nat} (h : a.grownBy b r) (k : Below a.heap.size b d) : a.grownBy d r :=
 ⟨k.os.trans h.os, k.tape.trans h.tape, k.output.trans h.output, Nat.le_trans h.size k.size, fun i hi hr => (k.block i hi).trans (h.block i hi hr)⟩
theorem grow_of {a b : World} {r : Option Nat} (k : bW a b) : a.grownBy b r := ⟨k.os, k.tape, k.output, k.size, fun i hi _ => k.block i hi⟩
def ScPost (c : CS) (s : ByteArray) (w : World) (e : Ending) (w' : World) : Prop :=
 ∃ v, e = .returned (.tuple #[v, .bool (scOk c s)]) ∧ w'.ownsRow w.heap.size 9 1 v (scL c s).length ((scL c s).map Value.string) ∧ bW w w'
theorem sc_none {c : CS} {s : ByteArray} {w w' : World} {v : Value} (h : scOk c s = false) (hv : w'.ownsRow w.heap.size 9 1 v 0 []) (hb : bW w w') : ScPost c s w (.returned (.tuple #[v, .bool false])) w' := by
 refine ⟨v, by rw [h], ?_, hb⟩
 rw [scL, h]
 exact hv
theorem sc_some {c : CS} {s : ByteArray} {w w' : World} {v : Value} {m : Nat} {ws : Nat → ByteArray} {base : Nat} (hg : c.good = true) (h4 : s.size ≤ 4000) (hm : (wordsV 10 s).length = m) (h30 : m ≤ 30) (hw : lnV s = ws) (hv : w'.ownsRow base 9 1 v m ((rpL c ws m).map Value.string)) (hbase : w.heap.size ≤ base) (hb : bW w w') : ScPost c s w (.returned (.tuple #[v, .bool true])) w' := by
 have h : scOk c s = true := by rw [scOk, hg, hm]; simp [h4, h30]
 subst hw
 refine ⟨v, by rw [h], ?_, hb⟩
 rw [scL, if_pos h, hm, rpL_len]
 exact ownsRow_monoP hv hbase
theorem sc_no1 {c : CS} {s : ByteArray} (h : c.good = false) : scOk c s = false := by rw [scOk, h]; rfl
theorem sc_no2 {c : CS} {s : ByteArray} (h : 4000 < s.size) : scOk c s = false := by
 have : decide (s.size ≤ 4000) = false := decide_eq_false (by omega)
 rw [scOk, this]
 simp
theorem sc_no3 {c : CS} {s : ByteArray} {m : Nat} (hm : (wordsV 10 s).length = m) (h : 30 < m) : scOk c s = false := by
 have : decide ((wordsV 10 s).length ≤ 30) = false := decide_eq_false (by omega)
 rw [scOk, this]
 simp
theorem RunScript_any (c : CS) (hc : Fit c) (A : Option Addr) (cp lo hi : Nat) (s : ByteArray) (hsz : s.size ≤ 1048576) (w : World) (hs : Sl w lo hi 4 A c.n c.f) (hnc : c.n ≤ cp) (hnone : A = none → c.n = 0 ∧ cp = 0) (ht : Tab w) (hm_ : Mx w) (he : Er w) :
  Calls Tryz.prog 17 #[.agg (cB A c.n cp c.I c.H c.S c.P c.D c.Q c.z), .string s] w (ScPost c s w) := by
 have HT := lh ht
 have HM := lh hm_
 have HE := lh he
 clear ht hm_ he
 obtain ⟨hX, h2⟩ := bl1 w (.cells (cB A c.n cp c.I c.H c.S c.P c.D c.Q c.z) 35)
 go_enter Tryz.func17, Tryz.ntmps17
 go_upto_region 1 with fail
 refine z161 ?_
 revert hs hnone hX h2
 refine z353 ?_
 intro w1 g2 HLE l2 HS HB H2 HNN
 obtain ⟨e0, e1, e2, e3, e4, e5, e6, e7⟩ := cells8 H2.out
 go_wp2_with fail
 refine (IsValidConsole_any A c.n cp lo hi c.f c.I c.H c.S c.P c.D c.Q c.z w1 (HS.out.below HB.out) hc.1 hnc hc.2.1 hc.2.2 (HT.out.below HB.out) (HM.out.below HB.out)).mono ?_
 obtain ⟨gc, hgc⟩ : ∃ b, (goodWorks c.f c.n c.I c.H c.S c.P && logOk c.D c.Q c.z) = b := ⟨_, rfl⟩
 rw [hgc]
 have HGC : Hid (c.good = gc) := hgc
 clear hgc
 rintro e w2 ⟨rfl, hb⟩
 clear e0 e1 e2 e3 e4 e5 e6 e7
 refine z354 ?_
 intro H2' HB' l2'
 clear H2 HB l2 hb
 have H2 := H2'
 have HB := HB'
 have l2 := l2'
 clear H2' HB' l2'
 cases gc with
 | false =>
  go_wp2
  go_ret2
  exact sc_none (sc_no1 HGC.out) (⟨rfl, Or.inl ⟨rfl, rfl⟩⟩) HB.out
 | true =>
  by_cases h4 : 4000 < s.size
  ·have h4i : (4000 : Int) < (s.size : Int) := by omega
   go_wp2
   go_ret2
   exact sc_none (sc_no2 h4) (⟨rfl, Or.inl ⟨rfl, rfl⟩⟩) HB.out
  ·have h4i : ¬ ((4000 : Int) < (s.size : Int)) := by omega
   go_wp2_with fail
   refine (Split_any s 10 (by omega) w2 (HM.out.below HB.out)).mono ?_
   rintro e w3 ⟨Bw, dw, rfl, hdw, hsw, hb⟩
   have hmp := wordsV_pos 10 s
   obtain ⟨m, hm⟩ : ∃ q, (wordsV 10 s).length = q := ⟨_, rfl⟩
   obtain ⟨ws, hws⟩ : ∃ q, lnV s = q := ⟨_, rfl⟩
   rw [hm] at hdw hsw hmp
   try rw [hm]
   have hsw : SlT w3 w2.heap.size w3.heap.size 1 Bw m ws := by rw [← hws]; exact hsw
   have hwz : ∀ j, (ws j).size ≤ 1048576 := fun j => by rw [← hws]; exact Nat.le_trans (lnV_size s j) hsz
   have hm4 : m ≤ 4000000 := by have := wordsV_le 10 s; omega
   have HMM := lh hm
   have HWS := lh hws
   clear hm hws
   obtain ⟨bw, ow, eB, hlo, hbw, hcw⟩ := hsw.here (by omega)
   have hwg : bw ≠ g2 := by omega
   have hbw := Nat.lt_of_lt_of_le hbw hsw.hi_le
   subst eB
   have HC := lh hcw
   clear hcw hsw
   refine z354 ?_
   intro H2' HB' l2'
   clear H2 HB l2 hb
   have H2 := H2'
   have HB := HB'
   have l2 := l2'
   clear H2' HB' l2'
   by_cases h30 : 30 < m
   ·have h30i : (30 : Int) < (m : Int) := by omega
    go_wp2
    go_ret2
    exact sc_none (sc_no3 HMM.out h30) (⟨rfl, Or.inl ⟨rfl, rfl⟩⟩) HB.out
   ·have h30i : ¬ ((30 : Int) < (m : Int)) := by omega
    go_wp2_with fail
    go_loopw [7, 27] (fun v iv wr => ∃ (k : Nat) (A' : Option Addr) (c' lo' hi' : Nat), k ≤ m ∧ iv = .int .i64 k ∧ wr.heap[g2]? = some (.cells (cB A' (csN c ws k).n c' (csN c ws k).I (csN c ws k).H (csN c ws k).S (csN c ws k).P (csN c ws k).D (csN c ws k).Q (csN c ws k).z) 35 (0, 0)) ∧ Sl wr lo' hi' 4 A' (csN c ws k).n (csN c ws k).f ∧ (csN c ws k).n ≤ c' ∧ (A' = none → (csN c ws k).n = 0 ∧ c' = 0) ∧ wr.ownsRow w3.heap.size 9 1 v k ((rpL c ws k).map Value.string) ∧ w3.grownBy wr (some g2)) (fun _ iv _ => m - (intOf iv).toNat)
    case atStart => exact ⟨0, A, cp, lo, hi, Nat.zero_le _, rfl, H2.out, HS.out.below HB.out, hnc, HNN.out, ⟨rfl, Or.inl ⟨rfl, rfl⟩⟩, grow_refl _ _⟩
    case round =>
     obtain ⟨k, A', c', lo', hi', hk, rfl, hbx, hsl, hnc', hnn', hv, hgr⟩ := hrel
     have HBX := lh hbx
     have HSL := lh hsl
     have HNN' := lh hnn'
     have HV := lh hv
     have hBr := HB.out.grown hgr HB.out.size (fun k hk => by cases hk; exact HLE.out)
     have HBR := lh hBr
     have HGR := lh hgr
     have hrs := hgr.size
     clear hbx hsl hnn' hv hBr hgr
     by_cases hlt : k < m
     ·have hki : (k : Int) < (m : Int) := by omega
      refine z236 ?_
      intro hk0
      have d0 : cE wr bw (ow + k) (.string (ws k)) := cellGr (HC.out k (by omega)) HGR.out hwg
      obtain ⟨e0, e1, e2, e3, e4, e5, e6, e7⟩ := cells8 HBX.out
      obtain ⟨c1, r, HC1, HR, HX0⟩ : ∃ (c1 : CS) (r : ByteArray), Hid (csN c ws (k + 1) = c1) ∧ Hid (rpN c ws k = r) ∧ Hid (Calls Tryz.prog 12 #[.agg (cB A' (csN c ws k).n c' (csN c ws k).I (csN c ws k).H (csN c ws k).S (csN c ws k).P (csN c ws k).D (csN c ws k).Q (csN c ws k).z), .string (ws k)] wr fun e w' => ∃ (A' : Option Addr) (c' : Nat) (L : List Int), c1.f = lf L ∧ e = .returned (.tuple #[.agg (cB A' c1.n c' c1.I c1.H c1.S c1.P c1.D c1.Q c1.z), .string r]) ∧ c1.n ≤ c' ∧ w'.ownsRow wr.heap.size 97 4 (.slice A' c1.n c') c1.n (L.map (Value.int .i64)) ∧ bW wr w') := ⟨_, _, rfl, rfl, exec_cs (csN c ws k) (Fit.csN hc ws k) A' c' lo' hi' (ws k) (hwz k) wr HSL.out hnc' HNN'.out (HT.out.below HBR.out) (HM.out.below HBR.out) (HE.out.below HBR.out)⟩
      go_wp2_with fail
      refine HX0.out.mono ?_
      rintro e wa ⟨A2, c2, L2, hf, rfl, hnc2, hown, hb⟩
      clear HX0 e0 e1 e2 e3 e4 e5 e6 e7 d0 HSL HNN'
      have HF := lh hf
      have HOW := lh hown
      have HBX2 := lh (rowC HBX.out hb)
      have HGA := lh (grow_trans HGR.out (grow_of hb))
      have HV2 := lh (ownsRow_below HV.out hb)
      have has := hb.size
      clear hf hown HBX HGR HV HBR hb
      go_upto_region 11 with fail
      refine z161 ?_
      intro wb hwb
      have hb := ba hwb
      have h10 := an hwb
      clear hwb
      obtain ⟨g10, hg10⟩ : ∃ q, wa.heap.size = q := ⟨_, rfl⟩
      rw [hg10] at h10
      try rw [hg10]
      clear hg10
      have h2 := rowC HBX2.out hb
      have HGB := lh (grow_trans HGA.out (grow_of hb))
      have HVB := lh (ownsRow_below HV2.out hb)
      have HOB := lh (ownsRow_below HOW.out hb)
      have hbs := hb.size
      clear HBX2 HGA HV2 HOW hb
      obtain ⟨e0, e1, e2, e3, e4, e5, e6, e7⟩ := cells8 h10
      go_wp2_with (refine z281 ?_; refine wpList_store2 g2 0 (.agg (cB A2 c1.n c2 c1.I c1.H c1.S c1.P c1.D c1.Q c1.z)) 35 _ (cB A2 c1.n c2 c1.I c1.H c1.S c1.P c1.D c1.Q c1.z) rfl rfl infoConE h2 (Nat.le_refl 8) (by exact z143) rfl ?_)
      intro wc hh hgw
      have HVC := lh (own_other HVB.out h2 (by decide) hgw)
      have HOC := lh (own_other HOB.out h2 (by decide) hgw)
      have HGC2 := lh (grow_trans HGB.out hgw)
      have HHH := lh hh
      have hcs := hgw.size
      clear hh hgw h2 HVB HOB HGB e0 e1 e2 e3 e4 e5 e6 e7 h10
      go_wp2_with (at_builtin; refine wpList_append_str _ rfl _ _ 42 rfl w3.heap.size Tryz.underlying42 (rpL c ws k) r _ rfl (by rw [rpL_len]; exact HVC.out.alloc _) _ rfl (by simp) (by rw [rpL_len]; omega) (by have := hcs; simp; omega) ?_; intro v' wd hown3 hgrow3)
      have hBD : Below w3.heap.size wc wd := ((Below.refl w3.heap.size wc).alloc (by omega) _).grown hgrow3 (by simp; omega) (fun k hk => ((HVC.out.alloc (.cells #[.string r] 9)).lt k hk).1)
      have HXL : Hid (wd.heap[g2]? = some (.cells (cB A2 c1.n c2 c1.I c1.H c1.S c1.P c1.D c1.Q c1.z) 35 (0, 0))) := (hBD.block g2 l2).trans HHH.out
      have HGD := lh (grow_below HGC2.out hBD)
      refine z355 ?_
      intro hOD HSD HND
      have HVD : Hid (wd.ownsRow w3.heap.size 9 1 v' (k + 1) ((rpL c ws (k + 1)).map Value.string)) := by
       show World.ownsRow _ _ _ _ _ _ _
       rw [rpL_next, HR.out]
       have h := hown3
       rw [List.length_append, rpL_len] at h
       exact h
      clear hBD hOD hown3 hgrow3 HVC HOC HGC2 HHH
      go_wp2
      go_roundw
      case rel =>
       refine ⟨k + 1, A2, c2, wr.heap.size, wd.heap.size, by omega, by go_num, ?_⟩
       rw [HC1.out, HF.out]
       exact ⟨HXL.out, HSD.out, hnc2, HND.out, HVD.out, HGD.out⟩
      case measure => simp [intOf]; omega
     ·obtain rfl : k = m := by omega
      refine z177 ?_
      intro hki
      clear HBX HSL HNN'
      go_wp2
      go_ret2
      exact sc_some HGC.out (by omega) HMM.out (by omega) HWS.out HV.out HB.out.size HBR.out
end Go.Proofs.YtpndjhelpoenpaaGreatDoor
namespace Go.Proofs.YtpndjhelpoenpaaGreatDoor
open Go.RowKit
theorem cutL_free {c : UInt8} : ∀ {l x : List UInt8}, x ∈ cutL c l → c ∉ x
 | [], x, h => by simp [cutL] at h; subst h; simp
 | b :: l, x, h => by
  unfold cutL at h
  split at h
  ·rcases List.mem_cons.1 h with rfl | h
   ·simp
   ·exact cutL_free h
  ·rename_i hb
   split at h
   ·simp at h; subst h; simpa using Ne.symm hb
   ·next y r e =>
    rcases List.mem_cons.1 h with rfl | h
    ·have := cutL_free (c := c) (l := l) (x := y) (by rw [e]; simp)
     simp only [List.mem_cons, not_or]
     exact ⟨fun e => hb e.symm, this⟩
    ·exact cutL_free (c := c) (l := l) (x := x) (by rw [e]; simp [h])
theorem line_alone (s : ByteArray) : wordsV 10 (lnV s 0) = [lnV s 0] := by
 have hp := wordsV_pos 10 s
 have hm : lnV s 0 ∈ wordsV 10 s := by
  unfold lnV
  rw [List.getD_eq_getElem?_getD, List.getElem?_eq_getElem (by omega)]
  exact List.getElem_mem _
 generalize lnV s 0 = t at *
 unfold wordsV at hm
 obtain ⟨l, hl, rfl⟩ := List.mem_map.1 hm
 unfold wordsV
 have h := cutL_free hl
 show List.map _ (cutL 10 l.toArray.toList) = _
 rw [List.toList_toArray, cutL_none h]
 rfl
theorem sc_first {c : CS} {s : ByteArray} (h : scOk c s = true) : scOk c (lnV s 0) = true ∧ scL c (lnV s 0) = [c.rep (lnV s 0)] ∧ (scL c s).getD 0 ⟨#[]⟩ = c.rep (lnV s 0) ∧ 0 < (scL c s).length := by
 have hp := wordsV_pos 10 s
 have hz := lnV_size s 0
 have h0 := h
 simp only [scOk, Bool.and_eq_true, decide_eq_true_eq] at h0
 have h1 : scOk c (lnV s 0) = true := by
  simp only [scOk, Bool.and_eq_true, decide_eq_true_eq, line_alone]
  exact ⟨h0.1, by omega, by simp⟩
 refine ⟨h1, ?_, ?_, ?_⟩
 ·rw [scL, if_pos h1, line_alone]
  have e : lnV (lnV s 0) 0 = lnV s 0 := by
   show (wordsV 10 (lnV s 0)).getD 0 _ = _
   rw [line_alone]
   rfl
  show rpL c (lnV (lnV s 0)) 1 = _
  unfold rpL rpN
  show [CS.rep c (lnV (lnV s 0) 0)] = _
  rw [e]
 ·rw [scL, if_pos h]
  unfold rpL
  rw [List.getD_eq_getElem?_getD, List.getElem?_eq_getElem (by simp; omega)]
  simp [rpN, csN]
 ·rw [scL, if_pos h, rpL_len]
  omega
theorem sc_long (c : CS) (s : ByteArray) : (scL c s).length ≤ 30 := by
 unfold scL
 split
 ·rename_i h
  rw [rpL_len]
  simp only [scOk, Bool.and_eq_true, decide_eq_true_eq] at h
  omega
 ·exact Nat.zero_le _
theorem sc_not {c : CS} {s : ByteArray} (h : scOk c s = false) : (scL c s).length = 0 := by rw [scL, h]; rfl
end Go.Proofs.YtpndjhelpoenpaaGreatDoor
namespace Go.Proofs.YtpndjhelpoenpaaGreatDoor
open Go.RowKit
attribute [local go_sem ↓] Go.wp_at_zero Go.wp_at_succ
theorem wpList_append_strAt {ops : Array Oper} {rest : List Oper} {o : Oper} {a : Act} {Q : Exit → Act → World → Prop} (w : World) (hg : o.guard = none) (s x : Operand) (t : TypeId)
  (hop : o.op = Op.call { callee := Callee.builtin Builtin.append, args := #[s, x], argTypes := #[t, t] }) (base : Nat) (ht : Tryz.prog.underlying t = some (.slice 9)) (L : List ByteArray) (u : ByteArray) (v : Value) (hs : a.eval s = v)
  (hown : w.ownsRow base 9 1 v L.length (L.map Value.string)) (b : Nat) (hx : a.eval x = .slice (some ⟨b, 0, none⟩) 1 1) (hc : cE w b 0 (.string u)) (hlen : L.length ≤ 100000000) (hbase : base ≤ w.heap.size)
  (h : ∀ v' w', w'.ownsRow base 9 1 v' (L ++ [u]).length ((L ++ [u]).map Value.string) → w.grownBy w' v.ownBlock → (v'.ownBlock = v.ownBlock ∨ v'.ownBlock = some w.heap.size) → wpList Tryz.prog ops Q rest (a.put o.dst v') w') :
  wpList Tryz.prog ops Q (o :: rest) a w := by
 obtain ⟨i, hi, hz0, hz1, hz2⟩ := info_parts infoStr
 refine wpList_append_own_at (w := w) hg s x t hop base 9 i (.string ⟨#[]⟩) 1 16 ht hi hz0 hz1 hz2 rfl (by decide) v L.length (L.map Value.string) hs hown ⟨b, 0, none⟩ 1 1 [.string u] hx rfl ?_ ?_ ?_ ?_ hbase ?_
 ·intro j u' hj
  exact z31
 ·intro u' hu; simp at hu; subst hu; rfl
 ·unfold maxLen; omega
 ·omega
 ·intro v' w' hown' hgrow _ hob
  exact h v' w' (by simpa using hown') hgrow hob
theorem sRunScript_any (c : CS) (hc : Fit c) (A : Option Addr) (cp lo hi : Nat) (s : ByteArray) (hsz : s.size ≤ 1048576) (w : World) (hs : Sl w lo hi 4 A c.n c.f) (hnc : c.n ≤ cp) (hnone : A = none → c.n = 0 ∧ cp = 0) :
  Calls Tryz.prog 16 #[.agg (cB A c.n cp c.I c.H c.S c.P c.D c.Q c.z), .string s] w (ScPost c s w) := by
 obtain ⟨hX, h2⟩ := bl1 w (.cells (cB A c.n cp c.I c.H c.S c.P c.D c.Q c.z) 35)
 go_enter Tryz.func16, Tryz.ntmps16
 go_upto_region 1 with fail
 refine z161 ?_
 revert hs hnone hX h2
 refine z353 ?_
 intro w1 g2 HLE l2 HS HB H2 HNN
 have HWD : Hid (∀ W : World, Calls Tryz.prog 56 #[.string s, .int .u8 10] W fun e w' => ∃ B d, e = .returned (.slice B (wordsV 10 s).length d) ∧ (wordsV 10 s).length ≤ d ∧ SlT w' W.heap.size w'.heap.size 1 B (wordsV 10 s).length (fun j => (wordsV 10 s).getD j ⟨#[]⟩) ∧ bW W w') := fun W => l1Words_any s 10 (by omega) W
 go_upto_region 2 with fail
 refine z161 ?_
 intro wy hwy
 have hb := ba hwy
 have HV0 : Hid (wy.ownsRow w1.heap.size 9 1 (.slice (some ⟨w1.heap.size, 0, none⟩) 0 0) 0 []) := by rw [hwy]; exact World.ownsRow_made w1 #[] 0 nL (by unfold maxLen; omega) rfl
 clear hwy
 have h1s := HB.out.size
 have hg2v := l2
 obtain ⟨gv, hgv⟩ : ∃ q, w1.heap.size = q := ⟨_, rfl⟩
 rw [hgv] at HV0 h1s hg2v
 try rw [hgv]
 clear hgv
 have hwyv := (HV0.out.lt gv rfl).2
 refine z354 ?_
 intro H2' HB' l2'
 clear H2 HB l2 hb
 have H2 := H2'
 have HB := HB'
 have l2 := l2'
 clear H2' HB' l2'
 go_wp2_with fail
 refine (HWD.out wy).mono ?_
 rintro e w3 ⟨Bw, dw, rfl, hdw, hsw, hb⟩
 have hmp := wordsV_pos 10 s
 obtain ⟨m, hm⟩ : ∃ q, (wordsV 10 s).length = q := ⟨_, rfl⟩
 obtain ⟨ws, hws⟩ : ∃ q, lnV s = q := ⟨_, rfl⟩
 rw [hm] at hdw hsw hmp
 try rw [hm]
 have hsw : SlT w3 wy.heap.size w3.heap.size 1 Bw m ws := by rw [← hws]; exact hsw
 have hwz : ∀ j, (ws j).size ≤ 1048576 := fun j => by rw [← hws]; exact Nat.le_trans (lnV_size s j) hsz
 have hm4 : m ≤ 4000000 := by have := wordsV_le 10 s; omega
 have HMM := lh hm
 have HWS := lh hws
 clear hm hws
 obtain ⟨bw, ow, eB, hlo, hbw, hcw⟩ := hsw.here (by omega)
 have hwg : bw ≠ g2 := by omega
 have hbw := Nat.lt_of_lt_of_le hbw hsw.hi_le
 subst eB
 have HV1 := lh (ownsRow_below HV0.out hb)
 have HC := lh hcw
 clear hcw hsw
 refine z354 ?_
 intro H2' HB' l2'
 clear H2 HB l2 hb
 have H2 := H2'
 have HB := HB'
 have l2 := l2'
 clear H2' HB' l2'
 clear HV0 HWD
 obtain ⟨e0, e1, e2, e3, e4, e5, e6, e7⟩ := cells8 H2.out
 go_wp2_with fail
 refine (l28Good_any A c.n cp lo hi c.f c.I c.H c.S c.P c.D c.Q c.z w3 (HS.out.below HB.out) hc.1 hnc hc.2.1 hc.2.2).mono ?_
 obtain ⟨gc, hgc⟩ : ∃ b, (goodWorks c.f c.n c.I c.H c.S c.P && logOk c.D c.Q c.z) = b := ⟨_, rfl⟩
 rw [hgc]
 have HGC : Hid (c.good = gc) := hgc
 clear hgc
 rintro e w4 ⟨rfl, hb⟩
 clear e0 e1 e2 e3 e4 e5 e6 e7
 have HV2 := lh (ownsRow_below HV1.out hb)
 have hc4 : w4.cell? ⟨bw, ow, none⟩ = w4.cell? ⟨bw, ow, none⟩ := rfl
 have HC4 : Hid (∀ j, j < m → cE w4 bw (ow + j) (.string (ws j))) := fun j hj => (hb.cell (p := ⟨bw, ow + j, none⟩) hbw).trans (HC.out j (by omega))
 have hs34 := hb.size
 clear HV1 HC hc4
 refine z354 ?_
 intro H2' HB' l2'
 clear H2 HB l2 hb
 have H2 := H2'
 have HB := HB'
 have l2 := l2'
 clear H2' HB' l2'
 cases gc with
 | false =>
  go_wp2_with fail
  all_goals try (exfalso; omega)
  go_ret2
  exact sc_none (sc_no1 HGC.out) (ownsRow_monoP HV2.out h1s) HB.out
 | true =>
  by_cases h4 : 4000 < s.size
  ·have h4i : (4000 : Int) < (s.size : Int) := by omega
   go_wp2_with fail
   all_goals try (exfalso; omega)
   go_ret2
   exact sc_none (sc_no2 h4) (ownsRow_monoP HV2.out h1s) HB.out
  ·have h4i : ¬ ((4000 : Int) < (s.size : Int)) := by omega
   by_cases h30 : 30 < m
   ·have h30i : (30 : Int) < (m : Int) := by omega
    go_wp2_with fail
    all_goals try (exfalso; omega)
    go_ret2
    exact sc_none (sc_no3 HMM.out h30) (ownsRow_monoP HV2.out h1s) HB.out
   ·have h30i : ¬ ((30 : Int) < (m : Int)) := by omega
    go_wp2_with fail
    all_goals try (exfalso; omega)
    go_loopw [6, 9] (fun v iv wr => ∃ (k : Nat) (A' : Option Addr) (c' lo' hi' : Nat), k ≤ m ∧ iv = .int .i64 k ∧ wr.heap[g2]? = some (.cells (cB A' (csN c ws k).n c' (csN c ws k).I (csN c ws k).H (csN c ws k).S (csN c ws k).P (csN c ws k).D (csN c ws k).Q (csN c ws k).z) 35 (0, 0)) ∧ Sl wr lo' hi' 4 A' (csN c ws k).n (csN c ws k).f ∧ (csN c ws k).n ≤ c' ∧ (A' = none → (csN c ws k).n = 0 ∧ c' = 0) ∧ wr.ownsRow gv 9 1 v k ((rpL c ws k).map Value.string) ∧ Below g2 w4 wr ∧ (∀ j, j < m → cE wr bw (ow + j) (.string (ws j))) ∧ v.ownBlock ≠ some bw) (fun _ iv _ => m - (intOf iv).toNat)
    case atStart => exact ⟨0, A, cp, lo, hi, Nat.zero_le _, rfl, H2.out, HS.out.below HB.out, hnc, HNN.out, HV2.out, Below.refl _ _, HC4.out, by simp [Value.ownBlock]; omega⟩
    case round =>
     obtain ⟨k, A', c', lo', hi', hk, rfl, hbx, hsl, hnc', hnn', hv, hgr, hcw, hnb⟩ := hrel
     have HBX := lh hbx
     have HSL := lh hsl
     have HNN' := lh hnn'
     have HV := lh hv
     have HCW := lh hcw
     have HGR := lh hgr
     have hrs := hgr.size
     clear hbx hsl hnn' hv hgr hcw HV2 HC4
     by_cases hlt : k < m
     ·have hki : (k : Int) < (m : Int) := by omega
      refine z236 ?_
      intro hk0
      obtain ⟨c1, r, HC1, HR, HX0⟩ : ∃ (c1 : CS) (r : ByteArray), Hid (csN c ws (k + 1) = c1) ∧ Hid (rpN c ws k = r) ∧ Hid (∀ W : World, bW wr W → Calls Tryz.prog 10 #[.agg (cB A' (csN c ws k).n c' (csN c ws k).I (csN c ws k).H (csN c ws k).S (csN c ws k).P (csN c ws k).D (csN c ws k).Q (csN c ws k).z), .string (ws k)] W fun e w' => ∃ (A' : Option Addr) (c' : Nat) (L : List Int), c1.f = lf L ∧ e = .returned (.tuple #[.agg (cB A' c1.n c' c1.I c1.H c1.S c1.P c1.D c1.Q c1.z), .string r]) ∧ c1.n ≤ c' ∧ w'.ownsRow W.heap.size 97 4 (.slice A' c1.n c') c1.n (L.map (Value.int .i64)) ∧ bW W w') := ⟨_, _, rfl, rfl, fun W hq => sExec_cs (csN c ws k) (Fit.csN hc ws k) A' c' lo' hi' (ws k) (hwz k) W (HSL.out.below hq) hnc' HNN'.out⟩
      go_upto_region 9 with fail
      have HF : Hid (∀ w', wr.grownBy w' (some g2) → cE w' bw (ow + k) (.string (ws k))) := fun w' hq => cellGr (HCW.out k hlt) hq hwg
      refine wp_region_held_drew (S := fun w' => wr.grownBy w' (some g2)) (by exact z12) (but_stays wr _ (grow_refl wr (some g2)) ((Below.refl _ wr).drew)) (fun jd => ?_)
      have hbd : bW wr wr.drew := (Below.refl _ wr).drew
      obtain ⟨v0, hv0⟩ : ∃ v, wr.drew = v := ⟨_, rfl⟩
      rw [hv0] at jd hbd ⊢
      clear hv0
      refine tj4 1 35 2 36 3 37 4 38 HF jd ?_
      refine wpAnyH_ready (rs := [0]) (by exact z12) (by simp) ?_
      refine z356 ?_
      intro hr2 jd
      refine wpAnyH_ready (rs := [5]) (by exact z12) (by simp) ?_
      refine z73 ?_
      intro K hK
      refine (HX0.out v0 hbd).mono ?_
      rintro e v1 ⟨A2, c2, L2, hf, rfl, hnc2, hown, hbn⟩
      have hr3 := rowC hr2 hbn
      have HFF := lh hf
      refine z240 ?_
      intro hHeld2 jd
      clear hK K hHeld2 hf
      refine tj3 6 33 7 40 8 41 HF jd ?_
      refine wpAnyH_store (fuel := 1) (i := 9) rfl (by exact z12) g2 0 (.agg (cB A2 c1.n c2 c1.I c1.H c1.S c1.P c1.D c1.Q c1.z)) 35 _ rfl rfl infoConE (hr3) (by simp [Value.cells]) (by exact z143) (fun w' hg' => grow_trans jd hg') ?ks
      case ks =>
       intro v3 hh hgw hHeld3
       have hh : v3.heap[g2]? = some (.cells (cB A2 c1.n c2 c1.I c1.H c1.S c1.P c1.D c1.Q c1.z) 35 (0, 0)) := hh
       clear jd
       have jd := hHeld3
       clear hHeld3
       refine tj 10 8 HF rfl jd ?_
       refine z49 ?_
       have HHH := lh hh
       have hs1 := hbd.size
       have hs2 := hbn.size
       have hcs := hgw.size
       have HVC := lh (own_other (ownsRow_below (ownsRow_below HV.out hbd) hbn) hr3 (by decide) hgw)
       have HOC := lh (own_other hown hr3 (by decide) hgw)
       have HGC2 : Hid (Below g2 w4 v3) := (HGR.out.trans ((hbd.trans (hbn.mono hbd.size)).mono (by omega))).grown hgw (by omega) (fun k hk => by cases hk; exact z35)
       have HCX : Hid (∀ j, j < m → cE v3 bw (ow + j) (.string (ws j))) := fun j hj => cellGr (HCW.out j hj) jd hwg
       clear hh hgw hr2 hr3 hown hbn hbd jd HX0 HF HBX HSL HNN' HV HCW HGR
       obtain ⟨wc, hwc⟩ : ∃ v, v3 = v := ⟨_, rfl⟩
       rw [hwc] at HHH HVC HOC HGC2 HCX hcs
       try rw [hwc]
       clear hwc
       have hbc : bw < wc.heap.size := by omega
       go_wp2_with (at_builtin; refine wpList_append_strAt _ rfl _ _ 42 rfl gv Tryz.underlying42 (rpL c ws k) r _ rfl (by rw [rpL_len]; exact HVC.out.alloc _) _ rfl (by simp) (by rw [rpL_len]; omega) (by simp; omega) ?_; intro v' wd hown3 hgrow3 hob)
       have hBD : Below gv wc wd := ((Below.refl gv wc).alloc (by omega) _).grown hgrow3 (by simp; omega) (fun k hk => ((HVC.out.alloc (.cells #[.string r] 9)).lt k hk).1)
       have HXL : Hid (wd.heap[g2]? = some (.cells (cB A2 c1.n c2 c1.I c1.H c1.S c1.P c1.D c1.Q c1.z) 35 (0, 0))) := (hBD.block g2 hg2v).trans HHH.out
       have HGD := lh (HGC2.out.trans (hBD.mono (by omega)))
       have HCD : Hid (∀ j, j < m → cE wd bw (ow + j) (.string (ws j))) := fun j hj => by
        have h1 := ((Below.refl wc.heap.size wc).alloc nL (.cells #[.string r] 9)).cell (p := ⟨bw, ow + j, none⟩) hbc
        exact (World.cell?_of_block (hgrow3.block bw (by simp; omega) (fun h => hnb h.symm))).trans (h1.trans (HCX.out j hj))
       have HNB : Hid (v'.ownBlock ≠ some bw) := by
        show _ ≠ _
        rcases hob with h | h
        ·rw [h]; exact hnb
        ·rw [h]; intro h2; injection h2 with h3; simp at h3; omega
       refine z355 ?_
       intro hOD HSD HND
       have HVD : Hid (wd.ownsRow gv 9 1 v' (k + 1) ((rpL c ws (k + 1)).map Value.string)) := by
        show World.ownsRow _ _ _ _ _ _ _
        rw [rpL_next, HR.out]
        have h := hown3
        rw [List.length_append, rpL_len] at h
        exact h
       clear hBD hOD hown3 hgrow3 HVC HOC HGC2 HHH HCX hob
       go_wp2
       go_roundw
       case rel =>
        refine ⟨k + 1, A2, c2, v0.heap.size, wd.heap.size, by omega, by go_num, ?_⟩
        rw [HC1.out, HFF.out]
        exact ⟨HXL.out, HSD.out, hnc2, HND.out, HVD.out, HGD.out, HCD.out, HNB.out⟩
       case measure => simp [intOf]; omega
     ·obtain rfl : k = m := by omega
      refine z177 ?_
      intro hki
      clear HBX HSL HNN'
      go_wp2
      go_ret2
      exact sc_some HGC.out (by omega) HMM.out (by omega) HWS.out HV.out h1s (HB.out.trans (HGR.out.mono HLE.out))
end Go.Proofs.YtpndjhelpoenpaaGreatDoor
namespace Go.Proofs.YtpndjhelpoenpaaGreatDoor
open Go.RowKit
theorem SplitString_any (s : ByteArray) (hs : s.size ≤ 4000) (w : World) :
  Calls Tryz.prog 27 (sV s ⟨#[10]⟩) w fun e w' => ∃ A c, e = .returned (.tuple #[.slice A (wordsV 10 s).length c, .bool true]) ∧ (wordsV 10 s).length ≤ c ∧ SlT w' w.heap.size w'.heap.size 1 A (wordsV 10 s).length (fun j => (wordsV 10 s).getD j ⟨#[]⟩) ∧ bW w w' := by
 have h4 : ¬ ((4000 : Int) < (s.size : Int)) := by omega
 go_enter Tryz.func27, Tryz.ntmps27
 go_wp2_with fail
 refine (l1Words_any s 10 (by omega) w).mono ?_
 rintro e w2 ⟨A, c, rfl, hc, hs, hb⟩
 go_wp2
 go_ret2
 exact ⟨A, c, rfl, hc, hs, hb⟩
end Go.Proofs.YtpndjhelpoenpaaGreatDoor
namespace Go.Proofs.YtpndjhelpoenpaaGreatDoor
open Go.RowKit
theorem FormatConsole_any (A : Option Addr) (n c lo hi : Nat) (f : Nat → Int) (I H S P : Int) (D Q : ByteArray) (z : Int) (w : World) (hs : Sl w lo hi 4 A n f) (hn : n ≤ 1048576) (hnc : n ≤ c) (hD : D.size ≤ 1048576) (hQ : Q.size ≤ 1048576) (ht : Tab w) (hm : Mx w) :
  Calls Tryz.prog 28 #[.agg (cB A n c I H S P D Q z)] w fun e w' => e = .returned (.tuple #[.string (cond (goodWorks f n I H S P && logOk D Q z) (fmtB f n I H S z) ⟨#[]⟩), .bool (goodWorks f n I H S P && logOk D Q z)]) ∧ bW w w' := by
 refine z357 ?_
 intro HX H0 HS
 clear hs
 cases hok : (goodWorks f n I H S P && logOk D Q z) with
 | false =>
  go_enter Tryz.func28, Tryz.ntmps28
  go_upto_region 1 with fail
  refine z161 ?_
  intro w1 hw1
  rw [← hw1] at HX H0 HS
  clear hw1
  have h0 := H0.out
  obtain ⟨e0, e1, e2, e3, e4, e5, e6, e7⟩ := cells8 h0
  clear h0
  go_wp2_with fail
  refine (IsValidConsole_any A n c lo hi f I H S P D Q z w1 HS.out hn hnc hD hQ (ht.below HX.out) (hm.below HX.out)).mono ?_
  exact z358
 | true =>
  refine z359 ?_
  intro hI hH hS_ hz hn6 HG HL hz1 hz2 hz3 hz4
  go_enter Tryz.func28, Tryz.ntmps28
  go_upto_region 1 with fail
  refine z161 ?_
  intro w1 hw1
  rw [← hw1] at HX H0 HS
  clear hw1
  have h0 := H0.out
  obtain ⟨e0, e1, e2, e3, e4, e5, e6, e7⟩ := cells8 h0
  clear h0
  go_wp2_with fail
  refine (IsValidConsole_any A n c lo hi f I H S P D Q z w1 HS.out hn hnc hD hQ (ht.below HX.out) (hm.below HX.out)).mono ?_
  rw [hok]
  rintro e w2 ⟨rfl, hb⟩
  have BX2 := below_of HX.out hb HX.out.size
  have h0 := rowC H0.out hb
  have hS2 := HS.out.below hb
  clear e0 e1 e2 e3 e4 e5 e6 e7
  obtain ⟨e0, e1, e2, e3, e4, e5, e6, e7⟩ := cells8 h0
  have HB2 := lh BX2
  have HT2 := lh (ht.below BX2)
  have H2 := lh h0
  have HS2 := lh hS2
  clear hb h0 hS2 BX2 HX H0 HS ht hm hok
  go_upto_region 5 with fail
  clear e0 e1 e2 e3 e4 e5 e6 e7
  go_wp2_with fail
  go_loopw [4, 16] (fun tv kv wr => (∃ k : Nat, k ≤ n ∧ kv = .int .i64 k ∧ tv = .string (pansB f k)) ∧ bW w2 wr) (fun _ kv _ => n - (intOf kv).toNat)
  case atStart => exact ⟨⟨0, Nat.zero_le _, rfl, rfl⟩, Below.refl _ _⟩
  case round =>
   obtain ⟨⟨k, hk, rfl, rfl⟩, hB⟩ := hrel
   have h0 := rowC H2.out hB
   have HTr := lh (HT2.out.below hB)
   have HBr := lh (HB2.out.trans (hB.mono HB2.out.size))
   by_cases hlt : k < n
   ·have hki : (k : Int) < (n : Int) := by omega
    refine z236 ?_
    intro hk0
    obtain ⟨b1, o1, eA, _, hb1, hc⟩ := (HS2.out.below hB).here (by omega)
    have hb1 := Nat.lt_of_lt_of_le hb1 (HS2.out.below hB).hi_le
    obtain ⟨hid0, hid1⟩ := pan_id HG.out hlt
    obtain ⟨hh_, hw_, hs_, _, _⟩ := good_pan HG.out hlt
    have hy1 := numB_size (n := f (k * 4)) (by omega) (by omega)
    have hy2 := panB_size hh_ hw_ hs_
    have hT := pansB_size HG.out hk
    have d0 := hc (k * 4) (by omega)
    have d1 := hc (k * 4 + 1) (by omega)
    have d2 := hc (k * 4 + 2) (by omega)
    have d3 := hc (k * 4 + 3) (by omega)
    rw [← Nat.add_assoc] at d1 d2 d3
    subst eA
    clear hc
    go_upto_region 7 with fail
    refine z161 ?_
    intro w5 hw5
    have hb5 := ba hw5
    have h6 := an hw5
    have h05 := rowC h0 hb5
    clear hw5 d0 d1 d2 d3
    have HB5 := lh (hB.trans (hb5.mono hB.size))
    have HT5 := lh (HTr.out.below hb5)
    clear hb5 h0 hB
    generalize wr.heap.size = g6 at *
    obtain ⟨e0, e1, e2, e3, e4, e5, e6, e7⟩ := cells8 h05
    obtain ⟨d0, d1, d2, d3⟩ := cells4 h6
    go_wp2_with fail
    refine (PanText_yes _ n c lo hi f I H S P (f (k * 4)) w5 (HS2.out.below HB5.out) hn hnc HT5.out HG.out k hlt (pan_find HG.out hlt)).mono ?_
    rintro e w6 ⟨rfl, hb6⟩
    have h66 := rowC h6 hb6
    have HB6 := lh (HB5.out.trans (hb6.mono HB5.out.size))
    have HT6 := lh (HT5.out.below hb6)
    clear hb6 h6 h05 e0 e1 e2 e3 e4 e5 e6 e7 d0 d1 d2 d3
    obtain ⟨d0, d1, d2, d3⟩ := cells4 h66
    clear h66
    go_wp2_with fail
    refine (decimal_any (f (k * 4)) (by omega) (by omega) w6 HT6.out).mono ?_
    rintro e w7 ⟨rfl, hb7⟩
    have HB7 := lh (HB6.out.trans (hb7.mono HB6.out.size))
    clear hb7 d0 d1 d2 d3
    go_wp2
    go_roundw
    case rel => exact ⟨⟨k + 1, by omega, by go_num, rfl⟩, HB7.out⟩
    case measure => simp [intOf]; omega
   ·obtain rfl : k = n := by omega
    refine z177 ?_
    intro hki
    have hT := pansB_size HG.out (Nat.le_refl k)
    have HF : Hid (∀ w', bW wr w' → cI w' w.heap.size 1 I ∧ cI w' w.heap.size 2 H ∧ cI w' w.heap.size 3 S ∧ cI w' w.heap.size 7 z) := fun w' hq => by
     have hx := rowC h0 hq
     exact ⟨by rw [cell_of_row w' w.heap.size 1 _ _ (0, 0) hx]; rfl, by rw [cell_of_row w' w.heap.size 2 _ _ (0, 0) hx]; rfl, by rw [cell_of_row w' w.heap.size 3 _ _ (0, 0) hx]; rfl, by rw [cell_of_row w' w.heap.size 7 _ _ (0, 0) hx]; rfl⟩
    clear h0 hB
    go_upto_region 10 with fail
    refine wp_region_class (C := fun w' => bW (wr) w') (by exact z12) (by exact z12) ((Below.refl _ _).drew) ?_
    refine tr 38 HF ?_
    refine wpQuiet_take (d := 39) (v := ?_) (by rfl) ?_ ?_
    rotate_left
    ·exact z17
    refine z15 ?_
    refine tr 40 HF ?_
    refine tr 41 HF ?_
    refine tr 42 HF ?_
    refine wpQuiet_meet (d := 43) (v := ?_) ?_ ?_ (by rfl) ?_ ?_ ?_
    rotate_left
    rotate_left
    rotate_left
    ·exact z13
    ·intro wS hS
     refine (decimal_any I (by omega) (by omega) wS (HTr.out.below hS)).mono ?_
     exact z14
    refine z15 ?_
    refine wpQuiet_take (d := 44) (v := ?_) (by rfl) ?_ ?_
    rotate_left
    ·exact z17
    refine z15 ?_
    refine wpQuiet_take (d := 45) (v := ?_) (by rfl) ?_ ?_
    rotate_left
    ·exact z17
    refine z15 ?_
    refine tr 46 HF ?_
    refine tr 47 HF ?_
    refine tr 48 HF ?_
    refine wpQuiet_meet (d := 49) (v := ?_) ?_ ?_ (by rfl) ?_ ?_ ?_
    rotate_left
    rotate_left
    rotate_left
    ·exact z13
    ·intro wS hS
     refine (decimal_any H (by omega) (by omega) wS (HTr.out.below hS)).mono ?_
     exact z14
    refine z15 ?_
    refine wpQuiet_take (d := 50) (v := ?_) (by rfl) ?_ ?_
    rotate_left
    ·exact z17
    refine z15 ?_
    refine wpQuiet_take (d := 51) (v := ?_) (by rfl) ?_ ?_
    rotate_left
    ·exact z17
    refine z15 ?_
    refine tr 52 HF ?_
    refine tr 53 HF ?_
    refine tr 54 HF ?_
    refine wpQuiet_meet (d := 55) (v := ?_) ?_ ?_ (by rfl) ?_ ?_ ?_
    rotate_left
    rotate_left
    rotate_left
    ·exact z13
    ·intro wS hS
     refine (decimal_any S (by omega) (by omega) wS (HTr.out.below hS)).mono ?_
     exact z14
    refine z15 ?_
    refine wpQuiet_take (d := 56) (v := ?_) (by rfl) ?_ ?_
    rotate_left
    ·exact z17
    refine z15 ?_
    refine wpQuiet_take (d := 57) (v := ?_) (by rfl) ?_ ?_
    rotate_left
    ·exact z17
    refine z15 ?_
    refine tr 58 HF ?_
    refine tr 59 HF ?_
    refine tr 60 HF ?_
    refine wpQuiet_meet (d := 61) (v := ?_) ?_ ?_ (by rfl) ?_ ?_ ?_
    rotate_left
    rotate_left
    rotate_left
    ·exact z13
    ·intro wS hS
     refine (decimal_any z (by omega) (by omega) wS (HTr.out.below hS)).mono ?_
     exact z14
    refine z15 ?_
    refine wpQuiet_take (d := 62) (v := ?_) (by rfl) ?_ ?_
    rotate_left
    ·exact z17
    refine z15 ?_
    refine wpQuiet_take (d := 63) (v := ?_) (by rfl) ?_ ?_
    rotate_left
    ·exact z17
    refine z15 ?_
    exact z360
end Go.Proofs.YtpndjhelpoenpaaGreatDoor
namespace Go.Proofs.YtpndjhelpoenpaaGreatDoor
open Go.RowKit
theorem infoWorksF : (Tryz.prog.info? 32).map (·.size) = some 5 := by exact z12
theorem sFormatConsole_any (A : Option Addr) (n c lo hi : Nat) (f : Nat → Int) (I H S P : Int) (D Q : ByteArray) (z : Int) (w : World) (hs : Sl w lo hi 4 A n f) (hn : n ≤ 1048576) (hnc : n ≤ c) (hD : D.size ≤ 1048576) (hQ : Q.size ≤ 1048576) :
  Calls Tryz.prog 29 #[.agg (cB A n c I H S P D Q z)] w fun e w' => e = .returned (.tuple #[.string (cond (goodWorks f n I H S P && logOk D Q z) (fmtB f n I H S z) ⟨#[]⟩), .bool (goodWorks f n I H S P && logOk D Q z)]) ∧ bW w w' := by
 refine z357 ?_
 intro HX H0 HS
 clear hs
 cases hok : (goodWorks f n I H S P && logOk D Q z) with
 | false =>
  go_enter Tryz.func29, Tryz.ntmps29
  go_upto_region 1 with fail
  refine z161 ?_
  intro w1 hw1
  rw [← hw1] at HX H0 HS
  clear hw1
  have h0 := H0.out
  obtain ⟨e0, e1, e2, e3, e4, e5, e6, e7⟩ := cells8 h0
  clear h0
  go_wp2_with fail
  refine (l28Good_any A n c lo hi f I H S P D Q z w1 HS.out hn hnc hD hQ).mono ?_
  exact z358
 | true =>
  refine z359 ?_
  intro hI hH hS_ hz hn6 HG HL hz1 hz2 hz3 hz4
  go_enter Tryz.func29, Tryz.ntmps29
  go_upto_region 1 with fail
  refine z161 ?_
  intro w1 hw1
  rw [← hw1] at HX H0 HS
  clear hw1
  have h0 := H0.out
  obtain ⟨e0, e1, e2, e3, e4, e5, e6, e7⟩ := cells8 h0
  clear h0
  go_wp2_with fail
  refine (l28Good_any A n c lo hi f I H S P D Q z w1 HS.out hn hnc hD hQ).mono ?_
  rw [hok]
  rintro e w2 ⟨rfl, hb⟩
  have BX2 := below_of HX.out hb HX.out.size
  have h0 := rowC H0.out hb
  have hS2 := HS.out.below hb
  clear e0 e1 e2 e3 e4 e5 e6 e7
  have HB2 := lh BX2
  have H2 := lh h0
  have HS2 := lh hS2
  have HF : Hid (∀ w', bW w2 w' → cE w' w.heap.size 0 (.slice A n c) ∧ cI w' w.heap.size 1 I ∧ cI w' w.heap.size 2 H ∧ cI w' w.heap.size 3 S ∧ cI w' w.heap.size 4 P) := fun w' hq => by
   have hx := rowC h0 hq
   exact ⟨by rw [cell_of_row w' w.heap.size 0 _ _ (0, 0) hx]; rfl, by rw [cell_of_row w' w.heap.size 1 _ _ (0, 0) hx]; rfl, by rw [cell_of_row w' w.heap.size 2 _ _ (0, 0) hx]; rfl, by rw [cell_of_row w' w.heap.size 3 _ _ (0, 0) hx]; rfl, by rw [cell_of_row w' w.heap.size 4 _ _ (0, 0) hx]; rfl⟩
  clear hb h0 hS2 BX2 HX H0 HS hok
  go_upto_region 3 with fail
  refine wp_region_held_drew (S := fun w' => bW w2 w') (by exact z12) ((Below.refl _ _).drew) (fun jd => ?_)
  obtain ⟨v0, hv0⟩ : ∃ v, w2.drew = v := ⟨_, rfl⟩
  rw [hv0] at jd ⊢
  clear hv0
  refine tj2 0 10 1 11 HF jd ?_
  refine wpAnyH_ready (rs := [2]) (by exact z12) (by simp) ?_
  refine z73 ?_
  intro K hK
  have hg := heap_alloc_new v0 (.cells (wB none 0 0 0 0 0 0) 32)
  have hS2 := jd.alloc jd.size (.cells (wB none 0 0 0 0 0 0) 32)
  have hgle := jd.size
  obtain ⟨g5, hge⟩ : ∃ q, v0.heap.size = q := ⟨_, rfl⟩
  rw [hge] at hg hgle
  try rw [hge]
  obtain ⟨v1, hve⟩ : ∃ v, v0.alloc (.cells (wB none 0 0 0 0 0 0) 32) = v := ⟨_, rfl⟩
  rw [hve] at hg hS2
  rw [hve]
  refine hK.out _ _ hS2 (fun jd => ?_)
  clear hK K hve hge hS2
  refine tj 3 4 HF rfl jd ?_
  refine wS0 4 g5 (wB A n c I H S P) 32 infoWorksF hg (fun w' hg' => jd.grown hg' jd.size (fun k hk => by cases hk; exact hgle)) ?ks
  case ks =>
   intro v3 hh hgw hS3
   have HB3 := lh (HB2.out.trans (hS3.mono HB2.out.size))
   have H3 := lh (rowC H2.out hS3)
   have HS3 := lh (HS2.out.below hS3)
   have H5 := lh hh
   clear jd hS3 hg hgw hgle HF H2 HS2 HB2
   refine z49 ?_
   go_upto_region 5 with fail
   go_loopw [4, 6] (fun tv kv wr => (∃ k : Nat, k ≤ n ∧ kv = .int .i64 k ∧ tv = .string (pansB f k)) ∧ bW v3 wr) (fun _ kv _ => n - (intOf kv).toNat)
   case atStart => exact ⟨⟨0, Nat.zero_le _, rfl, rfl⟩, Below.refl _ _⟩
   case round =>
    obtain ⟨⟨k, hk, rfl, rfl⟩, hB⟩ := hrel
    have h0 := rowC H3.out hB
    have h5 := rowC H5.out hB
    have HBr := lh (HB3.out.trans (hB.mono HB3.out.size))
    obtain ⟨e0, e1, e2, e3, e4⟩ := cells5 h5
    by_cases hlt : k < n
    ·have hki : (k : Int) < (n : Int) := by omega
     refine z236 ?_
     intro hk0
     obtain ⟨b1, o1, eA, _, hb1, hc⟩ := (HS3.out.below hB).here (by omega)
     have hb1 := Nat.lt_of_lt_of_le hb1 (HS3.out.below hB).hi_le
     obtain ⟨hid0, hid1⟩ := pan_id HG.out hlt
     obtain ⟨hh_, hw_, hs_, _, _⟩ := good_pan HG.out hlt
     have hy1 := numB_size (n := f (k * 4)) (by omega) (by omega)
     have hy2 := panB_size hh_ hw_ hs_
     have hT := pansB_size HG.out hk
     subst eA
     have HF : Hid (∀ w', bW wr w' → cE w' g5 0 (.slice (some ⟨b1, o1, none⟩) n c) ∧ cI w' b1 (o1 + k * 4) (f (k * 4)) ∧ cI w' b1 (o1 + k * 4 + 1) (f (k * 4 + 1)) ∧ cI w' b1 (o1 + k * 4 + 2) (f (k * 4 + 2)) ∧ cI w' b1 (o1 + k * 4 + 3) (f (k * 4 + 3))) := fun w' hq => by
      have hx := rowC h5 hq
      exact ⟨by rw [cell_of_row w' g5 0 _ _ (0, 0) hx]; rfl, (hq.cell (p := ⟨b1, o1 + k * 4, none⟩) hb1).trans (hc (k * 4) (by omega)), by have h := (hq.cell (p := ⟨b1, o1 + (k * 4 + 1), none⟩) hb1).trans (hc (k * 4 + 1) (by omega)); rw [← Nat.add_assoc] at h; exact h, by have h := (hq.cell (p := ⟨b1, o1 + (k * 4 + 2), none⟩) hb1).trans (hc (k * 4 + 2) (by omega)); rw [← Nat.add_assoc] at h; exact h, by have h := (hq.cell (p := ⟨b1, o1 + (k * 4 + 3), none⟩) hb1).trans (hc (k * 4 + 3) (by omega)); rw [← Nat.add_assoc] at h; exact h⟩
     have HBk := lh hB
     clear hc h0 h5 hB
     go_upto_region 7 with fail
     clear e0 e1 e2 e3 e4
     refine wp_region_class (C := fun w' => bW (wr) w') (by exact z12) (by exact z12) ((Below.refl _ _).drew) ?_
     refine z16 ?_
     refine tr 24 HF ?_
     refine tr 25 HF ?_
     refine wpQuiet_meet (d := 26) (v := ?_) ?_ ?_ (by rfl) ?_ ?_ ?_
     rotate_left
     rotate_left
     rotate_left
     ·exact z13
     ·intro wS hS
      refine (l1Num_any (f (k * 4)) (by omega) (by omega) wS).mono ?_
      exact z14
     refine z15 ?_
     refine wpQuiet_take (d := 27) (v := ?_) (by rfl) ?_ ?_
     rotate_left
     ·exact z17
     refine z15 ?_
     refine wpQuiet_take (d := 28) (v := ?_) (by rfl) ?_ ?_
     rotate_left
     ·exact z17
     refine z15 ?_
     refine tr 29 HF ?_
     refine tr 30 HF ?_
     refine tr 31 HF ?_
     refine tr 32 HF ?_
     refine tr 33 HF ?_
     refine wpQuiet_meet (d := 34) (v := ?_) ?_ ?_ (by rfl) ?_ ?_ ?_
     rotate_left
     rotate_left
     rotate_left
     ·exact z13
     ·intro wS hS
      refine (l25Text_any _ _ _ _ hh_ hw_ hs_ wS).mono ?_
      exact z14
     refine z15 ?_
     refine wpQuiet_take (d := 35) (v := ?_) (by rfl) ?_ ?_
     rotate_left
     ·exact z17
     refine z15 ?_
     refine wpQuiet_take (d := 36) (v := ?_) (by rfl) ?_ ?_
     rotate_left
     ·exact z17
     refine z15 ?_
     refine tr 4 HF ?_
     refine wpQuiet_nil (fun wq jd => ?_)
     have HBq := lh (HBk.out.trans (jd.mono HBk.out.size))
     clear jd HF
     go_wp2
     go_roundw
     case rel => exact ⟨⟨k + 1, by omega, by go_num, congrArg Value.string (pans_step f k)⟩, HBq.out⟩
     case measure => simp [intOf]; omega
    ·obtain rfl : k = n := by omega
     refine z177 ?_
     intro hki
     have hT := pansB_size HG.out (Nat.le_refl k)
     have HF : Hid (∀ w', bW wr w' → (cI w' g5 1 I ∧ cI w' g5 2 H ∧ cI w' g5 3 S) ∧ cI w' w.heap.size 7 z) := fun w' hq => by
      have hx := rowC h5 hq
      have hy := rowC h0 hq
      exact ⟨⟨by rw [cell_of_row w' g5 1 _ _ (0, 0) hx]; rfl, by rw [cell_of_row w' g5 2 _ _ (0, 0) hx]; rfl, by rw [cell_of_row w' g5 3 _ _ (0, 0) hx]; rfl⟩, by rw [cell_of_row w' w.heap.size 7 _ _ (0, 0) hy]; rfl⟩
     clear h0 h5 hB
     go_upto_region 8 with fail
     clear e0 e1 e2 e3 e4
     refine wp_region_class (C := fun w' => bW (wr) w') (by exact z12) (by exact z12) ((Below.refl _ _).drew) ?_
     refine tr 37 HF ?_
     refine wpQuiet_take (d := 38) (v := ?_) (by rfl) ?_ ?_
     rotate_left
     ·exact z17
     refine z15 ?_
     refine tr 39 HF ?_
     refine tr 40 HF ?_
     refine wpQuiet_meet (d := 41) (v := ?_) ?_ ?_ (by rfl) ?_ ?_ ?_
     rotate_left
     rotate_left
     rotate_left
     ·exact z13
     ·intro wS hS
      refine (l1Num_any I (by omega) (by omega) wS).mono ?_
      exact z14
     refine z15 ?_
     refine wpQuiet_take (d := 42) (v := ?_) (by rfl) ?_ ?_
     rotate_left
     ·exact z17
     refine z15 ?_
     refine wpQuiet_take (d := 43) (v := ?_) (by rfl) ?_ ?_
     rotate_left
     ·exact z17
     refine z15 ?_
     refine tr 44 HF ?_
     refine tr 45 HF ?_
     refine wpQuiet_meet (d := 46) (v := ?_) ?_ ?_ (by rfl) ?_ ?_ ?_
     rotate_left
     rotate_left
     rotate_left
     ·exact z13
     ·intro wS hS
      refine (l1Num_any H (by omega) (by omega) wS).mono ?_
      exact z14
     refine z15 ?_
     refine wpQuiet_take (d := 47) (v := ?_) (by rfl) ?_ ?_
     rotate_left
     ·exact z17
     refine z15 ?_
     refine wpQuiet_take (d := 48) (v := ?_) (by rfl) ?_ ?_
     rotate_left
     ·exact z17
     refine z15 ?_
     refine tr 49 HF ?_
     refine tr 50 HF ?_
     refine wpQuiet_meet (d := 51) (v := ?_) ?_ ?_ (by rfl) ?_ ?_ ?_
     rotate_left
     rotate_left
     rotate_left
     ·exact z13
     ·intro wS hS
      refine (l1Num_any S (by omega) (by omega) wS).mono ?_
      exact z14
     refine z15 ?_
     refine wpQuiet_take (d := 52) (v := ?_) (by rfl) ?_ ?_
     rotate_left
     ·exact z17
     refine z15 ?_
     refine wpQuiet_take (d := 53) (v := ?_) (by rfl) ?_ ?_
     rotate_left
     ·exact z17
     refine z15 ?_
     refine tr 54 HF ?_
     refine tr 55 HF ?_
     refine tr 56 HF ?_
     refine wpQuiet_meet (d := 57) (v := ?_) ?_ ?_ (by rfl) ?_ ?_ ?_
     rotate_left
     rotate_left
     rotate_left
     ·exact z13
     ·intro wS hS
      refine (l1Num_any z (by omega) (by omega) wS).mono ?_
      exact z14
     refine z15 ?_
     refine wpQuiet_take (d := 58) (v := ?_) (by rfl) ?_ ?_
     rotate_left
     ·exact z17
     refine z15 ?_
     refine wpQuiet_take (d := 59) (v := ?_) (by rfl) ?_ ?_
     rotate_left
     ·exact z17
     refine z15 ?_
     exact z360
end Go.Proofs.YtpndjhelpoenpaaGreatDoor
