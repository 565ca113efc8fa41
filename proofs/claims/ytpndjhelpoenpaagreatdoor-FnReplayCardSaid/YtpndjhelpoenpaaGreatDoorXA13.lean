/-
  Texts of this claim, merged.
-/
import Derived.Test.YtpndjhelpoenpaaGreatDoorXA12
set_option linter.unusedVariables false
set_option linter.unusedSimpArgs false
set_option maxRecDepth 100000
set_option maxHeartbeats 8000000
namespace Go.Proofs.YtpndjhelpoenpaaGreatDoor
open Go.RowKit Go.Sort
attribute [local go_sem ↓] Go.wp_at_zero Go.wp_at_succ
def placeV (f : Nat → Int) (id : Int) : Nat → Nat → Nat
 | 0, k => k
 | m + 1, k => if f (k * 4) < id then placeV f id m (k + 1) else k
def buildL (f : Nat → Int) (n p : Nat) (id hd : Int) : List Int := (cellsL f n).take (p * 4) ++ [id, hd, 0, 0] ++ (cellsL f n).drop (p * 4)
def buildPost (w : World) (L : List Int) (n : Nat) (I H S P : Int) (e : Ending) (w' : World) : Prop :=
 ∃ A' c', e = .returned (.agg (wB A' n c' I H S P)) ∧ n ≤ c' ∧ c' ≤ maxLen ∧ w'.ownsRow w.heap.size 97 4 (.slice A' n c') n (L.map (Value.int .i64)) ∧ bW w w'
theorem Sl.srcTake {w : World} {lo hi n c : Nat} {A : Option Addr} {f : Nat → Int} (h : Sl w lo hi 4 A n f) (hz : A = none → n = 0 ∧ c = 0) {p : Nat} (hp : p ≤ n) : Src w 4 A p c ((cellsL f n).take (p * 4)) := by
 refine ⟨by rw [List.length_take, cellsL_len]; omega, fun e => by have := hz e; omega, fun ad had j u hu => ?_⟩
 have hl := (List.getElem?_eq_some_iff.1 hu).1
 rw [List.length_take, cellsL_len] at hl
 rw [List.getElem?_take_of_lt (by omega)] at hu
 exact (h.src hz).cell ad had j u hu
theorem Sl.srcDrop {w : World} {lo hi n c' b off : Nat} {f : Nat → Int} (h : Sl w lo hi 4 (some ⟨b, off, none⟩) n f) {p : Nat} (hp : p ≤ n) : Src w 4 (some ⟨b, off + p * 4, none⟩) (n - p) c' ((cellsL f n).drop (p * 4)) := by
 refine ⟨by rw [List.length_drop, cellsL_len]; omega, (by intro e; cases e), fun ad had j u hu => ?_⟩
 cases had
 rw [List.getElem?_drop] at hu
 have := (h.src (c := n) (by intro e; cases e)).cell _ rfl _ u hu
 rw [Addr.add_lit] at this ⊢
 rw [Nat.add_assoc]
 exact this
theorem infoPans : (Tryz.prog.info? 30).map (·.size) = some 1 := by exact z12
theorem Cls.box {S : World → Prop} {nb : Nat} (h : Cls S nb) {r : Nat} (hr : r < nb) (Qb : Option Obj → Prop) : Cls (fun w => S w ∧ Qb w.heap[r]?) nb :=
 ⟨fun w hw => h.size w hw.1, fun w o hw => ⟨h.alloc w o hw.1, by rw [heap_alloc_old w o (Nat.lt_of_lt_of_le hr (h.size w hw.1))]; exact hw.2⟩,
  fun w w' k hw hg hk => ⟨h.grown w w' k hw.1 hg hk, by rw [hg.block r (Nat.lt_of_lt_of_le hr (h.size w hw.1)) (fun e => by have := hk r e.symm; omega)]; exact hw.2⟩⟩
section
variable {P : Program} {md : Region.Mode} {ops : Array Oper} {Q : Exit → Act → World → Prop} {S : World → Prop}
theorem wpAnyH_store2 {i : Nat} {fuel : Nat} {listed : Array Bool} {a : Act} {w : World} {t ty : TypeId} {pos : String} {af : Array Edge} {p x : Operand}
  (ho : ops[i]? = some ⟨none, .store t p x, ty, pos, af, none⟩) (hr : Region.ready md ops listed = [i])
  (g o : Nat) (v : Value) (T : TypeId) (cur : Array Value) (hp : a.eval p = .pointer (some ⟨g, o, none⟩)) (hx : a.eval x = v) (hi : (P.info? t).map (·.size) = some v.cells.size)
  (hg : w.heap[g]? = some (.cells cur T (0, 0))) (hfit : o + v.cells.size ≤ cur.size) (h1 : v.cells.all (·.oneCell') = true)
  (hS : ∀ w', w'.heap[g]? = some (.cells (putRow cur o v.cells) T (0, 0)) → w.grownBy w' (some g) → S w')
  (h : ∀ w', w'.heap[g]? = some (.cells (putRow cur o v.cells) T (0, 0)) → w.grownBy w' (some g) → S w' →
   wpAnyH P md ops Q S fuel (listed.setIfInBounds i true) a w') :
  wpAnyH P md ops Q S (fuel + 1) listed a w := by
 have hrun := run_storeAt_at (P := P) w t g o v T cur hi hg hfit h1
 have hgr := grown_setRow w g (putRow cur o v.cells)
 have hh := setRow_heap w g cur (putRow cur o v.cells) T _ hg
 have hB := hS _ hh hgr
 refine z95 ?_
 intro K hK
 unfold Oper.wp execOp
 simp only [hp, hx, Sem.run_bind, hrun, Result.andThen_ok, Sem.run_pure]
 exact hK.out _ _ hB (fun _ => h _ hh hgr hB)
end
theorem l25Build_any (A : Option Addr) (n c lo hi : Nat) (f : Nat → Int) (I H S P id hd : Int) (w : World) (hs : Sl w lo hi 4 A n f) (hn : n ≤ 1048576) (hnc : n ≤ c) (hnone : A = none → n = 0 ∧ c = 0) (hform : ∀ ad, A = some ad → ∃ b off, ad = ⟨b, off, none⟩) :
  Calls Tryz.prog 155 #[.agg (wB A n c I H S P), .int .i64 id, .int .i64 hd] w (buildPost w (buildL f n (placeV f id n 0) id hd) (n + 1) I H S P) := by
 refine z170 ?_
 intro HX
 go_enter Tryz.func155, Tryz.ntmps155
 go_wp2_with fail
 refine (l25Own_any A n c lo hi f I H S P _ (hs.below HX.out) hn hnc hnone).mono ?_
 rintro e w1 ⟨A1, c1, rfl, _, _, _, hb1⟩
 obtain ⟨b0, b1, b2, b3, b4⟩ := cells5 (bx (g := w.heap.size) hb1)
 have hr1 : w1.heap[w.heap.size + 1]? = some (.cells (wB none 0 0 0 0 0 0) 32) := (hb1.block (w.heap.size + 1) (by simp)).trans (by have := heap_alloc_new (w.alloc (.cells (wB A n c I H S P) 32)) (.cells (wB none 0 0 0 0 0 0) 32); simpa using this)
 have z1 := hb1.size
 simp only [World.size_alloc] at z1
 have B1 := HX.out.trans (hb1.mono HX.out.size)
 clear hb1
 have hR1 := lh hr1
 have hB1 := lh B1
 clear hr1 B1
 go_upto_region 2 with fail
 refine z161 ?_
 intro w2 hw2
 have b12 := ba hw2
 have p0 := kp b12 b0
 have p1 := kp b12 b1
 have p2 := kp b12 b2
 have p3 := kp b12 b3
 have p4 := kp b12 b4
 have h7 : w2.heap[w1.heap.size]? = some (.cells (wB A1 n c1 I H S P) 32) := by
  rw [hw2]
  exact heap_alloc_new w1 _
 have hr2 : w2.heap[w.heap.size + 1]? = some (.cells (wB none 0 0 0 0 0 0) 32) := by
  rw [hw2, heap_alloc_old _ _ (by omega)]
  exact hR1.out
 have B2 : bW w w2 := by
  rw [hw2]
  exact hB1.out.alloc hB1.out.size _
 clear hw2 b0 b1 b2 b3 b4 hR1 hB1 b12
 generalize w1.heap.size = g7 at *
 have HBw : Hid (∀ w', w2.grownBy w' (some g7) → bW w w') := fun w' hq => B2.grown hq B2.size (fun k hk => by cases hk; omega)
 have HF : Hid (∀ w', w2.grownBy w' (some g7) ∧ (∃ V, w'.heap[g7]? = some (.cells #[V, .int .i64 I, .int .i64 H, .int .i64 S, .int .i64 P] 32)) → cE w' w.heap.size 0 (.slice A n c) ∧ cI w' w.heap.size 1 I ∧ cI w' w.heap.size 2 H ∧ cI w' w.heap.size 3 S ∧ cI w' w.heap.size 4 P) := by
  rintro w' ⟨hq, _⟩
  have u0 := hq.block w.heap.size (World.block_lt_of_cell? _ _ p0) (by simp; omega)
  exact ⟨(World.cell?_of_block (a := ⟨w.heap.size, 0, none⟩) u0).trans p0, (World.cell?_of_block (a := ⟨w.heap.size, 1, none⟩) u0).trans p1, (World.cell?_of_block (a := ⟨w.heap.size, 2, none⟩) u0).trans p2, (World.cell?_of_block (a := ⟨w.heap.size, 3, none⟩) u0).trans p3, (World.cell?_of_block (a := ⟨w.heap.size, 4, none⟩) u0).trans p4⟩
 have hg7 : g7 < w2.heap.size := (gL h7)
 have H7 := lh h7
 have HR2 := lh hr2
 have HSW := lh hs
 have HB2 := lh B2
 clear p1 p2 p3 p4 h7 hr2 B2 hs HX
 go_wp2_with fail
 go_loopw [8] (fun kv wr => wr = w2 ∧ ∃ k : Nat, k ≤ n ∧ kv = .int .i64 k ∧ placeV f id n 0 = placeV f id (n - k) k) (fun kv _ => n - (intOf kv).toNat)
 case atStart => exact ⟨rfl, 0, Nat.zero_le _, rfl, rfl⟩
 case round =>
  obtain ⟨rfl, k, hk, rfl, hpl⟩ := hrel
  by_cases hlt : k < n
  ·obtain ⟨b, off, rfl, hbw, HC⟩ := HSW.out.open_ HB2.out (by omega)
   obtain ⟨c0, c1, c2, c3⟩ := cell4 HC hlt
   refine z43 ?_
   intro hk0i hkni
   have hkci : (k : Int) ≤ (c : Int) := by omega
   have hkcn : k ≤ c := by omega
   have hknn : k ≤ n := hk
   have e1 : n - k = (n - k - 1) + 1 := by omega
   clear HC
   by_cases hid : f (k * 4) < id
   ·have hst : placeV f id n 0 = placeV f id (n - (k + 1)) (k + 1) := by
     rw [hpl, e1]
     show (if f (k * 4) < id then placeV f id (n - k - 1) (k + 1) else k) = _
     rw [if_pos hid]
     rfl
    have HST := lh hst
    clear hst hpl e1 hkci hkcn hknn
    go_wp2
    go_roundw
    case rel => exact ⟨trivial, k + 1, by omega, by go_num, HST.out⟩
    case measure => simp [intOf]; omega
   ·have hst : placeV f id n 0 = k := by
     rw [hpl, e1]
     show (if f (k * 4) < id then placeV f id (n - k - 1) (k + 1) else k) = _
     rw [if_neg hid]
    have HST := lh hst
    have hck : ¬ c = k := by omega
    clear hst hpl e1
    go_wp2_with fail
    refine z171 ?_
    intro jd
    refine wpAnyH_append3S (fuel := 2) (i0 := 0) (i1 := 5) (iB := 9) (i2 := 10) (i3 := 15) (d0 := 28) (d1 := 33) (dB := 37) (d2 := 38) (d3 := 43) (j1 := 32) (j3 := 42) rfl rfl rfl rfl rfl ⟨rfl, rfl⟩ ⟨rfl, rfl⟩ (by exact z12) (by exact z12) (by exact z12) (by exact z12) (by exact z12) (by exact z12) (by exact z12) (by decide) (by decide) (by simp) 97 4 32 (.agg (iV 0 0 0 0)) Tryz.underlying30 infoPan rfl (by decide) (by decide) ?run0a [id, hd, 0, 0] rfl ?runBa ((cellsL f n).take (k * 4)) ((cellsL f n).drop (k * 4)) k c (n - k) (c - k) (some ⟨b, off, none⟩) (some ⟨b, off + k * 4, none⟩) rfl rfl (cls_but.box (r := g7) hg7 (fun o => ∃ V, o = some (.cells #[V, .int .i64 I, .int .i64 H, .int .i64 S, .int .i64 P] 32))) jd ?s1a ?s3a (by omega) ?nexta
    case run0a => intro a w; go_simp
    case runBa =>
     exact z172
    case s1a =>
     exact z173
    case s3a =>
     intro w' hb'
     exact Sl.srcDrop (HSW.out.below (HBw.out w' hb'.1)) (by omega)
    case nexta =>
    intro u0 u1 uB u2 g' c' w3 hc1 hc2 hg1 hown' hS3
    refine z15 ?_
    have jd := hS3
    refine tj 16 44 HF rfl jd ?_
    obtain ⟨hS31, V, hV⟩ := hS3
    refine wpAnyH_store2 (fuel := 0) (i := 17) rfl (by exact z12) g7 0 (.slice (some ⟨g', 0, none⟩) (k + 1 + (n - k)) c') 32 #[V, .int .i64 I, .int .i64 H, .int .i64 S, .int .i64 P] rfl rfl infoPans hV (Nat.le_add_left 1 4) (by exact z143) (fun w' h1 hg => ⟨grown_trans hS31 hg, _, h1⟩) ?sta
    case sta =>
    intro w4 h4 hg4 hS4
    have h4' : w4.heap[g7]? = some (.cells (wB (some ⟨g', 0, none⟩) (k + 1 + (n - k)) c' I H S P) 32) := h4
    have hk1 : k + 1 + (n - k) = n + 1 := by omega
    rw [hk1] at h4' hown' hc1
    refine z49 ?_
    refine z174 ?_
    intro hO4 hB4 hr4 e0 e1 e2 e3 e4 r0 r1 r2 r3 r4 rf n1 n2 lg n3 HO4 HB4
    clear hO4 hB4 h4 h4' hV hS4 hg4 hr4 hown' HF H7 HR2 HSW HBw HB2 jd p0
    go_wp2
    obtain ⟨wq, hwq⟩ : ∃ wq, wq = (((((w4.setCell ⟨w.heap.size + 1, 0, none⟩ (.slice (some ⟨g', 0, none⟩) (n + 1) c')).setCell ⟨w.heap.size + 1, 1, none⟩ (.int .i64 I)).setCell ⟨w.heap.size + 1, 2, none⟩ (.int .i64 H)).setCell ⟨w.heap.size + 1, 3, none⟩ (.int .i64 S)).setCell ⟨w.heap.size + 1, 4, none⟩ (.int .i64 P)) := ⟨_, rfl⟩
    rw [← hwq]
    have q0 : cE wq (w.heap.size + 1) 0 (.slice (some ⟨g', 0, none⟩) (n + 1) c') := by rw [hwq]; go_simp
    refine z175 ?_
    intro q1 q2 q3 q4 hBq hOq
    have no : ∀ j : Nat, (Value.slice (some ⟨g', 0, none⟩) (n + 1) c').ownBlock ≠ some (⟨w.heap.size + 1, j, none⟩ : Addr).block := fun j => by simp [Value.ownBlock, n3]
    have hOq := ownsRow_setCell_other (ownsRow_setCell_other (ownsRow_setCell_other (ownsRow_setCell_other (ownsRow_setCell_other hOq (no 0) (.slice (some ⟨g', 0, none⟩) (n + 1) c')) (no 1) (.int .i64 I)) (no 2) (.int .i64 H)) (no 3) (.int .i64 S)) (no 4) (.int .i64 P)
    exact z176
  ·have hkn : k = n := by omega
   subst hkn
   have hst : placeV f id k 0 = k := by rw [hpl, Nat.sub_self]; rfl
   have HST := lh hst
   refine z177 ?_
   intro hki
   have hk0i : (0 : Int) ≤ (k : Int) := by omega
   have hkci : (k : Int) ≤ (c : Int) := by omega
   clear hst hpl
   cases A with
   | none =>
    have H0 := lh (hnone rfl)
    clear hnone
    go_wp2_with fail
    refine z171 ?_
    intro jd
    refine wpAnyH_append3S (fuel := 2) (i0 := 0) (i1 := 5) (iB := 9) (i2 := 10) (i3 := 15) (d0 := 28) (d1 := 33) (dB := 37) (d2 := 38) (d3 := 43) (j1 := 32) (j3 := 42) rfl rfl rfl rfl rfl ⟨rfl, rfl⟩ ⟨rfl, rfl⟩ (by exact z12) (by exact z12) (by exact z12) (by exact z12) (by exact z12) (by exact z12) (by exact z12) (by decide) (by decide) (by simp) 97 4 32 (.agg (iV 0 0 0 0)) Tryz.underlying30 infoPan rfl (by decide) (by decide) ?run0d [id, hd, 0, 0] rfl ?runBd ((cellsL f k).take (k * 4)) ((cellsL f k).drop (k * 4)) k c (0) (c - k) none none rfl rfl (cls_but.box (r := g7) hg7 (fun o => ∃ V, o = some (.cells #[V, .int .i64 I, .int .i64 H, .int .i64 S, .int .i64 P] 32))) jd ?s1d ?s3d (by omega) ?nextd
    case run0d => intro a w; go_simp
    case runBd =>
     exact z172
    case s1d =>
     intro w' hb'
     exact Sl.srcTake (HSW.out.below (HBw.out w' hb'.1)) (fun _ => H0.out) nL
    case s3d =>
     intro w' hb'
     exact ⟨by rw [List.drop_of_length_le (by rw [cellsL_len]; exact z35)]; rfl, fun _ => ⟨rfl, by have := H0.out; omega⟩, fun ad had => by cases had⟩
    case nextd =>
    intro u0 u1 uB u2 g' c' w3 hc1 hc2 hg1 hown' hS3
    refine z15 ?_
    have jd := hS3
    refine tj 16 44 HF rfl jd ?_
    obtain ⟨hS31, V, hV⟩ := hS3
    refine wpAnyH_store2 (fuel := 0) (i := 17) rfl (by exact z12) g7 0 (.slice (some ⟨g', 0, none⟩) (k + 1 + (0)) c') 32 #[V, .int .i64 I, .int .i64 H, .int .i64 S, .int .i64 P] rfl rfl infoPans hV (Nat.le_add_left 1 4) (by exact z143) (fun w' h1 hg => ⟨grown_trans hS31 hg, _, h1⟩) ?std
    case std =>
    exact z178
   | some ad =>
    obtain ⟨b, off, rfl⟩ := hform ad rfl
    by_cases hck : c = k
    ·subst hck
     go_wp2_with fail
     refine z171 ?_
     intro jd
     refine wpAnyH_append3S (fuel := 2) (i0 := 0) (i1 := 5) (iB := 9) (i2 := 10) (i3 := 15) (d0 := 28) (d1 := 33) (dB := 37) (d2 := 38) (d3 := 43) (j1 := 32) (j3 := 42) rfl rfl rfl rfl rfl ⟨rfl, rfl⟩ ⟨rfl, rfl⟩ (by exact z12) (by exact z12) (by exact z12) (by exact z12) (by exact z12) (by exact z12) (by exact z12) (by decide) (by decide) (by simp) 97 4 32 (.agg (iV 0 0 0 0)) Tryz.underlying30 infoPan rfl (by decide) (by decide) ?run0b [id, hd, 0, 0] rfl ?runBb ((cellsL f c).take (c * 4)) ((cellsL f c).drop (c * 4)) c c (0) (0) (some ⟨b, off, none⟩) (some ⟨b, off, none⟩) rfl rfl (cls_but.box (r := g7) hg7 (fun o => ∃ V, o = some (.cells #[V, .int .i64 I, .int .i64 H, .int .i64 S, .int .i64 P] 32))) jd ?s1b ?s3b (by omega) ?nextb
     case run0b => intro a w; go_simp
     case runBb =>
      exact z172
     case s1b =>
      exact z173
     case s3b =>
      intro w' hb'
      exact Src.none_of (by rw [List.drop_of_length_le (by rw [cellsL_len]; exact z35)]) (by simp)
     case nextb =>
     intro u0 u1 uB u2 g' c' w3 hc1 hc2 hg1 hown' hS3
     refine z15 ?_
     have jd := hS3
     refine tj 16 44 HF rfl jd ?_
     obtain ⟨hS31, V, hV⟩ := hS3
     refine wpAnyH_store2 (fuel := 0) (i := 17) rfl (by exact z12) g7 0 (.slice (some ⟨g', 0, none⟩) (c + 1 + (0)) c') 32 #[V, .int .i64 I, .int .i64 H, .int .i64 S, .int .i64 P] rfl rfl infoPans hV (Nat.le_add_left 1 4) (by exact z143) (fun w' h1 hg => ⟨grown_trans hS31 hg, _, h1⟩) ?stb
     case stb =>
     intro w4 h4 hg4 hS4
     have h4' : w4.heap[g7]? = some (.cells (wB (some ⟨g', 0, none⟩) (c + 1 + (0)) c' I H S P) 32) := h4
     have hk1 : c + 1 + (0) = c + 1 := by omega
     rw [hk1] at h4' hown' hc1
     refine z49 ?_
     refine z174 ?_
     intro hO4 hB4 hr4 e0 e1 e2 e3 e4 r0 r1 r2 r3 r4 rf n1 n2 lg n3 HO4 HB4
     clear hO4 hB4 h4 h4' hV hS4 hg4 hr4 hown' HF H7 HR2 HSW HBw HB2 jd p0
     go_wp2
     obtain ⟨wq, hwq⟩ : ∃ wq, wq = (((((w4.setCell ⟨w.heap.size + 1, 0, none⟩ (.slice (some ⟨g', 0, none⟩) (c + 1) c')).setCell ⟨w.heap.size + 1, 1, none⟩ (.int .i64 I)).setCell ⟨w.heap.size + 1, 2, none⟩ (.int .i64 H)).setCell ⟨w.heap.size + 1, 3, none⟩ (.int .i64 S)).setCell ⟨w.heap.size + 1, 4, none⟩ (.int .i64 P)) := ⟨_, rfl⟩
     rw [← hwq]
     have q0 : cE wq (w.heap.size + 1) 0 (.slice (some ⟨g', 0, none⟩) (c + 1) c') := by rw [hwq]; go_simp
     refine z175 ?_
     intro q1 q2 q3 q4 hBq hOq
     have no : ∀ j : Nat, (Value.slice (some ⟨g', 0, none⟩) (c + 1) c').ownBlock ≠ some (⟨w.heap.size + 1, j, none⟩ : Addr).block := fun j => by simp [Value.ownBlock, n3]
     have hOq := ownsRow_setCell_other (ownsRow_setCell_other (ownsRow_setCell_other (ownsRow_setCell_other (ownsRow_setCell_other hOq (no 0) (.slice (some ⟨g', 0, none⟩) (c + 1) c')) (no 1) (.int .i64 I)) (no 2) (.int .i64 H)) (no 3) (.int .i64 S)) (no 4) (.int .i64 P)
     exact z176
    ·go_wp2_with fail
     refine z171 ?_
     intro jd
     refine wpAnyH_append3S (fuel := 2) (i0 := 0) (i1 := 5) (iB := 9) (i2 := 10) (i3 := 15) (d0 := 28) (d1 := 33) (dB := 37) (d2 := 38) (d3 := 43) (j1 := 32) (j3 := 42) rfl rfl rfl rfl rfl ⟨rfl, rfl⟩ ⟨rfl, rfl⟩ (by exact z12) (by exact z12) (by exact z12) (by exact z12) (by exact z12) (by exact z12) (by exact z12) (by decide) (by decide) (by simp) 97 4 32 (.agg (iV 0 0 0 0)) Tryz.underlying30 infoPan rfl (by decide) (by decide) ?run0c [id, hd, 0, 0] rfl ?runBc ((cellsL f k).take (k * 4)) ((cellsL f k).drop (k * 4)) k c (0) (c - k) (some ⟨b, off, none⟩) (some ⟨b, off + k * 4, none⟩) rfl rfl (cls_but.box (r := g7) hg7 (fun o => ∃ V, o = some (.cells #[V, .int .i64 I, .int .i64 H, .int .i64 S, .int .i64 P] 32))) jd ?s1c ?s3c (by omega) ?nextc
     case run0c => intro a w; go_simp
     case runBc =>
      exact z172
     case s1c =>
      exact z173
     case s3c =>
      intro w' hb'
      exact Src.none_of (by rw [List.drop_of_length_le (by rw [cellsL_len]; exact z35)]) (by simp)
     case nextc =>
     intro u0 u1 uB u2 g' c' w3 hc1 hc2 hg1 hown' hS3
     refine z15 ?_
     have jd := hS3
     refine tj 16 44 HF rfl jd ?_
     obtain ⟨hS31, V, hV⟩ := hS3
     refine wpAnyH_store2 (fuel := 0) (i := 17) rfl (by exact z12) g7 0 (.slice (some ⟨g', 0, none⟩) (k + 1 + (0)) c') 32 #[V, .int .i64 I, .int .i64 H, .int .i64 S, .int .i64 P] rfl rfl infoPans hV (Nat.le_add_left 1 4) (by exact z143) (fun w' h1 hg => ⟨grown_trans hS31 hg, _, h1⟩) ?stc
     case stc =>
     exact z178
end Go.Proofs.YtpndjhelpoenpaaGreatDoor
namespace Go.Proofs.YtpndjhelpoenpaaGreatDoor
open Go.RowKit
theorem putRow_two (cur : Array Value) (o : Nat) (a b : Value) (h : o + 2 ≤ cur.size) : putRow cur o #[a, b] = (cur.setIfInBounds o a).setIfInBounds (o + 1) b := by
 apply Array.ext'
 simp only [putRow, Array.toList_setIfInBounds]
 apply List.ext_getElem?
 intro j
 have hl : (cur.toList.take o).length = o := by simp; omega
 simp only [List.getElem?_set, List.length_set, Array.length_toList]
 by_cases h1 : j < o
 ·rw [List.append_assoc, List.getElem?_append_left (by omega), List.getElem?_take_of_lt h1, if_neg (by omega), if_neg (by omega)]
 ·rw [List.append_assoc, List.getElem?_append_right (by omega), hl]
  by_cases h2 : j = o
  ·subst h2
   rw [if_neg (by omega), if_pos rfl, if_pos (by omega)]
   simp
  ·by_cases h3 : j = o + 1
   ·subst h3
    rw [if_pos rfl, if_pos (by omega)]
    simp
   ·rw [List.getElem?_append_right (by simp; omega), if_neg (by omega), if_neg (by omega), List.getElem?_drop]
    congr 1
    simp
    omega
theorem row_open {w : World} {base k n c g : Nat} {e : TypeId} {xs : List Value} (h : w.ownsRow base e k (.slice (some ⟨g, 0, none⟩) n c) n xs) : ∃ cur, w.heap[g]? = some (.cells cur e (0, 0)) ∧ n * k ≤ cur.size ∧
  ∀ (w' : World) (j : Nat) (u v : Value), w'.heap[g]? = some (.cells ((cur.setIfInBounds j u).setIfInBounds (j + 1) v) e (0, 0)) → w'.ownsRow base e k (.slice (some ⟨g, 0, none⟩) n c) n ((xs.set j u).set (j + 1) v) := by
 rcases h.2 with ⟨h', _⟩ | ⟨g', cap', cur, h', hb, hg, hnc, hcm, hcs, htake⟩
 ·cases h'
 ·cases h'
  refine ⟨cur, hg, by rw [hcs]; exact Nat.mul_le_mul_right k hnc, fun w' j u v hw => ⟨by simpa using h.1, .inr ⟨g, c, _, rfl, hb, hw, hnc, hcm, by simpa using hcs, ?_⟩⟩⟩
  rw [Array.toList_setIfInBounds, Array.toList_setIfInBounds, ← htake, List.take_set, List.take_set]
end Go.Proofs.YtpndjhelpoenpaaGreatDoor
namespace Go.Proofs.YtpndjhelpoenpaaGreatDoor
open Go.RowKit Go.Sort
attribute [local go_sem ↓] Go.wp_at_zero Go.wp_at_succ
def shutL (f : Nat → Int) (n i : Nat) : List Int := (cellsL f n).take (i * 4) ++ (cellsL f n).drop ((i + 1) * 4)
def panPostL (w : World) (L : List Int) (n : Nat) (I H S P : Int) (ok : Bool) (e : Ending) (w' : World) : Prop :=
 ∃ A' c', e = .returned (.tuple #[.agg (wB A' n c' I H S P), .bool ok]) ∧ n ≤ c' ∧ c' ≤ maxLen ∧ w'.ownsRow w.heap.size 97 4 (.slice A' n c') n (L.map (Value.int .i64)) ∧ bW w w'
section
variable {P : Program} {md : Region.Mode} {ops : Array Oper} {Q : Exit → Act → World → Prop} {S : World → Prop} {nb : Nat}
theorem wpAnyH_newS {i d : Nat} {fuel : Nat} {listed : Array Bool} {a : Act} {w : World} {o : Oper} {obj : Obj} {v : Value} (ho : ops[i]? = some o) (hgd : o.guard = none ∧ o.dst = some d) (hr : Region.ready md ops listed = [i])
  (hC : Cls S nb) (hS : S w) (run : (execOp a.eval o).run P w = .ok (.value v) (w.alloc obj))
  (h : S (w.alloc obj) → wpAnyH P md ops Q S fuel (listed.setIfInBounds i true) (a.put (some d) v) (w.alloc obj)) :
  wpAnyH P md ops Q S (fuel + 1) listed a w := by
 refine wpAnyH_ready hr (by simp) (AllReadyH.cons ho (fun K hK => ?_) AllReadyH.nil)
 rw [if_pos (wanted_plain hgd.1)]
 refine oper_wp_value run ?_
 rw [hgd.2]
 have hB := hC.alloc _ obj hS
 exact hK.out _ _ hB (fun _ => h hB)
end
theorem l25Pan_shut (A : Option Addr) (n c lo hi : Nat) (f : Nat → Int) (I H S P : Int) (id tt0 z : Int) (i : Nat) (hi' : i < n) (w : World) (hs : Sl w lo hi 4 A n f) (hn : n ≤ 1048576) (hnc : n ≤ c) :
  Calls Tryz.prog 156 #[.agg (wB A n c I H S P), .agg (iV 7 id tt0 z), .int .i64 i] w (panPostL w (shutL f n i) (n - 1) I H S (wrap64 (P + f (i * 4 + 3))) true) := by
 have hX : bW w (((w.alloc (.cells (wB A n c I H S P) 32)).alloc (.cells (iV 7 id tt0 z) 107)).alloc (.cells (wB none 0 0 0 0 0 0) 32)) := (((Below.refl _ w).alloc nL _).alloc (by simp) _).alloc (by simp; omega) _
 have HS : Hid (Sl (((w.alloc (.cells (wB A n c I H S P) 32)).alloc (.cells (iV 7 id tt0 z) 107)).alloc (.cells (wB none 0 0 0 0 0 0) 32)) lo hi 4 A n f) := hs.below hX
 have HX := lh hX
 clear hs hX
 have HSK := HS
 obtain ⟨b, off, rfl, hbw, _⟩ := HS.out.open_ (Below.refl _ _) (by omega)
 have HC : ∀ w', bW (((w.alloc (.cells (wB (some ⟨b, off, none⟩) n c I H S P) 32)).alloc (.cells (iV 7 id tt0 z) 107)).alloc (.cells (wB none 0 0 0 0 0 0) 32)) w' → cI w' b (off + i * 4 + 2) (f (i * 4 + 2)) ∧ cI w' b (off + i * 4 + 3) (f (i * 4 + 3)) := by
  intro w' hq
  obtain ⟨_, HC⟩ := HS.out.open_at hq (by omega)
  obtain ⟨c0, c1, c2, c3⟩ := cell4 HC hi'
  exact ⟨c2, c3⟩
 have HF : Hid (∀ w', bW (((w.alloc (.cells (wB (some ⟨b, off, none⟩) n c I H S P) 32)).alloc (.cells (iV 7 id tt0 z) 107)).alloc (.cells (wB none 0 0 0 0 0 0) 32)) w' → cE w' w.heap.size 0 (.slice (some ⟨b, off, none⟩) n c) ∧ cI w' w.heap.size 1 I ∧ cI w' w.heap.size 2 H ∧ cI w' w.heap.size 3 S ∧ cI w' w.heap.size 4 P ∧ cI w' b (off + i * 4 + 2) (f (i * 4 + 2)) ∧ cI w' b (off + i * 4 + 3) (f (i * 4 + 3))) := fun w' hq => ⟨(hq.cell (p := ⟨w.heap.size, 0, none⟩) (by simp; omega)).trans (by go_simp), (hq.cell (p := ⟨w.heap.size, 1, none⟩) (by simp; omega)).trans (by go_simp), (hq.cell (p := ⟨w.heap.size, 2, none⟩) (by simp; omega)).trans (by go_simp), (hq.cell (p := ⟨w.heap.size, 3, none⟩) (by simp; omega)).trans (by go_simp), (hq.cell (p := ⟨w.heap.size, 4, none⟩) (by simp; omega)).trans (by go_simp), (HC w' hq).1, (HC w' hq).2⟩
 refine z147 ?_
 intro hi0 hin
 clear HC
 go_enter Tryz.func156, Tryz.ntmps156
 go_wp2_with fail
 refine wp_region_held_drew (S := fun w' => bW (((w.alloc (.cells (wB (some ⟨b, off, none⟩) n c I H S P) 32)).alloc (.cells (iV 7 id tt0 z) 107)).alloc (.cells (wB none 0 0 0 0 0 0) 32)) w') (by exact z12) ((Below.refl _ (((w.alloc (.cells (wB (some ⟨b, off, none⟩) n c I H S P) 32)).alloc (.cells (iV 7 id tt0 z) 107)).alloc (.cells (wB none 0 0 0 0 0 0) 32))).drew) (fun jd => ?_)
 refine z148 ?_
 refine wpAnyH_three (fuel := 2) (i := 1) (j := 8) (k := 9) (di := 14) (dj := 8) (dk := 9) (skip := [14, 8, 9]) (Pi := (fun v w' => ∃ A' c', v = .agg (wB A' n c' I H S P) ∧ n ≤ c' ∧ c' ≤ maxLen ∧ w'.ownsRow (((w.alloc (.cells (wB (some ⟨b, off, none⟩) n c I H S P) 32)).alloc (.cells (iV 7 id tt0 z) 107)).alloc (.cells (wB none 0 0 0 0 0 0) 32)).heap.size 97 4 (.slice A' n c') n ((cellsL f n).map (Value.int .i64)))) rfl rfl rfl rfl rfl rfl (by decide) (by decide) (by decide) (by exact z12) (by exact z12) (by exact z12) (by exact z12) (by exact z12) (by exact z12) (by exact z12) ?jc (Job.alloc (nb := (((w.alloc (.cells (wB (some ⟨b, off, none⟩) n c I H S P) 32)).alloc (.cells (iV 7 id tt0 z) 107)).alloc (.cells (wB none 0 0 0 0 0 0) 32)).heap.size) (obj := .cells (wB none 0 0 0 0 0 0) 32) rfl (fun _ h => h.size) (fun a' w1 => by go_simp; try rfl)) (Job.alloc (nb := (((w.alloc (.cells (wB (some ⟨b, off, none⟩) n c I H S P) 32)).alloc (.cells (iV 7 id tt0 z) 107)).alloc (.cells (wB none 0 0 0 0 0 0) 32)).heap.size) (obj := .cells (jV 0 0) 95) rfl (fun _ h => h.size) (fun a' w1 => by go_simp; try rfl)) ?stc stays_alloc stays_alloc below_stays jd ?nx
 case stc =>
  exact z149
 case jc =>
  exact z150
 case nx =>
 rintro vi vj vk w4 ⟨A', c', rfl, hnc', hcm', hO⟩ ⟨g8, rfl, l8, h8⟩ ⟨g9, rfl, l9, h9⟩ hB4 _
 revert A' hO
 refine z151 ?_
 intro ga hO
 refine z15 ?_
 refine wS0 10 g8 (wB (some ⟨ga, 0, none⟩) n c' I H S P) 32 infoWorks h8 (fun w' hg => hB4.grown hg hB4.size (fun k hk => by cases hk; exact l8)) ?k8
 case k8 =>
 intro w5 h85 hg5 hB5
 refine z152 ?_
 intro ne89 h95 hO5
 refine wS0 11 g9 (jV (f (i * 4 + 2)) (f (i * 4 + 3))) 95 infoBrine h95 (fun w' hg => hB5.grown hg hB5.size (fun k hk => by cases hk; exact l9)) ?k9
 case k9 =>
 intro w6 h96 hg6 hB6
 refine z153 ?_
 intro h86 hO6
 refine z49 ?_
 refine z154 ?_
 intro b0 b1 b2 b3 b4 c2 c3 s0 s1 s2 s3
 have hr6 : w6.heap[w.heap.size + 1 + 1]? = some (.cells (wB none 0 0 0 0 0 0) 32) := (hB6.block (w.heap.size + 1 + 1) (by simp)).trans (by have := heap_alloc_new ((w.alloc (.cells (wB (some ⟨b, off, none⟩) n c I H S P) 32)).alloc (.cells (iV 7 id tt0 z) 107)) (.cells (wB none 0 0 0 0 0 0) 32); simpa using this)
 refine z155 ?_
 intro h86' h96' e0 e1 e2 e3 e4 ef d0 d1 a2 a3 af nga
 have lga : (((w.alloc (.cells (wB (some ⟨b, off, none⟩) n c I H S P) 32)).alloc (.cells (iV 7 id tt0 z) 107)).alloc (.cells (wB none 0 0 0 0 0 0) 32)).heap.size ≤ ga := (World.ownsRow.lt hO6 ga rfl).1
 revert l8 l9 lga
 refine z156 ?_
 intro nga9 lga l8 l9 nga0 mga0 nga1 mga1 nga2 mga2 ng80 mg80 ng81 mg81 ng82 mg82 ng90 mg90 ng91 mg91 ng92 mg92 nn1 nn2 nn3 HO6 HB6 H86 HR6
 clear hO6 hB6 h86 h86' h96 h96' hg6 hg5 hB5 hB4 hO hO5 h8 h9 h85 h95 HF HS hr6 jd
 go_wp2_with fail
 have hg8 : g8 < w6.heap.size := (gL H86.out)
 have hr6lt : w.heap.size + 1 + 1 < w6.heap.size := (gL HR6.out)
 have HBw : Hid (∀ w', w6.grownBy w' (some g8) → bW (((w.alloc (.cells (wB (some ⟨b, off, none⟩) n c I H S P) 32)).alloc (.cells (iV 7 id tt0 z) 107)).alloc (.cells (wB none 0 0 0 0 0 0) 32)) w') := fun w' hq => HB6.out.grown hq HB6.out.size (fun k hk => by cases hk; refine z179 ?_; exact l8)
 have HF : Hid (∀ w', w6.grownBy w' (some g8) ∧ (∃ V, w'.heap[g8]? = some (.cells #[V, .int .i64 I, .int .i64 H, .int .i64 S, .int .i64 P] 32)) → cE w' w.heap.size 0 (.slice (some ⟨b, off, none⟩) n c)) := by
  rintro w' ⟨hq, _⟩
  exact (World.cell?_of_block (a := ⟨w.heap.size, 0, none⟩) (hq.block _ (World.block_lt_of_cell? _ _ b0) (by simp; omega))).trans b0
 clear a2 a3 af c2 c3 HO6 HB6
 obtain ⟨q, hq⟩ : ∃ q, q = i + 1 := ⟨_, rfl⟩
 have hqw : IntKind.i64.wrap ((i : Int) + 1) = (q : Int) := by rw [IntWalk.i64_in _ (by omega)]; omega
 have hq0 : (0 : Int) ≤ (q : Int) := by omega
 have hqn : (q : Int) ≤ (n : Int) := by omega
 have hqc : (q : Int) ≤ (c : Int) := by omega
 have hqnn : q ≤ n := by omega
 have hqcn : q ≤ c := by omega
 have hic : (i : Int) ≤ (c : Int) := by omega
 have hicn : i ≤ c := by omega
 have hq1 : q ≤ i + 1 := by omega
 have hq2 : i + 1 ≤ q := by omega
 have HL := lh (show (cellsL f n).take (i * 4) ++ (cellsL f n).drop (q * 4) = shutL f n i by rw [hq]; rfl)
 clear hq
 by_cases hck : c = q
 ·subst hck
  refine z180 ?_
  intro jd hHeld2 hro
  refine wpAnyH_appS (fuel := 3) (i := 5) (ds := 126) (d := 131) (j := 130) rfl (by exact z12) 97 4 32 (.agg (iV 0 0 0 0)) Tryz.underlying30 infoPan rfl (by decide) (by decide) [] ((cellsL f n).take (i * 4)) 0 i c _ (some ⟨b, off, none⟩) rfl rfl (cls_but.box (r := g8) hg8 (fun o => ∃ V, o = some (.cells #[V, .int .i64 I, .int .i64 H, .int .i64 S, .int .i64 P] 32))) hHeld2 hro (Sl.srcTake (HSK.out.below (HBw.out _ hHeld2.1)) (by simp) (by omega)) (by omega) ?a1a
  case a1a =>
  intro v1 w1 hown1 hS1 hgr1
  rw [Nat.zero_add, List.nil_append] at hown1
  clear hro jd hHeld2 hgr1
  refine z15 ?_
  refine wpAnyH_appS (fuel := 2) (i := 11) (ds := 131) (d := 137) (j := 136) rfl (by exact z12) 97 4 32 (.agg (iV 0 0 0 0)) Tryz.underlying30 infoPan rfl (by decide) (by decide) ((cellsL f n).take (i * 4)) ((cellsL f n).drop (c * 4)) i (0) (0) v1 (some ⟨b, off, none⟩) rfl rfl (cls_but.box (r := g8) hg8 (fun o => ∃ V, o = some (.cells #[V, .int .i64 I, .int .i64 H, .int .i64 S, .int .i64 P] 32))) hS1 hown1 (Src.none_of (by rw [List.drop_of_length_le (by rw [cellsL_len]; omega)]) (by simp)) (by omega) ?a2a
  case a2a =>
  intro v2 w2 hown2 hS2 hgr2
  clear hgr2 hown1 hS1
  rw [show i + (0) = n - 1 by omega] at hown2
  obtain ⟨A', c2, rfl, hc1, hc2⟩ := row_slice hown2
  refine z15 ?_
  have jd := hS2
  refine tj 12 138 HF rfl jd ?_
  obtain ⟨hS21, V, hV⟩ := hS2
  refine wpAnyH_store2 (fuel := 0) (i := 13) rfl (by exact z12) g8 0 (.slice A' (n - 1) c2) 32 #[V, .int .i64 I, .int .i64 H, .int .i64 S, .int .i64 P] rfl rfl infoPans hV (Nat.le_add_left 1 4) (by exact z143) (fun w' h1 hg => ⟨grown_trans hS21 hg, _, h1⟩) ?sta
  case sta =>
  exact z181
 ·refine z180 ?_
  intro jd hHeld2 hro
  refine wpAnyH_appS (fuel := 3) (i := 5) (ds := 126) (d := 131) (j := 130) rfl (by exact z12) 97 4 32 (.agg (iV 0 0 0 0)) Tryz.underlying30 infoPan rfl (by decide) (by decide) [] ((cellsL f n).take (i * 4)) 0 i c _ (some ⟨b, off, none⟩) rfl rfl (cls_but.box (r := g8) hg8 (fun o => ∃ V, o = some (.cells #[V, .int .i64 I, .int .i64 H, .int .i64 S, .int .i64 P] 32))) hHeld2 hro (Sl.srcTake (HSK.out.below (HBw.out _ hHeld2.1)) (by simp) (by omega)) (by omega) ?a1b
  case a1b =>
  intro v1 w1 hown1 hS1 hgr1
  rw [Nat.zero_add, List.nil_append] at hown1
  clear hro jd hHeld2 hgr1
  refine z15 ?_
  refine wpAnyH_appS (fuel := 2) (i := 11) (ds := 131) (d := 137) (j := 136) rfl (by exact z12) 97 4 32 (.agg (iV 0 0 0 0)) Tryz.underlying30 infoPan rfl (by decide) (by decide) ((cellsL f n).take (i * 4)) ((cellsL f n).drop (q * 4)) i (n - q) (c - q) v1 (some ⟨b, off + q * 4, none⟩) rfl rfl (cls_but.box (r := g8) hg8 (fun o => ∃ V, o = some (.cells #[V, .int .i64 I, .int .i64 H, .int .i64 S, .int .i64 P] 32))) hS1 hown1 (Sl.srcDrop (HSK.out.below (HBw.out _ hS1.1)) (by omega)) (by omega) ?a2b
  case a2b =>
  intro v2 w2 hown2 hS2 hgr2
  clear hgr2 hown1 hS1
  rw [show i + (n - q) = n - 1 by omega] at hown2
  obtain ⟨A', c2, rfl, hc1, hc2⟩ := row_slice hown2
  refine z15 ?_
  have jd := hS2
  refine tj 12 138 HF rfl jd ?_
  obtain ⟨hS21, V, hV⟩ := hS2
  refine wpAnyH_store2 (fuel := 0) (i := 13) rfl (by exact z12) g8 0 (.slice A' (n - 1) c2) 32 #[V, .int .i64 I, .int .i64 H, .int .i64 S, .int .i64 P] rfl rfl infoPans hV (Nat.le_add_left 1 4) (by exact z143) (fun w' h1 hg => ⟨grown_trans hS21 hg, _, h1⟩) ?stb
  case stb =>
  exact z181
end Go.Proofs.YtpndjhelpoenpaaGreatDoor
