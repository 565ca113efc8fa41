/-
  The reference's l25Build: a new pan in its place.
-/
import Derived.Test.YtjkockhldaacbaaDoorPk1
import Derived.Test.YtjkockhldaacbaaDoorWorksM
import Derived.Test.YtjkockhldaacbaaDoorApp3S
namespace Go.Proofs.YtjkockhldaacbaaDoor
open Go.RowKit Go.Sort
set_option linter.unusedVariables false
set_option linter.unusedSimpArgs false
attribute [local go_sem ↓] Go.wp_at_zero Go.wp_at_succ
/-- The first place from k on, m places at most, whose pan has not a lesser Id. -/
def placeV (f : Nat → Int) (id : Int) : Nat → Nat → Nat
  | 0, k => k
  | m + 1, k => if f (k * 4) < id then placeV f id m (k + 1) else k
def buildL (f : Nat → Int) (n p : Nat) (id hd : Int) : List Int := (cellsL f n).take (p * 4) ++ [id, hd, 0, 0] ++ (cellsL f n).drop (p * 4)
def buildPost (w : World) (L : List Int) (n : Nat) (I H S P : Int) (e : Ending) (w' : World) : Prop :=
  ∃ A' c', e = .returned (.agg #[.slice A' n c', .int .i64 I, .int .i64 H, .int .i64 S, .int .i64 P]) ∧ n ≤ c' ∧ c' ≤ maxLen ∧ w'.ownsRow w.heap.size 48 4 (.slice A' n c') n (L.map (Value.int .i64)) ∧ Below w.heap.size w w'
theorem Sl.srcTake {w : World} {lo hi n c : Nat} {A : Option Addr} {f : Nat → Int} (h : Sl w lo hi 4 A n f) (hz : A = none → n = 0 ∧ c = 0) {p : Nat} (hp : p ≤ n) : Src w 4 A p c ((cellsL f n).take (p * 4)) := by
  refine ⟨by rw [List.length_take, cellsL_len]; omega, fun e => by have := hz e; omega, fun ad had j u hu => ?_⟩
  have hl := (List.getElem?_eq_some_iff.1 hu).1
  rw [List.length_take, cellsL_len] at hl
  rw [List.getElem?_take_of_lt (by omega)] at hu
  exact (h.src hz).cell ad had j u hu
theorem Sl.srcDrop {w : World} {lo hi n c' b off : Nat} {f : Nat → Int} (h : Sl w lo hi 4 (some ⟨b, off, none⟩) n f) {p : Nat} (hp : p ≤ n) : Src w 4 (some ⟨b, off + p * 4, none⟩) (n - p) c' ((cellsL f n).drop (p * 4)) := by
  refine ⟨by rw [List.length_drop, cellsL_len]; omega, (by intro e; cases e), fun ad had j u hu => ?_⟩
  cases had
  rw [List.getElem?_drop] at hu
  have := (h.src (c := n) (by intro e; cases e)).cell _ rfl _ u hu
  rw [Addr.add_lit] at this ⊢
  rw [Nat.add_assoc]
  exact this
theorem infoPans : (Tryd.prog.info? 24).map (·.size) = some 1 := by kernel_rfl
theorem Cls.box {S : World → Prop} {nb : Nat} (h : Cls S nb) {r : Nat} (hr : r < nb) (Qb : Option Obj → Prop) : Cls (fun w => S w ∧ Qb w.heap[r]?) nb :=
  ⟨fun w hw => h.size w hw.1, fun w o hw => ⟨h.alloc w o hw.1, by rw [heap_alloc_old w o (Nat.lt_of_lt_of_le hr (h.size w hw.1))]; exact hw.2⟩,
    fun w w' k hw hg hk => ⟨h.grown w w' k hw.1 hg hk, by rw [hg.block r (Nat.lt_of_lt_of_le hr (h.size w hw.1)) (fun e => by have := hk r e.symm; omega)]; exact hw.2⟩⟩
section
variable {P : Program} {md : Region.Mode} {ops : Array Oper} {Q : Exit → Act → World → Prop} {S : World → Prop}
theorem wpAnyH_store2 {i : Nat} {fuel : Nat} {listed : Array Bool} {a : Act} {w : World} {t ty : TypeId} {pos : String} {af : Array Edge} {p x : Operand}
    (ho : ops[i]? = some ⟨none, .store t p x, ty, pos, af, none⟩) (hr : Region.ready md ops listed = [i])
    (g o : Nat) (v : Value) (T : TypeId) (cur : Array Value) (hp : a.eval p = .pointer (some ⟨g, o, none⟩)) (hx : a.eval x = v) (hi : (P.info? t).map (·.size) = some v.cells.size)
    (hg : w.heap[g]? = some (.cells cur T (0, 0))) (hfit : o + v.cells.size ≤ cur.size) (h1 : v.cells.all (·.oneCell') = true)
    (hS : ∀ w', w'.heap[g]? = some (.cells (putRow cur o v.cells) T (0, 0)) → w.grownBy w' (some g) → S w')
    (h : ∀ w', w'.heap[g]? = some (.cells (putRow cur o v.cells) T (0, 0)) → w.grownBy w' (some g) → S w' →
      wpAnyH P md ops Q S fuel (listed.setIfInBounds i true) a w') :
    wpAnyH P md ops Q S (fuel + 1) listed a w := by
  have hrun := run_storeAt_at (P := P) w t g o v T cur hi hg hfit h1
  have hgr := grown_setRow w g (putRow cur o v.cells)
  have hh := setRow_heap w g cur (putRow cur o v.cells) T _ hg
  have hB := hS _ hh hgr
  refine wpAnyH_ready hr (by simp) (AllReadyH.cons ho (fun K hK => ?_) AllReadyH.nil)
  rw [if_pos (wanted_plain rfl)]
  unfold Oper.wp execOp
  simp only [hp, hx, Sem.run_bind, hrun, Result.andThen_ok, Sem.run_pure]
  exact hK.out _ _ hB (fun _ => h _ hh hgr hB)
end
set_option maxRecDepth 100000 in
set_option maxHeartbeats 4000000 in
theorem l25Build_any (A : Option Addr) (n c lo hi : Nat) (f : Nat → Int) (I H S P id hd : Int) (w : World) (hs : Sl w lo hi 4 A n f) (hn : n ≤ 1048576) (hnc : n ≤ c) (hnone : A = none → n = 0 ∧ c = 0) (hform : ∀ ad, A = some ad → ∃ b off, ad = ⟨b, off, none⟩) :
    Calls Tryd.prog 63 #[.agg #[.slice A n c, .int .i64 I, .int .i64 H, .int .i64 S, .int .i64 P], .int .i64 id, .int .i64 hd] w (buildPost w (buildL f n (placeV f id n 0) id hd) (n + 1) I H S P) := by
  have hX : Below w.heap.size w ((w.alloc (.cells #[.slice A n c, .int .i64 I, .int .i64 H, .int .i64 S, .int .i64 P] 26)).alloc (.cells #[.slice none 0 0, .int .i64 0, .int .i64 0, .int .i64 0, .int .i64 0] 26)) := ((Below.refl _ w).alloc (Nat.le_refl _) _).alloc (by simp) _
  have HX := Lib.hid hX
  clear hX
  go_enter Tryd.func63, Tryd.ntmps63
  go_wp2_with fail
  refine (l25Own_any A n c lo hi f I H S P _ (hs.below HX.out) hn hnc hnone).mono ?_
  rintro e w1 ⟨A1, c1, rfl, _, _, _, hb1⟩
  have b0 : w1.cell? ⟨w.heap.size, 0, none⟩ = some (.slice A n c) := (hb1.cell (p := ⟨w.heap.size, 0, none⟩) (by simp; omega)).trans (by go_simp)
  have b1 : w1.cell? ⟨w.heap.size, 1, none⟩ = some (.int .i64 I) := (hb1.cell (p := ⟨w.heap.size, 1, none⟩) (by simp; omega)).trans (by go_simp)
  have b2 : w1.cell? ⟨w.heap.size, 2, none⟩ = some (.int .i64 H) := (hb1.cell (p := ⟨w.heap.size, 2, none⟩) (by simp; omega)).trans (by go_simp)
  have b3 : w1.cell? ⟨w.heap.size, 3, none⟩ = some (.int .i64 S) := (hb1.cell (p := ⟨w.heap.size, 3, none⟩) (by simp; omega)).trans (by go_simp)
  have b4 : w1.cell? ⟨w.heap.size, 4, none⟩ = some (.int .i64 P) := (hb1.cell (p := ⟨w.heap.size, 4, none⟩) (by simp; omega)).trans (by go_simp)
  have hr1 : w1.heap[w.heap.size + 1]? = some (.cells #[.slice none 0 0, .int .i64 0, .int .i64 0, .int .i64 0, .int .i64 0] 26) := (hb1.block (w.heap.size + 1) (by simp)).trans (by have := heap_alloc_new (w.alloc (.cells #[.slice A n c, .int .i64 I, .int .i64 H, .int .i64 S, .int .i64 P] 26)) (.cells #[.slice none 0 0, .int .i64 0, .int .i64 0, .int .i64 0, .int .i64 0] 26); simpa using this)
  have z1 := hb1.size
  simp only [World.size_alloc] at z1
  have B1 := HX.out.trans (hb1.mono HX.out.size)
  clear hb1
  have hR1 := Lib.hid hr1
  have hB1 := Lib.hid B1
  clear hr1 B1
  go_upto_region 2 with fail
  refine name_wp ?_
  intro w2 hw2
  have b12 : Below w1.heap.size w1 w2 := by rw [hw2]; exact (Below.refl _ _).alloc (Nat.le_refl _) _
  have p0 : w2.cell? ⟨w.heap.size, 0, none⟩ = some (.slice A n c) := (b12.cell (p := ⟨w.heap.size, 0, none⟩) (by simp; omega)).trans b0
  have p1 : w2.cell? ⟨w.heap.size, 1, none⟩ = some (.int .i64 I) := (b12.cell (p := ⟨w.heap.size, 1, none⟩) (by simp; omega)).trans b1
  have p2 : w2.cell? ⟨w.heap.size, 2, none⟩ = some (.int .i64 H) := (b12.cell (p := ⟨w.heap.size, 2, none⟩) (by simp; omega)).trans b2
  have p3 : w2.cell? ⟨w.heap.size, 3, none⟩ = some (.int .i64 S) := (b12.cell (p := ⟨w.heap.size, 3, none⟩) (by simp; omega)).trans b3
  have p4 : w2.cell? ⟨w.heap.size, 4, none⟩ = some (.int .i64 P) := (b12.cell (p := ⟨w.heap.size, 4, none⟩) (by simp; omega)).trans b4
  have h7 : w2.heap[w1.heap.size]? = some (.cells #[.slice A1 n c1, .int .i64 I, .int .i64 H, .int .i64 S, .int .i64 P] 26) := by
    rw [hw2]
    exact heap_alloc_new w1 _
  have hr2 : w2.heap[w.heap.size + 1]? = some (.cells #[.slice none 0 0, .int .i64 0, .int .i64 0, .int .i64 0, .int .i64 0] 26) := by
    rw [hw2, heap_alloc_old _ _ (by omega)]
    exact hR1.out
  have B2 : Below w.heap.size w w2 := by
    rw [hw2]
    exact hB1.out.alloc hB1.out.size _
  clear hw2 b0 b1 b2 b3 b4 hR1 hB1 b12
  generalize w1.heap.size = g7 at *
  have HBw : Hid (∀ w', w2.grownBy w' (some g7) → Below w.heap.size w w') := fun w' hq => B2.grown hq B2.size (fun k hk => by cases hk; omega)
  have HF : Hid (∀ w', w2.grownBy w' (some g7) ∧ (∃ V, w'.heap[g7]? = some (.cells #[V, .int .i64 I, .int .i64 H, .int .i64 S, .int .i64 P] 26)) → w'.cell? ⟨w.heap.size, 0, none⟩ = some (.slice A n c) ∧ w'.cell? ⟨w.heap.size, 1, none⟩ = some (.int .i64 I) ∧ w'.cell? ⟨w.heap.size, 2, none⟩ = some (.int .i64 H) ∧ w'.cell? ⟨w.heap.size, 3, none⟩ = some (.int .i64 S) ∧ w'.cell? ⟨w.heap.size, 4, none⟩ = some (.int .i64 P)) := by
    rintro w' ⟨hq, _⟩
    have u0 := hq.block w.heap.size (World.block_lt_of_cell? _ _ p0) (by simp; omega)
    exact ⟨(World.cell?_of_block (a := ⟨w.heap.size, 0, none⟩) u0).trans p0, (World.cell?_of_block (a := ⟨w.heap.size, 1, none⟩) u0).trans p1, (World.cell?_of_block (a := ⟨w.heap.size, 2, none⟩) u0).trans p2, (World.cell?_of_block (a := ⟨w.heap.size, 3, none⟩) u0).trans p3, (World.cell?_of_block (a := ⟨w.heap.size, 4, none⟩) u0).trans p4⟩
  have hg7 : g7 < w2.heap.size := (Array.getElem?_eq_some_iff.1 h7).1
  have H7 := Lib.hid h7
  have HR2 := Lib.hid hr2
  have HSW := Lib.hid hs
  have HB2 := Lib.hid B2
  clear p1 p2 p3 p4 h7 hr2 B2 hs HX
  go_wp2_with fail
  go_loopw [8] (fun kv wr => wr = w2 ∧ ∃ k : Nat, k ≤ n ∧ kv = .int .i64 k ∧ placeV f id n 0 = placeV f id (n - k) k) (fun kv _ => n - (intOf kv).toNat)
  case atStart => exact ⟨rfl, 0, Nat.zero_le _, rfl, rfl⟩
  case round =>
    obtain ⟨rfl, k, hk, rfl, hpl⟩ := hrel
    by_cases hlt : k < n
    · obtain ⟨b, off, rfl, hbw, HC⟩ := HSW.out.open_ HB2.out (by omega)
      obtain ⟨c0, c1, c2, c3⟩ := cell4 HC hlt
      have hk0i : (0 : Int) ≤ (k : Int) := by omega
      have hkni : (k : Int) < (n : Int) := by omega
      have hkci : (k : Int) ≤ (c : Int) := by omega
      have hkcn : k ≤ c := by omega
      have hknn : k ≤ n := hk
      have e1 : n - k = (n - k - 1) + 1 := by omega
      clear HC
      by_cases hid : f (k * 4) < id
      · have hst : placeV f id n 0 = placeV f id (n - (k + 1)) (k + 1) := by
          rw [hpl, e1]
          show (if f (k * 4) < id then placeV f id (n - k - 1) (k + 1) else k) = _
          rw [if_pos hid]
          rfl
        have HST := Lib.hid hst
        clear hst hpl e1 hkci hkcn hknn
        go_wp2
        go_roundw
        case rel => exact ⟨trivial, k + 1, by omega, by go_num, HST.out⟩
        case measure => simp [intOf]; omega
      · have hst : placeV f id n 0 = k := by
          rw [hpl, e1]
          show (if f (k * 4) < id then placeV f id (n - k - 1) (k + 1) else k) = _
          rw [if_neg hid]
        have HST := Lib.hid hst
        have hck : ¬ c = k := by omega
        clear hst hpl e1
        go_wp2_with fail
        refine wp_region_held_drew (S := (fun w' => wr.grownBy w' (some g7) ∧ ∃ V, w'.heap[g7]? = some (.cells #[V, .int .i64 I, .int .i64 H, .int .i64 S, .int .i64 P] 26))) (by kernel_rfl) ⟨⟨rfl, rfl, rfl, Nat.le_refl _, fun _ _ _ => rfl⟩, _, H7.out⟩ (fun hHeld => ?_)
        refine tk (v := ?_) 1 29 HF rfl ?_ hHeld ?_
        rotate_left; · (intro _ _ _; go_simp; try with_reducible rfl)
        simp only [Act.put, p1, p2, p3]
        refine tk (v := ?_) 3 31 HF rfl ?_ hHeld ?_
        rotate_left; · (intro _ _ _; go_simp; try with_reducible rfl)
        simp only [Act.put, p1, p2, p3]
        refine tk (v := ?_) 6 34 HF rfl ?_ hHeld ?_
        rotate_left; · (intro _ _ _; go_simp; try with_reducible rfl)
        simp only [Act.put, p1, p2, p3]
        refine tk (v := ?_) 7 35 HF rfl ?_ hHeld ?_
        rotate_left; · (intro _ _ _; go_simp; try with_reducible rfl)
        simp only [Act.put, p1, p2, p3]
        refine tk (v := ?_) 11 39 HF rfl ?_ hHeld ?_
        rotate_left; · (intro _ _ _; go_simp; try with_reducible rfl)
        simp only [Act.put, p1, p2, p3]
        refine tk (v := ?_) 13 41 HF rfl ?_ hHeld ?_
        rotate_left; · (intro _ _ _; go_simp; try with_reducible rfl)
        simp only [Act.put, p1, p2, p3]
        refine tk (v := ?_) 2 30 HF rfl ?_ hHeld ?_
        rotate_left; · (intro _ _ _; go_simp; try with_reducible rfl)
        simp only [Act.put, p1, p2, p3]
        refine tk (v := ?_) 8 36 HF rfl ?_ hHeld ?_
        rotate_left; · (intro _ _ _; go_simp; try with_reducible rfl)
        simp only [Act.put, p1, p2, p3]
        refine tk (v := ?_) 12 40 HF rfl ?_ hHeld ?_
        rotate_left; · (intro _ _ _; go_simp; try with_reducible rfl)
        simp only [Act.put, p1, p2, p3]
        refine tk (v := ?_) 4 32 HF rfl ?_ hHeld ?_
        rotate_left; · (intro _ _ _; go_simp; try with_reducible rfl)
        simp only [Act.put, p1, p2, p3]
        refine tk (v := ?_) 14 42 HF rfl ?_ hHeld ?_
        rotate_left; · (intro _ _ _; go_simp; try with_reducible rfl)
        simp only [Act.put, p1, p2, p3]
        refine wpAnyH_append3S (fuel := 2) (i0 := 0) (i1 := 5) (iB := 9) (i2 := 10) (i3 := 15) (d0 := 28) (d1 := 33) (dB := 37) (d2 := 38) (d3 := 43) (j1 := 32) (j3 := 42) rfl rfl rfl rfl rfl ⟨rfl, rfl⟩ ⟨rfl, rfl⟩ (by kernel_rfl) (by kernel_rfl) (by kernel_rfl) (by kernel_rfl) (by kernel_rfl) (by kernel_rfl) (by kernel_rfl) (by decide) (by decide) (by simp) 48 4 32 (.agg #[.int .i64 0, .int .i64 0, .int .i64 0, .int .i64 0]) Tryd.underlying24 infoPan rfl (by decide) (by decide) ?run0a [id, hd, 0, 0] rfl ?runBa ((cellsL f n).take (k * 4)) ((cellsL f n).drop (k * 4)) k c (n - k) (c - k) (some ⟨b, off, none⟩) (some ⟨b, off + k * 4, none⟩) rfl rfl (cls_but.box (r := g7) hg7 (fun o => ∃ V, o = some (.cells #[V, .int .i64 I, .int .i64 H, .int .i64 S, .int .i64 P] 26))) hHeld ?s1a ?s3a (by omega) ?nexta
        case run0a => intro a w; go_simp
        case runBa =>
          intro a' w hev
          have h1 : a'.eval (.tmp 36) = .agg #[.int .i64 id, .int .i64 hd, .int .i64 0, .int .i64 0] := (hev 36 (by decide) (by decide)).trans rfl
          have h2 : a'.tmps[36]?.getD undef = .agg #[.int .i64 id, .int .i64 hd, .int .i64 0, .int .i64 0] := by simpa [Act.eval] using h1
          clear h1 hev
          go_simp
        case s1a =>
          intro w' hb'
          exact Sl.srcTake (HSW.out.below (HBw.out w' hb'.1)) (by simp) (by omega)
        case s3a =>
          intro w' hb'
          exact Sl.srcDrop (HSW.out.below (HBw.out w' hb'.1)) (by omega)
        case nexta =>
        intro u0 u1 uB u2 g' c' w3 hc1 hc2 hg1 hown' hS3
        simp only [Act.put, p1, p2, p3]
        have hHeld := hS3
        refine tk (v := ?_) 16 44 HF rfl ?_ hHeld ?_
        rotate_left; · (intro _ _ _; go_simp; try with_reducible rfl)
        simp only [Act.put, p1, p2, p3]
        obtain ⟨hS31, V, hV⟩ := hS3
        refine wpAnyH_store2 (fuel := 0) (i := 17) rfl (by kernel_rfl) g7 0 (.slice (some ⟨g', 0, none⟩) (k + 1 + (n - k)) c') 26 #[V, .int .i64 I, .int .i64 H, .int .i64 S, .int .i64 P] rfl rfl infoPans hV (Nat.le_add_left 1 4) (by simp [Value.cells, Value.oneCell']) (fun w' h1 hg => ⟨grown_trans hS31 hg, _, h1⟩) ?sta
        case sta =>
        intro w4 h4 hg4 hS4
        have h4' : w4.heap[g7]? = some (.cells #[.slice (some ⟨g', 0, none⟩) (k + 1 + (n - k)) c', .int .i64 I, .int .i64 H, .int .i64 S, .int .i64 P] 26) := h4
        have hk1 : k + 1 + (n - k) = n + 1 := by omega
        rw [hk1] at h4' hown' hc1
        refine wpAnyH_done (by kernel_rfl) ?_ _
        have hO4 := own_other hown' hV (by decide) hg4
        have hB4 := HBw.out w4 hS4.1
        have hr4 := (hS4.1.block (w.heap.size + 1) (Array.getElem?_eq_some_iff.1 HR2.out).1 (by simp; omega)).trans HR2.out
        have e0 : w4.cell? ⟨g7, 0, none⟩ = some (.slice (some ⟨g', 0, none⟩) (n + 1) c') := by rw [cell_of_row w4 g7 0 _ _ (0, 0) h4']; rfl
        have e1 : w4.cell? ⟨g7, 1, none⟩ = some (.int .i64 I) := by rw [cell_of_row w4 g7 1 _ _ (0, 0) h4']; rfl
        have e2 : w4.cell? ⟨g7, 2, none⟩ = some (.int .i64 H) := by rw [cell_of_row w4 g7 2 _ _ (0, 0) h4']; rfl
        have e3 : w4.cell? ⟨g7, 3, none⟩ = some (.int .i64 S) := by rw [cell_of_row w4 g7 3 _ _ (0, 0) h4']; rfl
        have e4 : w4.cell? ⟨g7, 4, none⟩ = some (.int .i64 P) := by rw [cell_of_row w4 g7 4 _ _ (0, 0) h4']; rfl
        obtain ⟨r0, r1, r2, r3, r4⟩ := cells5 hr4
        have rf : ∀ j, w4.frozen? ⟨w.heap.size + 1, j, none⟩ = false := fun j => frozen_of_row w4 (w.heap.size + 1) j _ _ hr4
        have n1 : g7 ≠ w.heap.size + 1 := by omega
        have n2 : w.heap.size + 1 ≠ g7 := by omega
        have lg : wr.heap.size ≤ g' := (World.ownsRow.lt hO4 g' rfl).1
        have n3 : g' ≠ w.heap.size + 1 := by omega
        have HO4 := Lib.hid hO4
        have HB4 := Lib.hid hB4
        clear hO4 hB4 h4 h4' hV hS4 hg4 hr4 hown' HF H7 HR2 HSW HBw HB2 hHeld p0
        go_wp2
        obtain ⟨wq, hwq⟩ : ∃ wq, wq = (((((w4.setCell ⟨w.heap.size + 1, 0, none⟩ (.slice (some ⟨g', 0, none⟩) (n + 1) c')).setCell ⟨w.heap.size + 1, 1, none⟩ (.int .i64 I)).setCell ⟨w.heap.size + 1, 2, none⟩ (.int .i64 H)).setCell ⟨w.heap.size + 1, 3, none⟩ (.int .i64 S)).setCell ⟨w.heap.size + 1, 4, none⟩ (.int .i64 P)) := ⟨_, rfl⟩
        rw [← hwq]
        have q0 : wq.cell? ⟨w.heap.size + 1, 0, none⟩ = some (.slice (some ⟨g', 0, none⟩) (n + 1) c') := by rw [hwq]; go_simp
        have q1 : wq.cell? ⟨w.heap.size + 1, 1, none⟩ = some (.int .i64 I) := by rw [hwq]; go_simp
        have q2 : wq.cell? ⟨w.heap.size + 1, 2, none⟩ = some (.int .i64 H) := by rw [hwq]; go_simp
        have q3 : wq.cell? ⟨w.heap.size + 1, 3, none⟩ = some (.int .i64 S) := by rw [hwq]; go_simp
        have q4 : wq.cell? ⟨w.heap.size + 1, 4, none⟩ = some (.int .i64 P) := by rw [hwq]; go_simp
        have hBq : Below w.heap.size w wq := by
          rw [hwq]
          exact ((((HB4.out.setCell (show w.heap.size ≤ w.heap.size + 1 by omega) _).setCell (show w.heap.size ≤ w.heap.size + 1 by omega) _).setCell (show w.heap.size ≤ w.heap.size + 1 by omega) _).setCell (show w.heap.size ≤ w.heap.size + 1 by omega) _).setCell (show w.heap.size ≤ w.heap.size + 1 by omega) _
        have hOq := HO4.out
        have no : ∀ j : Nat, (Value.slice (some ⟨g', 0, none⟩) (n + 1) c').ownBlock ≠ some (⟨w.heap.size + 1, j, none⟩ : Addr).block := fun j => by simp [Value.ownBlock, n3]
        have hOq := ownsRow_setCell_other (ownsRow_setCell_other (ownsRow_setCell_other (ownsRow_setCell_other (ownsRow_setCell_other hOq (no 0) (.slice (some ⟨g', 0, none⟩) (n + 1) c')) (no 1) (.int .i64 I)) (no 2) (.int .i64 H)) (no 3) (.int .i64 S)) (no 4) (.int .i64 P)
        rw [← hwq] at hOq
        clear hwq HO4 HB4
        refine bodyPost_ret (by simp [results, Tryd.results63, go_sem, q0, q1, q2, q3, q4]; try rfl) rfl ?_
        rw [HST.out]
        exact ⟨_, c', rfl, hc1, hc2, ownsRow_monoP hOq (by omega), hBq⟩
    · have hkn : k = n := by omega
      subst hkn
      have hst : placeV f id k 0 = k := by rw [hpl, Nat.sub_self]; rfl
      have HST := Lib.hid hst
      have hki : ¬ ((k : Int) < (k : Int)) := by omega
      have hk0i : (0 : Int) ≤ (k : Int) := by omega
      have hkci : (k : Int) ≤ (c : Int) := by omega
      clear hst hpl
      cases A with
      | none =>
        have H0 := Lib.hid (hnone rfl)
        clear hnone
        go_wp2_with fail
        refine wp_region_held_drew (S := (fun w' => wr.grownBy w' (some g7) ∧ ∃ V, w'.heap[g7]? = some (.cells #[V, .int .i64 I, .int .i64 H, .int .i64 S, .int .i64 P] 26))) (by kernel_rfl) ⟨⟨rfl, rfl, rfl, Nat.le_refl _, fun _ _ _ => rfl⟩, _, H7.out⟩ (fun hHeld => ?_)
        refine tk (v := ?_) 1 29 HF rfl ?_ hHeld ?_
        rotate_left; · (intro _ _ _; go_simp; try with_reducible rfl)
        simp only [Act.put, p1, p2, p3]
        refine tk (v := ?_) 3 31 HF rfl ?_ hHeld ?_
        rotate_left; · (intro _ _ _; go_simp; try with_reducible rfl)
        simp only [Act.put, p1, p2, p3]
        refine tk (v := ?_) 6 34 HF rfl ?_ hHeld ?_
        rotate_left; · (intro _ _ _; go_simp; try with_reducible rfl)
        simp only [Act.put, p1, p2, p3]
        refine tk (v := ?_) 7 35 HF rfl ?_ hHeld ?_
        rotate_left; · (intro _ _ _; go_simp; try with_reducible rfl)
        simp only [Act.put, p1, p2, p3]
        refine tk (v := ?_) 11 39 HF rfl ?_ hHeld ?_
        rotate_left; · (intro _ _ _; go_simp; try with_reducible rfl)
        simp only [Act.put, p1, p2, p3]
        refine tk (v := ?_) 13 41 HF rfl ?_ hHeld ?_
        rotate_left; · (intro _ _ _; go_simp; try with_reducible rfl)
        simp only [Act.put, p1, p2, p3]
        refine tk (v := ?_) 2 30 HF rfl ?_ hHeld ?_
        rotate_left; · (intro _ _ _; go_simp; try with_reducible rfl)
        simp only [Act.put, p1, p2, p3]
        refine tk (v := ?_) 8 36 HF rfl ?_ hHeld ?_
        rotate_left; · (intro _ _ _; go_simp; try with_reducible rfl)
        simp only [Act.put, p1, p2, p3]
        refine tk (v := ?_) 12 40 HF rfl ?_ hHeld ?_
        rotate_left; · (intro _ _ _; go_simp; try with_reducible rfl)
        simp only [Act.put, p1, p2, p3]
        refine tk (v := ?_) 4 32 HF rfl ?_ hHeld ?_
        rotate_left; · (intro _ _ _; go_simp; try with_reducible rfl)
        simp only [Act.put, p1, p2, p3]
        refine tk (v := ?_) 14 42 HF rfl ?_ hHeld ?_
        rotate_left; · (intro _ _ _; go_simp; try with_reducible rfl)
        simp only [Act.put, p1, p2, p3]
        refine wpAnyH_append3S (fuel := 2) (i0 := 0) (i1 := 5) (iB := 9) (i2 := 10) (i3 := 15) (d0 := 28) (d1 := 33) (dB := 37) (d2 := 38) (d3 := 43) (j1 := 32) (j3 := 42) rfl rfl rfl rfl rfl ⟨rfl, rfl⟩ ⟨rfl, rfl⟩ (by kernel_rfl) (by kernel_rfl) (by kernel_rfl) (by kernel_rfl) (by kernel_rfl) (by kernel_rfl) (by kernel_rfl) (by decide) (by decide) (by simp) 48 4 32 (.agg #[.int .i64 0, .int .i64 0, .int .i64 0, .int .i64 0]) Tryd.underlying24 infoPan rfl (by decide) (by decide) ?run0d [id, hd, 0, 0] rfl ?runBd ((cellsL f k).take (k * 4)) ((cellsL f k).drop (k * 4)) k c (0) (c - k) none none rfl rfl (cls_but.box (r := g7) hg7 (fun o => ∃ V, o = some (.cells #[V, .int .i64 I, .int .i64 H, .int .i64 S, .int .i64 P] 26))) hHeld ?s1d ?s3d (by omega) ?nextd
        case run0d => intro a w; go_simp
        case runBd =>
          intro a' w hev
          have h1 : a'.eval (.tmp 36) = .agg #[.int .i64 id, .int .i64 hd, .int .i64 0, .int .i64 0] := (hev 36 (by decide) (by decide)).trans rfl
          have h2 : a'.tmps[36]?.getD undef = .agg #[.int .i64 id, .int .i64 hd, .int .i64 0, .int .i64 0] := by simpa [Act.eval] using h1
          clear h1 hev
          go_simp
        case s1d =>
          intro w' hb'
          exact Sl.srcTake (HSW.out.below (HBw.out w' hb'.1)) (fun _ => H0.out) (Nat.le_refl _)
        case s3d =>
          intro w' hb'
          exact ⟨by rw [List.drop_of_length_le (by rw [cellsL_len]; exact Nat.le_refl _)]; rfl, fun _ => ⟨rfl, by have := H0.out; omega⟩, fun ad had => by cases had⟩
        case nextd =>
        intro u0 u1 uB u2 g' c' w3 hc1 hc2 hg1 hown' hS3
        simp only [Act.put, p1, p2, p3]
        have hHeld := hS3
        refine tk (v := ?_) 16 44 HF rfl ?_ hHeld ?_
        rotate_left; · (intro _ _ _; go_simp; try with_reducible rfl)
        simp only [Act.put, p1, p2, p3]
        obtain ⟨hS31, V, hV⟩ := hS3
        refine wpAnyH_store2 (fuel := 0) (i := 17) rfl (by kernel_rfl) g7 0 (.slice (some ⟨g', 0, none⟩) (k + 1 + (0)) c') 26 #[V, .int .i64 I, .int .i64 H, .int .i64 S, .int .i64 P] rfl rfl infoPans hV (Nat.le_add_left 1 4) (by simp [Value.cells, Value.oneCell']) (fun w' h1 hg => ⟨grown_trans hS31 hg, _, h1⟩) ?std
        case std =>
        intro w4 h4 hg4 hS4
        have h4' : w4.heap[g7]? = some (.cells #[.slice (some ⟨g', 0, none⟩) (k + 1 + (0)) c', .int .i64 I, .int .i64 H, .int .i64 S, .int .i64 P] 26) := h4
        have hk1 : k + 1 + (0) = k + 1 := by omega
        rw [hk1] at h4' hown' hc1
        refine wpAnyH_done (by kernel_rfl) ?_ _
        have hO4 := own_other hown' hV (by decide) hg4
        have hB4 := HBw.out w4 hS4.1
        have hr4 := (hS4.1.block (w.heap.size + 1) (Array.getElem?_eq_some_iff.1 HR2.out).1 (by simp; omega)).trans HR2.out
        have e0 : w4.cell? ⟨g7, 0, none⟩ = some (.slice (some ⟨g', 0, none⟩) (k + 1) c') := by rw [cell_of_row w4 g7 0 _ _ (0, 0) h4']; rfl
        have e1 : w4.cell? ⟨g7, 1, none⟩ = some (.int .i64 I) := by rw [cell_of_row w4 g7 1 _ _ (0, 0) h4']; rfl
        have e2 : w4.cell? ⟨g7, 2, none⟩ = some (.int .i64 H) := by rw [cell_of_row w4 g7 2 _ _ (0, 0) h4']; rfl
        have e3 : w4.cell? ⟨g7, 3, none⟩ = some (.int .i64 S) := by rw [cell_of_row w4 g7 3 _ _ (0, 0) h4']; rfl
        have e4 : w4.cell? ⟨g7, 4, none⟩ = some (.int .i64 P) := by rw [cell_of_row w4 g7 4 _ _ (0, 0) h4']; rfl
        obtain ⟨r0, r1, r2, r3, r4⟩ := cells5 hr4
        have rf : ∀ j, w4.frozen? ⟨w.heap.size + 1, j, none⟩ = false := fun j => frozen_of_row w4 (w.heap.size + 1) j _ _ hr4
        have n1 : g7 ≠ w.heap.size + 1 := by omega
        have n2 : w.heap.size + 1 ≠ g7 := by omega
        have lg : wr.heap.size ≤ g' := (World.ownsRow.lt hO4 g' rfl).1
        have n3 : g' ≠ w.heap.size + 1 := by omega
        have HO4 := Lib.hid hO4
        have HB4 := Lib.hid hB4
        clear hO4 hB4 h4 h4' hV hS4 hg4 hr4 hown' HF H7 HR2 HSW HBw HB2 hHeld p0
        go_wp2
        obtain ⟨wq, hwq⟩ : ∃ wq, wq = (((((w4.setCell ⟨w.heap.size + 1, 0, none⟩ (.slice (some ⟨g', 0, none⟩) (k + 1) c')).setCell ⟨w.heap.size + 1, 1, none⟩ (.int .i64 I)).setCell ⟨w.heap.size + 1, 2, none⟩ (.int .i64 H)).setCell ⟨w.heap.size + 1, 3, none⟩ (.int .i64 S)).setCell ⟨w.heap.size + 1, 4, none⟩ (.int .i64 P)) := ⟨_, rfl⟩
        rw [← hwq]
        have q0 : wq.cell? ⟨w.heap.size + 1, 0, none⟩ = some (.slice (some ⟨g', 0, none⟩) (k + 1) c') := by rw [hwq]; go_simp
        have q1 : wq.cell? ⟨w.heap.size + 1, 1, none⟩ = some (.int .i64 I) := by rw [hwq]; go_simp
        have q2 : wq.cell? ⟨w.heap.size + 1, 2, none⟩ = some (.int .i64 H) := by rw [hwq]; go_simp
        have q3 : wq.cell? ⟨w.heap.size + 1, 3, none⟩ = some (.int .i64 S) := by rw [hwq]; go_simp
        have q4 : wq.cell? ⟨w.heap.size + 1, 4, none⟩ = some (.int .i64 P) := by rw [hwq]; go_simp
        have hBq : Below w.heap.size w wq := by
          rw [hwq]
          exact ((((HB4.out.setCell (show w.heap.size ≤ w.heap.size + 1 by omega) _).setCell (show w.heap.size ≤ w.heap.size + 1 by omega) _).setCell (show w.heap.size ≤ w.heap.size + 1 by omega) _).setCell (show w.heap.size ≤ w.heap.size + 1 by omega) _).setCell (show w.heap.size ≤ w.heap.size + 1 by omega) _
        have hOq := HO4.out
        have no : ∀ j : Nat, (Value.slice (some ⟨g', 0, none⟩) (k + 1) c').ownBlock ≠ some (⟨w.heap.size + 1, j, none⟩ : Addr).block := fun j => by simp [Value.ownBlock, n3]
        have hOq := ownsRow_setCell_other (ownsRow_setCell_other (ownsRow_setCell_other (ownsRow_setCell_other (ownsRow_setCell_other hOq (no 0) (.slice (some ⟨g', 0, none⟩) (k + 1) c')) (no 1) (.int .i64 I)) (no 2) (.int .i64 H)) (no 3) (.int .i64 S)) (no 4) (.int .i64 P)
        rw [← hwq] at hOq
        clear hwq HO4 HB4
        refine bodyPost_ret (by simp [results, Tryd.results63, go_sem, q0, q1, q2, q3, q4]; try rfl) rfl ?_
        rw [HST.out]
        exact ⟨_, c', rfl, hc1, hc2, ownsRow_monoP hOq (by omega), hBq⟩
      | some ad =>
        obtain ⟨b, off, rfl⟩ := hform ad rfl
        by_cases hck : c = k
        · subst hck
          go_wp2_with fail
          refine wp_region_held_drew (S := (fun w' => wr.grownBy w' (some g7) ∧ ∃ V, w'.heap[g7]? = some (.cells #[V, .int .i64 I, .int .i64 H, .int .i64 S, .int .i64 P] 26))) (by kernel_rfl) ⟨⟨rfl, rfl, rfl, Nat.le_refl _, fun _ _ _ => rfl⟩, _, H7.out⟩ (fun hHeld => ?_)
          refine tk (v := ?_) 1 29 HF rfl ?_ hHeld ?_
          rotate_left; · (intro _ _ _; go_simp; try with_reducible rfl)
          simp only [Act.put, p1, p2, p3]
          refine tk (v := ?_) 3 31 HF rfl ?_ hHeld ?_
          rotate_left; · (intro _ _ _; go_simp; try with_reducible rfl)
          simp only [Act.put, p1, p2, p3]
          refine tk (v := ?_) 6 34 HF rfl ?_ hHeld ?_
          rotate_left; · (intro _ _ _; go_simp; try with_reducible rfl)
          simp only [Act.put, p1, p2, p3]
          refine tk (v := ?_) 7 35 HF rfl ?_ hHeld ?_
          rotate_left; · (intro _ _ _; go_simp; try with_reducible rfl)
          simp only [Act.put, p1, p2, p3]
          refine tk (v := ?_) 11 39 HF rfl ?_ hHeld ?_
          rotate_left; · (intro _ _ _; go_simp; try with_reducible rfl)
          simp only [Act.put, p1, p2, p3]
          refine tk (v := ?_) 13 41 HF rfl ?_ hHeld ?_
          rotate_left; · (intro _ _ _; go_simp; try with_reducible rfl)
          simp only [Act.put, p1, p2, p3]
          refine tk (v := ?_) 2 30 HF rfl ?_ hHeld ?_
          rotate_left; · (intro _ _ _; go_simp; try with_reducible rfl)
          simp only [Act.put, p1, p2, p3]
          refine tk (v := ?_) 8 36 HF rfl ?_ hHeld ?_
          rotate_left; · (intro _ _ _; go_simp; try with_reducible rfl)
          simp only [Act.put, p1, p2, p3]
          refine tk (v := ?_) 12 40 HF rfl ?_ hHeld ?_
          rotate_left; · (intro _ _ _; go_simp; try with_reducible rfl)
          simp only [Act.put, p1, p2, p3]
          refine tk (v := ?_) 4 32 HF rfl ?_ hHeld ?_
          rotate_left; · (intro _ _ _; go_simp; try with_reducible rfl)
          simp only [Act.put, p1, p2, p3]
          refine tk (v := ?_) 14 42 HF rfl ?_ hHeld ?_
          rotate_left; · (intro _ _ _; go_simp; try with_reducible rfl)
          simp only [Act.put, p1, p2, p3]
          refine wpAnyH_append3S (fuel := 2) (i0 := 0) (i1 := 5) (iB := 9) (i2 := 10) (i3 := 15) (d0 := 28) (d1 := 33) (dB := 37) (d2 := 38) (d3 := 43) (j1 := 32) (j3 := 42) rfl rfl rfl rfl rfl ⟨rfl, rfl⟩ ⟨rfl, rfl⟩ (by kernel_rfl) (by kernel_rfl) (by kernel_rfl) (by kernel_rfl) (by kernel_rfl) (by kernel_rfl) (by kernel_rfl) (by decide) (by decide) (by simp) 48 4 32 (.agg #[.int .i64 0, .int .i64 0, .int .i64 0, .int .i64 0]) Tryd.underlying24 infoPan rfl (by decide) (by decide) ?run0b [id, hd, 0, 0] rfl ?runBb ((cellsL f c).take (c * 4)) ((cellsL f c).drop (c * 4)) c c (0) (0) (some ⟨b, off, none⟩) (some ⟨b, off, none⟩) rfl rfl (cls_but.box (r := g7) hg7 (fun o => ∃ V, o = some (.cells #[V, .int .i64 I, .int .i64 H, .int .i64 S, .int .i64 P] 26))) hHeld ?s1b ?s3b (by omega) ?nextb
          case run0b => intro a w; go_simp
          case runBb =>
            intro a' w hev
            have h1 : a'.eval (.tmp 36) = .agg #[.int .i64 id, .int .i64 hd, .int .i64 0, .int .i64 0] := (hev 36 (by decide) (by decide)).trans rfl
            have h2 : a'.tmps[36]?.getD undef = .agg #[.int .i64 id, .int .i64 hd, .int .i64 0, .int .i64 0] := by simpa [Act.eval] using h1
            clear h1 hev
            go_simp
          case s1b =>
            intro w' hb'
            exact Sl.srcTake (HSW.out.below (HBw.out w' hb'.1)) (by simp) (by omega)
          case s3b =>
            intro w' hb'
            exact Src.none_of (by rw [List.drop_of_length_le (by rw [cellsL_len]; exact Nat.le_refl _)]) (by simp)
          case nextb =>
          intro u0 u1 uB u2 g' c' w3 hc1 hc2 hg1 hown' hS3
          simp only [Act.put, p1, p2, p3]
          have hHeld := hS3
          refine tk (v := ?_) 16 44 HF rfl ?_ hHeld ?_
          rotate_left; · (intro _ _ _; go_simp; try with_reducible rfl)
          simp only [Act.put, p1, p2, p3]
          obtain ⟨hS31, V, hV⟩ := hS3
          refine wpAnyH_store2 (fuel := 0) (i := 17) rfl (by kernel_rfl) g7 0 (.slice (some ⟨g', 0, none⟩) (c + 1 + (0)) c') 26 #[V, .int .i64 I, .int .i64 H, .int .i64 S, .int .i64 P] rfl rfl infoPans hV (Nat.le_add_left 1 4) (by simp [Value.cells, Value.oneCell']) (fun w' h1 hg => ⟨grown_trans hS31 hg, _, h1⟩) ?stb
          case stb =>
          intro w4 h4 hg4 hS4
          have h4' : w4.heap[g7]? = some (.cells #[.slice (some ⟨g', 0, none⟩) (c + 1 + (0)) c', .int .i64 I, .int .i64 H, .int .i64 S, .int .i64 P] 26) := h4
          have hk1 : c + 1 + (0) = c + 1 := by omega
          rw [hk1] at h4' hown' hc1
          refine wpAnyH_done (by kernel_rfl) ?_ _
          have hO4 := own_other hown' hV (by decide) hg4
          have hB4 := HBw.out w4 hS4.1
          have hr4 := (hS4.1.block (w.heap.size + 1) (Array.getElem?_eq_some_iff.1 HR2.out).1 (by simp; omega)).trans HR2.out
          have e0 : w4.cell? ⟨g7, 0, none⟩ = some (.slice (some ⟨g', 0, none⟩) (c + 1) c') := by rw [cell_of_row w4 g7 0 _ _ (0, 0) h4']; rfl
          have e1 : w4.cell? ⟨g7, 1, none⟩ = some (.int .i64 I) := by rw [cell_of_row w4 g7 1 _ _ (0, 0) h4']; rfl
          have e2 : w4.cell? ⟨g7, 2, none⟩ = some (.int .i64 H) := by rw [cell_of_row w4 g7 2 _ _ (0, 0) h4']; rfl
          have e3 : w4.cell? ⟨g7, 3, none⟩ = some (.int .i64 S) := by rw [cell_of_row w4 g7 3 _ _ (0, 0) h4']; rfl
          have e4 : w4.cell? ⟨g7, 4, none⟩ = some (.int .i64 P) := by rw [cell_of_row w4 g7 4 _ _ (0, 0) h4']; rfl
          obtain ⟨r0, r1, r2, r3, r4⟩ := cells5 hr4
          have rf : ∀ j, w4.frozen? ⟨w.heap.size + 1, j, none⟩ = false := fun j => frozen_of_row w4 (w.heap.size + 1) j _ _ hr4
          have n1 : g7 ≠ w.heap.size + 1 := by omega
          have n2 : w.heap.size + 1 ≠ g7 := by omega
          have lg : wr.heap.size ≤ g' := (World.ownsRow.lt hO4 g' rfl).1
          have n3 : g' ≠ w.heap.size + 1 := by omega
          have HO4 := Lib.hid hO4
          have HB4 := Lib.hid hB4
          clear hO4 hB4 h4 h4' hV hS4 hg4 hr4 hown' HF H7 HR2 HSW HBw HB2 hHeld p0
          go_wp2
          obtain ⟨wq, hwq⟩ : ∃ wq, wq = (((((w4.setCell ⟨w.heap.size + 1, 0, none⟩ (.slice (some ⟨g', 0, none⟩) (c + 1) c')).setCell ⟨w.heap.size + 1, 1, none⟩ (.int .i64 I)).setCell ⟨w.heap.size + 1, 2, none⟩ (.int .i64 H)).setCell ⟨w.heap.size + 1, 3, none⟩ (.int .i64 S)).setCell ⟨w.heap.size + 1, 4, none⟩ (.int .i64 P)) := ⟨_, rfl⟩
          rw [← hwq]
          have q0 : wq.cell? ⟨w.heap.size + 1, 0, none⟩ = some (.slice (some ⟨g', 0, none⟩) (c + 1) c') := by rw [hwq]; go_simp
          have q1 : wq.cell? ⟨w.heap.size + 1, 1, none⟩ = some (.int .i64 I) := by rw [hwq]; go_simp
          have q2 : wq.cell? ⟨w.heap.size + 1, 2, none⟩ = some (.int .i64 H) := by rw [hwq]; go_simp
          have q3 : wq.cell? ⟨w.heap.size + 1, 3, none⟩ = some (.int .i64 S) := by rw [hwq]; go_simp
          have q4 : wq.cell? ⟨w.heap.size + 1, 4, none⟩ = some (.int .i64 P) := by rw [hwq]; go_simp
          have hBq : Below w.heap.size w wq := by
            rw [hwq]
            exact ((((HB4.out.setCell (show w.heap.size ≤ w.heap.size + 1 by omega) _).setCell (show w.heap.size ≤ w.heap.size + 1 by omega) _).setCell (show w.heap.size ≤ w.heap.size + 1 by omega) _).setCell (show w.heap.size ≤ w.heap.size + 1 by omega) _).setCell (show w.heap.size ≤ w.heap.size + 1 by omega) _
          have hOq := HO4.out
          have no : ∀ j : Nat, (Value.slice (some ⟨g', 0, none⟩) (c + 1) c').ownBlock ≠ some (⟨w.heap.size + 1, j, none⟩ : Addr).block := fun j => by simp [Value.ownBlock, n3]
          have hOq := ownsRow_setCell_other (ownsRow_setCell_other (ownsRow_setCell_other (ownsRow_setCell_other (ownsRow_setCell_other hOq (no 0) (.slice (some ⟨g', 0, none⟩) (c + 1) c')) (no 1) (.int .i64 I)) (no 2) (.int .i64 H)) (no 3) (.int .i64 S)) (no 4) (.int .i64 P)
          rw [← hwq] at hOq
          clear hwq HO4 HB4
          refine bodyPost_ret (by simp [results, Tryd.results63, go_sem, q0, q1, q2, q3, q4]; try rfl) rfl ?_
          rw [HST.out]
          exact ⟨_, c', rfl, hc1, hc2, ownsRow_monoP hOq (by omega), hBq⟩
        · go_wp2_with fail
          refine wp_region_held_drew (S := (fun w' => wr.grownBy w' (some g7) ∧ ∃ V, w'.heap[g7]? = some (.cells #[V, .int .i64 I, .int .i64 H, .int .i64 S, .int .i64 P] 26))) (by kernel_rfl) ⟨⟨rfl, rfl, rfl, Nat.le_refl _, fun _ _ _ => rfl⟩, _, H7.out⟩ (fun hHeld => ?_)
          refine tk (v := ?_) 1 29 HF rfl ?_ hHeld ?_
          rotate_left; · (intro _ _ _; go_simp; try with_reducible rfl)
          simp only [Act.put, p1, p2, p3]
          refine tk (v := ?_) 3 31 HF rfl ?_ hHeld ?_
          rotate_left; · (intro _ _ _; go_simp; try with_reducible rfl)
          simp only [Act.put, p1, p2, p3]
          refine tk (v := ?_) 6 34 HF rfl ?_ hHeld ?_
          rotate_left; · (intro _ _ _; go_simp; try with_reducible rfl)
          simp only [Act.put, p1, p2, p3]
          refine tk (v := ?_) 7 35 HF rfl ?_ hHeld ?_
          rotate_left; · (intro _ _ _; go_simp; try with_reducible rfl)
          simp only [Act.put, p1, p2, p3]
          refine tk (v := ?_) 11 39 HF rfl ?_ hHeld ?_
          rotate_left; · (intro _ _ _; go_simp; try with_reducible rfl)
          simp only [Act.put, p1, p2, p3]
          refine tk (v := ?_) 13 41 HF rfl ?_ hHeld ?_
          rotate_left; · (intro _ _ _; go_simp; try with_reducible rfl)
          simp only [Act.put, p1, p2, p3]
          refine tk (v := ?_) 2 30 HF rfl ?_ hHeld ?_
          rotate_left; · (intro _ _ _; go_simp; try with_reducible rfl)
          simp only [Act.put, p1, p2, p3]
          refine tk (v := ?_) 8 36 HF rfl ?_ hHeld ?_
          rotate_left; · (intro _ _ _; go_simp; try with_reducible rfl)
          simp only [Act.put, p1, p2, p3]
          refine tk (v := ?_) 12 40 HF rfl ?_ hHeld ?_
          rotate_left; · (intro _ _ _; go_simp; try with_reducible rfl)
          simp only [Act.put, p1, p2, p3]
          refine tk (v := ?_) 4 32 HF rfl ?_ hHeld ?_
          rotate_left; · (intro _ _ _; go_simp; try with_reducible rfl)
          simp only [Act.put, p1, p2, p3]
          refine tk (v := ?_) 14 42 HF rfl ?_ hHeld ?_
          rotate_left; · (intro _ _ _; go_simp; try with_reducible rfl)
          simp only [Act.put, p1, p2, p3]
          refine wpAnyH_append3S (fuel := 2) (i0 := 0) (i1 := 5) (iB := 9) (i2 := 10) (i3 := 15) (d0 := 28) (d1 := 33) (dB := 37) (d2 := 38) (d3 := 43) (j1 := 32) (j3 := 42) rfl rfl rfl rfl rfl ⟨rfl, rfl⟩ ⟨rfl, rfl⟩ (by kernel_rfl) (by kernel_rfl) (by kernel_rfl) (by kernel_rfl) (by kernel_rfl) (by kernel_rfl) (by kernel_rfl) (by decide) (by decide) (by simp) 48 4 32 (.agg #[.int .i64 0, .int .i64 0, .int .i64 0, .int .i64 0]) Tryd.underlying24 infoPan rfl (by decide) (by decide) ?run0c [id, hd, 0, 0] rfl ?runBc ((cellsL f k).take (k * 4)) ((cellsL f k).drop (k * 4)) k c (0) (c - k) (some ⟨b, off, none⟩) (some ⟨b, off + k * 4, none⟩) rfl rfl (cls_but.box (r := g7) hg7 (fun o => ∃ V, o = some (.cells #[V, .int .i64 I, .int .i64 H, .int .i64 S, .int .i64 P] 26))) hHeld ?s1c ?s3c (by omega) ?nextc
          case run0c => intro a w; go_simp
          case runBc =>
            intro a' w hev
            have h1 : a'.eval (.tmp 36) = .agg #[.int .i64 id, .int .i64 hd, .int .i64 0, .int .i64 0] := (hev 36 (by decide) (by decide)).trans rfl
            have h2 : a'.tmps[36]?.getD undef = .agg #[.int .i64 id, .int .i64 hd, .int .i64 0, .int .i64 0] := by simpa [Act.eval] using h1
            clear h1 hev
            go_simp
          case s1c =>
            intro w' hb'
            exact Sl.srcTake (HSW.out.below (HBw.out w' hb'.1)) (by simp) (by omega)
          case s3c =>
            intro w' hb'
            exact Src.none_of (by rw [List.drop_of_length_le (by rw [cellsL_len]; exact Nat.le_refl _)]) (by simp)
          case nextc =>
          intro u0 u1 uB u2 g' c' w3 hc1 hc2 hg1 hown' hS3
          simp only [Act.put, p1, p2, p3]
          have hHeld := hS3
          refine tk (v := ?_) 16 44 HF rfl ?_ hHeld ?_
          rotate_left; · (intro _ _ _; go_simp; try with_reducible rfl)
          simp only [Act.put, p1, p2, p3]
          obtain ⟨hS31, V, hV⟩ := hS3
          refine wpAnyH_store2 (fuel := 0) (i := 17) rfl (by kernel_rfl) g7 0 (.slice (some ⟨g', 0, none⟩) (k + 1 + (0)) c') 26 #[V, .int .i64 I, .int .i64 H, .int .i64 S, .int .i64 P] rfl rfl infoPans hV (Nat.le_add_left 1 4) (by simp [Value.cells, Value.oneCell']) (fun w' h1 hg => ⟨grown_trans hS31 hg, _, h1⟩) ?stc
          case stc =>
          intro w4 h4 hg4 hS4
          have h4' : w4.heap[g7]? = some (.cells #[.slice (some ⟨g', 0, none⟩) (k + 1 + (0)) c', .int .i64 I, .int .i64 H, .int .i64 S, .int .i64 P] 26) := h4
          have hk1 : k + 1 + (0) = k + 1 := by omega
          rw [hk1] at h4' hown' hc1
          refine wpAnyH_done (by kernel_rfl) ?_ _
          have hO4 := own_other hown' hV (by decide) hg4
          have hB4 := HBw.out w4 hS4.1
          have hr4 := (hS4.1.block (w.heap.size + 1) (Array.getElem?_eq_some_iff.1 HR2.out).1 (by simp; omega)).trans HR2.out
          have e0 : w4.cell? ⟨g7, 0, none⟩ = some (.slice (some ⟨g', 0, none⟩) (k + 1) c') := by rw [cell_of_row w4 g7 0 _ _ (0, 0) h4']; rfl
          have e1 : w4.cell? ⟨g7, 1, none⟩ = some (.int .i64 I) := by rw [cell_of_row w4 g7 1 _ _ (0, 0) h4']; rfl
          have e2 : w4.cell? ⟨g7, 2, none⟩ = some (.int .i64 H) := by rw [cell_of_row w4 g7 2 _ _ (0, 0) h4']; rfl
          have e3 : w4.cell? ⟨g7, 3, none⟩ = some (.int .i64 S) := by rw [cell_of_row w4 g7 3 _ _ (0, 0) h4']; rfl
          have e4 : w4.cell? ⟨g7, 4, none⟩ = some (.int .i64 P) := by rw [cell_of_row w4 g7 4 _ _ (0, 0) h4']; rfl
          obtain ⟨r0, r1, r2, r3, r4⟩ := cells5 hr4
          have rf : ∀ j, w4.frozen? ⟨w.heap.size + 1, j, none⟩ = false := fun j => frozen_of_row w4 (w.heap.size + 1) j _ _ hr4
          have n1 : g7 ≠ w.heap.size + 1 := by omega
          have n2 : w.heap.size + 1 ≠ g7 := by omega
          have lg : wr.heap.size ≤ g' := (World.ownsRow.lt hO4 g' rfl).1
          have n3 : g' ≠ w.heap.size + 1 := by omega
          have HO4 := Lib.hid hO4
          have HB4 := Lib.hid hB4
          clear hO4 hB4 h4 h4' hV hS4 hg4 hr4 hown' HF H7 HR2 HSW HBw HB2 hHeld p0
          go_wp2
          obtain ⟨wq, hwq⟩ : ∃ wq, wq = (((((w4.setCell ⟨w.heap.size + 1, 0, none⟩ (.slice (some ⟨g', 0, none⟩) (k + 1) c')).setCell ⟨w.heap.size + 1, 1, none⟩ (.int .i64 I)).setCell ⟨w.heap.size + 1, 2, none⟩ (.int .i64 H)).setCell ⟨w.heap.size + 1, 3, none⟩ (.int .i64 S)).setCell ⟨w.heap.size + 1, 4, none⟩ (.int .i64 P)) := ⟨_, rfl⟩
          rw [← hwq]
          have q0 : wq.cell? ⟨w.heap.size + 1, 0, none⟩ = some (.slice (some ⟨g', 0, none⟩) (k + 1) c') := by rw [hwq]; go_simp
          have q1 : wq.cell? ⟨w.heap.size + 1, 1, none⟩ = some (.int .i64 I) := by rw [hwq]; go_simp
          have q2 : wq.cell? ⟨w.heap.size + 1, 2, none⟩ = some (.int .i64 H) := by rw [hwq]; go_simp
          have q3 : wq.cell? ⟨w.heap.size + 1, 3, none⟩ = some (.int .i64 S) := by rw [hwq]; go_simp
          have q4 : wq.cell? ⟨w.heap.size + 1, 4, none⟩ = some (.int .i64 P) := by rw [hwq]; go_simp
          have hBq : Below w.heap.size w wq := by
            rw [hwq]
            exact ((((HB4.out.setCell (show w.heap.size ≤ w.heap.size + 1 by omega) _).setCell (show w.heap.size ≤ w.heap.size + 1 by omega) _).setCell (show w.heap.size ≤ w.heap.size + 1 by omega) _).setCell (show w.heap.size ≤ w.heap.size + 1 by omega) _).setCell (show w.heap.size ≤ w.heap.size + 1 by omega) _
          have hOq := HO4.out
          have no : ∀ j : Nat, (Value.slice (some ⟨g', 0, none⟩) (k + 1) c').ownBlock ≠ some (⟨w.heap.size + 1, j, none⟩ : Addr).block := fun j => by simp [Value.ownBlock, n3]
          have hOq := ownsRow_setCell_other (ownsRow_setCell_other (ownsRow_setCell_other (ownsRow_setCell_other (ownsRow_setCell_other hOq (no 0) (.slice (some ⟨g', 0, none⟩) (k + 1) c')) (no 1) (.int .i64 I)) (no 2) (.int .i64 H)) (no 3) (.int .i64 S)) (no 4) (.int .i64 P)
          rw [← hwq] at hOq
          clear hwq HO4 HB4
          refine bodyPost_ret (by simp [results, Tryd.results63, go_sem, q0, q1, q2, q3, q4]; try rfl) rfl ?_
          rw [HST.out]
          exact ⟨_, c', rfl, hc1, hc2, ownsRow_monoP hOq (by omega), hBq⟩
end Go.Proofs.YtjkockhldaacbaaDoor
