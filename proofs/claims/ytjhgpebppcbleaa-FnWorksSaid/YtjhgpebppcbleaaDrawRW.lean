/-
  DrawRunWorks: some works of at most 7 pans and at most 41 steps, whatever the bytes.
-/
import Derived.Test.YtjhgpebppcbleaaPk1
import Derived.Test.YtjhgpebppcbleaaDrawSW
import Derived.Test.YtjhgpebppcbleaaPk3
namespace Go.Proofs.Ytjhgpebppcbleaa
open Go.RowKit
set_option linter.unusedVariables false
set_option linter.unusedSimpArgs false
theorem own_rows {w w' : World} {base base' k k' n n' : Nat} {e e' : TypeId} {v v' : Value} {xs xs' : List Value} (h : w.ownsRow base e k v n xs) (h2 : w.ownsRow base' e' k' v' n' xs') (hne : e ≠ e') (hg : w.grownBy w' v'.ownBlock) : w'.ownsRow base e k v n xs := by
  refine h.kept (row := v'.ownBlock) hg ?_
  cases hv : v.ownBlock with
  | none => exact Or.inl rfl
  | some b =>
    refine Or.inr (fun e1 => ?_)
    rcases h2.2 with ⟨hw, _⟩ | ⟨g', cap, cu, hw, _, hG, _⟩
    · rw [hw] at e1; cases e1
    · rw [hw] at e1
      simp only [Value.ownBlock, Option.some.injEq] at e1
      subst e1
      exact row_none_ne h hG hne hv
/-- What stands between two rounds: the result's zeros, the works in block b5, the works now in block b7, the steps' row. -/
structure RW (w W : World) (b5 b7 : Nat) (B : Option Addr) (m cm : Nat) (L : List Int) (I H S P : Int) (sv : Value) (n1 : Nat) (L1 : List Int) (B' : Option Addr) (m' c' : Nat) (L' : List Int) (I' H' S' P' : Int) : Prop where
  be : Below w.heap.size w W
  res : W.heap[w.heap.size]? = some (.cells #[.slice none 0 0, .int .i64 0, .int .i64 0, .int .i64 0, .int .i64 0] 26 (0, 0))
  box5 : W.heap[b5]? = some (.cells #[.slice B m cm, .int .i64 I, .int .i64 H, .int .i64 S, .int .i64 P] 26 (0, 0))
  own5 : W.ownsRow (w.heap.size + 2) 87 4 (.slice B m cm) m (L.map (Value.int .i64))
  box7 : W.heap[b7]? = some (.cells #[.slice B' m' c', .int .i64 I', .int .i64 H', .int .i64 S', .int .i64 P'] 26 (0, 0))
  own7 : W.ownsRow (w.heap.size + 2) 87 4 (.slice B' m' c') m' (L'.map (Value.int .i64))
  steps : W.ownsRow (w.heap.size + 2) 28 4 sv n1 (L1.map (Value.int .i64))
  m7 : m' ≤ 7
  mc : m' ≤ c'
theorem RW.step {w W W' : World} {b5 b7 : Nat} {B : Option Addr} {m cm : Nat} {L : List Int} {I H S P : Int} {sv : Value} {n1 : Nat} {L1 : List Int} {B' : Option Addr} {m' c' : Nat} {L' : List Int} {I' H' S' P' : Int} (h : RW w W b5 b7 B m cm L I H S P sv n1 L1 B' m' c' L' I' H' S' P') (hf : Fr (w.heap.size + 1) (w.heap.size + 1 + 1) W W') (h5 : w.heap.size + 2 ≤ b5) (h7 : w.heap.size + 2 ≤ b7) : RW w W' b5 b7 B m cm L I H S P sv n1 L1 B' m' c' L' I' H' S' P' :=
  ⟨h.be.trans (hf.below (by omega) h.be.size), (hf.block _ (Array.getElem?_eq_some_iff.1 h.res).1 (Or.inl (by omega))).trans h.res, (hf.block _ (Array.getElem?_eq_some_iff.1 h.box5).1 (Or.inr (by omega))).trans h.box5, own_step h.own5 (by omega) hf, (hf.block _ (Array.getElem?_eq_some_iff.1 h.box7).1 (Or.inr (by omega))).trans h.box7, own_step h.own7 (by omega) hf, own_step h.steps (by omega) hf, h.m7, h.mc⟩
theorem RW.below {w W W' : World} {b5 b7 : Nat} {B : Option Addr} {m cm : Nat} {L : List Int} {I H S P : Int} {sv : Value} {n1 : Nat} {L1 : List Int} {B' : Option Addr} {m' c' : Nat} {L' : List Int} {I' H' S' P' : Int} (h : RW w W b5 b7 B m cm L I H S P sv n1 L1 B' m' c' L' I' H' S' P') (hb : Below W.heap.size W W') : RW w W' b5 b7 B m cm L I H S P sv n1 L1 B' m' c' L' I' H' S' P' :=
  ⟨h.be.trans (hb.mono h.be.size), rowB h.res hb, rowB h.box5 hb, ownsRow_below h.own5 hb, rowB h.box7 hb, ownsRow_below h.own7 hb, ownsRow_below h.steps hb, h.m7, h.mc⟩
theorem RW.app {w W W' : World} {b5 b7 : Nat} {B : Option Addr} {m cm : Nat} {L : List Int} {I H S P : Int} {sv : Value} {n1 : Nat} {L1 : List Int} {B' : Option Addr} {m' c' : Nat} {L' : List Int} {I' H' S' P' : Int} {sv' : Value} {n2 : Nat} {L2 : List Int} (h : RW w W b5 b7 B m cm L I H S P sv n1 L1 B' m' c' L' I' H' S' P') (hg : W.grownBy W' sv.ownBlock) (hs : W'.ownsRow (w.heap.size + 2) 28 4 sv' n2 (L2.map (Value.int .i64))) : RW w W' b5 b7 B m cm L I H S P sv' n2 L2 B' m' c' L' I' H' S' P' :=
  ⟨h.be.grown hg h.be.size (fun k hk => by have := (h.steps.lt k hk).1; omega), row_keep h.steps h.res (by decide) hg, row_keep h.steps h.box5 (by decide) hg, own_rows h.own5 h.steps (by decide) hg, row_keep h.steps h.box7 (by decide) hg, own_rows h.own7 h.steps (by decide) hg, hs, h.m7, h.mc⟩
def lenV : Value → Nat
  | .slice _ n _ => n
  | _ => 0
theorem infoSt : (Try.prog.info? 28).map (fun i => (i.zero, i.size, i.bytes)) = some (some (.agg #[.int .i64 0, .int .i64 0, .int .i64 0, .int .i64 0]), 4, 32) := by kernel_rfl
theorem lit_cellsS (w : World) (news : List Int) {cs : Array Value} {t : TypeId} (hcs : cs = (news.map (Value.int .i64)).toArray) : ∀ j u, news[j]? = some u → (w.alloc (.cells cs t)).cell? ((⟨w.heap.size, 0, none⟩ : Addr).add j) = some (.int .i64 u) := by
  subst hcs
  intro j u hu
  rw [Addr.add_lit, Nat.zero_add, cell_of_row _ w.heap.size j _ t (0, 0) (heap_alloc_new w _)]
  simp [hu]
set_option maxRecDepth 100000 in
set_option maxHeartbeats 4000000 in
theorem DrawRunWorks_any (A : Option Addr) (n c : Nat) (w : World) (hc : Code w A n) (hn : n ≤ 65536) :
    Calls Try.prog 18 #[.slice A n c] w fun e w' => ∃ (B : Option Addr) (m cm : Nat) (L : List Int) (I H S P : Int) (A1 : Option Addr) (n1 c1 : Nat) (L1 : List Int), e = .returned (.tuple #[.agg #[.slice B m cm, .int .i64 I, .int .i64 H, .int .i64 S, .int .i64 P], .slice A1 n1 c1]) ∧ n1 ≤ 41 ∧ Drawn w' w.heap.size 28 4 A1 n1 c1 (lf L1) ∧ m ≤ 7 ∧ Drawn w' w.heap.size 87 4 B m cm (lf L) ∧ Below w.heap.size w w' := by
  go_enter Try.func18, Try.ntmps18
  go_wp2_with fail
  refine nameC ?_
  intro w1 hw1
  have h2 : w1.heap[w.heap.size]? = some (.cells #[.slice none 0 0, .int .i64 0, .int .i64 0, .int .i64 0, .int .i64 0] 26 (0, 0)) := by
    rw [hw1, heap_alloc_old _ _ (by simp)]
    exact heap_alloc_new w _
  have hB2 : Below w.heap.size w (w.alloc (.cells #[.slice none 0 0, .int .i64 0, .int .i64 0, .int .i64 0, .int .i64 0] 26)) := (Below.refl _ w).alloc (Nat.le_refl _) _
  have hB : Below w.heap.size w w1 := by rw [hw1]; exact hB2.alloc (by simp) _
  have hC : Cur w1 (w.heap.size + 1) A n c 0 := by rw [hw1]; have h := (hc.below hB2).cur (c := c) (T := 75); simpa using h
  clear hw1 hB2 hc
  have hgl := hC.lt
  refine (works_any (w.heap.size + 1) n c 0 A w1 hC hn (by omega)).mono ?_
  rintro e w2 ⟨B, m, cm, L, I, H, S, P, rfl, hm7, hmc, hcm, hown, hC, hf⟩
  have hzf := hf.size
  have h2 := (hf.block _ (Array.getElem?_eq_some_iff.1 h2).1 (Or.inl (by omega))).trans h2
  have hB := hB.trans (hf.below (by omega) hB.size)
  have hown := ownsRow_monoP hown (show w.heap.size + 2 ≤ w1.heap.size by omega)
  clear hf
  go_upto_region 3 with fail
  refine nameWS ?_
  intro w3 hw3
  have hn2 : Below w2.heap.size w2 w3 := by rw [hw3]; exact (Below.refl _ w2).alloc (Nat.le_refl _) _
  have h5 : w3.heap[w2.heap.size]? = some (.cells #[.slice B m cm, .int .i64 I, .int .i64 H, .int .i64 S, .int .i64 P] 26 (0, 0)) := by rw [hw3]; exact heap_alloc_new w2 _
  have h2 := rowB h2 hn2
  have hown := ownsRow_below hown hn2
  have hC := hC.below hn2
  have hB := below_of hB hn2 hB.size
  have hz3 := hn2.size
  obtain ⟨b5, hb5⟩ : ∃ q, w2.heap.size = q := ⟨_, rfl⟩
  rw [hb5] at h5 hzf
  try rw [hb5]
  have hl5 := (Array.getElem?_eq_some_iff.1 h5).1
  clear hw3 hn2 hb5 hz3
  go_upto_region 4 with fail
  refine nameWS ?_
  intro w4 hw4
  have hn3 : Below w3.heap.size w3 w4 := by rw [hw4]; exact (Below.refl _ w3).alloc (Nat.le_refl _) _
  have h5 := rowB h5 hn3
  have h2 := rowB h2 hn3
  have hown := ownsRow_below hown hn3
  have hC := hC.below hn3
  have hB := below_of hB hn3 hB.size
  have hst : w4.ownsRow (w.heap.size + 2) 28 4 (.slice (some ⟨w3.heap.size, 0, none⟩) 0 0) 0 (([] : List Int).map (Value.int .i64)) := by rw [hw4]; exact World.ownsRow_made w3 #[] 0 (by omega) (Nat.zero_le _) (by simp)
  have hz4 := hn3.size
  obtain ⟨b6, hb6⟩ : ∃ q, w3.heap.size = q := ⟨_, rfl⟩
  rw [hb6] at hst hl5 hz4
  try rw [hb6]
  clear hw4 hn3 hb6
  obtain ⟨e0, e1, e2, e3, e4⟩ := cells5 h5
  go_upto_region 5 with fail
  refine nameWS ?_
  intro w5 hw5
  have hn4 : Below w4.heap.size w4 w5 := by rw [hw5]; exact (Below.refl _ w4).alloc (Nat.le_refl _) _
  have h7 : w5.heap[w4.heap.size]? = some (.cells #[.slice B m cm, .int .i64 I, .int .i64 H, .int .i64 S, .int .i64 P] 26 (0, 0)) := by rw [hw5]; exact heap_alloc_new w4 _
  have hR : RW w w5 b5 w4.heap.size B m cm L I H S P (.slice (some ⟨b6, 0, none⟩) 0 0) 0 [] B m cm L I H S P := ⟨below_of hB hn4 hB.size, rowB h2 hn4, rowB h5 hn4, ownsRow_below hown hn4, h7, ownsRow_below hown hn4, ownsRow_below hst hn4, hm7, hmc⟩
  have hC := hC.below hn4
  have hb5 : w.heap.size + 2 ≤ b5 := by omega
  obtain ⟨b7, hb7e⟩ : ∃ q, w4.heap.size = q := ⟨_, rfl⟩
  have hb7 : w.heap.size + 2 ≤ b7 := by omega
  have h57 : b5 ≠ b7 := by omega
  rw [hb7e] at hR
  try rw [hb7e]
  clear hw5 hn4 hb7e h7 h5 h2 hown hst hB hz4 hl5 hzf hgl e0 e1 e2 e3 e4
  go_wp2_with fail
  refine (pick_any (w.heap.size + 1) n c _ 12 A w5 hC hn (by omega) (by omega) (by omega)).mono ?_
  rintro e w6 ⟨k0, rfl, hk0, hC, hf⟩
  have hR := hR.step hf hb5 hb7
  clear hf
  have HIN := Lib.hid hR
  clear hR
  go_wp2_with fail
  go_loopw [6, 8] (fun sv kv wr => ∃ (k n1 : Nat) (A1 : Option Addr) (c1 : Nat) (L1 : List Int) (B' : Option Addr) (m' c' : Nat) (L' : List Int) (I' H' S' P' : Int), n1 + k ≤ 11 ∧ kv = .int .i64 k ∧ sv = .slice A1 n1 c1 ∧ RW w wr b5 b7 B m cm L I H S P (.slice A1 n1 c1) n1 L1 B' m' c' L' I' H' S' P' ∧ Cur wr (w.heap.size + 1) A n c (1100 + (11 - k) * 40)) (fun _ kv _ => (intOf kv).toNat)
  case atStart => exact ⟨k0, 0, _, _, [], _, _, _, _, _, _, _, _, by omega, rfl, rfl, HIN.out, hC.weaken (by omega)⟩
  case round =>
    obtain ⟨k, n1, A1, c1, L1, B', m', c', L', I', H', S', P', hnk, rfl, rfl, hR, hC⟩ := hrel
    by_cases hk : 0 < k
    · have hki : (0 : Int) < (k : Int) := by omega
      have h7 := hR.box7
      obtain ⟨e0, e1, e2, e3, e4⟩ := cells5 h7
      have hm7' := hR.m7
      have hmc' := hR.mc
      have HR := Lib.hid hR
      clear h7 hR
      go_wp2_with fail
      refine (worksStep_any (w.heap.size + 1) n c _ A B' m' c' (w.heap.size + 2) wr.heap.size (lf L') I' H' S' P' wr hC hn (by omega) (own_sl HR.out.own7) (by omega) (by omega) hmc').mono ?_
      rintro e wa ⟨a0, a1, a2, a3, rfl, hC, hf⟩
      have HRa := Lib.hid (HR.out.step hf hb5 hb7)
      clear hf HR e0 e1 e2 e3 e4
      go_upto_region 9 with fail
      refine nameWS ?_
      intro wb hwb
      have hnb : Below wa.heap.size wa wb := by rw [hwb]; exact (Below.refl _ wa).alloc (Nat.le_refl _) _
      have h9 : wb.heap[wa.heap.size]? = some (.cells #[.int .i64 a0, .int .i64 a1, .int .i64 a2, .int .i64 a3] 28 (0, 0)) := by rw [hwb]; exact heap_alloc_new wa _
      have HRb := Lib.hid (HRa.out.below hnb)
      have hC := hC.below hnb
      have hlts : ∀ k, (Value.slice A1 n1 c1).ownBlock = some k → k < wa.heap.size := fun k e => (HRa.out.steps.lt k e).2
      obtain ⟨b9, hb9⟩ : ∃ q, wa.heap.size = q := ⟨_, rfl⟩
      have hl9 := HRa.out.be.size
      rw [hb9] at h9 hl9 hlts
      try rw [hb9]
      clear hwb hnb hb9 HRa
      obtain ⟨s0, s1, s2, s3⟩ := cells4 h9
      have HSb := Lib.hid HRb.out.steps
      have hzb := HRb.out.be.size
      have hresb := (Array.getElem?_eq_some_iff.1 HRb.out.box7).1
      have h9z := (Array.getElem?_eq_some_iff.1 h9).1
      have H9 := Lib.hid h9
      have HCb := Lib.hid hC
      clear h9 hC
      go_upto_region 10 with (at_builtin; go_loud (refine wpList_append_flat _ rfl _ _ 42 rfl (w.heap.size + 2) 28 4 32 (.agg #[.int .i64 0, .int .i64 0, .int .i64 0, .int .i64 0]) Try.underlying42 infoSt rfl (by decide) (by decide) L1 [a0, a1, a2, a3] n1 1 _ _ rfl (HSb.out.alloc _) ⟨wb.heap.size, 0, none⟩ rfl rfl (lit_cellsS wb [a0, a1, a2, a3] (cs := #[.int .i64 (a0), .int .i64 (a1), .int .i64 (a2), .int .i64 (a3)]) (t := 28) rfl) (by omega) (by simp; omega) ?_); intro v' w6 hO6 hg6)
      have hnl : Below wb.heap.size wb (wb.alloc (.cells #[.int .i64 a0, .int .i64 a1, .int .i64 a2, .int .i64 a3] 28)) := (Below.refl _ wb).alloc (Nat.le_refl _) _
      have HR6 := Lib.hid ((HRb.out.below hnl).app hg6 hO6)
      have HC6 := Lib.hid ((HCb.out.below hnl).app (by omega) (HSb.out.alloc _) hg6)
      have h96 : w6.heap[b9]? = some (.cells #[.int .i64 a0, .int .i64 a1, .int .i64 a2, .int .i64 a3] 28 (0, 0)) := by
        exact (hg6.block b9 (Nat.lt_of_lt_of_le h9z (by simp)) (fun e => by have := hlts b9 e.symm; omega)).trans (rowB H9.out hnl)
      obtain ⟨A2, c2, rfl, _, _⟩ := row_slice hO6
      clear hnl hg6 hO6 HRb HSb HCb H9 s0 s1 s2 s3 h9z hlts
      have h7 := HR6.out.box7
      obtain ⟨e0, e1, e2, e3, e4⟩ := cells5 h7
      obtain ⟨s0, s1, s2, s3⟩ := cells4 h96
      clear h7 h96
      go_wp2_with fail
      refine (sStep_draw B' m' c' (w.heap.size + 2) w6.heap.size (lf L') I' H' S' P' a0 a1 a2 a3 w6 (own_sl HR6.out.own7) (by omega) hmc' (fun e => own_nilK HR6.out.own7 e) (fun ad e => own_formK HR6.out.own7 e)).mono ?_
      rintro e w7 ⟨L2, m2, I2, H2, S2, P2, ok, hgd, Ar, cr, rfl, hm1, hm2, hown, hb⟩
      have HR7 := Lib.hid (HR6.out.below hb)
      have hz6 := HR6.out.be.size
      have HO7 := Lib.hid (ownsRow_monoP hown (show w.heap.size + 2 ≤ w6.heap.size by have := (Array.getElem?_eq_some_iff.1 HR6.out.box7).1; omega))
      have hC := HC6.out.below hb
      clear hb hown HR6 HC6 e0 e1 e2 e3 e4 s0 s1 s2 s3 hz6
      have HGD := Lib.hid hgd
      clear hgd
      go_upto_region 11 with fail
      refine nameWS ?_
      intro w9 hw9
      have hn7 : Below w7.heap.size w7 w9 := by rw [hw9]; exact (Below.refl _ w7).alloc (Nat.le_refl _) _
      have hX := (show w9.heap[w7.heap.size]? = some (.cells #[.slice Ar m2 cr, .int .i64 I2, .int .i64 H2, .int .i64 S2, .int .i64 P2] 26 (0, 0)) by rw [hw9]; exact heap_alloc_new w7 _)
      have HR9 := Lib.hid (HR7.out.below hn7)
      have HO9 := Lib.hid (ownsRow_below HO7.out hn7)
      have HC9 := Lib.hid (hC.below hn7)
      have h77 := (Array.getElem?_eq_some_iff.1 HR7.out.box7).1
      obtain ⟨bx, hbx⟩ : ∃ q, w7.heap.size = q := ⟨_, rfl⟩
      rw [hbx] at hX h77
      try rw [hbx]
      clear hw9 hn7 hbx HR7 HO7 hC
      have hkw : IntKind.i64.wrap ((k : Int) - 1) = ((k - 1 : Nat) : Int) := by rw [IntWalk.i64_in _ (by omega)]; omega
      cases ok with
      | false =>
        clear hX
        go_wp2
        go_roundw
        case rel => exact ⟨k - 1, n1 + 1, _, _, _, _, _, _, _, _, _, _, _, by omega, by go_num, rfl, HR9.out, HC9.out.weaken (by omega)⟩
        case measure => simp [intOf]; omega
      | true =>
        have hm6 : m2 ≤ 6 := good_len (HGD.out rfl)
        have hne : bx ≠ b7 := by omega
        have hne2 : b7 ≠ bx := by omega
        have h7 := HR9.out.box7
        obtain ⟨y0, y1, y2, y3, y4⟩ := cells5 hX
        obtain ⟨e0, e1, e2, e3, e4⟩ := cells5 h7
        have ef : ∀ j, w9.frozen? ⟨b7, j, none⟩ = false := fun j => frozen_of_row w9 b7 j _ _ h7
        clear hX h7
        go_upto_region 7 with fail
        refine nameWS ?_
        intro wz hwz'
        have hwz : wz = (((((w9.setCell ⟨b7, 0, none⟩ (.slice Ar m2 cr)).setCell ⟨b7, 1, none⟩ (.int .i64 I2)).setCell ⟨b7, 2, none⟩ (.int .i64 H2)).setCell ⟨b7, 3, none⟩ (.int .i64 S2)).setCell ⟨b7, 4, none⟩ (.int .i64 P2)) := hwz'
        clear hwz' e0 e1 e2 e3 e4 ef y0 y1 y2 y3 y4
        have no5 : ∀ j : Nat, (Value.slice B m cm).ownBlock ≠ some (⟨b7, j, none⟩ : Addr).block := fun j e => row_none_ne HR9.out.own5 HR9.out.box7 (by decide) e
        have nos : ∀ j : Nat, (Value.slice A2 (n1 + 1) c2).ownBlock ≠ some (⟨b7, j, none⟩ : Addr).block := fun j e => row_none_ne HR9.out.steps HR9.out.box7 (by decide) e
        have noo : ∀ j : Nat, (Value.slice Ar m2 cr).ownBlock ≠ some (⟨b7, j, none⟩ : Addr).block := fun j e => row_none_ne HO9.out HR9.out.box7 (by decide) e
        have h5z := (ownsRow_setCell_other (ownsRow_setCell_other (ownsRow_setCell_other (ownsRow_setCell_other (ownsRow_setCell_other HR9.out.own5 (no5 0) (.slice Ar m2 cr)) (no5 1) (.int .i64 I2)) (no5 2) (.int .i64 H2)) (no5 3) (.int .i64 S2)) (no5 4) (.int .i64 P2))
        have hsz := (ownsRow_setCell_other (ownsRow_setCell_other (ownsRow_setCell_other (ownsRow_setCell_other (ownsRow_setCell_other HR9.out.steps (nos 0) (.slice Ar m2 cr)) (nos 1) (.int .i64 I2)) (nos 2) (.int .i64 H2)) (nos 3) (.int .i64 S2)) (nos 4) (.int .i64 P2))
        have hoz := (ownsRow_setCell_other (ownsRow_setCell_other (ownsRow_setCell_other (ownsRow_setCell_other (ownsRow_setCell_other HO9.out (noo 0) (.slice Ar m2 cr)) (noo 1) (.int .i64 I2)) (noo 2) (.int .i64 H2)) (noo 3) (.int .i64 S2)) (noo 4) (.int .i64 P2))
        have hbz := (((((HR9.out.be.setCell (p := ⟨b7, 0, none⟩) (show w.heap.size ≤ b7 by omega) (.slice Ar m2 cr)).setCell (p := ⟨b7, 1, none⟩) (show w.heap.size ≤ b7 by omega) (.int .i64 I2)).setCell (p := ⟨b7, 2, none⟩) (show w.heap.size ≤ b7 by omega) (.int .i64 H2)).setCell (p := ⟨b7, 3, none⟩) (show w.heap.size ≤ b7 by omega) (.int .i64 S2)).setCell (p := ⟨b7, 4, none⟩) (show w.heap.size ≤ b7 by omega) (.int .i64 P2))
        have hCz := (((((HC9.out.setOwn (q := ⟨b7, 0, none⟩) (by show w.heap.size + 1 < b7; omega) (.slice Ar m2 cr)).setOwn (q := ⟨b7, 1, none⟩) (by show w.heap.size + 1 < b7; omega) (.int .i64 I2)).setOwn (q := ⟨b7, 2, none⟩) (by show w.heap.size + 1 < b7; omega) (.int .i64 H2)).setOwn (q := ⟨b7, 3, none⟩) (by show w.heap.size + 1 < b7; omega) (.int .i64 S2)).setOwn (q := ⟨b7, 4, none⟩) (by show w.heap.size + 1 < b7; omega) (.int .i64 P2))
        have h7z := (heap_setCell_same _ (b7) 4 #[.slice Ar m2 cr, .int .i64 I2, .int .i64 H2, .int .i64 S2, .int .i64 P'] 26 (.int .i64 P2) (heap_setCell_same _ (b7) 3 #[.slice Ar m2 cr, .int .i64 I2, .int .i64 H2, .int .i64 S', .int .i64 P'] 26 (.int .i64 S2) (heap_setCell_same _ (b7) 2 #[.slice Ar m2 cr, .int .i64 I2, .int .i64 H', .int .i64 S', .int .i64 P'] 26 (.int .i64 H2) (heap_setCell_same _ (b7) 1 #[.slice Ar m2 cr, .int .i64 I', .int .i64 H', .int .i64 S', .int .i64 P'] 26 (.int .i64 I2) (heap_setCell_same _ (b7) 0 #[.slice B' m' c', .int .i64 I', .int .i64 H', .int .i64 S', .int .i64 P'] 26 (.slice Ar m2 cr) HR9.out.box7)))))
        rw [← hwz] at h5z hsz hoz hbz hCz h7z
        have hrz : wz.heap[w.heap.size]? = some (.cells #[.slice none 0 0, .int .i64 0, .int .i64 0, .int .i64 0, .int .i64 0] 26 (0, 0)) := by
          rw [hwz]
          iterate 5 rw [heap_setCell_other _ _ _ _ (by show w.heap.size ≠ b7; omega)]
          exact HR9.out.res
        have h5b : wz.heap[b5]? = some (.cells #[.slice B m cm, .int .i64 I, .int .i64 H, .int .i64 S, .int .i64 P] 26 (0, 0)) := by
          rw [hwz]
          iterate 5 rw [heap_setCell_other _ _ _ _ (by show b5 ≠ b7; omega)]
          exact HR9.out.box5
        have HRz : Hid (RW w wz b5 b7 B m cm L I H S P (.slice A2 (n1 + 1) c2) (n1 + 1) (L1 ++ [a0, a1, a2, a3]) Ar m2 cr L2 I2 H2 S2 P2) := ⟨hbz, hrz, h5b, h5z, h7z, hoz, hsz, by omega, hm1⟩
        have HCz := Lib.hid hCz
        clear hwz h5z hsz hoz hbz hCz h7z hrz h5b no5 nos noo HR9 HC9 HO9
        go_wp2
        go_roundw
        case rel => exact ⟨k - 1, n1 + 1, _, _, _, _, _, _, _, _, _, _, _, by omega, by go_num, rfl, HRz.out, HCz.out.weaken (by omega)⟩
        case measure => simp [intOf]; omega
    · have hki : ¬ ((0 : Int) < (k : Int)) := by omega
      go_wp2_with fail
      refine (one_any (w.heap.size + 1) n c _ 24 A wr hC hn (by omega) (by omega) (by omega)).mono ?_
      rintro e wa ⟨b, rfl, hC, hf⟩
      have hR := hR.step hf hb5 hb7
      clear hf
      cases b with
      | false =>
        have h5 := hR.box5
        have h2 := hR.res
        obtain ⟨e0, e1, e2, e3, e4⟩ := cells5 h5
        obtain ⟨r0, r1, r2, r3, r4⟩ := cells5 h2
        have rf : ∀ j, wa.frozen? ⟨w.heap.size, j, none⟩ = false := fun j => frozen_of_row wa (w.heap.size) j _ _ h2
        have hne : b5 ≠ w.heap.size := by omega
        have hne2 : w.heap.size ≠ b5 := by omega
        have HR := Lib.hid hR
        have H2 := Lib.hid h2
        clear h5 h2 hR hC
        go_wp2
        obtain ⟨wq, hwq⟩ : ∃ wq, wq = (((((wa.setCell ⟨w.heap.size, 0, none⟩ (.slice B m cm)).setCell ⟨w.heap.size, 1, none⟩ (.int .i64 I)).setCell ⟨w.heap.size, 2, none⟩ (.int .i64 H)).setCell ⟨w.heap.size, 3, none⟩ (.int .i64 S)).setCell ⟨w.heap.size, 4, none⟩ (.int .i64 P)) := ⟨_, rfl⟩
        rw [← hwq]
        have q0 : wq.cell? ⟨w.heap.size, 0, none⟩ = some (.slice B m cm) := by rw [hwq]; go_simp
        have q1 : wq.cell? ⟨w.heap.size, 1, none⟩ = some (.int .i64 I) := by rw [hwq]; go_simp
        have q2 : wq.cell? ⟨w.heap.size, 2, none⟩ = some (.int .i64 H) := by rw [hwq]; go_simp
        have q3 : wq.cell? ⟨w.heap.size, 3, none⟩ = some (.int .i64 S) := by rw [hwq]; go_simp
        have q4 : wq.cell? ⟨w.heap.size, 4, none⟩ = some (.int .i64 P) := by rw [hwq]; go_simp
        have no5 : ∀ j : Nat, (Value.slice B m cm).ownBlock ≠ some (⟨w.heap.size, j, none⟩ : Addr).block := fun j e => row_none_ne HR.out.own5 H2.out (by decide) e
        have nos : ∀ j : Nat, (Value.slice A1 n1 c1).ownBlock ≠ some (⟨w.heap.size, j, none⟩ : Addr).block := fun j e => row_none_ne HR.out.steps H2.out (by decide) e
        have h5q := (ownsRow_setCell_other (ownsRow_setCell_other (ownsRow_setCell_other (ownsRow_setCell_other (ownsRow_setCell_other HR.out.own5 (no5 0) (.slice B m cm)) (no5 1) (.int .i64 I)) (no5 2) (.int .i64 H)) (no5 3) (.int .i64 S)) (no5 4) (.int .i64 P))
        have hsq := (ownsRow_setCell_other (ownsRow_setCell_other (ownsRow_setCell_other (ownsRow_setCell_other (ownsRow_setCell_other HR.out.steps (nos 0) (.slice B m cm)) (nos 1) (.int .i64 I)) (nos 2) (.int .i64 H)) (nos 3) (.int .i64 S)) (nos 4) (.int .i64 P))
        have hBq := (((((HR.out.be.setCell (p := ⟨w.heap.size, 0, none⟩) (Nat.le_refl _) (.slice B m cm)).setCell (p := ⟨w.heap.size, 1, none⟩) (Nat.le_refl _) (.int .i64 I)).setCell (p := ⟨w.heap.size, 2, none⟩) (Nat.le_refl _) (.int .i64 H)).setCell (p := ⟨w.heap.size, 3, none⟩) (Nat.le_refl _) (.int .i64 S)).setCell (p := ⟨w.heap.size, 4, none⟩) (Nat.le_refl _) (.int .i64 P))
        rw [← hwq] at h5q hsq hBq
        obtain ⟨B9, c9, e9, hd⟩ := drawnRow_of 4 h5q (show w.heap.size ≤ w.heap.size + 2 by omega)
        cases e9
        obtain ⟨B8, c8, e8, hd8⟩ := drawnRow_of 4 hsq (show w.heap.size ≤ w.heap.size + 2 by omega)
        cases e8
        clear hwq h5q hsq HR H2
        try simp only [Exit.inBlock, Exit.then]
        refine bodyPost_ret (by simp [results, Try.results18, go_sem, q0, q1, q2, q3, q4]; try rfl) rfl ?_
        exact ⟨_, _, _, _, _, _, _, _, _, _, _, _, rfl, by omega, hd8, hm7, hd, hBq⟩
      | true =>
        have HIN := Lib.hid hR
        clear hR
        go_wp2_with fail
        go_loopw [6] (fun sv wr => ∃ (n1 : Nat) (A1 : Option Addr) (c1 : Nat) (L1 : List Int), n1 ≤ 41 ∧ sv = .slice A1 n1 c1 ∧ RW w wr b5 b7 B m cm L I H S P (.slice A1 n1 c1) n1 L1 B' m' c' L' I' H' S' P' ∧ Cur wr (w.heap.size + 1) A n c (2000 + n1 * 10)) (fun sv _ => 41 - lenV sv)
        case atStart => exact ⟨n1, _, _, L1, by omega, rfl, HIN.out, hC.weaken (by omega)⟩
        case round =>
          clear HIN
          obtain ⟨n1, A1, c1, L1, h41, rfl, hR, hC⟩ := hrel
          have HR := Lib.hid hR
          clear hR
          go_wp2_with fail
          refine (pick_any (w.heap.size + 1) n c _ 2 A wr hC hn (by omega) (by omega) (by omega)).mono ?_
          rintro e wb ⟨z, rfl, hz, hC, hf⟩
          have hR := HR.out.step hf hb5 hb7
          clear hf HR
          by_cases hlt : n1 < 40 + z
          · have hli : (n1 : Int) < 40 + (z : Int) := by omega
            have hi13 : (n1 : Int) ≤ 41 := by omega
            have HSb := Lib.hid hR.steps
            have HRb := Lib.hid hR
            have HCb := Lib.hid hC
            have hzb := hR.be.size
            have hz7 := (Array.getElem?_eq_some_iff.1 hR.box7).1
            clear hR hC
            go_wp2_with (at_builtin; go_loud (refine wpList_append_flat _ rfl _ _ 42 rfl (w.heap.size + 2) 28 4 32 (.agg #[.int .i64 0, .int .i64 0, .int .i64 0, .int .i64 0]) Try.underlying42 infoSt rfl (by decide) (by decide) L1 [6, 0, 0, 1] n1 1 _ _ rfl (HSb.out.alloc _) ⟨wb.heap.size, 0, none⟩ rfl rfl (lit_cellsS wb [6, 0, 0, 1] (cs := #[.int .i64 (6), .int .i64 (0), .int .i64 (0), .int .i64 (1)]) (t := 28) rfl) (by omega) (by simp; omega) ?_); intro v' w6 hO6 hg6)
            have hnl : Below wb.heap.size wb (wb.alloc (.cells #[.int .i64 6, .int .i64 0, .int .i64 0, .int .i64 1] 28)) := (Below.refl _ wb).alloc (Nat.le_refl _) _
            have HR6 := Lib.hid ((HRb.out.below hnl).app hg6 hO6)
            have HC6 := Lib.hid ((HCb.out.below hnl).app (by omega) (HSb.out.alloc _) hg6)
            obtain ⟨A2, c2, rfl, _, _⟩ := row_slice hO6
            clear hnl hg6 hO6 HRb HSb HCb
            go_wp2
            go_roundw
            case rel => exact ⟨n1 + 1, _, _, _, by omega, rfl, HR6.out, HC6.out.weaken (by omega)⟩
            case measure => simp [lenV]; omega
          · have hli : ¬ ((n1 : Int) < 40 + (z : Int)) := by omega
            have h5 := hR.box5
            have h2 := hR.res
            obtain ⟨e0, e1, e2, e3, e4⟩ := cells5 h5
            obtain ⟨r0, r1, r2, r3, r4⟩ := cells5 h2
            have rf : ∀ j, wb.frozen? ⟨w.heap.size, j, none⟩ = false := fun j => frozen_of_row wb (w.heap.size) j _ _ h2
            have hne : b5 ≠ w.heap.size := by omega
            have hne2 : w.heap.size ≠ b5 := by omega
            have HR := Lib.hid hR
            have H2 := Lib.hid h2
            clear h5 h2 hR hC
            go_wp2
            obtain ⟨wq, hwq⟩ : ∃ wq, wq = (((((wb.setCell ⟨w.heap.size, 0, none⟩ (.slice B m cm)).setCell ⟨w.heap.size, 1, none⟩ (.int .i64 I)).setCell ⟨w.heap.size, 2, none⟩ (.int .i64 H)).setCell ⟨w.heap.size, 3, none⟩ (.int .i64 S)).setCell ⟨w.heap.size, 4, none⟩ (.int .i64 P)) := ⟨_, rfl⟩
            rw [← hwq]
            have q0 : wq.cell? ⟨w.heap.size, 0, none⟩ = some (.slice B m cm) := by rw [hwq]; go_simp
            have q1 : wq.cell? ⟨w.heap.size, 1, none⟩ = some (.int .i64 I) := by rw [hwq]; go_simp
            have q2 : wq.cell? ⟨w.heap.size, 2, none⟩ = some (.int .i64 H) := by rw [hwq]; go_simp
            have q3 : wq.cell? ⟨w.heap.size, 3, none⟩ = some (.int .i64 S) := by rw [hwq]; go_simp
            have q4 : wq.cell? ⟨w.heap.size, 4, none⟩ = some (.int .i64 P) := by rw [hwq]; go_simp
            have no5 : ∀ j : Nat, (Value.slice B m cm).ownBlock ≠ some (⟨w.heap.size, j, none⟩ : Addr).block := fun j e => row_none_ne HR.out.own5 H2.out (by decide) e
            have nos : ∀ j : Nat, (Value.slice A1 n1 c1).ownBlock ≠ some (⟨w.heap.size, j, none⟩ : Addr).block := fun j e => row_none_ne HR.out.steps H2.out (by decide) e
            have h5q := (ownsRow_setCell_other (ownsRow_setCell_other (ownsRow_setCell_other (ownsRow_setCell_other (ownsRow_setCell_other HR.out.own5 (no5 0) (.slice B m cm)) (no5 1) (.int .i64 I)) (no5 2) (.int .i64 H)) (no5 3) (.int .i64 S)) (no5 4) (.int .i64 P))
            have hsq := (ownsRow_setCell_other (ownsRow_setCell_other (ownsRow_setCell_other (ownsRow_setCell_other (ownsRow_setCell_other HR.out.steps (nos 0) (.slice B m cm)) (nos 1) (.int .i64 I)) (nos 2) (.int .i64 H)) (nos 3) (.int .i64 S)) (nos 4) (.int .i64 P))
            have hBq := (((((HR.out.be.setCell (p := ⟨w.heap.size, 0, none⟩) (Nat.le_refl _) (.slice B m cm)).setCell (p := ⟨w.heap.size, 1, none⟩) (Nat.le_refl _) (.int .i64 I)).setCell (p := ⟨w.heap.size, 2, none⟩) (Nat.le_refl _) (.int .i64 H)).setCell (p := ⟨w.heap.size, 3, none⟩) (Nat.le_refl _) (.int .i64 S)).setCell (p := ⟨w.heap.size, 4, none⟩) (Nat.le_refl _) (.int .i64 P))
            rw [← hwq] at h5q hsq hBq
            obtain ⟨B9, c9, e9, hd⟩ := drawnRow_of 4 h5q (show w.heap.size ≤ w.heap.size + 2 by omega)
            cases e9
            obtain ⟨B8, c8, e8, hd8⟩ := drawnRow_of 4 hsq (show w.heap.size ≤ w.heap.size + 2 by omega)
            cases e8
            clear hwq h5q hsq HR H2
            try simp only [Exit.inBlock, Exit.then]
            refine bodyPost_ret (by simp [results, Try.results18, go_sem, q0, q1, q2, q3, q4]; try rfl) rfl ?_
            exact ⟨_, _, _, _, _, _, _, _, _, _, _, _, rfl, by omega, hd8, hm7, hd, hBq⟩
end Go.Proofs.Ytjhgpebppcbleaa
