/-
  workSpans: the runs of days of a span on which a pond is not quiet, in memory of the call's own.
-/
import Derived.Test.YtcecpioiagfoiaaNestF
import Derived.Test.YtcecpioiagfoiaaAppK
import Derived.Test.YtcecpioiagfoiaaSpans
import Derived.Test.YtcecpioiagfoiaaRegionQ
import Derived.Deep.LoopGhost
import Derived.Deep.Cut
import Derived.Lib.Hide
import Derived.Deep.QuietTactic
import Derived.BigQuiet
namespace Go.Proofs.Ytcecpioiagfoiaa
open Go.RowKit
set_option linter.unusedVariables false
set_option linter.unusedSimpArgs false
attribute [local go_sem ↓] Go.wp_at_zero Go.wp_at_succ
theorem infoI2 : (Try.prog.info? 48).map (fun i => (i.zero, i.size, i.bytes)) = some (some (.agg #[.int .i64 0, .int .i64 0]), 2, 16) := by kernel_rfl
def flatP (L : List (Int × Int)) : List Int := L.flatMap fun p => [p.1, p.2]
def flF (L : List (Int × Int)) : Nat → Int := fun j => (flatP L).getD j 0
theorem flatP_length (L : List (Int × Int)) : (flatP L).length = L.length * 2 := by
  induction L with
  | nil => rfl
  | cons p L ih => show (p.1 :: p.2 :: flatP L).length = _; simp only [List.length_cons, ih]; omega
theorem flatP_append (L M : List (Int × Int)) : flatP (L ++ M) = flatP L ++ flatP M := by simp [flatP]
theorem flatP_set (M : List (Int × Int)) (p : Int × Int) (d : Int) : (flatP (M ++ [p])).set (M.length * 2 + 1) d = flatP (M ++ [(p.1, d)]) := by
  rw [flatP_append, flatP_append, List.set_append_right _ _ (by rw [flatP_length]; omega), flatP_length]
  congr 1
  rw [show M.length * 2 + 1 - M.length * 2 = 1 by omega]
  rfl
theorem flatP_last (M : List (Int × Int)) (p : Int × Int) : (flatP (M ++ [p]))[M.length * 2 + 1]? = some p.2 := by
  rw [flatP_append, List.getElem?_append_right (by rw [flatP_length]; omega), flatP_length, show M.length * 2 + 1 - M.length * 2 = 1 by omega]
  rfl
/-- A row of runs that the call owns. -/
def SRow (w : World) (lo : Nat) (v : Value) (L : List (Int × Int)) : Prop := w.ownsRow lo 48 2 v L.length ((flatP L).map (Value.int .i64))
theorem SRow.below {w w' : World} {lo : Nat} {v : Value} {L : List (Int × Int)} (h : SRow w lo v L) (hb : Below w.heap.size w w') : SRow w' lo v L := ownsRow_below h hb
theorem SRow.form {w : World} {lo : Nat} {v : Value} {L : List (Int × Int)} (h : SRow w lo v L) : ∃ A c, v = .slice A L.length c ∧ L.length ≤ c ∧ c ≤ maxLen := by
  obtain ⟨A, c, e, h1, h2, _⟩ := own_of_row h
  exact ⟨A, c, e, h1, h2⟩
theorem SRow.last {w : World} {lo : Nat} {v : Value} {M : List (Int × Int)} {p : Int × Int} (h : SRow w lo v (M ++ [p])) :
    ∃ G c, v = .slice (some ⟨G, 0, none⟩) (M.length + 1) c ∧ M.length + 1 ≤ c ∧ c ≤ maxLen ∧ lo ≤ G ∧ G < w.heap.size ∧ w.cell? ⟨G, M.length * 2 + 1, none⟩ = some (.int .i64 p.2) ∧ w.frozen? ⟨G, M.length * 2 + 1, none⟩ = false ∧
      (∃ cur, w.heap[G]? = some (.cells cur 48 (0, 0))) ∧
      Hid (∀ w1 d, Below w.heap.size w w1 → SRow (w1.setCell ⟨G, M.length * 2 + 1, none⟩ (.int .i64 d)) lo v (M ++ [(p.1, d)])) := by
  have hh := h
  obtain ⟨hl, ⟨_, h0⟩ | ⟨G, cap, cur, rfl, hG0, hG, hnc, hcm, hcs, htake⟩⟩ := h
  · simp at h0
  simp only [List.length_append, List.length_cons, List.length_nil, Nat.zero_add] at hnc
  refine ⟨G, cap, by simp, hnc, hcm, hG0, (Array.getElem?_eq_some_iff.1 hG).1, ?_, by simp [World.frozen?, hG], ⟨cur, hG⟩, fun w1 d hb => ?_⟩
  · have := World.ownsRow.cellAt (g := G) (cap := cap) hh (M.length * 2 + 1) (by simp; omega)
    rw [this, List.getElem?_map, flatP_last]
    rfl
  · have h1 := World.ownsRow.stored (g := G) (cap := cap) (ownsRow_below hh hb) (M.length * 2 + 1) (.int .i64 d)
    have e : ((flatP (M ++ [p])).map (Value.int .i64)).set (M.length * 2 + 1) (.int .i64 d) = (flatP (M ++ [(p.1, d)])).map (Value.int .i64) := by
      rw [← List.map_set, flatP_set]
    have h2 := h1.1
    rw [e] at h2
    show World.ownsRow _ _ _ _ _ _ _
    simpa using h2
theorem SRow.app {W w w' : World} {v : Value} {L : List (Int × Int)} (h : Below W.heap.size W w) (hown : SRow w W.heap.size v L) (hg : w.grownBy w' v.ownBlock) : Below W.heap.size W w' := below_app h hown hg
/-- A variable's box that holds an int. -/
def IBox (w : World) (g : Nat) (d : Int) : Prop := w.heap[g]? = some (.cells #[.int .i64 d] 3 (0, 0))
theorem IBox.below {w w' : World} {g : Nat} {d : Int} (h : IBox w g d) (hb : Below w.heap.size w w') : IBox w' g d := (hb.block g (Array.getElem?_eq_some_iff.1 h).1).trans h
theorem IBox.lt {w : World} {g : Nat} {d : Int} (h : IBox w g d) : g < w.heap.size := (Array.getElem?_eq_some_iff.1 h).1
theorem IBox.cell {w : World} {g : Nat} {d : Int} (h : IBox w g d) : w.cell? ⟨g, 0, none⟩ = some (.int .i64 d) ∧ w.frozen? ⟨g, 0, none⟩ = false :=
  ⟨by rw [cell_of_row w g 0 _ _ (0, 0) h]; rfl, by unfold IBox at h; simp [World.frozen?, h]⟩
theorem IBox.of_eq {w : World} {g : Nat} {d d' : Int} (h : IBox w g d) (e : d = d') : IBox w g d' := e ▸ h
theorem IBox.new (w : World) (d : Int) : IBox (w.alloc (.cells #[.int .i64 d] 3)) w.heap.size d := heap_alloc_new w _
theorem IBox.set_other {w : World} {g : Nat} {d : Int} (h : IBox w g d) (p : Addr) (u : Value) (hp : p.block ≠ g) : IBox (w.setCell p u) g d :=
  (Below.heap_setCell _ _ _ _ (by exact fun e => hp e.symm)).trans h
theorem IBox.grown {w w' : World} {g lo : Nat} {d : Int} {v : Value} {L : List (Int × Int)} (h : IBox w g d) (hown : SRow w lo v L) (hg : w.grownBy w' v.ownBlock) : IBox w' g d :=
  (hg.block g h.lt (by
    intro he
    rcases hown.2 with ⟨rfl, _⟩ | ⟨G, cap, cur, rfl, _, hG, _⟩
    · simp [Value.ownBlock] at he
    · simp [Value.ownBlock] at he
      subst he
      unfold IBox at h
      rw [h] at hG
      simp at hG)).trans h
theorem IBox.ne {w : World} {g G : Nat} {d : Int} {cur : Array Value} (h : IBox w g d) (hG : w.heap[G]? = some (.cells cur 48 (0, 0))) : G ≠ g := by
  intro e
  subst e
  unfold IBox at h
  rw [h] at hG
  simp at hG
/-- What workSpans leaves. -/
def WsPost (w : World) (L : List (Int × Int)) (e : Ending) (w' : World) : Prop :=
  ∃ A c, e = .returned (.slice A L.length c) ∧ L.length ≤ c ∧ c ≤ maxLen ∧ Own w' w.heap.size w'.heap.size 48 2 A L.length (flF L) ∧ Below w.heap.size w w'
theorem WsPost.mk_ {w w' : World} {v : Value} {L : List (Int × Int)} (h : SRow w' w.heap.size v L) (hb : Below w.heap.size w w') : WsPost w L (.returned v) w' := by
  obtain ⟨A, c, rfl, h1, h2, h3⟩ := own_of_row h
  exact ⟨A, c, rfl, h1, h2, h3, hb⟩
theorem sp_yes {q : Int → Bool} {a : Int} {t : Nat} (h : q (a + t) = true) : sp q a (t + 1) = sp q a t := by
  show spStep q (sp q a t) (a + t) = _
  unfold spStep
  rw [if_pos h]
theorem sp_new {q : Int → Bool} {a : Int} {t : Nat} (h : q (a + t) = false) (hl : ∀ p, (sp q a t).getLast? = some p → p.2 ≠ a + t - 1) : sp q a (t + 1) = sp q a t ++ [(a + (t : Int), a + (t : Int))] := by
  show spStep q (sp q a t) (a + t) = _
  unfold spStep
  rw [if_neg (by simp [h])]
  split
  · rfl
  · rename_i p hp
    rw [if_neg (hl p hp)]
theorem sp_on {q : Int → Bool} {a : Int} {t : Nat} {M : List (Int × Int)} {p : Int × Int} (h : q (a + t) = false) (hM : sp q a t = M ++ [p]) (hp : p.2 = a + t - 1) : sp q a (t + 1) = M ++ [(p.1, a + (t : Int))] := by
  show spStep q (sp q a t) (a + t) = _
  unfold spStep
  rw [if_neg (by simp [h]), hM]
  simp [hp]

theorem cells_new (w : World) (zs : List Int) (cs : Array Value) (e : TypeId) (h : cs = (zs.map (Value.int .i64)).toArray) : ∀ j u, zs[j]? = some u → (w.alloc (.cells cs e)).cell? ((⟨w.heap.size, 0, none⟩ : Addr).add j) = some (.int .i64 u) := by
  intro j u hu
  rw [Addr.add_lit, Nat.zero_add, cell_of_row _ w.heap.size j cs e (0, 0) (heap_alloc_new w _), h]
  simp [hu]
theorem SRow.push {w : World} {lo : Nat} {v : Value} {L : List (Int × Int)} {d : Int} (h : w.ownsRow lo 48 2 v (L.length + 1) ((flatP L ++ [d, d]).map (Value.int .i64))) : SRow w lo v (L ++ [(d, d)]) := by
  unfold SRow
  rw [flatP_append, List.length_append]
  exact h

set_option maxRecDepth 100000 in
set_option maxHeartbeats 2000000 in
theorem workSpans_any (A : Option Addr) (n c lo hi : Nat) (f : Nat → Int) (pond a u : Int) (w : World) (hs : Sl w lo hi 7 A n f) (hn : n ≤ 1048576) (hnc : n ≤ c) (ha : 0 ≤ a) (hau : a ≤ u) (hu : u ≤ 4000) :
    Calls Try.prog 28 #[.slice A n c, .int .i64 pond, .int .i64 a, .int .i64 u] w (WsPost w (sp (quietAt f n pond) a ((u - a).toNat + 1))) := by
  have HS : Hid (Sl w lo hi 7 A n f) := hs
  clear hs
  have hmf : ∀ (fn : Fn) (first cap : Array Value) (w : World), (Instr.makeFunc fn first cap).run Try.prog w = .ok (.func fn first cap) w := fun _ _ _ _ => rfl
  go_enter Try.func28, Try.ntmps28
  go_wp2_with fail
  go_loopg [9, 10, 11] ((u - a).toNat + 1) (fun m sv dv kv wr => ∃ t g : Nat, m = ((u - a).toNat + 1) - t ∧ t ≤ (u - a).toNat + 1 ∧ dv = .pointer (some ⟨g, 0, none⟩) ∧ w.heap.size < g ∧ IBox wr g (a + t) ∧ SRow wr w.heap.size sv (sp (quietAt f n pond) a t) ∧ IBox wr w.heap.size pond ∧ Below w.heap.size w wr)
  case atStart => exact ⟨0, w.heap.size + 1, rfl, Nat.zero_le _, rfl, Nat.lt_succ_self _, by have h := IBox.new (w.alloc (.cells #[.int .i64 pond] 3)) a; simpa using h, World.ownsRow_nil _ _ _ _, (IBox.new w pond).below ((Below.refl _ _).alloc (Nat.le_refl _) _), ((Below.refl _ w).alloc (Nat.le_refl _) _).alloc (by simp) _⟩
  case round =>
    obtain ⟨t, g, hm, ht, rfl, hg, hbx, hrw, hpx, hB⟩ := hrel
    have hpb := Lib.hid hpx
    have hbox := Lib.hid hbx
    have hrow := Lib.hid hrw
    have HM := Lib.hid hm
    clear hbx hrw hm hpx
    have hpc := hpb.out.cell.1
    have hpl := hpb.out.lt
    have hdc := hbox.out.cell.1
    have hgl := hbox.out.lt
    have HL := Lib.hid (sp_len (quietAt f n pond) a t)
    by_cases hlt : t < (u - a).toNat + 1
    · have hle : a + (t : Int) ≤ u := by omega
      cases hq : quietAt f n pond (a + t) with
      | true =>
        go_wp2_with fail
        refine (nestContains_any A n c lo hi f pond (a + t) w.heap.size g wr (HS.out.below hB) hpc hpl hdc hgl hn hnc).mono ?_
        rintro e w2 ⟨rfl, hb2⟩
        rw [hq]
        have hpb2 := Lib.hid (hpb.out.below hb2)
        have hbox2 := Lib.hid (hbox.out.below hb2)
        have hdc2 := hbox2.out.cell.1
        have hgl2 := hbox2.out.lt
        have hrow2 := Lib.hid (hrow.out.below hb2)
        have hB2 := below_of hB hb2 hB.size
        clear hb2 hbox hrow hB hdc hpc hpl hgl hpb
        go_wp2_with fail
        go_roundg (((u - a).toNat + 1) - (t + 1))
        case measure => have := HM.out; omega
        case rel =>
          have hal2 := (Below.refl w2.heap.size w2).alloc (Nat.le_refl _) (.cells #[.int .i64 (a + (t : Int) + 1)] 3)
          have hbw := hB2
          have hpw : IBox w2 w.heap.size pond := hpb2.out
          exact ⟨t + 1, w2.heap.size, rfl, by omega, rfl, hpw.lt, (IBox.new w2 (a + (t : Int) + 1)).of_eq (by omega), by rw [sp_yes hq]; exact hrow2.out.below hal2, hpw.below hal2, below_of hbw hal2 hbw.size⟩
      | false =>
        go_wp2_with fail
        refine (nestContains_any A n c lo hi f pond (a + t) w.heap.size g wr (HS.out.below hB) hpc hpl hdc hgl hn hnc).mono ?_
        rintro e w2 ⟨rfl, hb2⟩
        rw [hq]
        have hpb2 := Lib.hid (hpb.out.below hb2)
        have hbox2 := Lib.hid (hbox.out.below hb2)
        have hdc2 := hbox2.out.cell.1
        have hgl2 := hbox2.out.lt
        have hrow2 := Lib.hid (hrow.out.below hb2)
        have hB2 := below_of hB hb2 hB.size
        clear hb2 hbox hrow hB hdc hpc hpl hgl hpb
        generalize hsl : sp (quietAt f n pond) a t = L at *
        obtain ⟨As, cs, he, hcs, hcsm⟩ := hrow2.out.form
        subst he
        have hLn : L.length ≤ 5000 := by have := HL.out; omega
        have HSL := Lib.hid hsl
        clear hsl
        obtain ⟨l, hl⟩ : ∃ l, l = L.length := ⟨_, rfl⟩
        rcases List.eq_nil_or_concat L with hnil | ⟨M, p, hcat⟩
        · have hl0 : l = 0 := by rw [hl, hnil]; rfl
          have hlz : ¬ ((0 : Int) < (l : Int)) := by omega
          have hlz2 : ¬ (0 < l) := by omega
          have hlz3 : decide ((0 : Int) < (l : Int)) = false := by simp; omega
          have hlz4 : decide (0 < l) = false := by simp; omega
          rw [← hl] at hrow2 ⊢
          have HLL := Lib.hid hl
          have HN := Lib.hid hnil
          clear hl hl0 hnil
          have hnw := Lib.hid (sp_new (q := quietAt f n pond) (a := a) (t := t) hq (by rw [HSL.out, HN.out]; simp))
          rw [HSL.out] at hnw
          go_wp2_with fail
          go_quiet (fail)
          have hHeld : Below w2.heap.size w2 (w2.drewN nq) := below_drewN (Below.refl _ _) _
          generalize w2.drewN nq = wq at hHeld ⊢
          have hrowq := Lib.hid (hrow2.out.below hHeld)
          have hboxq := Lib.hid (hbox2.out.below hHeld)
          have hdcq := hboxq.out.cell.1
          have hpbq := Lib.hid (hpb2.out.below hHeld)
          have hBq := below_of hB2 hHeld hB2.size
          have hszq := hBq.size
          clear hrow2 hbox2 hpb2 hB2 hdc2 hgl2 hHeld
          rw [HLL.out] at hrowq ⊢
          have hal := (Below.refl wq.heap.size wq).alloc (Nat.le_refl _) (.cells #[.int .i64 (a + (t : Int)), .int .i64 (a + (t : Int))] 48)
          have hro := Lib.hid (hrowq.out.below hal)
          have hcn := Lib.hid (cells_new wq [a + (t : Int), a + (t : Int)] #[.int .i64 (a + (t : Int)), .int .i64 (a + (t : Int))] 48 rfl)
          have hbn := Lib.hid (hboxq.out.below hal)
          have hpn := Lib.hid (hpbq.out.below hal)
          have hBn := below_of hBq hal hBq.size
          have hbs := hBn.size
          clear hal hBq hboxq hrowq hpbq
          go_wp2_with (at_builtin; refine wpList_append_flat _ rfl _ _ 46 rfl w.heap.size 48 2 16 (.agg #[.int .i64 0, .int .i64 0]) Try.underlying46 infoI2 rfl (by decide) (by decide) (flatP L) [a + (t : Int), a + (t : Int)] (L).length 1 1 (.slice As (L).length cs) rfl hro.out ⟨wq.heap.size, 0, none⟩ rfl rfl hcn.out (by omega) hbs ?_; intro v' w3 hown3 hgrow3; have hbx3 := Lib.hid (IBox.grown hbn.out hro.out hgrow3); have hdc3 := hbx3.out.cell.1; have hdf3 := hbx3.out.cell.2)
          go_roundg (((u - a).toNat + 1) - (t + 1))
          case measure => have := HM.out; omega
          case rel =>
            have hal2 := (Below.refl w3.heap.size w3).alloc (Nat.le_refl _) (.cells #[.int .i64 (a + (t : Int) + 1)] 3)
            have hbw := SRow.app hBn hro.out hgrow3
            have hpw : IBox w3 w.heap.size pond := IBox.grown hpn.out hro.out hgrow3
            exact ⟨t + 1, w3.heap.size, rfl, by omega, rfl, hpw.lt, (IBox.new w3 (a + (t : Int) + 1)).of_eq (by omega), by rw [hnw.out]; exact (SRow.push hown3).below hal2, hpw.below hal2, below_of hbw hal2 hbw.size⟩
        · have hcat' : L = M ++ [p] := by rw [hcat]; simp
          clear hcat
          subst hcat'
          obtain ⟨m, hm⟩ : ∃ m, m = M.length := ⟨_, rfl⟩
          have hlm : l = m + 1 := by rw [hl, hm]; simp
          have HLM := Lib.hid hlm
          obtain ⟨G, cG, he, hcG, hcGm, hG0, hGl, hGc, hGf, hGcur, hGset⟩ := hrow2.out.last
          simp only [Value.slice.injEq] at he
          obtain ⟨rfl, _, rfl⟩ := he
          obtain ⟨cur, hGcur⟩ := hGcur
          have hne := hbox2.out.ne hGcur
          have hne2 := hpb2.out.ne hGcur
          rw [← hm] at hGc hGf hGset hcG
          rw [← hl] at hrow2 ⊢
          have HMM := Lib.hid hm
          have HLL := Lib.hid hl
          have hlp : (0 : Int) < (l : Int) := by omega
          have hlp2 : (0 : Int) ≤ (l : Int) - 1 := by omega
          have hlp7 : decide ((0 : Int) < (l : Int)) = true := by simp; omega
          have hlp8 : decide (0 < l) = true := by simp; omega
          have hlp3 : (l : Int) - 1 < (l : Int) := by omega
          have hlp6 : (1 : Int) ≤ (l : Int) := by omega
          have hlp4 : ((l : Int) - 1).toNat = m := by omega
          have hlp5 : IntKind.i64.wrap ((l : Int) - 1) = (l : Int) - 1 := IntWalk.i64_in _ (by omega)
          have hdp5 : IntKind.i64.wrap (a + (t : Int) - 1) = a + (t : Int) - 1 := IntWalk.i64_in _ (by omega)
          clear hm hl hlm hGcur
          by_cases hpe : p.2 = a + t - 1
          · have hpb1 : (p.2 == a + (t : Int) - 1) = true := by simp [hpe]
            have hon := Lib.hid (sp_on hq HSL.out hpe)
            clear hpe
            go_wp2_with fail
            go_quiet (fail)
            have hHeld : Below w2.heap.size w2 (w2.drewN nq) := below_drewN (Below.refl _ _) _
            generalize w2.drewN nq = wq at hHeld ⊢
            have hGcq := (hHeld.cell (p := ⟨G, m * 2 + 1, none⟩) hGl).trans hGc
            have hGfq := (hHeld.frozen (p := ⟨G, m * 2 + 1, none⟩) hGl).trans hGf
            have hGsq : Hid (SRow (wq.setCell ⟨G, m * 2 + 1, none⟩ (.int .i64 (a + t))) w.heap.size (.slice (some ⟨G, 0, none⟩) l cs) (M ++ [(p.1, a + (t : Int))])) := by
              have h := hGset.out wq (a + t) hHeld
              rwa [← HLL.out] at h
            have hrowq := Lib.hid (hrow2.out.below hHeld)
            have hboxq := Lib.hid (hbox2.out.below hHeld)
            have hdcq := hboxq.out.cell.1
            have hpbq := Lib.hid (hpb2.out.below hHeld)
            have hBq := below_of hB2 hHeld hB2.size
            have hszq := hBq.size
            clear hrow2 hbox2 hpb2 hB2 hdc2 hgl2 hHeld
            clear hGc hGf hGset hpb1
            have hne3 : g ≠ G := fun e => hne e.symm
            go_wp2
            go_region
            all_goals
              clear hGcq hGfq
              have hbs2 := Lib.hid (IBox.set_other hboxq.out ⟨G, m * 2 + 1, none⟩ (.int .i64 (a + t)) hne)
              have hps2 := Lib.hid (IBox.set_other hpbq.out ⟨G, m * 2 + 1, none⟩ (.int .i64 (a + t)) hne2)
              have hBs2 := hBq.setCell (p := ⟨G, m * 2 + 1, none⟩) hG0 (.int .i64 (a + t))
              have hsz : (wq.setCell ⟨G, m * 2 + 1, none⟩ (.int .i64 (a + t))).heap.size = wq.heap.size := by simp [World.setCell]
              have HSZ := Lib.hid hsz
              clear hsz
              go_wp2
              go_roundg (((u - a).toNat + 1) - (t + 1))
              case measure => have := HM.out; omega
              case rel =>
                have hal2 := (Below.refl (wq.setCell ⟨G, m * 2 + 1, none⟩ (.int .i64 (a + t))).heap.size (wq.setCell ⟨G, m * 2 + 1, none⟩ (.int .i64 (a + t)))).alloc (Nat.le_refl _) (.cells #[.int .i64 (a + (t : Int) + 1)] 3)
                have hw := IBox.new (wq.setCell ⟨G, m * 2 + 1, none⟩ (.int .i64 (a + t))) (a + (t : Int) + 1)
                rw [HSZ.out] at hw
                have hg2 := hps2.out.lt
                rw [HSZ.out] at hg2
                exact ⟨t + 1, wq.heap.size, rfl, by omega, rfl, hg2, hw.of_eq (by omega), by rw [hon.out]; exact hGsq.out.below hal2.drew, hps2.out.below hal2.drew, (below_of hBs2 hal2 hBs2.size).drew⟩
          · have hpb1 : (p.2 == a + (t : Int) - 1) = false := by simp [hpe]
            have hnw := Lib.hid (sp_new (q := quietAt f n pond) (a := a) (t := t) hq (by rw [HSL.out]; intro p' h'; simp at h'; subst h'; exact hpe))
            rw [HSL.out] at hnw
            clear hpe
            go_wp2_with fail
            go_quiet (fail)
            have hHeld : Below w2.heap.size w2 (w2.drewN nq) := below_drewN (Below.refl _ _) _
            generalize w2.drewN nq = wq at hHeld ⊢
            have hrowq := Lib.hid (hrow2.out.below hHeld)
            have hboxq := Lib.hid (hbox2.out.below hHeld)
            have hdcq := hboxq.out.cell.1
            have hpbq := Lib.hid (hpb2.out.below hHeld)
            have hBq := below_of hB2 hHeld hB2.size
            have hszq := hBq.size
            clear hrow2 hbox2 hpb2 hB2 hdc2 hgl2 hHeld
            clear hGset hGc hGf hlp hlp2 hlp3 hlp4 hlp5 hlp6 hdp5
            rw [HLL.out] at hrowq ⊢
            have hal := (Below.refl wq.heap.size wq).alloc (Nat.le_refl _) (.cells #[.int .i64 (a + (t : Int)), .int .i64 (a + (t : Int))] 48)
            have hro := Lib.hid (hrowq.out.below hal)
            have hcn := Lib.hid (cells_new wq [a + (t : Int), a + (t : Int)] #[.int .i64 (a + (t : Int)), .int .i64 (a + (t : Int))] 48 rfl)
            have hbn := Lib.hid (hboxq.out.below hal)
            have hpn := Lib.hid (hpbq.out.below hal)
            have hBn := below_of hBq hal hBq.size
            have hbs := hBn.size
            clear hal hBq hboxq hrowq hpbq
            go_wp2_with (at_builtin; refine wpList_append_flat _ rfl _ _ 46 rfl w.heap.size 48 2 16 (.agg #[.int .i64 0, .int .i64 0]) Try.underlying46 infoI2 rfl (by decide) (by decide) (flatP (M ++ [p])) [a + (t : Int), a + (t : Int)] ((M ++ [p])).length 1 1 (.slice (some ⟨G, 0, none⟩) ((M ++ [p])).length cs) rfl hro.out ⟨wq.heap.size, 0, none⟩ rfl rfl hcn.out (by omega) hbs ?_; intro v' w3 hown3 hgrow3; have hbx3 := Lib.hid (IBox.grown hbn.out hro.out hgrow3); have hdc3 := hbx3.out.cell.1; have hdf3 := hbx3.out.cell.2)
            go_roundg (((u - a).toNat + 1) - (t + 1))
            case measure => have := HM.out; omega
            case rel =>
              have hal2 := (Below.refl w3.heap.size w3).alloc (Nat.le_refl _) (.cells #[.int .i64 (a + (t : Int) + 1)] 3)
              have hbw := SRow.app hBn hro.out hgrow3
              have hpw : IBox w3 w.heap.size pond := IBox.grown hpn.out hro.out hgrow3
              exact ⟨t + 1, w3.heap.size, rfl, by omega, rfl, hpw.lt, (IBox.new w3 (a + (t : Int) + 1)).of_eq (by omega), by rw [hnw.out]; exact (SRow.push hown3).below hal2, hpw.below hal2, below_of hbw hal2 hbw.size⟩
    · have hle : ¬ (a + (t : Int) ≤ u) := by omega
      have hte : Hid (t = (u - a).toNat + 1) := by show _ = _; omega
      go_wp2_with fail
      go_ret
      rw [← hte.out]
      exact WsPost.mk_ hrow.out hB
end Go.Proofs.Ytcecpioiagfoiaa
