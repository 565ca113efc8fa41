/-
  Texts of this claim, merged.
-/
import Derived.Test.YtpndjhelpoenpaaGreatDoorXA6
set_option linter.unusedVariables false
set_option linter.unusedSimpArgs false
set_option maxRecDepth 100000
set_option maxHeartbeats 8000000
namespace Go.Proofs.YtpndjhelpoenpaaGreatDoor
open Go.RowKit
attribute [local go_sem ↓] Go.wp_at_zero Go.wp_at_succ
def aheadB (k : Int) : BA := numB k ++ ⟨#[32]⟩
def restB (k : Int) (s : BA) : BA := (bef 35 s).extract (aheadB k).size (bef 35 s).size
def repB (k : Int) (s : BA) : BA := (restB k s).extract ((bef 64 (restB k s)).size + 1) (restB k s).size
theorem spec_facts {k : Int} {s c r : BA} (h0 : 0 ≤ k) (h : dec k s = some (c, r)) : ¬ (bef 35 s).size < (aheadB k).size ∧ (bef 35 s).extract 0 (aheadB k).size = aheadB k ∧ bef 64 (restB k s) = c ∧ (bef 64 (restB k s)).size ≠ (restB k s).size ∧ repB k s = r := by
 obtain ⟨h1, h2⟩ := spec_dec h0 h
 have h1' : bef 35 s = aheadB k ++ ((c ++ ⟨#[64]⟩) ++ r) := h1
 have hr : restB k s = (c ++ ⟨#[64]⟩) ++ r := by unfold restB; rw [h1']; exact ext_right rfl
 have h64 : (ByteArray.mk #[64]).size = 1 := rfl
 refine ⟨?_, ?_, ?_, ?_, ?_⟩
 ·rw [h1', size_app]; omega
 ·rw [h1']; exact ext_left _ _
 ·rw [hr]; exact h2
 ·rw [hr, h2, size_app, size_app]; omega
 ·unfold repB
  rw [hr, h2]
  have : c.size + 1 = (c ++ ⟨#[64]⟩).size := by rw [size_app]; rfl
  rw [this]
  exact ext_right rfl
theorem spec_none {k : Int} {s : BA} (h0 : 0 ≤ k) (h : (bef 35 s).size < (aheadB k).size ∨ (bef 35 s).extract 0 (aheadB k).size ≠ aheadB k ∨ (bef 64 (restB k s)).size = (restB k s).size ∨ lineIs k (bef 64 (restB k s)) (repB k s) s = false) : dec k s = none := by
 cases hd : dec k s with
 | none => rfl
 | some e =>
  exfalso
  obtain ⟨c, r⟩ := e
  obtain ⟨a1, a2, a3, a4, a5⟩ := spec_facts h0 hd
  rcases h with h | h | h | h
  ·exact a1 h
  ·exact h a2
  ·exact a4 h
  ·rw [a3, a5, dec_some hd] at h; cases h
theorem split_val {w : World} {lo : Nat} {v : Value} {P : List BA} {x : BA} (h : w.ownsRow lo 9 1 v P.length (P.map Value.string)) (h1 : 1 ≤ P.length) (hx : P.headD ⟨#[]⟩ = x) :
  ∃ g c, v = .slice (some ⟨g, 0, none⟩) P.length c ∧ cE w g 0 (.string x) := by
 rcases h.2 with ⟨_, h0⟩ | ⟨g, cap, cur, rfl, _, hg, _⟩
 ·omega
 ·refine ⟨g, cap, rfl, ?_⟩
  have := h.cells (g := g) rfl 0 (.string x) (by
   cases P with
   | nil => simp at h1
   | cons y P => simp at hx; subst hx; rfl)
  simpa [Addr.add] using this
theorem zero_row {w w' : World} (h : bW (w.alloc (.cells (sV ⟨#[]⟩ ⟨#[]⟩) 70)) w') : w'.heap[w.heap.size]? = some (.cells (sV ⟨#[]⟩ ⟨#[]⟩) 70 (0, 0)) :=
 (h.block w.heap.size (by simp)).trans (heap_alloc_new w _)
theorem row2 {w : World} {g : Nat} {p q : BA} (h : w.heap[g]? = some (.cells (sV p q) 70 (0, 0))) : cE w g 0 (.string p) ∧ cE w g 1 (.string q) ∧ w.frozen? ⟨g, 0, none⟩ = false ∧ w.frozen? ⟨g, 1, none⟩ = false := by
 refine ⟨by rw [cell_of_row w g 0 _ _ (0, 0) h]; rfl, by rw [cell_of_row w g 1 _ _ (0, 0) h]; rfl, by simp [World.frozen?, h], by simp [World.frozen?, h]⟩
theorem row2_set {w : World} {g : Nat} {p q x y : BA} (h : w.heap[g]? = some (.cells (sV p q) 70 (0, 0))) : ((w.setCell ⟨g, 0, none⟩ (.string x)).setCell ⟨g, 1, none⟩ (.string y)).heap[g]? = some (.cells (sV x y) 70 (0, 0)) := by
 exact z63
def ReadPost (w : World) (k : Int) (s : BA) (e : Ending) (w' : World) : Prop :=
 (∃ c r b, e = .returned (.tuple #[.agg (sV c r), .bool b]) ∧ (b = true → dec k s = some (c, r)) ∧ (b = false → dec k s = none)) ∧ bW w w'
theorem l27Read_any (s : BA) (k : Int) (h0 : 0 ≤ k) (h1 : k ≤ 59) (hs : s.size ≤ 4000000) (w : World) :
  Calls Tryz.prog 148 #[.string s, .int .i64 k] w (ReadPost w k s) := by
 have HAL : bW w (w.alloc (.cells (sV ⟨#[]⟩ ⟨#[]⟩) 70)) := (Below.refl _ w).alloc nL _
 have hts := bef_size 35 s
 have hnz := numB_size (n := k) (by omega) (by omega)
 have hAz : (aheadB k).size ≤ 22 := by
  have := numB_size (n := k) (by omega) (by omega)
  simp only [aheadB, ByteArray.size_append', ByteArray.size_mk', List.size_toArray, List.length_cons, List.length_nil]; omega
 have hAdef : Hid (numB k ++ ⟨#[32]⟩ = aheadB k) := rfl
 have HSN := lh (spec_none (k := k) (s := s) h0)
 have hrs : (restB k s).size ≤ 4000000 := by unfold restB; simp [ByteArray.size_extract]; omega
 have hask := bef_size 64 (restB k s)
 have hrp : (repB k s).size ≤ 4000000 := by unfold repB; simp [ByteArray.size_extract]; omega
 have hRdef : Hid ((bef 35 s).extract (aheadB k).size (bef 35 s).size = restB k s) := rfl
 have hPdef : Hid ((restB k s).extract ((bef 64 (restB k s)).size + 1) (restB k s).size = repB k s) := rfl
 have HDI := lh (fun h => dec_of_is (k := k) (c := bef 64 (restB k s)) (r := repB k s) (line := s) h0 h)
 by_cases c1 : (bef 35 s).size < (aheadB k).size
 ·have hNone : Hid (dec k s = none) := HSN.out (.inl c1)
  have c1i : ((bef 35 s).size : Int) < ((aheadB k).size : Int) := by omega
  go_enter Tryz.func148, Tryz.ntmps148
  go_wp2_with fail
  refine z64 ?_
  intro w1 hb1
  go_wp2_with fail
  refine (l1Split_any s 35 hs w1).mono ?_
  rintro e w2 ⟨v2, P2, rfl, hown2, hP1, hPh, _, _, hb2⟩
  revert hb1 v2 hown2 hP1 hPh hb2
  refine z65 ?_
  intro hbx g2 c2 hc2 hP2 hP3 h4_ z0 z1 z2 z3 B2 lt2
  go_wp2_with fail
  obtain ⟨a0, a1, _, _⟩ := row2 (row2_set (x := ⟨#[]⟩) (y := ⟨#[]⟩) h4_)
  have BZ := (B2.setCell (p := ⟨w.heap.size, 0, none⟩) nL (.string ⟨#[]⟩)).setCell (p := ⟨w.heap.size, 1, none⟩) nL (.string ⟨#[]⟩)
  generalize (w2.setCell ⟨w.heap.size, 0, none⟩ (.string ⟨#[]⟩)).setCell ⟨w.heap.size, 1, none⟩ (.string ⟨#[]⟩) = WZ at *
  (refine z66 ?_); refine bodyPost_ret (by simp [results, Tryz.results148, go_sem, a0, a1]; try rfl) rfl ?_
  exact z67
 ·have c1i : ¬ (((bef 35 s).size : Int) < ((aheadB k).size : Int)) := by omega
  have c1j : ((aheadB k).size : Int) ≤ ((bef 35 s).size : Int) := by omega
  have c1k : (0 : Int) ≤ ((aheadB k).size : Int) := by omega
  by_cases c2 : (bef 35 s).extract 0 (aheadB k).size = aheadB k
  ·have hcm : (((bef 35 s).extract 0 (aheadB k).size).toList == (aheadB k).toList) = true := by rw [toList_beq, c2]; simp
   clear c2
   by_cases c3 : (bef 64 (restB k s)).size = (restB k s).size
   ·have hNone : Hid (dec k s = none) := HSN.out (.inr (.inr (.inl c3)))
    have c3i : (((bef 64 (restB k s)).size : Int) == ((restB k s).size : Int)) = true := by rw [c3]; simp
    go_enter Tryz.func148, Tryz.ntmps148
    go_wp2_with fail
    refine z64 ?_
    intro w1 hb1
    go_wp2_with fail
    refine (l1Split_any s 35 hs w1).mono ?_
    rintro e w2 ⟨v2, P2, rfl, hown2, hP1, hPh, _, _, hb2⟩
    revert hb1 v2 hown2 hP1 hPh hb2
    refine z65 ?_
    intro hbx g2 c2 hc2 hP2 hP3 h4_ z0 z1 z2 z3 B2 lt2
    go_wp2_with fail
    refine z68 ?_
    rintro e w3 ⟨v3, P3, rfl, hown3, hQ1, hQh, _, _, hb3⟩
    revert hc2 z0 z1 z2 z3 v3 hown3 hQ1 hQh
    refine z69 ?_
    intro g3 c3' hc3 hQ2 hQ3 B3 lt3 h4w3 y0 y1 y2 y3
    go_wp2_with fail
    obtain ⟨a0, a1, _, _⟩ := row2 (row2_set (x := ⟨#[]⟩) (y := ⟨#[]⟩) h4w3)
    have BZ := (B3.setCell (p := ⟨w.heap.size, 0, none⟩) nL (.string ⟨#[]⟩)).setCell (p := ⟨w.heap.size, 1, none⟩) nL (.string ⟨#[]⟩)
    generalize (w3.setCell ⟨w.heap.size, 0, none⟩ (.string ⟨#[]⟩)).setCell ⟨w.heap.size, 1, none⟩ (.string ⟨#[]⟩) = WZ at *
    (refine z66 ?_); refine bodyPost_ret (by simp [results, Tryz.results148, go_sem, a0, a1]; try rfl) rfl ?_
    exact z67
   ·have c3i : (((bef 64 (restB k s)).size : Int) == ((restB k s).size : Int)) = false := by simp; omega
    have c3j : ((bef 64 (restB k s)).size : Int) + 1 ≤ ((restB k s).size : Int) := by omega
    have c3k : (0 : Int) ≤ ((bef 64 (restB k s)).size : Int) + 1 := by omega
    have hci : ((bef 64 (restB k s)).size : Int) ≤ 9223372036854775807 := by omega
    have hri : ((repB k s).size : Int) ≤ 9223372036854775807 := by omega
    cases hg : goodRec (bef 64 (restB k s)) (repB k s) with
    | false =>
     have hli : lineIs k (bef 64 (restB k s)) (repB k s) s = false := by rw [lineIs, hg]; rfl
     refine z70 ?_
     intro hNn hT hFf
     clear hNn hli
     go_enter Tryz.func148, Tryz.ntmps148
     go_wp2_with fail
     refine z64 ?_
     intro w1 hb1
     go_wp2_with fail
     refine (l1Split_any s 35 hs w1).mono ?_
     rintro e w2 ⟨v2, P2, rfl, hown2, hP1, hPh, _, _, hb2⟩
     revert hb1 v2 hown2 hP1 hPh hb2
     refine z65 ?_
     intro hbx g2 c2 hc2 hP2 hP3 h4_ z0 z1 z2 z3 B2 lt2
     go_wp2_with fail
     refine z68 ?_
     rintro e w3 ⟨v3, P3, rfl, hown3, hQ1, hQh, _, _, hb3⟩
     revert hc2 z0 z1 z2 z3 v3 hown3 hQ1 hQh
     refine z69 ?_
     intro g3 c3' hc3 hQ2 hQ3 B3 lt3 h4w3 y0 y1 y2 y3
     go_wp2_with fail
     rw [hPdef.out]
     generalize hask2 : bef 64 (restB k s) = ask at *
     generalize hrp2 : repB k s = rp at *
     revert lt3
     refine z71 ?_
     intro hlt4 W h4_W lt_W B_W g10 lt3 hne S_W lg_W
     revert S_W
     refine z72 ?_
     intro W jd h4_W lt_W lg_W B_W K hK wa hb_wa h4_wa lt_wa B_wa S_wa lg_wa
     refine hK.out _ _ S_wa (fun jd => ?_)
     clear hK K
     refine tj 3 56 (lh fun _ h => h) rfl jd ?_
     refine wpAnyH_skips (by exact z12) (fun _ _ _ _ _ h => h) jd [(4, 57), (5, 58), (6, 59), (7, 60), (8, 61), (9, 62)] 3 6 _ _ rfl (by exact z12) ?_
     refine z47 ?_
     refine tj 10 63 (lh fun _ h => h) rfl jd ?_
     refine wpAnyH_ready (rs := [11]) (by exact z12) (by simp) ?_
     refine (AllReadyH.cons rfl (fun K hK => ?_) AllReadyH.nil)
     obtain ⟨z0, z1, z2, z3⟩ := row2 h4_wa
     have h4x := row2_set (x := ask) (y := rp) h4_wa
     have B_wb : bW w ((wa.setCell ⟨w.heap.size, 0, none⟩ (.string ask)).setCell ⟨w.heap.size, 1, none⟩ (.string rp)) := (B_wa.setCell nL _).setCell nL _
     have S_wb : cE ((wa.setCell ⟨w.heap.size, 0, none⟩ (.string ask)).setCell ⟨w.heap.size, 1, none⟩ (.string rp)) g10 0 (.string ask) ∧ cE ((wa.setCell ⟨w.heap.size, 0, none⟩ (.string ask)).setCell ⟨w.heap.size, 1, none⟩ (.string rp)) g10 1 (.string rp) := by
      refine ⟨?_, ?_⟩ <;> (rw [World.cell?_setCell_far _ _ _ _ (by exact hne), World.cell?_setCell_far _ _ _ _ (by exact hne)]; first | exact jd.1 | exact jd.2)
     have lt_wb : w.heap.size < ((wa.setCell ⟨w.heap.size, 0, none⟩ (.string ask)).setCell ⟨w.heap.size, 1, none⟩ (.string rp)).heap.size := by simpa [World.setCell] using lt_wa
     have lg_wb : g10 < ((wa.setCell ⟨w.heap.size, 0, none⟩ (.string ask)).setCell ⟨w.heap.size, 1, none⟩ (.string rp)).heap.size := by simpa [World.setCell] using lg_wa
     go_simp
     generalize ((wa.setCell ⟨w.heap.size, 0, none⟩ (.string ask)).setCell ⟨w.heap.size, 1, none⟩ (.string rp)) = wb at *
     have h4_wb := h4x
     refine hK.out _ _ S_wb (fun jd => ?_)
     clear hK K z0 z1 z2 z3 h4x
     refine tj 12 5 (lh fun _ h => h) rfl jd ?_
     refine z49 ?_
     obtain ⟨z0, z1, z2, z3⟩ := row2 h4_wb
     go_wp2_with fail
     (refine z66 ?_); refine bodyPost_ret (by simp [results, Tryz.results148, go_sem, z0, z1]; try rfl) rfl ?_
     exact ⟨⟨_, _, _, rfl, by first | exact hT.out | exact fun _ => hT.out trivial | (intro h; cases h), by first | exact hFf.out | exact fun _ => hFf.out trivial | (intro h; cases h)⟩, B_wb⟩
    | true =>
     obtain ⟨_, hc1', hr1', _⟩ := goodRec_facts hg
     have hc1 : (bef 64 (restB k s)).size ≤ 1048576 := by omega
     have hr1 : (repB k s).size ≤ 1048576 := by omega
     by_cases hsl : sealB (bodyB k (bef 64 (restB k s)) (repB k s)) = s
     ·have hli : lineIs k (bef 64 (restB k s)) (repB k s) s = true := by simp [lineIs, hg, hsl]
      have hTn := HDI.out hli
      have hT : Hid (true = true → dec k s = some (bef 64 (restB k s), repB k s)) := fun _ => hTn
      have hFf : Hid (true = false → dec k s = none) := fun h => by cases h
      have hcmp : ((lineB k (bef 64 (restB k s)) (repB k s)).toList == (s ++ ⟨#[10]⟩).toList) = true := by rw [toList_beq, lineB, hsl]; simp
      clear hTn hli hsl HDI HSN
      go_enter Tryz.func148, Tryz.ntmps148
      go_wp2_with fail
      refine z64 ?_
      intro w1 hb1
      go_wp2_with fail
      refine (l1Split_any s 35 hs w1).mono ?_
      rintro e w2 ⟨v2, P2, rfl, hown2, hP1, hPh, _, _, hb2⟩
      revert hb1 v2 hown2 hP1 hPh hb2
      refine z65 ?_
      intro hbx g2 c2 hc2 hP2 hP3 h4_ z0 z1 z2 z3 B2 lt2
      go_wp2_with fail
      refine z68 ?_
      rintro e w3 ⟨v3, P3, rfl, hown3, hQ1, hQh, _, _, hb3⟩
      revert hc2 z0 z1 z2 z3 v3 hown3 hQ1 hQh
      refine z69 ?_
      intro g3 c3' hc3 hQ2 hQ3 B3 lt3 h4w3 y0 y1 y2 y3
      go_wp2_with fail
      rw [hPdef.out]
      generalize hask2 : bef 64 (restB k s) = ask at *
      generalize hrp2 : repB k s = rp at *
      revert lt3
      refine z71 ?_
      intro hlt4 W h4_W lt_W B_W g10 lt3 hne S_W lg_W
      revert S_W
      refine z72 ?_
      intro W jd h4_W lt_W lg_W B_W K hK wa hb_wa h4_wa lt_wa B_wa S_wa lg_wa
      refine hK.out _ _ S_wa (fun jd => ?_)
      clear hK K
      refine z74 ?_
      intro wb hb_wb h4_wb lt_wb B_wb S_wb lg_wb jd K hK z0 z1 z2 z3 wc h4x B_wc S_wc lt_wc lg_wc h4_wc
      refine hK.out _ _ S_wc (fun jd => ?_)
      clear hK K z0 z1 z2 z3 h4x
      refine tj 12 5 (lh fun _ h => h) rfl jd ?_
      refine z49 ?_
      obtain ⟨z0, z1, z2, z3⟩ := row2 h4_wc
      go_wp2_with fail
      (refine z66 ?_); refine bodyPost_ret (by simp [results, Tryz.results148, go_sem, z0, z1]; try rfl) rfl ?_
      exact z75
     ·have hli : lineIs k (bef 64 (restB k s)) (repB k s) s = false := by simp [lineIs, hsl]
      refine z70 ?_
      intro hNn hT hFf
      have hcmp : ((lineB k (bef 64 (restB k s)) (repB k s)).toList == (s ++ ⟨#[10]⟩).toList) = false := by
       rw [toList_beq]
       refine decide_eq_false (fun e => hsl ?_)
       have := congrArg (fun x : BA => x.data.toList) e
       simp only [lineB, Joins.data_append] at this
       exact ba_ext (List.append_cancel_right this)
      clear hNn hli hsl HDI HSN
      go_enter Tryz.func148, Tryz.ntmps148
      go_wp2_with fail
      refine z64 ?_
      intro w1 hb1
      go_wp2_with fail
      refine (l1Split_any s 35 hs w1).mono ?_
      rintro e w2 ⟨v2, P2, rfl, hown2, hP1, hPh, _, _, hb2⟩
      revert hb1 v2 hown2 hP1 hPh hb2
      refine z65 ?_
      intro hbx g2 c2 hc2 hP2 hP3 h4_ z0 z1 z2 z3 B2 lt2
      go_wp2_with fail
      refine z68 ?_
      rintro e w3 ⟨v3, P3, rfl, hown3, hQ1, hQh, _, _, hb3⟩
      revert hc2 z0 z1 z2 z3 v3 hown3 hQ1 hQh
      refine z69 ?_
      intro g3 c3' hc3 hQ2 hQ3 B3 lt3 h4w3 y0 y1 y2 y3
      go_wp2_with fail
      rw [hPdef.out]
      generalize hask2 : bef 64 (restB k s) = ask at *
      generalize hrp2 : repB k s = rp at *
      revert lt3
      refine z71 ?_
      intro hlt4 W h4_W lt_W B_W g10 lt3 hne S_W lg_W
      revert S_W
      refine z72 ?_
      intro W jd h4_W lt_W lg_W B_W K hK wa hb_wa h4_wa lt_wa B_wa S_wa lg_wa
      refine hK.out _ _ S_wa (fun jd => ?_)
      clear hK K
      refine z74 ?_
      intro wb hb_wb h4_wb lt_wb B_wb S_wb lg_wb jd K hK z0 z1 z2 z3 wc h4x B_wc S_wc lt_wc lg_wc h4_wc
      refine hK.out _ _ S_wc (fun jd => ?_)
      clear hK K z0 z1 z2 z3 h4x
      refine tj 12 5 (lh fun _ h => h) rfl jd ?_
      refine z49 ?_
      obtain ⟨z0, z1, z2, z3⟩ := row2 h4_wc
      go_wp2_with fail
      (refine z66 ?_); refine bodyPost_ret (by simp [results, Tryz.results148, go_sem, z0, z1]; try rfl) rfl ?_
      exact z75
  ·have hNone : Hid (dec k s = none) := HSN.out (.inr (.inl c2))
   have hcm : (((bef 35 s).extract 0 (aheadB k).size).toList == (aheadB k).toList) = false := by rw [toList_beq]; simp [c2]
   clear c2
   go_enter Tryz.func148, Tryz.ntmps148
   go_wp2_with fail
   refine z64 ?_
   intro w1 hb1
   go_wp2_with fail
   refine (l1Split_any s 35 hs w1).mono ?_
   rintro e w2 ⟨v2, P2, rfl, hown2, hP1, hPh, _, _, hb2⟩
   revert hb1 v2 hown2 hP1 hPh hb2
   refine z65 ?_
   intro hbx g2 c2 hc2 hP2 hP3 h4_ z0 z1 z2 z3 B2 lt2
   go_wp2_with fail
   obtain ⟨a0, a1, _, _⟩ := row2 (row2_set (x := ⟨#[]⟩) (y := ⟨#[]⟩) h4_)
   have BZ := (B2.setCell (p := ⟨w.heap.size, 0, none⟩) nL (.string ⟨#[]⟩)).setCell (p := ⟨w.heap.size, 1, none⟩) nL (.string ⟨#[]⟩)
   generalize (w2.setCell ⟨w.heap.size, 0, none⟩ (.string ⟨#[]⟩)).setCell ⟨w.heap.size, 1, none⟩ (.string ⟨#[]⟩) = WZ at *
   (refine z66 ?_); refine bodyPost_ret (by simp [results, Tryz.results148, go_sem, a0, a1]; try rfl) rfl ?_
   exact z67
end Go.Proofs.YtpndjhelpoenpaaGreatDoor
namespace Go.Proofs.YtpndjhelpoenpaaGreatDoor
open Go.RowKit
attribute [local go_sem ↓] Go.wp_at_zero Go.wp_at_succ
theorem split_val2 {w : World} {lo : Nat} {v : Value} {P : List BA} {x : BA} (h : w.ownsRow lo 9 1 v P.length (P.map Value.string)) (h1 : 1 ≤ P.length) (hx : P.headD ⟨#[]⟩ = x) :
  ∃ g c cur, v = .slice (some ⟨g, 0, none⟩) P.length c ∧ cE w g 0 (.string x) ∧ w.heap[g]? = some (.cells cur 9 (0, 0)) := by
 obtain ⟨g, c, rfl, hc⟩ := split_val h h1 hx
 rcases h.2 with ⟨h2, _⟩ | ⟨g', cap, cur, h2, _, hg, _⟩
 ·cases h2
 ·simp only [Value.slice.injEq, Option.some.injEq, Addr.mk.injEq, and_true, true_and] at h2
  obtain ⟨rfl, _⟩ := h2
  exact ⟨g, c, cur, rfl, hc, hg⟩
theorem far_cell {w2 W8 w7 : World} {g : Nat} {cur : Array Value} {x : Value} {base n : Nat} {v : Value} {xs : List Value} (hgrow : W8.grownBy w7 v.ownBlock) (hown : W8.ownsRow base 70 2 v n xs) (hb : bW w2 W8)
  (hh : w2.heap[g]? = some (.cells cur 9 (0, 0))) (hc : cE w2 g 0 x) : cE w7 g 0 x := by
 have hlt := (gL hh)
 have h8 := (hb.block g hlt).trans hh
 refine (hgrow.cell_far ⟨g, 0, none⟩ (Nat.lt_of_lt_of_le hlt hb.size) ?_).trans (kp hb hc)
 intro he
 rcases hown.2 with ⟨rfl, _⟩ | ⟨G, cap, cur', rfl, _, hG, _⟩
 ·simp [Value.ownBlock] at he
 ·simp [Value.ownBlock] at he
  subst he
  rw [h8] at hG
  simp at hG
theorem l27Open_any (s : BA) (hs : s.size ≤ 4000000) (w : World) :
  Calls Tryz.prog 102 #[.string s] w fun e w' => ∃ v, e = .returned (.tuple #[v, .int .i64 ((readN s 60).2 : Nat)]) ∧ w'.ownsRow w.heap.size 70 2 v (readN s 60).1.length (recCells (readN s 60).1) ∧ bW w w' := by
 go_enter Tryz.func102, Tryz.ntmps102
 go_wp2_with fail
 go_loopw [4, 5] (fun v rd wr => ∃ m : Nat, m ≤ 60 ∧ Hid ((readN s m).1.length = m) ∧ rd = .int .i64 ((readN s m).2 : Nat) ∧ wr.ownsRow w.heap.size 70 2 v (readN s m).1.length (recCells (readN s m).1) ∧ bW w wr) (fun v _ _ => 60 - lenOf v)
 case atStart => exact ⟨0, by omega, rfl, rfl, World.ownsRow_made w #[] 0 nL (by unfold maxLen; omega) rfl, (Below.refl _ w).alloc nL _⟩
 case round =>
  obtain ⟨m, hm60, hlm, rfl, hown, hB⟩ := hrel
  obtain ⟨hat, _⟩ := readN_at s m hm60
  have hsz := hB.size
  obtain ⟨A4, c4, hv4, _, _⟩ := own_form hown
  rw [hlm.out] at hv4
  revert hlm
  refine z59 ?_
  intro HST HYE HL hl HRN
  generalize hR : readN s m = RN at *
  obtain ⟨L, at_⟩ := RN
  simp only at *
  have HR := lh hR
  have HO : Hid (wr.ownsRow w.heap.size 70 2 u4 L.length (recCells L)) := hown
  clear hR HRN hown
  subst hv4
  have hat0 : (0 : Int) ≤ (at_ : Int) := by omega
  have hat1 : (at_ : Int) ≤ (s.size : Int) := by omega
  by_cases hend : at_ = s.size
  ·have hnone : Hid (stepR s m at_ = none) := by
    show stepR s m at_ = none
    have h0 : (s.extract at_ s.size).size = 0 := by simp [ByteArray.size_extract]; omega
    have hn : noByte (s.extract at_ s.size) 10 = true := by unfold noByte; rw [h0]; rfl
    unfold stepR
    rw [hn]; simp
   have hge : ¬ ((at_ : Int) < (s.size : Int)) := by omega
   clear hend
   go_wp2_with fail
   go_ret2
   refine ⟨.slice A4 m c4, ?_, ?_, hB⟩
   ·have hq := HST.out 60 (by omega) hnone.out; rw [hq]; try rfl
   ·rw [HST.out 60 (by omega) hnone.out]; exact HO.out
  ·have hlti : (at_ : Int) < (s.size : Int) := by omega
   by_cases hlt : m < 60
   ·refine z60 ?_
    intro hmi hm0 X hX hst hxs hls
    go_wp2_with fail
    first | rw [hX] | skip
    refine (l1Split_any X 10 hxs wr).mono ?_
    rintro e w1 ⟨v1, P, rfl, hown1, hP1, hPh, hPn, hPl, hb1⟩
    clear hX
    obtain ⟨g1, c1, cur1, rfl, hc1, hh1⟩ := split_val2 hown1 hP1 hPh
    have hP2 : (0 : Int) < (P.length : Int) := by omega
    have hP3 : 0 < P.length := by omega
    have B1 := below_of hB hb1 hB.size
    have hg1 : g1 < w1.heap.size := World.block_lt_of_cell? w1 _ hc1
    have HO1 := lh (ownsRow_below HO.out hb1)
    generalize bef 10 X = line at hst hls hc1
    clear HO hb1 hown1 hP1 hPh
    go_wp2_with fail
    refine (l27Read_any line m hm0 (by omega) (by omega) w1).mono ?_
    rintro e w2 ⟨⟨cm, rp, bb, rfl, hbt, hbf⟩, hb2⟩
    have HBT := lh hbt
    have HBF := lh hbf
    clear hbt hbf
    have B2 := below_of B1 hb2 B1.size
    have HO2 := lh (ownsRow_below HO1.out hb2)
    have hc2 := kp hb2 hc1
    have hh2 := (hb2.block g1 hg1).trans hh1
    have hg2 : g1 < w2.heap.size := Nat.lt_of_lt_of_le hg1 hb2.size
    have B3 : bW w (w2.alloc (.cells (sV cm rp) 70)) := B2.alloc B2.size _
    have AL2 := (Below.refl _ w2).alloc nL (.cells (sV cm rp) 70)
    have hs2 := B2.size
    have HH2 := lh hh2
    clear hc1 hb2 HO1 hh1 hh2
    by_cases hn : P.length < 2
    ·have hnone : Hid (stepR s m at_ = none) := by show _ = _; rw [hst.out, hPn]; simp [hn]
     have hnd2 : decide (P.length < 2) = true := by simp; omega
     have hni : (P.length : Int) < 2 := by omega
     exact z76
    ·have hni : ¬ ((P.length : Int) < 2) := by omega
     have hnd2 : decide (P.length < 2) = false := by simp; omega
     have hnd3 : decide ((P.length : Int) < 2) = false := by simp; omega
     have hst2 : Hid (stepR s m at_ = (dec m line).map fun e => (e, at_ + line.size + 1)) := by show _ = _; rw [hst.out, hPn]; simp [hn]
     cases bb with
     | false =>
      have hnone : Hid (stepR s m at_ = none) := by show _ = _; rw [hst2.out, HBF.out rfl]; rfl
      exact z76
     | true =>
      have hsome : Hid (stepR s m at_ = some ((cm, rp), at_ + line.size + 1)) := by show _ = _; rw [hst2.out, HBT.out rfl]; rfl
      have HC2 := lh hc2
      go_wp2_with (at_builtin; refine wpList_append_rec _ rfl _ _ 66 rfl w.heap.size Tryz.underlying66 L cm rp _ rfl ((HO2.out.alloc _).alloc _) _ rfl (by simp) (by simp) hl (by simp; omega) ?_; intro v' w7 hown7 hgrow7; refine Hid.out ?_)
      have hc7 := far_cell hgrow7 ((HO2.out.alloc _).alloc _) (by go_grown) HH2.out HC2.out
      refine lh ?_
      go_wp2_with fail
      go_roundw
      case rel => exact ⟨m + 1, by omega, by show _ = _; rw [HYE.out _ _ hsome.out]; simp [HL.out], by rw [HYE.out _ _ hsome.out]; go_num, by rw [HYE.out _ _ hsome.out]; exact hown7, below_app (B3.alloc B3.size _) ((HO2.out.alloc _).alloc _) hgrow7⟩
      case measure =>
       obtain ⟨A7, c7, rfl, _, _⟩ := own_form hown7
       have := HL.out
       simp [lenOf]; omega
   exact z62
end Go.Proofs.YtpndjhelpoenpaaGreatDoor
namespace Go.Proofs.YtpndjhelpoenpaaGreatDoor
open Go.RowKit
attribute [local go_sem ↓] Go.wp_at_zero Go.wp_at_succ
theorem zero_row3 {w X w' : World} {g : Nat} {p q : BA} {z : Int} (hX : X.heap[g]? = some (.cells (lV p q z) 33 (0, 0))) (h : bW X w') : w'.heap[g]? = some (.cells (lV p q z) 33 (0, 0)) :=
 (h.block g (gL hX)).trans hX
theorem row3 {w : World} {g : Nat} {p q : BA} {z : Int} (h : w.heap[g]? = some (.cells (lV p q z) 33 (0, 0))) : cE w g 0 (.string p) ∧ cE w g 1 (.string q) ∧ cI w g 2 z ∧ w.frozen? ⟨g, 0, none⟩ = false ∧ w.frozen? ⟨g, 1, none⟩ = false ∧ w.frozen? ⟨g, 2, none⟩ = false := by
 refine ⟨by rw [cell_of_row w g 0 _ _ (0, 0) h]; rfl, by rw [cell_of_row w g 1 _ _ (0, 0) h]; rfl, by rw [cell_of_row w g 2 _ _ (0, 0) h]; rfl, by simp [World.frozen?, h], by simp [World.frozen?, h], by simp [World.frozen?, h]⟩
theorem row3_set {w : World} {g : Nat} {p q x y : BA} {z u : Int} (h : w.heap[g]? = some (.cells (lV p q z) 33 (0, 0))) : (((w.setCell ⟨g, 0, none⟩ (.string x)).setCell ⟨g, 1, none⟩ (.string y)).setCell ⟨g, 2, none⟩ (.int .i64 u)).heap[g]? = some (.cells (lV x y u) 33 (0, 0)) := by
 exact z63
theorem base_le {w : World} {b b' : Nat} {e : TypeId} {size : Nat} {v : Value} {n : Nat} {xs : List Value} (h : w.ownsRow b e size v n xs) (hb : b' ≤ b) : w.ownsRow b' e size v n xs := by
 obtain ⟨h1, h2⟩ := h
 refine ⟨h1, ?_⟩
 rcases h2 with h2 | ⟨g, cap, cur, h3, h4, h5⟩
 ·exact .inl h2
 ·exact .inr ⟨g, cap, cur, h3, Nat.le_trans hb h4, h5⟩
def recOk (s : BA) : Bool := decide (s.size ≤ 30000)
def recD (s : BA) : BA := if recOk s then s.extract 0 (readN s 60).2 else ⟨#[]⟩
def recC (s : BA) : Int := if recOk s then (readN s 60).1.length else 0
def recR (s : BA) : Int := if recOk s then ((readN s 60).2 : Nat) else 0
def logOk (D P : BA) (z : Int) : Bool := decide ((readN (D ++ P) 60).2 = (D ++ P).size) && decide ((readN D 60).2 = D.size) && decide (z = ((readN (D ++ P) 60).1.length : Nat))
theorem logOk_size {D P : BA} {z : Int} (h : logOk D P z = true) : D.size + P.size ≤ 24780 := by
 simp only [logOk, Bool.and_eq_true, decide_eq_true_eq] at h
 have := (readN_at (D ++ P) 60 nL).2
 rw [h.1.1, size_app] at this
 omega
theorem recordsOf_any (D P : BA) (z : Int) (hD : D.size ≤ 1048576) (hP : P.size ≤ 1048576) (w : World) (ht : Tab w) (hm : Mx w) :
  Calls Tryz.prog 77 #[.agg (lV D P z)] w fun e w' => ∃ v, e = .returned (.tuple #[v, .bool (logOk D P z)]) ∧ w'.ownsRow w.heap.size 70 2 v (readN (D ++ P) 60).1.length (recCells (readN (D ++ P) 60).1) ∧ bW w w' := by
 refine z78 ?_
 intro HAL HF0
 have hsz : (D ++ P).size ≤ 4000000 := by rw [size_app]; omega
 have HR1 := lh (readRecords_any (D ++ P) hsz (w.alloc (.cells (lV D P z) 33)) (ht.below HAL) (hm.below HAL))
 have HR2 := lh (fun W hT hM => readRecords_any D (by omega) W hT hM)
 have HOK : Hid (logOk D P z = (decide ((readN (D ++ P) 60).2 = (D ++ P).size) && decide ((readN D 60).2 = D.size) && decide (z = ((readN (D ++ P) 60).1.length : Nat)))) := rfl
 have hszn : D.size + P.size ≤ 4000000 := by omega
 have hsa : (D ++ P).size = D.size + P.size := size_app D P
 rw [hsa] at HOK
 generalize (readN (D ++ P) 60).2 = n1 at *
 generalize (readN (D ++ P) 60).1 = L at *
 generalize (readN D 60).2 = n2 at *
 generalize (readN D 60).1 = L2 at *
 clear hsa hsz
 go_enter Tryz.func77, Tryz.ntmps77
 go_wp2_with fail
 refine HR1.out.mono ?_
 rintro e w1 ⟨v1, rfl, hown1, hb1⟩
 obtain ⟨A1, c1, rfl, _, _⟩ := own_form hown1
 obtain ⟨q0, q1, q2⟩ := HF0.out w1 hb1
 have B1 := HAL.trans (hb1.mono (by simp))
 go_wp2_with fail
 refine (HR2.out w1 (ht.below B1) (hm.below B1)).mono ?_
 rintro e w2 ⟨v2, rfl, hown2, hb2⟩
 obtain ⟨A2, c2, rfl, _, _⟩ := own_form hown2
 have hb12 := hb1.trans (hb2.mono hb1.size)
 have B2 := HAL.trans (hb12.mono (by simp))
 have HO := lh (base_le (b' := w.heap.size) (ownsRow_below hown1 hb2) (by simp))
 have HF : Hid (∀ w', bW w2 w' → cE w' w.heap.size 0 (.string D) ∧ cE w' w.heap.size 1 (.string P) ∧ cI w' w.heap.size 2 z) := fun w' hq => HF0.out w' (hb12.trans (hq.mono hb12.size))
 clear hown1 hown2 hb1 hb2 hb12 HF0 HR1 HR2 q0 q1 q2 HAL B1
 go_wp2_with fail
 by_cases e1 : n1 = D.size + P.size
 ·have b1 : ((n1 : Int) == (D.size : Int) + (P.size : Int)) = true := by simp; omega
  have b1' : (n1 == D.size + P.size) = true := by simp [e1]
  by_cases e2 : n2 = D.size
  ·have b2 : ((n2 : Int) == (D.size : Int)) = true := by simp; omega
   have b2' : (n2 == D.size) = true := by simp [e2]
   have HOK2 : Hid (logOk D P z = (z == ((L.length : Nat) : Int))) := by show _ = _; rw [HOK.out, e1, e2]; simp only [decide_true, Bool.true_and]; rw [Bool.eq_iff_iff]; simp
   clear e1 e2
   refine z80 ?_
   intro jd
   refine tj4 0 25 1 26 2 27 3 28 HF jd ?_
   refine tj4 4 29 5 30 6 31 7 32 HF jd ?_
   refine tj4 8 33 9 34 10 35 11 36 HF jd ?_
   refine tj4 12 37 13 38 14 39 15 40 HF jd ?_
   refine tj4 16 41 17 42 18 43 19 2 HF jd ?_
   refine tj 20 3 HF rfl jd ?_
   refine z49 ?_
   exact z81
  ·have b2 : ((n2 : Int) == (D.size : Int)) = false := by simp; omega
   have b2' : (n2 == D.size) = false := by simp [e2]
   have HOK2 : Hid (logOk D P z = false) := by show _ = _; rw [HOK.out]; simp [e2]
   clear e1 e2
   refine z80 ?_
   intro jd
   refine tj4 0 25 1 26 2 27 3 28 HF jd ?_
   refine tj4 4 29 5 30 6 31 7 32 HF jd ?_
   refine tj4 8 33 9 34 10 35 11 36 HF jd ?_
   refine tj 12 37 HF rfl jd ?_
   refine wpAnyH_skips (by exact z12) (fun _ _ _ _ _ h => h) jd [(13, 38), (14, 39), (15, 40), (16, 41), (17, 42)] 3 5 _ _ rfl (by exact z12) ?_
   refine z47 ?_
   refine tj3 18 43 19 2 20 3 HF jd ?_
   refine z49 ?_
   exact z81
 ·refine z82 ?_
  intro b1 b1' HOK2
  clear e1
  refine z80 ?_
  intro jd
  refine tj4 0 25 1 26 2 27 3 28 HF jd ?_
  refine tj2 4 29 5 30 HF jd ?_
  refine wpAnyH_skips (by exact z12) (fun _ _ _ _ _ h => h) jd [(6, 31), (7, 32), (8, 33), (9, 34), (10, 35)] 10 5 _ _ rfl (by exact z12) ?_
  refine z47 ?_
  refine tj2 11 36 12 37 HF jd ?_
  refine wpAnyH_skips (by exact z12) (fun _ _ _ _ _ h => h) jd [(13, 38), (14, 39), (15, 40), (16, 41), (17, 42)] 3 5 _ _ rfl (by exact z12) ?_
  refine z47 ?_
  refine tj3 18 43 19 2 20 3 HF jd ?_
  refine z49 ?_
  exact z81
theorem IsValidLog_any (D P : BA) (z : Int) (hD : D.size ≤ 1048576) (hP : P.size ≤ 1048576) (w : World) (ht : Tab w) (hm : Mx w) :
  Calls Tryz.prog 73 #[.agg (lV D P z)] w fun e w' => e = .returned (.bool (logOk D P z)) ∧ bW w w' := by
 refine z79 ?_
 intro HAL
 go_enter Tryz.func73, Tryz.ntmps73
 go_wp2_with fail
 refine (recordsOf_any D P z hD hP _ (ht.below HAL) (hm.below HAL)).mono ?_
 rintro e w1 ⟨v, rfl, _, hb1⟩
 go_wp2_with fail
 go_ret
 exact ⟨rfl, HAL.trans (hb1.mono (by simp))⟩
theorem l27Log_any (D P : BA) (z : Int) (hD : D.size ≤ 1048576) (hP : P.size ≤ 1048576) (w : World) :
  Calls Tryz.prog 58 #[.agg (lV D P z)] w fun e w' => e = .returned (.bool (logOk D P z)) ∧ bW w w' := by
 refine z78 ?_
 intro HAL HF0
 have hsa : (D ++ P).size = D.size + P.size := size_app D P
 by_cases hbig : D.size + P.size ≤ 30000
 ·have hbi : ¬ (30000 < (D.size : Int) + (P.size : Int)) := by omega
  have hsz : (D ++ P).size ≤ 4000000 := by omega
  have HR1 := lh (l27Open_any (D ++ P) hsz (w.alloc (.cells (lV D P z) 33)))
  have HR2 := lh (fun W => l27Open_any D (by omega) W)
  have HOK : Hid (logOk D P z = (decide ((readN (D ++ P) 60).2 = (D ++ P).size) && decide ((readN D 60).2 = D.size) && decide (z = ((readN (D ++ P) 60).1.length : Nat)))) := rfl
  rw [hsa] at HOK
  generalize (readN (D ++ P) 60).2 = n1 at *
  generalize (readN (D ++ P) 60).1 = L at *
  generalize (readN D 60).2 = n2 at *
  generalize (readN D 60).1 = L2 at *
  clear hsa hsz
  go_enter Tryz.func58, Tryz.ntmps58
  go_wp2_with fail
  refine HR1.out.mono ?_
  rintro e w1 ⟨v1, rfl, hown1, hb1⟩
  obtain ⟨A1, c1, rfl, _, _⟩ := own_form hown1
  obtain ⟨q0, q1, q2⟩ := HF0.out w1 hb1
  go_wp2_with fail
  refine (HR2.out w1).mono ?_
  rintro e w2 ⟨v2, rfl, hown2, hb2⟩
  obtain ⟨A2, c2, rfl, _, _⟩ := own_form hown2
  have hb12 := hb1.trans (hb2.mono hb1.size)
  have B2 := HAL.trans (hb12.mono (by simp))
  obtain ⟨r0, r1, r2⟩ := HF0.out w2 hb12
  clear hown1 hown2 hb1 hb2 hb12 HF0 HR1 HR2 q0 q1 q2 HAL
  by_cases e1 : n1 = D.size + P.size
  ·have b1 : ((n1 : Int) == (D.size : Int) + (P.size : Int)) = true := by simp; omega
   have b1' : (n1 == D.size + P.size) = true := by simp [e1]
   by_cases e2 : n2 = D.size
   ·have b2 : ((n2 : Int) == (D.size : Int)) = true := by simp; omega
    have b2' : (n2 == D.size) = true := by simp [e2]
    by_cases e3 : z = ((L.length : Nat) : Int)
    ·have HOK2 : Hid (logOk D P z = true) := by show _ = _; rw [HOK.out, e1, e2, e3]; simp
     have b3 : (((L.length : Nat) : Int) == z) = true := by simp; omega
     clear e1 e2 e3
     exact z83
    ·have HOK2 : Hid (logOk D P z = false) := by show _ = _; rw [HOK.out]; simp [e3]
     have b3 : (((L.length : Nat) : Int) == z) = false := by simp; omega
     clear e1 e2 e3
     exact z83
   ·have b2 : ((n2 : Int) == (D.size : Int)) = false := by simp; omega
    have b2' : (n2 == D.size) = false := by simp [e2]
    have HOK2 : Hid (logOk D P z = false) := by show _ = _; rw [HOK.out]; simp [e2]
    clear e1 e2
    exact z83
  ·refine z82 ?_
   intro b1 b1' HOK2
   clear e1
   exact z83
 ·have hbi : 30000 < (D.size : Int) + (P.size : Int) := by omega
  have HOK2 : Hid (logOk D P z = false) := by
   show logOk D P z = false
   cases h : logOk D P z with
   | false => rfl
   | true => have := logOk_size h; omega
  go_enter Tryz.func58, Tryz.ntmps58
  go_wp2_with fail
  go_ret
  exact ⟨ret_bool (by rw [HOK2.out]), HAL⟩
end Go.Proofs.YtpndjhelpoenpaaGreatDoor
namespace Go.Proofs.YtpndjhelpoenpaaGreatDoor
open Go.RowKit
attribute [local go_sem ↓] Go.wp_at_zero Go.wp_at_succ
theorem heap_alloc2 (w : World) (o1 o2 : Obj) : ((w.alloc o1).alloc o2).heap[w.heap.size]? = some o1 :=
 (((Below.refl (w.alloc o1).heap.size (w.alloc o1)).alloc nL o2).block w.heap.size (by simp)).trans (heap_alloc_new w o1)
theorem below3 {w w1 : World} {b : Nat} {x y : BA} {u : Int} (B : bW w w1) (hb : w.heap.size ≤ b) : bW w (((w1.setCell ⟨b, 0, none⟩ (.string x)).setCell ⟨b, 1, none⟩ (.string y)).setCell ⟨b, 2, none⟩ (.int .i64 u)) :=
 ((B.setCell (p := ⟨b, 0, none⟩) hb (.string x)).setCell (p := ⟨b, 1, none⟩) hb (.string y)).setCell (p := ⟨b, 2, none⟩) hb (.int .i64 u)
theorem sSyncLog_any (D P : BA) (z : Int) (hD : D.size ≤ 1048576) (hP : P.size ≤ 1048576) (w : World) :
  Calls Tryz.prog 180 #[.agg (lV D P z)] w fun e w' => e = .returned (.tuple #[.agg (lV (if logOk D P z then D ++ P else ⟨#[]⟩) ⟨#[]⟩ (if logOk D P z then z else 0)), .bool (logOk D P z)]) ∧ bW w w' := by
 have AL1 : bW w (w.alloc (.cells (lV D P z) 33)) := (Below.refl _ w).alloc nL _
 obtain ⟨HAL, hXa, hXz⟩ := bl2 w (.cells (lV D P z) 33) (.cells (lV ⟨#[]⟩ ⟨#[]⟩ 0) 33)
 have hsz : D.size + P.size ≤ 4000000 := by omega
 have HC := lh (l27Log_any D P z hD hP ((w.alloc (.cells (lV D P z) 33)).alloc (.cells (lV ⟨#[]⟩ ⟨#[]⟩ 0) 33)))
 cases hk : logOk D P z with
 | false =>
  rw [hk] at HC
  go_enter Tryz.func180, Tryz.ntmps180
  go_wp2_with fail
  refine HC.out.mono ?_
  rintro e w1 ⟨rfl, hb1⟩
  have h4 := zero_row3 (w := w) hXz hb1
  have B1 := HAL.trans (hb1.mono (by simp; omega))
  obtain ⟨z0, z1, z2, z3, z4, z5⟩ := row3 h4
  clear hb1 HC HAL hXa hXz AL1 hk hD hP
  have hgle : w.heap.size ≤ w.heap.size + 1 := by omega
  generalize w.heap.size + 1 = g at *
  go_wp2_with fail
  obtain ⟨a0, a1, a2, _, _, _⟩ := row3 (row3_set (x := ⟨#[]⟩) (y := ⟨#[]⟩) (u := 0) h4)
  have BZ := below3 (b := g) (x := ⟨#[]⟩) (y := ⟨#[]⟩) (u := 0) B1 hgle
  generalize ((w1.setCell ⟨g, 0, none⟩ (.string ⟨#[]⟩)).setCell ⟨g, 1, none⟩ (.string ⟨#[]⟩)).setCell ⟨g, 2, none⟩ (.int .i64 0) = WZ at *
  (refine z66 ?_); refine bodyPost_ret (by simp [results, Tryz.results180, go_sem, a0, a1, a2]; try rfl) rfl ?_
  exact z77
 | true =>
  rw [hk] at HC
  go_enter Tryz.func180, Tryz.ntmps180
  go_wp2_with fail
  refine HC.out.mono ?_
  rintro e w1 ⟨rfl, hb1⟩
  have h4 := zero_row3 (w := w) hXz hb1
  have h5 := zero_row3 (w := w) hXa hb1
  have B1 := HAL.trans (hb1.mono (by simp; omega))
  obtain ⟨z0, z1, z2, z3, z4, z5⟩ := row3 h4
  obtain ⟨y0, y1, y2, _, _, _⟩ := row3 h5
  clear hb1 HC HAL hXa hXz AL1 h5 hk hD hP
  have hgle : w.heap.size ≤ w.heap.size + 1 := by omega
  generalize w.heap.size + 1 = g at *
  go_wp2_with fail
  obtain ⟨a0, a1, a2, _, _, _⟩ := row3 (row3_set (x := (D ++ P)) (y := ⟨#[]⟩) (u := z) h4)
  have BZ := below3 (b := g) (x := (D ++ P)) (y := ⟨#[]⟩) (u := z) B1 hgle
  generalize ((w1.setCell ⟨g, 0, none⟩ (.string (D ++ P))).setCell ⟨g, 1, none⟩ (.string ⟨#[]⟩)).setCell ⟨g, 2, none⟩ (.int .i64 z) = WZ at *
  (refine z66 ?_); refine bodyPost_ret (by simp [results, Tryz.results180, go_sem, a0, a1, a2]; try rfl) rfl ?_
  exact z77
end Go.Proofs.YtpndjhelpoenpaaGreatDoor
