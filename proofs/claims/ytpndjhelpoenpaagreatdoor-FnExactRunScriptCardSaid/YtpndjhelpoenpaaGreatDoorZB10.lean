/-
  Texts of this claim, merged.
-/
import Derived.Test.YtpndjhelpoenpaaGreatDoorZB9
import Derived.Deep.AppendLies
import Derived.Lib.JoinLaws
import Derived.Deep.OwnRows
import Derived.Lib.SplitLaws
set_option linter.unusedVariables false
set_option linter.unusedSimpArgs false
set_option maxRecDepth 100000
set_option maxHeartbeats 8000000
namespace Go.Proofs.YtpndjhelpoenpaaGreatDoor
open Go.RowKit
attribute [local go_sem ↓] Go.wp_at_zero Go.wp_at_succ
def aheadB (k : Int) : BA := numB k ++ ⟨#[32]⟩
def restB (k : Int) (s : BA) : BA := (bef 35 s).extract (aheadB k).size (bef 35 s).size
def repB (k : Int) (s : BA) : BA := (restB k s).extract ((bef 64 (restB k s)).size + 1) (restB k s).size
theorem spec_facts {k : Int} {s c r : BA} (h0 : 0 ≤ k) (h : dec k s = some (c, r)) : ¬ (bef 35 s).size < (aheadB k).size ∧ (bef 35 s).extract 0 (aheadB k).size = aheadB k ∧ bef 64 (restB k s) = c ∧ (bef 64 (restB k s)).size ≠ (restB k s).size ∧ repB k s = r := by
 obtain ⟨h1, h2⟩ := spec_dec h0 h
 have h1' : bef 35 s = aheadB k ++ ((c ++ ⟨#[64]⟩) ++ r) := h1
 have hr : restB k s = (c ++ ⟨#[64]⟩) ++ r := by unfold restB; rw [h1']; exact ext_right rfl
 have h64 : (ByteArray.mk #[64]).size = 1 := rfl
 refine ⟨?_, ?_, ?_, ?_, ?_⟩
 ·rw [h1', size_app]; omega
 ·rw [h1']; exact ext_left _ _
 ·rw [hr]; exact h2
 ·rw [hr, h2, size_app, size_app]; omega
 ·unfold repB
  rw [hr, h2]
  have : c.size + 1 = (c ++ ⟨#[64]⟩).size := by rw [size_app]; rfl
  rw [this]
  exact ext_right rfl
theorem spec_none {k : Int} {s : BA} (h0 : 0 ≤ k) (h : (bef 35 s).size < (aheadB k).size ∨ (bef 35 s).extract 0 (aheadB k).size ≠ aheadB k ∨ (bef 64 (restB k s)).size = (restB k s).size ∨ lineIs k (bef 64 (restB k s)) (repB k s) s = false) : dec k s = none := by
 cases hd : dec k s with
 | none => rfl
 | some e =>
  exfalso
  obtain ⟨c, r⟩ := e
  obtain ⟨a1, a2, a3, a4, a5⟩ := spec_facts h0 hd
  rcases h with h | h | h | h
  ·exact a1 h
  ·exact h a2
  ·exact a4 h
  ·rw [a3, a5, dec_some hd] at h; cases h
theorem split_val {w : World} {lo : Nat} {v : Value} {P : List BA} {x : BA} (h : w.ownsRow lo 9 1 v P.length (P.map Value.string)) (h1 : 1 ≤ P.length) (hx : P.headD ⟨#[]⟩ = x) :
  ∃ g c, v = .slice (some ⟨g, 0, none⟩) P.length c ∧ w.cell? ⟨g, 0, none⟩ = some (.string x) := by
 rcases h.2 with ⟨_, h0⟩ | ⟨g, cap, cur, rfl, _, hg, _⟩
 ·omega
 ·refine ⟨g, cap, rfl, ?_⟩
  have := h.cells (g := g) rfl 0 (.string x) (by
   cases P with
   | nil => simp at h1
   | cons y P => simp at hx; subst hx; rfl)
  simpa [Addr.add] using this
theorem zero_row {w w' : World} (h : Below (w.alloc (.cells #[.string ⟨#[]⟩, .string ⟨#[]⟩] 70)).heap.size (w.alloc (.cells #[.string ⟨#[]⟩, .string ⟨#[]⟩] 70)) w') : w'.heap[w.heap.size]? = some (.cells #[.string ⟨#[]⟩, .string ⟨#[]⟩] 70 (0, 0)) :=
 (h.block w.heap.size (by simp)).trans (heap_alloc_new w _)
theorem row2 {w : World} {g : Nat} {p q : BA} (h : w.heap[g]? = some (.cells #[.string p, .string q] 70 (0, 0))) : w.cell? ⟨g, 0, none⟩ = some (.string p) ∧ w.cell? ⟨g, 1, none⟩ = some (.string q) ∧ w.frozen? ⟨g, 0, none⟩ = false ∧ w.frozen? ⟨g, 1, none⟩ = false := by
 refine ⟨by rw [cell_of_row w g 0 _ _ (0, 0) h]; rfl, by rw [cell_of_row w g 1 _ _ (0, 0) h]; rfl, by simp [World.frozen?, h], by simp [World.frozen?, h]⟩
theorem row2_set {w : World} {g : Nat} {p q x y : BA} (h : w.heap[g]? = some (.cells #[.string p, .string q] 70 (0, 0))) : ((w.setCell ⟨g, 0, none⟩ (.string x)).setCell ⟨g, 1, none⟩ (.string y)).heap[g]? = some (.cells #[.string x, .string y] 70 (0, 0)) := by
 simp [World.setCell, Array.getElem?_modify, h]
def ReadPost (w : World) (k : Int) (s : BA) (e : Ending) (w' : World) : Prop :=
 (∃ c r b, e = .returned (.tuple #[.agg #[.string c, .string r], .bool b]) ∧ (b = true → dec k s = some (c, r)) ∧ (b = false → dec k s = none)) ∧ Below w.heap.size w w'
theorem l27Read_any (s : BA) (k : Int) (h0 : 0 ≤ k) (h1 : k ≤ 59) (hs : s.size ≤ 4000000) (w : World) :
  Calls Tryz.prog 148 #[.string s, .int .i64 k] w (ReadPost w k s) := by
 have HAL : Below w.heap.size w (w.alloc (.cells #[.string ⟨#[]⟩, .string ⟨#[]⟩] 70)) := (Below.refl _ w).alloc (Nat.le_refl _) _
 have hts := bef_size 35 s
 have hnz := numB_size (n := k) (by omega) (by omega)
 have hAz : (aheadB k).size ≤ 22 := by
  have := numB_size (n := k) (by omega) (by omega)
  simp only [aheadB, ByteArray.size_append', ByteArray.size_mk', List.size_toArray, List.length_cons, List.length_nil]; omega
 have hAdef : Hid (numB k ++ ⟨#[32]⟩ = aheadB k) := rfl
 have HSN := lh (spec_none (k := k) (s := s) h0)
 have hrs : (restB k s).size ≤ 4000000 := by unfold restB; simp [ByteArray.size_extract]; omega
 have hask := bef_size 64 (restB k s)
 have hrp : (repB k s).size ≤ 4000000 := by unfold repB; simp [ByteArray.size_extract]; omega
 have hRdef : Hid ((bef 35 s).extract (aheadB k).size (bef 35 s).size = restB k s) := rfl
 have hPdef : Hid ((restB k s).extract ((bef 64 (restB k s)).size + 1) (restB k s).size = repB k s) := rfl
 have HDI := lh (fun h => dec_of_is (k := k) (c := bef 64 (restB k s)) (r := repB k s) (line := s) h0 h)
 by_cases c1 : (bef 35 s).size < (aheadB k).size
 ·have hNone : Hid (dec k s = none) := HSN.out (.inl c1)
  have c1i : ((bef 35 s).size : Int) < ((aheadB k).size : Int) := by omega
  go_enter Tryz.func148, Tryz.ntmps148
  go_wp2_with fail
  refine (l1Num_any k h0 (by omega) _).mono ?_
  rintro e w1 ⟨rfl, hb1⟩
  go_wp2_with fail
  refine (l1Split_any s 35 hs w1).mono ?_
  rintro e w2 ⟨v2, P2, rfl, hown2, hP1, hPh, _, _, hb2⟩
  have hbx := hb1.trans (hb2.mono hb1.size)
  obtain ⟨g2, c2, rfl, hc2⟩ := split_val hown2 hP1 hPh
  have hP2 : (0 : Int) < (P2.length : Int) := by omega
  have hP3 : 0 < P2.length := by omega
  clear hb1 hb2 hown2 hP1 hPh
  have h4_ := zero_row hbx
  obtain ⟨z0, z1, z2, z3⟩ := row2 h4_
  have B2 : Below w.heap.size w w2 := HAL.trans (hbx.mono (by simp))
  have lt2 : w.heap.size < w2.heap.size := Nat.lt_of_lt_of_le (by simp) hbx.size
  rw [hAdef.out]
  go_wp2_with fail
  obtain ⟨a0, a1, _, _⟩ := row2 (row2_set (x := ⟨#[]⟩) (y := ⟨#[]⟩) h4_)
  have BZ := (B2.setCell (p := ⟨w.heap.size, 0, none⟩) (Nat.le_refl _) (.string ⟨#[]⟩)).setCell (p := ⟨w.heap.size, 1, none⟩) (Nat.le_refl _) (.string ⟨#[]⟩)
  generalize (w2.setCell ⟨w.heap.size, 0, none⟩ (.string ⟨#[]⟩)).setCell ⟨w.heap.size, 1, none⟩ (.string ⟨#[]⟩) = WZ at *
  (try simp only [Exit.inBlock, Exit.then]); refine bodyPost_ret (by simp [results, Tryz.results148, go_sem, a0, a1]; try rfl) rfl ?_
  exact ⟨⟨_, _, _, rfl, (fun h => by cases h), fun _ => hNone.out⟩, BZ⟩
 ·have c1i : ¬ (((bef 35 s).size : Int) < ((aheadB k).size : Int)) := by omega
  have c1j : ((aheadB k).size : Int) ≤ ((bef 35 s).size : Int) := by omega
  have c1k : (0 : Int) ≤ ((aheadB k).size : Int) := by omega
  by_cases c2 : (bef 35 s).extract 0 (aheadB k).size = aheadB k
  ·have hcm : (((bef 35 s).extract 0 (aheadB k).size).toList == (aheadB k).toList) = true := by rw [toList_beq, c2]; simp
   clear c2
   by_cases c3 : (bef 64 (restB k s)).size = (restB k s).size
   ·have hNone : Hid (dec k s = none) := HSN.out (.inr (.inr (.inl c3)))
    have c3i : (((bef 64 (restB k s)).size : Int) == ((restB k s).size : Int)) = true := by rw [c3]; simp
    go_enter Tryz.func148, Tryz.ntmps148
    go_wp2_with fail
    refine (l1Num_any k h0 (by omega) _).mono ?_
    rintro e w1 ⟨rfl, hb1⟩
    go_wp2_with fail
    refine (l1Split_any s 35 hs w1).mono ?_
    rintro e w2 ⟨v2, P2, rfl, hown2, hP1, hPh, _, _, hb2⟩
    have hbx := hb1.trans (hb2.mono hb1.size)
    obtain ⟨g2, c2, rfl, hc2⟩ := split_val hown2 hP1 hPh
    have hP2 : (0 : Int) < (P2.length : Int) := by omega
    have hP3 : 0 < P2.length := by omega
    clear hb1 hb2 hown2 hP1 hPh
    have h4_ := zero_row hbx
    obtain ⟨z0, z1, z2, z3⟩ := row2 h4_
    have B2 : Below w.heap.size w w2 := HAL.trans (hbx.mono (by simp))
    have lt2 : w.heap.size < w2.heap.size := Nat.lt_of_lt_of_le (by simp) hbx.size
    rw [hAdef.out]
    go_wp2_with fail
    rw [hRdef.out]
    refine (l1Split_any (restB k s) 64 hrs w2).mono ?_
    rintro e w3 ⟨v3, P3, rfl, hown3, hQ1, hQh, _, _, hb3⟩
    obtain ⟨g3, c3', rfl, hc3⟩ := split_val hown3 hQ1 hQh
    have hQ2 : (0 : Int) < (P3.length : Int) := by omega
    have hQ3 : 0 < P3.length := by omega
    clear hown3 hQ1 hQh
    have B3 := below_of B2 hb3 B2.size
    have lt3 : w.heap.size < w3.heap.size := Nat.lt_of_lt_of_le lt2 hb3.size
    have h4w3 := (hb3.block w.heap.size lt2).trans h4_
    obtain ⟨y0, y1, y2, y3⟩ := row2 h4w3
    clear z0 z1 z2 z3 hc2
    go_wp2_with fail
    obtain ⟨a0, a1, _, _⟩ := row2 (row2_set (x := ⟨#[]⟩) (y := ⟨#[]⟩) h4w3)
    have BZ := (B3.setCell (p := ⟨w.heap.size, 0, none⟩) (Nat.le_refl _) (.string ⟨#[]⟩)).setCell (p := ⟨w.heap.size, 1, none⟩) (Nat.le_refl _) (.string ⟨#[]⟩)
    generalize (w3.setCell ⟨w.heap.size, 0, none⟩ (.string ⟨#[]⟩)).setCell ⟨w.heap.size, 1, none⟩ (.string ⟨#[]⟩) = WZ at *
    (try simp only [Exit.inBlock, Exit.then]); refine bodyPost_ret (by simp [results, Tryz.results148, go_sem, a0, a1]; try rfl) rfl ?_
    exact ⟨⟨_, _, _, rfl, (fun h => by cases h), fun _ => hNone.out⟩, BZ⟩
   ·have c3i : (((bef 64 (restB k s)).size : Int) == ((restB k s).size : Int)) = false := by simp; omega
    have c3j : ((bef 64 (restB k s)).size : Int) + 1 ≤ ((restB k s).size : Int) := by omega
    have c3k : (0 : Int) ≤ ((bef 64 (restB k s)).size : Int) + 1 := by omega
    have hci : ((bef 64 (restB k s)).size : Int) ≤ 9223372036854775807 := by omega
    have hri : ((repB k s).size : Int) ≤ 9223372036854775807 := by omega
    cases hg : goodRec (bef 64 (restB k s)) (repB k s) with
    | false =>
     have hli : lineIs k (bef 64 (restB k s)) (repB k s) s = false := by rw [lineIs, hg]; rfl
     have hNn := HSN.out (.inr (.inr (.inr hli)))
     have hT : Hid (false = true → dec k s = some (bef 64 (restB k s), repB k s)) := fun h => by cases h
     have hFf : Hid (false = false → dec k s = none) := fun _ => hNn
     clear hNn hli
     go_enter Tryz.func148, Tryz.ntmps148
     go_wp2_with fail
     refine (l1Num_any k h0 (by omega) _).mono ?_
     rintro e w1 ⟨rfl, hb1⟩
     go_wp2_with fail
     refine (l1Split_any s 35 hs w1).mono ?_
     rintro e w2 ⟨v2, P2, rfl, hown2, hP1, hPh, _, _, hb2⟩
     have hbx := hb1.trans (hb2.mono hb1.size)
     obtain ⟨g2, c2, rfl, hc2⟩ := split_val hown2 hP1 hPh
     have hP2 : (0 : Int) < (P2.length : Int) := by omega
     have hP3 : 0 < P2.length := by omega
     clear hb1 hb2 hown2 hP1 hPh
     have h4_ := zero_row hbx
     obtain ⟨z0, z1, z2, z3⟩ := row2 h4_
     have B2 : Below w.heap.size w w2 := HAL.trans (hbx.mono (by simp))
     have lt2 : w.heap.size < w2.heap.size := Nat.lt_of_lt_of_le (by simp) hbx.size
     rw [hAdef.out]
     go_wp2_with fail
     rw [hRdef.out]
     refine (l1Split_any (restB k s) 64 hrs w2).mono ?_
     rintro e w3 ⟨v3, P3, rfl, hown3, hQ1, hQh, _, _, hb3⟩
     obtain ⟨g3, c3', rfl, hc3⟩ := split_val hown3 hQ1 hQh
     have hQ2 : (0 : Int) < (P3.length : Int) := by omega
     have hQ3 : 0 < P3.length := by omega
     clear hown3 hQ1 hQh
     have B3 := below_of B2 hb3 B2.size
     have lt3 : w.heap.size < w3.heap.size := Nat.lt_of_lt_of_le lt2 hb3.size
     have h4w3 := (hb3.block w.heap.size lt2).trans h4_
     obtain ⟨y0, y1, y2, y3⟩ := row2 h4w3
     clear z0 z1 z2 z3 hc2
     go_wp2_with fail
     rw [hPdef.out]
     generalize hask2 : bef 64 (restB k s) = ask at *
     generalize hrp2 : repB k s = rp at *
     have h4_W : (w3.alloc (.cells #[.string ask, .string rp] 70)).heap[w.heap.size]? = some (.cells #[.string ⟨#[]⟩, .string ⟨#[]⟩] 70 (0, 0)) := (((Below.refl _ w3).alloc (Nat.le_refl _) _).block _ lt3).trans h4w3
     have S_W : (w3.alloc (.cells #[.string ask, .string rp] 70)).cell? ⟨w3.heap.size, 0, none⟩ = some (.string ask) ∧ (w3.alloc (.cells #[.string ask, .string rp] 70)).cell? ⟨w3.heap.size, 1, none⟩ = some (.string rp) := ⟨by simp, by simp⟩
     have lt_W : w.heap.size < (w3.alloc (.cells #[.string ask, .string rp] 70)).heap.size := by simp; omega
     have lg_W : w3.heap.size < (w3.alloc (.cells #[.string ask, .string rp] 70)).heap.size := by simp
     have B_W : Below w.heap.size w (w3.alloc (.cells #[.string ask, .string rp] 70)) := B3.alloc B3.size _
     have hne : w.heap.size ≠ w3.heap.size := by omega
     have hlt4 : w.heap.size < w.heap.size + 1 := by omega
     generalize (w3.alloc (.cells #[.string ask, .string rp] 70)) = W at *
     generalize w3.heap.size = g10 at *
     refine wp_region_held_drew (S := fun w' => w'.cell? ⟨g10, 0, none⟩ = some (.string ask) ∧ w'.cell? ⟨g10, 1, none⟩ = some (.string rp)) (by kernel_rfl) S_W (fun jd => ?_)
     have h4_W : W.drew.heap[w.heap.size]? = _ := h4_W
     have lt_W : w.heap.size < W.drew.heap.size := lt_W
     have lg_W : g10 < W.drew.heap.size := lg_W
     have B_W : Below w.heap.size w W.drew := B_W.drew
     clear S_W
     generalize W.drew = W at *
     refine tj 0 53 (lh fun _ h => h) rfl jd ?_
     refine tj 1 54 (lh fun _ h => h) rfl jd ?_
     refine wpAnyH_ready (rs := [2]) (by kernel_rfl) (by simp) ?_
     refine (AllReadyH.cons rfl (fun K hK => ?_) AllReadyH.nil)
     go_simp
     refine (l27Good_any ask rp hci hri _).mono ?_
     rw [hg]
     rintro e wa ⟨rfl, hb_wa⟩
     have h4_wa := (hb_wa.block w.heap.size (by first | exact hlt4 | exact lt_W)).trans h4_W
     have lt_wa : w.heap.size < wa.heap.size := Nat.lt_of_lt_of_le lt_W hb_wa.size
     have B_wa := below_of B_W hb_wa B_W.size
     have S_wa : wa.cell? ⟨g10, 0, none⟩ = some (.string ask) ∧ wa.cell? ⟨g10, 1, none⟩ = some (.string rp) := ⟨(hb_wa.cell (p := ⟨g10, 0, none⟩) lg_W).trans jd.1, (hb_wa.cell (p := ⟨g10, 1, none⟩) lg_W).trans jd.2⟩
     have lg_wa : g10 < wa.heap.size := Nat.lt_of_lt_of_le lg_W hb_wa.size
     refine hK.out _ _ S_wa (fun jd => ?_)
     clear hK K
     refine tj 3 56 (lh fun _ h => h) rfl jd ?_
     refine wpAnyH_skips (by kernel_rfl) (fun _ _ _ _ _ h => h) jd [(4, 57), (5, 58), (6, 59), (7, 60), (8, 61), (9, 62)] 3 6 _ _ rfl (by kernel_rfl) ?_
     simp only [skipL, skipA, Act.put, p1, p2, p3]
     refine tj 10 63 (lh fun _ h => h) rfl jd ?_
     refine wpAnyH_ready (rs := [11]) (by kernel_rfl) (by simp) ?_
     refine (AllReadyH.cons rfl (fun K hK => ?_) AllReadyH.nil)
     obtain ⟨z0, z1, z2, z3⟩ := row2 h4_wa
     have h4x := row2_set (x := ask) (y := rp) h4_wa
     have B_wb : Below w.heap.size w ((wa.setCell ⟨w.heap.size, 0, none⟩ (.string ask)).setCell ⟨w.heap.size, 1, none⟩ (.string rp)) := (B_wa.setCell (Nat.le_refl _) _).setCell (Nat.le_refl _) _
     have S_wb : ((wa.setCell ⟨w.heap.size, 0, none⟩ (.string ask)).setCell ⟨w.heap.size, 1, none⟩ (.string rp)).cell? ⟨g10, 0, none⟩ = some (.string ask) ∧ ((wa.setCell ⟨w.heap.size, 0, none⟩ (.string ask)).setCell ⟨w.heap.size, 1, none⟩ (.string rp)).cell? ⟨g10, 1, none⟩ = some (.string rp) := by
      refine ⟨?_, ?_⟩ <;> (rw [World.cell?_setCell_far _ _ _ _ (by exact hne), World.cell?_setCell_far _ _ _ _ (by exact hne)]; first | exact jd.1 | exact jd.2)
     have lt_wb : w.heap.size < ((wa.setCell ⟨w.heap.size, 0, none⟩ (.string ask)).setCell ⟨w.heap.size, 1, none⟩ (.string rp)).heap.size := by simpa [World.setCell] using lt_wa
     have lg_wb : g10 < ((wa.setCell ⟨w.heap.size, 0, none⟩ (.string ask)).setCell ⟨w.heap.size, 1, none⟩ (.string rp)).heap.size := by simpa [World.setCell] using lg_wa
     go_simp
     generalize ((wa.setCell ⟨w.heap.size, 0, none⟩ (.string ask)).setCell ⟨w.heap.size, 1, none⟩ (.string rp)) = wb at *
     have h4_wb := h4x
     refine hK.out _ _ S_wb (fun jd => ?_)
     clear hK K z0 z1 z2 z3 h4x
     refine tj 12 5 (lh fun _ h => h) rfl jd ?_
     refine wpAnyH_done (by kernel_rfl) ?_ _
     obtain ⟨z0, z1, z2, z3⟩ := row2 h4_wb
     go_wp2_with fail
     (try simp only [Exit.inBlock, Exit.then]); refine bodyPost_ret (by simp [results, Tryz.results148, go_sem, z0, z1]; try rfl) rfl ?_
     exact ⟨⟨_, _, _, rfl, by first | exact hT.out | exact fun _ => hT.out trivial | (intro h; cases h), by first | exact hFf.out | exact fun _ => hFf.out trivial | (intro h; cases h)⟩, B_wb⟩
    | true =>
     obtain ⟨_, hc1', hr1', _⟩ := goodRec_facts hg
     have hc1 : (bef 64 (restB k s)).size ≤ 1048576 := by omega
     have hr1 : (repB k s).size ≤ 1048576 := by omega
     by_cases hsl : sealB (bodyB k (bef 64 (restB k s)) (repB k s)) = s
     ·have hli : lineIs k (bef 64 (restB k s)) (repB k s) s = true := by simp [lineIs, hg, hsl]
      have hTn := HDI.out hli
      have hT : Hid (true = true → dec k s = some (bef 64 (restB k s), repB k s)) := fun _ => hTn
      have hFf : Hid (true = false → dec k s = none) := fun h => by cases h
      have hcmp : ((lineB k (bef 64 (restB k s)) (repB k s)).toList == (s ++ ⟨#[10]⟩).toList) = true := by rw [toList_beq, lineB, hsl]; simp
      clear hTn hli hsl HDI HSN
      go_enter Tryz.func148, Tryz.ntmps148
      go_wp2_with fail
      refine (l1Num_any k h0 (by omega) _).mono ?_
      rintro e w1 ⟨rfl, hb1⟩
      go_wp2_with fail
      refine (l1Split_any s 35 hs w1).mono ?_
      rintro e w2 ⟨v2, P2, rfl, hown2, hP1, hPh, _, _, hb2⟩
      have hbx := hb1.trans (hb2.mono hb1.size)
      obtain ⟨g2, c2, rfl, hc2⟩ := split_val hown2 hP1 hPh
      have hP2 : (0 : Int) < (P2.length : Int) := by omega
      have hP3 : 0 < P2.length := by omega
      clear hb1 hb2 hown2 hP1 hPh
      have h4_ := zero_row hbx
      obtain ⟨z0, z1, z2, z3⟩ := row2 h4_
      have B2 : Below w.heap.size w w2 := HAL.trans (hbx.mono (by simp))
      have lt2 : w.heap.size < w2.heap.size := Nat.lt_of_lt_of_le (by simp) hbx.size
      rw [hAdef.out]
      go_wp2_with fail
      rw [hRdef.out]
      refine (l1Split_any (restB k s) 64 hrs w2).mono ?_
      rintro e w3 ⟨v3, P3, rfl, hown3, hQ1, hQh, _, _, hb3⟩
      obtain ⟨g3, c3', rfl, hc3⟩ := split_val hown3 hQ1 hQh
      have hQ2 : (0 : Int) < (P3.length : Int) := by omega
      have hQ3 : 0 < P3.length := by omega
      clear hown3 hQ1 hQh
      have B3 := below_of B2 hb3 B2.size
      have lt3 : w.heap.size < w3.heap.size := Nat.lt_of_lt_of_le lt2 hb3.size
      have h4w3 := (hb3.block w.heap.size lt2).trans h4_
      obtain ⟨y0, y1, y2, y3⟩ := row2 h4w3
      clear z0 z1 z2 z3 hc2
      go_wp2_with fail
      rw [hPdef.out]
      generalize hask2 : bef 64 (restB k s) = ask at *
      generalize hrp2 : repB k s = rp at *
      have h4_W : (w3.alloc (.cells #[.string ask, .string rp] 70)).heap[w.heap.size]? = some (.cells #[.string ⟨#[]⟩, .string ⟨#[]⟩] 70 (0, 0)) := (((Below.refl _ w3).alloc (Nat.le_refl _) _).block _ lt3).trans h4w3
      have S_W : (w3.alloc (.cells #[.string ask, .string rp] 70)).cell? ⟨w3.heap.size, 0, none⟩ = some (.string ask) ∧ (w3.alloc (.cells #[.string ask, .string rp] 70)).cell? ⟨w3.heap.size, 1, none⟩ = some (.string rp) := ⟨by simp, by simp⟩
      have lt_W : w.heap.size < (w3.alloc (.cells #[.string ask, .string rp] 70)).heap.size := by simp; omega
      have lg_W : w3.heap.size < (w3.alloc (.cells #[.string ask, .string rp] 70)).heap.size := by simp
      have B_W : Below w.heap.size w (w3.alloc (.cells #[.string ask, .string rp] 70)) := B3.alloc B3.size _
      have hne : w.heap.size ≠ w3.heap.size := by omega
      have hlt4 : w.heap.size < w.heap.size + 1 := by omega
      generalize (w3.alloc (.cells #[.string ask, .string rp] 70)) = W at *
      generalize w3.heap.size = g10 at *
      refine wp_region_held_drew (S := fun w' => w'.cell? ⟨g10, 0, none⟩ = some (.string ask) ∧ w'.cell? ⟨g10, 1, none⟩ = some (.string rp)) (by kernel_rfl) S_W (fun jd => ?_)
      have h4_W : W.drew.heap[w.heap.size]? = _ := h4_W
      have lt_W : w.heap.size < W.drew.heap.size := lt_W
      have lg_W : g10 < W.drew.heap.size := lg_W
      have B_W : Below w.heap.size w W.drew := B_W.drew
      clear S_W
      generalize W.drew = W at *
      refine tj 0 53 (lh fun _ h => h) rfl jd ?_
      refine tj 1 54 (lh fun _ h => h) rfl jd ?_
      refine wpAnyH_ready (rs := [2]) (by kernel_rfl) (by simp) ?_
      refine (AllReadyH.cons rfl (fun K hK => ?_) AllReadyH.nil)
      go_simp
      refine (l27Good_any ask rp hci hri _).mono ?_
      rw [hg]
      rintro e wa ⟨rfl, hb_wa⟩
      have h4_wa := (hb_wa.block w.heap.size (by first | exact hlt4 | exact lt_W)).trans h4_W
      have lt_wa : w.heap.size < wa.heap.size := Nat.lt_of_lt_of_le lt_W hb_wa.size
      have B_wa := below_of B_W hb_wa B_W.size
      have S_wa : wa.cell? ⟨g10, 0, none⟩ = some (.string ask) ∧ wa.cell? ⟨g10, 1, none⟩ = some (.string rp) := ⟨(hb_wa.cell (p := ⟨g10, 0, none⟩) lg_W).trans jd.1, (hb_wa.cell (p := ⟨g10, 1, none⟩) lg_W).trans jd.2⟩
      have lg_wa : g10 < wa.heap.size := Nat.lt_of_lt_of_le lg_W hb_wa.size
      refine hK.out _ _ S_wa (fun jd => ?_)
      clear hK K
      refine tj 3 56 (lh fun _ h => h) rfl jd ?_
      refine tj 4 57 (lh fun _ h => h) rfl jd ?_
      refine tj 5 58 (lh fun _ h => h) rfl jd ?_
      refine tj 7 60 (lh fun _ h => h) rfl jd ?_
      refine wpAnyH_takeD (i := 8) (d := 61) (v := ?_) rfl (by kernel_rfl) (by kernel_rfl) (by kernel_rfl) (fun _ _ _ h => h) (by rfl) ?_ jd ?_
      rotate_left
      ·intro wS hS
       refine run_add_strP ⟨_, _, rfl, rfl, by simp only [ByteArray.size_append', ByteArray.size_mk', List.size_toArray, List.length_cons, List.length_nil]; omega, ?_⟩
       with_reducible rfl
      simp only [Act.put, p1, p2, p3]
      refine wpAnyH_ready (rs := [6]) (by kernel_rfl) (by simp) ?_
      refine (AllReadyH.cons rfl (fun K hK => ?_) AllReadyH.nil)
      go_simp
      refine (l27Line_any k ask rp h0 (by omega) hc1 hr1 _).mono ?_
      rintro e wb ⟨rfl, hb_wb⟩
      have h4_wb := (hb_wb.block w.heap.size (by first | exact hlt4 | exact lt_wa)).trans h4_wa
      have lt_wb : w.heap.size < wb.heap.size := Nat.lt_of_lt_of_le lt_wa hb_wb.size
      have B_wb := below_of B_wa hb_wb B_wa.size
      have S_wb : wb.cell? ⟨g10, 0, none⟩ = some (.string ask) ∧ wb.cell? ⟨g10, 1, none⟩ = some (.string rp) := ⟨(hb_wb.cell (p := ⟨g10, 0, none⟩) lg_wa).trans jd.1, (hb_wb.cell (p := ⟨g10, 1, none⟩) lg_wa).trans jd.2⟩
      have lg_wb : g10 < wb.heap.size := Nat.lt_of_lt_of_le lg_wa hb_wb.size
      refine hK.out _ _ S_wb (fun jd => ?_)
      clear hK K
      refine tj 9 62 (lh fun _ h => h) rfl jd ?_
      refine tj 10 63 (lh fun _ h => h) rfl jd ?_
      refine wpAnyH_ready (rs := [11]) (by kernel_rfl) (by simp) ?_
      refine (AllReadyH.cons rfl (fun K hK => ?_) AllReadyH.nil)
      obtain ⟨z0, z1, z2, z3⟩ := row2 h4_wb
      have h4x := row2_set (x := ask) (y := rp) h4_wb
      have B_wc : Below w.heap.size w ((wb.setCell ⟨w.heap.size, 0, none⟩ (.string ask)).setCell ⟨w.heap.size, 1, none⟩ (.string rp)) := (B_wb.setCell (Nat.le_refl _) _).setCell (Nat.le_refl _) _
      have S_wc : ((wb.setCell ⟨w.heap.size, 0, none⟩ (.string ask)).setCell ⟨w.heap.size, 1, none⟩ (.string rp)).cell? ⟨g10, 0, none⟩ = some (.string ask) ∧ ((wb.setCell ⟨w.heap.size, 0, none⟩ (.string ask)).setCell ⟨w.heap.size, 1, none⟩ (.string rp)).cell? ⟨g10, 1, none⟩ = some (.string rp) := by
       refine ⟨?_, ?_⟩ <;> (rw [World.cell?_setCell_far _ _ _ _ (by exact hne), World.cell?_setCell_far _ _ _ _ (by exact hne)]; first | exact jd.1 | exact jd.2)
      have lt_wc : w.heap.size < ((wb.setCell ⟨w.heap.size, 0, none⟩ (.string ask)).setCell ⟨w.heap.size, 1, none⟩ (.string rp)).heap.size := by simpa [World.setCell] using lt_wb
      have lg_wc : g10 < ((wb.setCell ⟨w.heap.size, 0, none⟩ (.string ask)).setCell ⟨w.heap.size, 1, none⟩ (.string rp)).heap.size := by simpa [World.setCell] using lg_wb
      go_simp
      generalize ((wb.setCell ⟨w.heap.size, 0, none⟩ (.string ask)).setCell ⟨w.heap.size, 1, none⟩ (.string rp)) = wc at *
      have h4_wc := h4x
      refine hK.out _ _ S_wc (fun jd => ?_)
      clear hK K z0 z1 z2 z3 h4x
      refine tj 12 5 (lh fun _ h => h) rfl jd ?_
      refine wpAnyH_done (by kernel_rfl) ?_ _
      obtain ⟨z0, z1, z2, z3⟩ := row2 h4_wc
      go_wp2_with fail
      (try simp only [Exit.inBlock, Exit.then]); refine bodyPost_ret (by simp [results, Tryz.results148, go_sem, z0, z1]; try rfl) rfl ?_
      exact ⟨⟨_, _, _, rfl, by first | exact hT.out | exact fun _ => hT.out trivial | (intro h; cases h), by first | exact hFf.out | exact fun _ => hFf.out trivial | (intro h; cases h)⟩, B_wc⟩
     ·have hli : lineIs k (bef 64 (restB k s)) (repB k s) s = false := by simp [lineIs, hsl]
      have hNn := HSN.out (.inr (.inr (.inr hli)))
      have hT : Hid (false = true → dec k s = some (bef 64 (restB k s), repB k s)) := fun h => by cases h
      have hFf : Hid (false = false → dec k s = none) := fun _ => hNn
      have hcmp : ((lineB k (bef 64 (restB k s)) (repB k s)).toList == (s ++ ⟨#[10]⟩).toList) = false := by
       rw [toList_beq]
       refine decide_eq_false (fun e => hsl ?_)
       have := congrArg (fun x : BA => x.data.toList) e
       simp only [lineB, Joins.data_append] at this
       exact ba_ext (List.append_cancel_right this)
      clear hNn hli hsl HDI HSN
      go_enter Tryz.func148, Tryz.ntmps148
      go_wp2_with fail
      refine (l1Num_any k h0 (by omega) _).mono ?_
      rintro e w1 ⟨rfl, hb1⟩
      go_wp2_with fail
      refine (l1Split_any s 35 hs w1).mono ?_
      rintro e w2 ⟨v2, P2, rfl, hown2, hP1, hPh, _, _, hb2⟩
      have hbx := hb1.trans (hb2.mono hb1.size)
      obtain ⟨g2, c2, rfl, hc2⟩ := split_val hown2 hP1 hPh
      have hP2 : (0 : Int) < (P2.length : Int) := by omega
      have hP3 : 0 < P2.length := by omega
      clear hb1 hb2 hown2 hP1 hPh
      have h4_ := zero_row hbx
      obtain ⟨z0, z1, z2, z3⟩ := row2 h4_
      have B2 : Below w.heap.size w w2 := HAL.trans (hbx.mono (by simp))
      have lt2 : w.heap.size < w2.heap.size := Nat.lt_of_lt_of_le (by simp) hbx.size
      rw [hAdef.out]
      go_wp2_with fail
      rw [hRdef.out]
      refine (l1Split_any (restB k s) 64 hrs w2).mono ?_
      rintro e w3 ⟨v3, P3, rfl, hown3, hQ1, hQh, _, _, hb3⟩
      obtain ⟨g3, c3', rfl, hc3⟩ := split_val hown3 hQ1 hQh
      have hQ2 : (0 : Int) < (P3.length : Int) := by omega
      have hQ3 : 0 < P3.length := by omega
      clear hown3 hQ1 hQh
      have B3 := below_of B2 hb3 B2.size
      have lt3 : w.heap.size < w3.heap.size := Nat.lt_of_lt_of_le lt2 hb3.size
      have h4w3 := (hb3.block w.heap.size lt2).trans h4_
      obtain ⟨y0, y1, y2, y3⟩ := row2 h4w3
      clear z0 z1 z2 z3 hc2
      go_wp2_with fail
      rw [hPdef.out]
      generalize hask2 : bef 64 (restB k s) = ask at *
      generalize hrp2 : repB k s = rp at *
      have h4_W : (w3.alloc (.cells #[.string ask, .string rp] 70)).heap[w.heap.size]? = some (.cells #[.string ⟨#[]⟩, .string ⟨#[]⟩] 70 (0, 0)) := (((Below.refl _ w3).alloc (Nat.le_refl _) _).block _ lt3).trans h4w3
      have S_W : (w3.alloc (.cells #[.string ask, .string rp] 70)).cell? ⟨w3.heap.size, 0, none⟩ = some (.string ask) ∧ (w3.alloc (.cells #[.string ask, .string rp] 70)).cell? ⟨w3.heap.size, 1, none⟩ = some (.string rp) := ⟨by simp, by simp⟩
      have lt_W : w.heap.size < (w3.alloc (.cells #[.string ask, .string rp] 70)).heap.size := by simp; omega
      have lg_W : w3.heap.size < (w3.alloc (.cells #[.string ask, .string rp] 70)).heap.size := by simp
      have B_W : Below w.heap.size w (w3.alloc (.cells #[.string ask, .string rp] 70)) := B3.alloc B3.size _
      have hne : w.heap.size ≠ w3.heap.size := by omega
      have hlt4 : w.heap.size < w.heap.size + 1 := by omega
      generalize (w3.alloc (.cells #[.string ask, .string rp] 70)) = W at *
      generalize w3.heap.size = g10 at *
      refine wp_region_held_drew (S := fun w' => w'.cell? ⟨g10, 0, none⟩ = some (.string ask) ∧ w'.cell? ⟨g10, 1, none⟩ = some (.string rp)) (by kernel_rfl) S_W (fun jd => ?_)
      have h4_W : W.drew.heap[w.heap.size]? = _ := h4_W
      have lt_W : w.heap.size < W.drew.heap.size := lt_W
      have lg_W : g10 < W.drew.heap.size := lg_W
      have B_W : Below w.heap.size w W.drew := B_W.drew
      clear S_W
      generalize W.drew = W at *
      refine tj 0 53 (lh fun _ h => h) rfl jd ?_
      refine tj 1 54 (lh fun _ h => h) rfl jd ?_
      refine wpAnyH_ready (rs := [2]) (by kernel_rfl) (by simp) ?_
      refine (AllReadyH.cons rfl (fun K hK => ?_) AllReadyH.nil)
      go_simp
      refine (l27Good_any ask rp hci hri _).mono ?_
      rw [hg]
      rintro e wa ⟨rfl, hb_wa⟩
      have h4_wa := (hb_wa.block w.heap.size (by first | exact hlt4 | exact lt_W)).trans h4_W
      have lt_wa : w.heap.size < wa.heap.size := Nat.lt_of_lt_of_le lt_W hb_wa.size
      have B_wa := below_of B_W hb_wa B_W.size
      have S_wa : wa.cell? ⟨g10, 0, none⟩ = some (.string ask) ∧ wa.cell? ⟨g10, 1, none⟩ = some (.string rp) := ⟨(hb_wa.cell (p := ⟨g10, 0, none⟩) lg_W).trans jd.1, (hb_wa.cell (p := ⟨g10, 1, none⟩) lg_W).trans jd.2⟩
      have lg_wa : g10 < wa.heap.size := Nat.lt_of_lt_of_le lg_W hb_wa.size
      refine hK.out _ _ S_wa (fun jd => ?_)
      clear hK K
      refine tj 3 56 (lh fun _ h => h) rfl jd ?_
      refine tj 4 57 (lh fun _ h => h) rfl jd ?_
      refine tj 5 58 (lh fun _ h => h) rfl jd ?_
      refine tj 7 60 (lh fun _ h => h) rfl jd ?_
      refine wpAnyH_takeD (i := 8) (d := 61) (v := ?_) rfl (by kernel_rfl) (by kernel_rfl) (by kernel_rfl) (fun _ _ _ h => h) (by rfl) ?_ jd ?_
      rotate_left
      ·intro wS hS
       refine run_add_strP ⟨_, _, rfl, rfl, by simp only [ByteArray.size_append', ByteArray.size_mk', List.size_toArray, List.length_cons, List.length_nil]; omega, ?_⟩
       with_reducible rfl
      simp only [Act.put, p1, p2, p3]
      refine wpAnyH_ready (rs := [6]) (by kernel_rfl) (by simp) ?_
      refine (AllReadyH.cons rfl (fun K hK => ?_) AllReadyH.nil)
      go_simp
      refine (l27Line_any k ask rp h0 (by omega) hc1 hr1 _).mono ?_
      rintro e wb ⟨rfl, hb_wb⟩
      have h4_wb := (hb_wb.block w.heap.size (by first | exact hlt4 | exact lt_wa)).trans h4_wa
      have lt_wb : w.heap.size < wb.heap.size := Nat.lt_of_lt_of_le lt_wa hb_wb.size
      have B_wb := below_of B_wa hb_wb B_wa.size
      have S_wb : wb.cell? ⟨g10, 0, none⟩ = some (.string ask) ∧ wb.cell? ⟨g10, 1, none⟩ = some (.string rp) := ⟨(hb_wb.cell (p := ⟨g10, 0, none⟩) lg_wa).trans jd.1, (hb_wb.cell (p := ⟨g10, 1, none⟩) lg_wa).trans jd.2⟩
      have lg_wb : g10 < wb.heap.size := Nat.lt_of_lt_of_le lg_wa hb_wb.size
      refine hK.out _ _ S_wb (fun jd => ?_)
      clear hK K
      refine tj 9 62 (lh fun _ h => h) rfl jd ?_
      refine tj 10 63 (lh fun _ h => h) rfl jd ?_
      refine wpAnyH_ready (rs := [11]) (by kernel_rfl) (by simp) ?_
      refine (AllReadyH.cons rfl (fun K hK => ?_) AllReadyH.nil)
      obtain ⟨z0, z1, z2, z3⟩ := row2 h4_wb
      have h4x := row2_set (x := ask) (y := rp) h4_wb
      have B_wc : Below w.heap.size w ((wb.setCell ⟨w.heap.size, 0, none⟩ (.string ask)).setCell ⟨w.heap.size, 1, none⟩ (.string rp)) := (B_wb.setCell (Nat.le_refl _) _).setCell (Nat.le_refl _) _
      have S_wc : ((wb.setCell ⟨w.heap.size, 0, none⟩ (.string ask)).setCell ⟨w.heap.size, 1, none⟩ (.string rp)).cell? ⟨g10, 0, none⟩ = some (.string ask) ∧ ((wb.setCell ⟨w.heap.size, 0, none⟩ (.string ask)).setCell ⟨w.heap.size, 1, none⟩ (.string rp)).cell? ⟨g10, 1, none⟩ = some (.string rp) := by
       refine ⟨?_, ?_⟩ <;> (rw [World.cell?_setCell_far _ _ _ _ (by exact hne), World.cell?_setCell_far _ _ _ _ (by exact hne)]; first | exact jd.1 | exact jd.2)
      have lt_wc : w.heap.size < ((wb.setCell ⟨w.heap.size, 0, none⟩ (.string ask)).setCell ⟨w.heap.size, 1, none⟩ (.string rp)).heap.size := by simpa [World.setCell] using lt_wb
      have lg_wc : g10 < ((wb.setCell ⟨w.heap.size, 0, none⟩ (.string ask)).setCell ⟨w.heap.size, 1, none⟩ (.string rp)).heap.size := by simpa [World.setCell] using lg_wb
      go_simp
      generalize ((wb.setCell ⟨w.heap.size, 0, none⟩ (.string ask)).setCell ⟨w.heap.size, 1, none⟩ (.string rp)) = wc at *
      have h4_wc := h4x
      refine hK.out _ _ S_wc (fun jd => ?_)
      clear hK K z0 z1 z2 z3 h4x
      refine tj 12 5 (lh fun _ h => h) rfl jd ?_
      refine wpAnyH_done (by kernel_rfl) ?_ _
      obtain ⟨z0, z1, z2, z3⟩ := row2 h4_wc
      go_wp2_with fail
      (try simp only [Exit.inBlock, Exit.then]); refine bodyPost_ret (by simp [results, Tryz.results148, go_sem, z0, z1]; try rfl) rfl ?_
      exact ⟨⟨_, _, _, rfl, by first | exact hT.out | exact fun _ => hT.out trivial | (intro h; cases h), by first | exact hFf.out | exact fun _ => hFf.out trivial | (intro h; cases h)⟩, B_wc⟩
  ·have hNone : Hid (dec k s = none) := HSN.out (.inr (.inl c2))
   have hcm : (((bef 35 s).extract 0 (aheadB k).size).toList == (aheadB k).toList) = false := by rw [toList_beq]; simp [c2]
   clear c2
   go_enter Tryz.func148, Tryz.ntmps148
   go_wp2_with fail
   refine (l1Num_any k h0 (by omega) _).mono ?_
   rintro e w1 ⟨rfl, hb1⟩
   go_wp2_with fail
   refine (l1Split_any s 35 hs w1).mono ?_
   rintro e w2 ⟨v2, P2, rfl, hown2, hP1, hPh, _, _, hb2⟩
   have hbx := hb1.trans (hb2.mono hb1.size)
   obtain ⟨g2, c2, rfl, hc2⟩ := split_val hown2 hP1 hPh
   have hP2 : (0 : Int) < (P2.length : Int) := by omega
   have hP3 : 0 < P2.length := by omega
   clear hb1 hb2 hown2 hP1 hPh
   have h4_ := zero_row hbx
   obtain ⟨z0, z1, z2, z3⟩ := row2 h4_
   have B2 : Below w.heap.size w w2 := HAL.trans (hbx.mono (by simp))
   have lt2 : w.heap.size < w2.heap.size := Nat.lt_of_lt_of_le (by simp) hbx.size
   rw [hAdef.out]
   go_wp2_with fail
   obtain ⟨a0, a1, _, _⟩ := row2 (row2_set (x := ⟨#[]⟩) (y := ⟨#[]⟩) h4_)
   have BZ := (B2.setCell (p := ⟨w.heap.size, 0, none⟩) (Nat.le_refl _) (.string ⟨#[]⟩)).setCell (p := ⟨w.heap.size, 1, none⟩) (Nat.le_refl _) (.string ⟨#[]⟩)
   generalize (w2.setCell ⟨w.heap.size, 0, none⟩ (.string ⟨#[]⟩)).setCell ⟨w.heap.size, 1, none⟩ (.string ⟨#[]⟩) = WZ at *
   (try simp only [Exit.inBlock, Exit.then]); refine bodyPost_ret (by simp [results, Tryz.results148, go_sem, a0, a1]; try rfl) rfl ?_
   exact ⟨⟨_, _, _, rfl, (fun h => by cases h), fun _ => hNone.out⟩, BZ⟩
end Go.Proofs.YtpndjhelpoenpaaGreatDoor
namespace Go.Proofs.YtpndjhelpoenpaaGreatDoor
open Go.RowKit
attribute [local go_sem ↓] Go.wp_at_zero Go.wp_at_succ
theorem split_val2 {w : World} {lo : Nat} {v : Value} {P : List BA} {x : BA} (h : w.ownsRow lo 9 1 v P.length (P.map Value.string)) (h1 : 1 ≤ P.length) (hx : P.headD ⟨#[]⟩ = x) :
  ∃ g c cur, v = .slice (some ⟨g, 0, none⟩) P.length c ∧ w.cell? ⟨g, 0, none⟩ = some (.string x) ∧ w.heap[g]? = some (.cells cur 9 (0, 0)) := by
 obtain ⟨g, c, rfl, hc⟩ := split_val h h1 hx
 rcases h.2 with ⟨h2, _⟩ | ⟨g', cap, cur, h2, _, hg, _⟩
 ·cases h2
 ·simp only [Value.slice.injEq, Option.some.injEq, Addr.mk.injEq, and_true, true_and] at h2
  obtain ⟨rfl, _⟩ := h2
  exact ⟨g, c, cur, rfl, hc, hg⟩
theorem far_cell {w2 W8 w7 : World} {g : Nat} {cur : Array Value} {x : Value} {base n : Nat} {v : Value} {xs : List Value} (hgrow : W8.grownBy w7 v.ownBlock) (hown : W8.ownsRow base 70 2 v n xs) (hb : Below w2.heap.size w2 W8)
  (hh : w2.heap[g]? = some (.cells cur 9 (0, 0))) (hc : w2.cell? ⟨g, 0, none⟩ = some x) : w7.cell? ⟨g, 0, none⟩ = some x := by
 have hlt := (Array.getElem?_eq_some_iff.1 hh).1
 have h8 := (hb.block g hlt).trans hh
 refine (hgrow.cell_far ⟨g, 0, none⟩ (Nat.lt_of_lt_of_le hlt hb.size) ?_).trans (kp hb hc)
 intro he
 rcases hown.2 with ⟨rfl, _⟩ | ⟨G, cap, cur', rfl, _, hG, _⟩
 ·simp [Value.ownBlock] at he
 ·simp [Value.ownBlock] at he
  subst he
  rw [h8] at hG
  simp at hG
theorem l27Open_any (s : BA) (hs : s.size ≤ 4000000) (w : World) :
  Calls Tryz.prog 102 #[.string s] w fun e w' => ∃ v, e = .returned (.tuple #[v, .int .i64 ((readN s 60).2 : Nat)]) ∧ w'.ownsRow w.heap.size 70 2 v (readN s 60).1.length (recCells (readN s 60).1) ∧ Below w.heap.size w w' := by
 go_enter Tryz.func102, Tryz.ntmps102
 go_wp2_with fail
 go_loopw [4, 5] (fun v rd wr => ∃ m : Nat, m ≤ 60 ∧ Hid ((readN s m).1.length = m) ∧ rd = .int .i64 ((readN s m).2 : Nat) ∧ wr.ownsRow w.heap.size 70 2 v (readN s m).1.length (recCells (readN s m).1) ∧ Below w.heap.size w wr) (fun v _ _ => 60 - lenOf v)
 case atStart => exact ⟨0, by omega, rfl, rfl, World.ownsRow_made w #[] 0 (Nat.le_refl _) (by unfold maxLen; omega) rfl, (Below.refl _ w).alloc (Nat.le_refl _) _⟩
 case round =>
  obtain ⟨m, hm60, hlm, rfl, hown, hB⟩ := hrel
  obtain ⟨hat, _⟩ := readN_at s m hm60
  have hsz := hB.size
  obtain ⟨A4, c4, hv4, _, _⟩ := own_form hown
  rw [hlm.out] at hv4
  have HST : Hid (∀ n, m ≤ n → stepR s m (readN s m).2 = none → readN s n = readN s m) := fun n hn hs => readN_stop hlm.out hs hn
  have HYE : Hid (∀ e a, stepR s m (readN s m).2 = some (e, a) → readN s (m + 1) = ((readN s m).1 ++ [e], a)) := fun e a hs => readN_yes hlm.out hs
  have HL : Hid ((readN s m).1.length = m) := hlm.out
  have hl : (readN s m).1.length ≤ 100000000 := by rw [hlm.out]; omega
  clear hlm
  have HRN := lh (Eq.refl (readN s m))
  generalize hR : readN s m = RN at *
  obtain ⟨L, at_⟩ := RN
  simp only at *
  have HR := lh hR
  have HO : Hid (wr.ownsRow w.heap.size 70 2 u4 L.length (recCells L)) := hown
  clear hR HRN hown
  subst hv4
  have hat0 : (0 : Int) ≤ (at_ : Int) := by omega
  have hat1 : (at_ : Int) ≤ (s.size : Int) := by omega
  by_cases hend : at_ = s.size
  ·have hnone : Hid (stepR s m at_ = none) := by
    show stepR s m at_ = none
    have h0 : (s.extract at_ s.size).size = 0 := by simp [ByteArray.size_extract]; omega
    have hn : noByte (s.extract at_ s.size) 10 = true := by unfold noByte; rw [h0]; rfl
    unfold stepR
    rw [hn]; simp
   have hge : ¬ ((at_ : Int) < (s.size : Int)) := by omega
   clear hend
   go_wp2_with fail
   go_ret2
   refine ⟨.slice A4 m c4, ?_, ?_, hB⟩
   ·have hq := HST.out 60 (by omega) hnone.out; rw [hq]; try rfl
   ·rw [HST.out 60 (by omega) hnone.out]; exact HO.out
  ·have hlti : (at_ : Int) < (s.size : Int) := by omega
   by_cases hlt : m < 60
   ·have hst : Hid (stepR s m at_ = if noByte (s.extract at_ s.size) 10 then none else (dec m (bef 10 (s.extract at_ s.size))).map fun e => (e, at_ + (bef 10 (s.extract at_ s.size)).size + 1)) := rfl
    have hxs : (s.extract at_ s.size).size ≤ 4000000 := by simp [ByteArray.size_extract]; omega
    have hmi : (m : Int) < 60 := by omega
    have hm0 : (0 : Int) ≤ (m : Int) := by omega
    generalize hX : s.extract at_ s.size = X at hst hxs
    have hls := bef_size 10 X
    go_wp2_with fail
    first | rw [hX] | skip
    refine (l1Split_any X 10 hxs wr).mono ?_
    rintro e w1 ⟨v1, P, rfl, hown1, hP1, hPh, hPn, hPl, hb1⟩
    clear hX
    obtain ⟨g1, c1, cur1, rfl, hc1, hh1⟩ := split_val2 hown1 hP1 hPh
    have hP2 : (0 : Int) < (P.length : Int) := by omega
    have hP3 : 0 < P.length := by omega
    have B1 := below_of hB hb1 hB.size
    have hg1 : g1 < w1.heap.size := World.block_lt_of_cell? w1 _ hc1
    have HO1 := lh (ownsRow_below HO.out hb1)
    generalize bef 10 X = line at hst hls hc1
    clear HO hb1 hown1 hP1 hPh
    go_wp2_with fail
    refine (l27Read_any line m hm0 (by omega) (by omega) w1).mono ?_
    rintro e w2 ⟨⟨cm, rp, bb, rfl, hbt, hbf⟩, hb2⟩
    have HBT := lh hbt
    have HBF := lh hbf
    clear hbt hbf
    have B2 := below_of B1 hb2 B1.size
    have HO2 := lh (ownsRow_below HO1.out hb2)
    have hc2 := kp hb2 hc1
    have hh2 := (hb2.block g1 hg1).trans hh1
    have hg2 : g1 < w2.heap.size := Nat.lt_of_lt_of_le hg1 hb2.size
    have B3 : Below w.heap.size w (w2.alloc (.cells #[.string cm, .string rp] 70)) := B2.alloc B2.size _
    have AL2 := (Below.refl _ w2).alloc (Nat.le_refl _) (.cells #[.string cm, .string rp] 70)
    have hs2 := B2.size
    have HH2 := lh hh2
    clear hc1 hb2 HO1 hh1 hh2
    by_cases hn : P.length < 2
    ·have hnone : Hid (stepR s m at_ = none) := by show _ = _; rw [hst.out, hPn]; simp [hn]
     have hnd2 : decide (P.length < 2) = true := by simp; omega
     have hni : (P.length : Int) < 2 := by omega
     go_wp2_with fail
     go_ret2
     refine ⟨.slice A4 m c4, ?_, ?_, B3⟩
     ·have hq := HST.out 60 (by omega) hnone.out; rw [hq]; try rfl
     ·rw [HST.out 60 (by omega) hnone.out]; exact ownsRow_below HO2.out AL2
    ·have hni : ¬ ((P.length : Int) < 2) := by omega
     have hnd2 : decide (P.length < 2) = false := by simp; omega
     have hnd3 : decide ((P.length : Int) < 2) = false := by simp; omega
     have hst2 : Hid (stepR s m at_ = (dec m line).map fun e => (e, at_ + line.size + 1)) := by show _ = _; rw [hst.out, hPn]; simp [hn]
     cases bb with
     | false =>
      have hnone : Hid (stepR s m at_ = none) := by show _ = _; rw [hst2.out, HBF.out rfl]; rfl
      go_wp2_with fail
      go_ret2
      refine ⟨.slice A4 m c4, ?_, ?_, B3⟩
      ·have hq := HST.out 60 (by omega) hnone.out; rw [hq]; try rfl
      ·rw [HST.out 60 (by omega) hnone.out]; exact ownsRow_below HO2.out AL2
     | true =>
      have hsome : Hid (stepR s m at_ = some ((cm, rp), at_ + line.size + 1)) := by show _ = _; rw [hst2.out, HBT.out rfl]; rfl
      have HC2 := lh hc2
      go_wp2_with (at_builtin; refine wpList_append_rec _ rfl _ _ 66 rfl w.heap.size Tryz.underlying66 L cm rp _ rfl ((HO2.out.alloc _).alloc _) _ rfl (by simp) (by simp) hl (by simp; omega) ?_; intro v' w7 hown7 hgrow7; refine Hid.out ?_)
      have hc7 := far_cell hgrow7 ((HO2.out.alloc _).alloc _) (by go_grown) HH2.out HC2.out
      refine lh ?_
      go_wp2_with fail
      go_roundw
      case rel => exact ⟨m + 1, by omega, by show _ = _; rw [HYE.out _ _ hsome.out]; simp [HL.out], by rw [HYE.out _ _ hsome.out]; go_num, by rw [HYE.out _ _ hsome.out]; exact hown7, below_app (B3.alloc B3.size _) ((HO2.out.alloc _).alloc _) hgrow7⟩
      case measure =>
       obtain ⟨A7, c7, rfl, _, _⟩ := own_form hown7
       have := HL.out
       simp [lenOf]; omega
   ·obtain rfl : m = 60 := by omega
    go_wp2_with fail
    go_ret2
    exact ⟨.slice A4 60 c4, by have hq := HR.out; rw [hq]; try rfl, by rw [HR.out]; exact HO.out, hB⟩
end Go.Proofs.YtpndjhelpoenpaaGreatDoor
namespace Go.Proofs.YtpndjhelpoenpaaGreatDoor
open Go.RowKit
attribute [local go_sem ↓] Go.wp_at_zero Go.wp_at_succ
theorem row3 {w : World} {g : Nat} {p q : BA} {z : Int} (h : w.heap[g]? = some (.cells #[.string p, .string q, .int .i64 z] 33 (0, 0))) : w.cell? ⟨g, 0, none⟩ = some (.string p) ∧ w.cell? ⟨g, 1, none⟩ = some (.string q) ∧ w.cell? ⟨g, 2, none⟩ = some (.int .i64 z) ∧ w.frozen? ⟨g, 0, none⟩ = false ∧ w.frozen? ⟨g, 1, none⟩ = false ∧ w.frozen? ⟨g, 2, none⟩ = false := by
 refine ⟨by rw [cell_of_row w g 0 _ _ (0, 0) h]; rfl, by rw [cell_of_row w g 1 _ _ (0, 0) h]; rfl, by rw [cell_of_row w g 2 _ _ (0, 0) h]; rfl, by simp [World.frozen?, h], by simp [World.frozen?, h], by simp [World.frozen?, h]⟩
theorem row3_set {w : World} {g : Nat} {p q x y : BA} {z u : Int} (h : w.heap[g]? = some (.cells #[.string p, .string q, .int .i64 z] 33 (0, 0))) : (((w.setCell ⟨g, 0, none⟩ (.string x)).setCell ⟨g, 1, none⟩ (.string y)).setCell ⟨g, 2, none⟩ (.int .i64 u)).heap[g]? = some (.cells #[.string x, .string y, .int .i64 u] 33 (0, 0)) := by
 simp [World.setCell, Array.getElem?_modify, h]
theorem base_le {w : World} {b b' : Nat} {e : TypeId} {size : Nat} {v : Value} {n : Nat} {xs : List Value} (h : w.ownsRow b e size v n xs) (hb : b' ≤ b) : w.ownsRow b' e size v n xs := by
 obtain ⟨h1, h2⟩ := h
 refine ⟨h1, ?_⟩
 rcases h2 with h2 | ⟨g, cap, cur, h3, h4, h5⟩
 ·exact .inl h2
 ·exact .inr ⟨g, cap, cur, h3, Nat.le_trans hb h4, h5⟩
def recOk (s : BA) : Bool := decide (s.size ≤ 30000)
def recD (s : BA) : BA := if recOk s then s.extract 0 (readN s 60).2 else ⟨#[]⟩
def recC (s : BA) : Int := if recOk s then (readN s 60).1.length else 0
def recR (s : BA) : Int := if recOk s then ((readN s 60).2 : Nat) else 0
def logOk (D P : BA) (z : Int) : Bool := decide ((readN (D ++ P) 60).2 = (D ++ P).size) && decide ((readN D 60).2 = D.size) && decide (z = ((readN (D ++ P) 60).1.length : Nat))
theorem logOk_size {D P : BA} {z : Int} (h : logOk D P z = true) : D.size + P.size ≤ 24780 := by
 simp only [logOk, Bool.and_eq_true, decide_eq_true_eq] at h
 have := (readN_at (D ++ P) 60 (Nat.le_refl _)).2
 rw [h.1.1, size_app] at this
 omega
theorem recordsOf_any (D P : BA) (z : Int) (hD : D.size ≤ 1048576) (hP : P.size ≤ 1048576) (w : World) (ht : Tab w) (hm : Mx w) :
  Calls Tryz.prog 77 #[.agg #[.string D, .string P, .int .i64 z]] w fun e w' => ∃ v, e = .returned (.tuple #[v, .bool (logOk D P z)]) ∧ w'.ownsRow w.heap.size 70 2 v (readN (D ++ P) 60).1.length (recCells (readN (D ++ P) 60).1) ∧ Below w.heap.size w w' := by
 have HAL : Below w.heap.size w (w.alloc (.cells #[.string D, .string P, .int .i64 z] 33)) := (Below.refl _ w).alloc (Nat.le_refl _) _
 have HF0 : Hid (∀ w', Below (w.alloc (.cells #[.string D, .string P, .int .i64 z] 33)).heap.size (w.alloc (.cells #[.string D, .string P, .int .i64 z] 33)) w' → w'.cell? ⟨w.heap.size, 0, none⟩ = some (.string D) ∧ w'.cell? ⟨w.heap.size, 1, none⟩ = some (.string P) ∧ w'.cell? ⟨w.heap.size, 2, none⟩ = some (.int .i64 z)) := by
  intro w' hq
  exact (cells3 (bx (g := w.heap.size) hq))
 have hsz : (D ++ P).size ≤ 4000000 := by rw [size_app]; omega
 have HR1 := lh (readRecords_any (D ++ P) hsz (w.alloc (.cells #[.string D, .string P, .int .i64 z] 33)) (ht.below HAL) (hm.below HAL))
 have HR2 := lh (fun W hT hM => readRecords_any D (by omega) W hT hM)
 have HOK : Hid (logOk D P z = (decide ((readN (D ++ P) 60).2 = (D ++ P).size) && decide ((readN D 60).2 = D.size) && decide (z = ((readN (D ++ P) 60).1.length : Nat)))) := rfl
 have hszn : D.size + P.size ≤ 4000000 := by omega
 have hsa : (D ++ P).size = D.size + P.size := size_app D P
 rw [hsa] at HOK
 generalize (readN (D ++ P) 60).2 = n1 at *
 generalize (readN (D ++ P) 60).1 = L at *
 generalize (readN D 60).2 = n2 at *
 generalize (readN D 60).1 = L2 at *
 clear hsa hsz
 go_enter Tryz.func77, Tryz.ntmps77
 go_wp2_with fail
 refine HR1.out.mono ?_
 rintro e w1 ⟨v1, rfl, hown1, hb1⟩
 obtain ⟨A1, c1, rfl, _, _⟩ := own_form hown1
 obtain ⟨q0, q1, q2⟩ := HF0.out w1 hb1
 have B1 := HAL.trans (hb1.mono (by simp))
 go_wp2_with fail
 refine (HR2.out w1 (ht.below B1) (hm.below B1)).mono ?_
 rintro e w2 ⟨v2, rfl, hown2, hb2⟩
 obtain ⟨A2, c2, rfl, _, _⟩ := own_form hown2
 have hb12 := hb1.trans (hb2.mono hb1.size)
 have B2 := HAL.trans (hb12.mono (by simp))
 have HO := lh (base_le (b' := w.heap.size) (ownsRow_below hown1 hb2) (by simp))
 have HF : Hid (∀ w', Below w2.heap.size w2 w' → w'.cell? ⟨w.heap.size, 0, none⟩ = some (.string D) ∧ w'.cell? ⟨w.heap.size, 1, none⟩ = some (.string P) ∧ w'.cell? ⟨w.heap.size, 2, none⟩ = some (.int .i64 z)) := fun w' hq => HF0.out w' (hb12.trans (hq.mono hb12.size))
 clear hown1 hown2 hb1 hb2 hb12 HF0 HR1 HR2 q0 q1 q2 HAL B1
 go_wp2_with fail
 by_cases e1 : n1 = D.size + P.size
 ·have b1 : ((n1 : Int) == (D.size : Int) + (P.size : Int)) = true := by simp; omega
  have b1' : (n1 == D.size + P.size) = true := by simp [e1]
  by_cases e2 : n2 = D.size
  ·have b2 : ((n2 : Int) == (D.size : Int)) = true := by simp; omega
   have b2' : (n2 == D.size) = true := by simp [e2]
   have HOK2 : Hid (logOk D P z = (z == ((L.length : Nat) : Int))) := by show _ = _; rw [HOK.out, e1, e2]; simp only [decide_true, Bool.true_and]; rw [Bool.eq_iff_iff]; simp
   clear e1 e2
   refine wp_region_held_drew (S := fun w' => Below (w2).heap.size (w2) w') (by kernel_rfl) ((Below.refl _ _).drew) (fun jd => ?_)
   refine tj4 0 25 1 26 2 27 3 28 HF jd ?_
   refine tj4 4 29 5 30 6 31 7 32 HF jd ?_
   refine tj4 8 33 9 34 10 35 11 36 HF jd ?_
   refine tj4 12 37 13 38 14 39 15 40 HF jd ?_
   refine tj4 16 41 17 42 18 43 19 2 HF jd ?_
   refine tj 20 3 HF rfl jd ?_
   refine wpAnyH_done (by kernel_rfl) ?_ _
   go_wp2_with fail
   go_ret2
   exact ⟨_, by rw [HOK2.out]; rfl, ownsRow_below HO.out jd, below_of B2 jd B2.size⟩
  ·have b2 : ((n2 : Int) == (D.size : Int)) = false := by simp; omega
   have b2' : (n2 == D.size) = false := by simp [e2]
   have HOK2 : Hid (logOk D P z = false) := by show _ = _; rw [HOK.out]; simp [e2]
   clear e1 e2
   refine wp_region_held_drew (S := fun w' => Below (w2).heap.size (w2) w') (by kernel_rfl) ((Below.refl _ _).drew) (fun jd => ?_)
   refine tj4 0 25 1 26 2 27 3 28 HF jd ?_
   refine tj4 4 29 5 30 6 31 7 32 HF jd ?_
   refine tj4 8 33 9 34 10 35 11 36 HF jd ?_
   refine tj 12 37 HF rfl jd ?_
   refine wpAnyH_skips (by kernel_rfl) (fun _ _ _ _ _ h => h) jd [(13, 38), (14, 39), (15, 40), (16, 41), (17, 42)] 3 5 _ _ rfl (by kernel_rfl) ?_
   simp only [skipL, skipA, Act.put, p1, p2, p3]
   refine tj3 18 43 19 2 20 3 HF jd ?_
   refine wpAnyH_done (by kernel_rfl) ?_ _
   go_wp2_with fail
   go_ret2
   exact ⟨_, by rw [HOK2.out]; rfl, ownsRow_below HO.out jd, below_of B2 jd B2.size⟩
 ·have b1 : ((n1 : Int) == (D.size : Int) + (P.size : Int)) = false := by simp; omega
  have b1' : (n1 == D.size + P.size) = false := by simp [e1]
  have HOK2 : Hid (logOk D P z = false) := by show _ = _; rw [HOK.out]; simp [e1]
  clear e1
  refine wp_region_held_drew (S := fun w' => Below (w2).heap.size (w2) w') (by kernel_rfl) ((Below.refl _ _).drew) (fun jd => ?_)
  refine tj4 0 25 1 26 2 27 3 28 HF jd ?_
  refine tj2 4 29 5 30 HF jd ?_
  refine wpAnyH_skips (by kernel_rfl) (fun _ _ _ _ _ h => h) jd [(6, 31), (7, 32), (8, 33), (9, 34), (10, 35)] 10 5 _ _ rfl (by kernel_rfl) ?_
  simp only [skipL, skipA, Act.put, p1, p2, p3]
  refine tj2 11 36 12 37 HF jd ?_
  refine wpAnyH_skips (by kernel_rfl) (fun _ _ _ _ _ h => h) jd [(13, 38), (14, 39), (15, 40), (16, 41), (17, 42)] 3 5 _ _ rfl (by kernel_rfl) ?_
  simp only [skipL, skipA, Act.put, p1, p2, p3]
  refine tj3 18 43 19 2 20 3 HF jd ?_
  refine wpAnyH_done (by kernel_rfl) ?_ _
  go_wp2_with fail
  go_ret2
  exact ⟨_, by rw [HOK2.out]; rfl, ownsRow_below HO.out jd, below_of B2 jd B2.size⟩
theorem IsValidLog_any (D P : BA) (z : Int) (hD : D.size ≤ 1048576) (hP : P.size ≤ 1048576) (w : World) (ht : Tab w) (hm : Mx w) :
  Calls Tryz.prog 73 #[.agg #[.string D, .string P, .int .i64 z]] w fun e w' => e = .returned (.bool (logOk D P z)) ∧ Below w.heap.size w w' := by
 have HAL : Below w.heap.size w (w.alloc (.cells #[.string D, .string P, .int .i64 z] 33)) := (Below.refl _ w).alloc (Nat.le_refl _) _
 go_enter Tryz.func73, Tryz.ntmps73
 go_wp2_with fail
 refine (recordsOf_any D P z hD hP _ (ht.below HAL) (hm.below HAL)).mono ?_
 rintro e w1 ⟨v, rfl, _, hb1⟩
 go_wp2_with fail
 go_ret
 exact ⟨rfl, HAL.trans (hb1.mono (by simp))⟩
theorem l27Log_any (D P : BA) (z : Int) (hD : D.size ≤ 1048576) (hP : P.size ≤ 1048576) (w : World) :
  Calls Tryz.prog 58 #[.agg #[.string D, .string P, .int .i64 z]] w fun e w' => e = .returned (.bool (logOk D P z)) ∧ Below w.heap.size w w' := by
 have HAL : Below w.heap.size w (w.alloc (.cells #[.string D, .string P, .int .i64 z] 33)) := (Below.refl _ w).alloc (Nat.le_refl _) _
 have HF0 : Hid (∀ w', Below (w.alloc (.cells #[.string D, .string P, .int .i64 z] 33)).heap.size (w.alloc (.cells #[.string D, .string P, .int .i64 z] 33)) w' → w'.cell? ⟨w.heap.size, 0, none⟩ = some (.string D) ∧ w'.cell? ⟨w.heap.size, 1, none⟩ = some (.string P) ∧ w'.cell? ⟨w.heap.size, 2, none⟩ = some (.int .i64 z)) := by
  intro w' hq
  exact (cells3 (bx (g := w.heap.size) hq))
 have hsa : (D ++ P).size = D.size + P.size := size_app D P
 by_cases hbig : D.size + P.size ≤ 30000
 ·have hbi : ¬ (30000 < (D.size : Int) + (P.size : Int)) := by omega
  have hsz : (D ++ P).size ≤ 4000000 := by omega
  have HR1 := lh (l27Open_any (D ++ P) hsz (w.alloc (.cells #[.string D, .string P, .int .i64 z] 33)))
  have HR2 := lh (fun W => l27Open_any D (by omega) W)
  have HOK : Hid (logOk D P z = (decide ((readN (D ++ P) 60).2 = (D ++ P).size) && decide ((readN D 60).2 = D.size) && decide (z = ((readN (D ++ P) 60).1.length : Nat)))) := rfl
  rw [hsa] at HOK
  generalize (readN (D ++ P) 60).2 = n1 at *
  generalize (readN (D ++ P) 60).1 = L at *
  generalize (readN D 60).2 = n2 at *
  generalize (readN D 60).1 = L2 at *
  clear hsa hsz
  go_enter Tryz.func58, Tryz.ntmps58
  go_wp2_with fail
  refine HR1.out.mono ?_
  rintro e w1 ⟨v1, rfl, hown1, hb1⟩
  obtain ⟨A1, c1, rfl, _, _⟩ := own_form hown1
  obtain ⟨q0, q1, q2⟩ := HF0.out w1 hb1
  go_wp2_with fail
  refine (HR2.out w1).mono ?_
  rintro e w2 ⟨v2, rfl, hown2, hb2⟩
  obtain ⟨A2, c2, rfl, _, _⟩ := own_form hown2
  have hb12 := hb1.trans (hb2.mono hb1.size)
  have B2 := HAL.trans (hb12.mono (by simp))
  obtain ⟨r0, r1, r2⟩ := HF0.out w2 hb12
  clear hown1 hown2 hb1 hb2 hb12 HF0 HR1 HR2 q0 q1 q2 HAL
  by_cases e1 : n1 = D.size + P.size
  ·have b1 : ((n1 : Int) == (D.size : Int) + (P.size : Int)) = true := by simp; omega
   have b1' : (n1 == D.size + P.size) = true := by simp [e1]
   by_cases e2 : n2 = D.size
   ·have b2 : ((n2 : Int) == (D.size : Int)) = true := by simp; omega
    have b2' : (n2 == D.size) = true := by simp [e2]
    by_cases e3 : z = ((L.length : Nat) : Int)
    ·have HOK2 : Hid (logOk D P z = true) := by show _ = _; rw [HOK.out, e1, e2, e3]; simp
     have b3 : (((L.length : Nat) : Int) == z) = true := by simp; omega
     clear e1 e2 e3
     go_wp2_with fail
     go_ret
     exact ⟨ret_bool (by rw [HOK2.out]), B2⟩
    ·have HOK2 : Hid (logOk D P z = false) := by show _ = _; rw [HOK.out]; simp [e3]
     have b3 : (((L.length : Nat) : Int) == z) = false := by simp; omega
     clear e1 e2 e3
     go_wp2_with fail
     go_ret
     exact ⟨ret_bool (by rw [HOK2.out]), B2⟩
   ·have b2 : ((n2 : Int) == (D.size : Int)) = false := by simp; omega
    have b2' : (n2 == D.size) = false := by simp [e2]
    have HOK2 : Hid (logOk D P z = false) := by show _ = _; rw [HOK.out]; simp [e2]
    clear e1 e2
    go_wp2_with fail
    go_ret
    exact ⟨ret_bool (by rw [HOK2.out]), B2⟩
  ·have b1 : ((n1 : Int) == (D.size : Int) + (P.size : Int)) = false := by simp; omega
   have b1' : (n1 == D.size + P.size) = false := by simp [e1]
   have HOK2 : Hid (logOk D P z = false) := by show _ = _; rw [HOK.out]; simp [e1]
   clear e1
   go_wp2_with fail
   go_ret
   exact ⟨ret_bool (by rw [HOK2.out]), B2⟩
 ·have hbi : 30000 < (D.size : Int) + (P.size : Int) := by omega
  have HOK2 : Hid (logOk D P z = false) := by
   show logOk D P z = false
   cases h : logOk D P z with
   | false => rfl
   | true => have := logOk_size h; omega
  go_enter Tryz.func58, Tryz.ntmps58
  go_wp2_with fail
  go_ret
  exact ⟨ret_bool (by rw [HOK2.out]), HAL⟩
theorem toLog_any (D P : BA) (z : Int) (w : World) :
  Calls Tryz.prog 23 #[.agg #[.string D, .string P, .int .i64 z]] w fun e w' => e = .returned (.agg #[.string D, .string P, .int .i64 z]) ∧ Below w.heap.size w w' := by
 go_enter Tryz.func23, Tryz.ntmps23
 go_wp2
 go_returns
 exact ⟨rfl, by go_grown⟩
theorem eqLog_same (D P : BA) (z : Int) (w : World) :
  Calls Tryz.prog 53 #[.agg #[.string D, .string P, .int .i64 z], .agg #[.string D, .string P, .int .i64 z]] w fun e w' => e = .returned (.bool true) ∧ Below w.heap.size w w' := by
 go_enter Tryz.func53, Tryz.ntmps53
 go_wp2
 go_ret
 exact ⟨rfl, by go_grown⟩
end Go.Proofs.YtpndjhelpoenpaaGreatDoor
namespace Go.Proofs.YtpndjhelpoenpaaGreatDoor
open Go.RowKit
theorem frS {a w : World} {b : Nat} (h : Fr b (b + 1) a w) (j : Nat) (v : Value) : Fr b (b + 1) a (w.setCell ⟨b, j, none⟩ v) := h.setCell (Nat.le_refl _) (Nat.lt_succ_self _) v
theorem rowC {X w' : World} {g : Nat} {o : Obj} (hX : X.heap[g]? = some o) (h : Below X.heap.size X w') : w'.heap[g]? = some o :=
 (h.block g (Array.getElem?_eq_some_iff.1 hX).1).trans hX
theorem rowG {w w' : World} {lo hi g : Nat} {o : Obj} (h : w.heap[g]? = some o) (hf : Fr lo hi w w') (hd : g < lo ∨ hi ≤ g) : w'.heap[g]? = some o := (hf.block g (Array.getElem?_eq_some_iff.1 h).1 hd).trans h
theorem grow_refl (w : World) (r : Option Nat) : w.grownBy w r := ⟨rfl, rfl, rfl, Nat.le_refl _, fun _ _ _ => rfl⟩
theorem grow_trans {a b c : World} {r : Option Nat} (h : a.grownBy b r) (k : b.grownBy c r) : a.grownBy c r :=
 ⟨k.os.trans h.os, k.tape.trans h.tape, k.output.trans h.output, Nat.le_trans h.size k.size, fun i hi hr => (k.block i (Nat.lt_of_lt_of_le hi h.size) hr).trans (h.block i hi hr)⟩
theorem infoConE : (Tryz.prog.info? 35).map (·.size) = some 8 := by kernel_rfl
theorem infoLogE : (Tryz.prog.info? 33).map (·.size) = some 3 := by kernel_rfl
def conPost (w : World) (f : Nat → Int) (n : Nat) (I H S P : Int) (D Q : ByteArray) (z : Int) (e : Ending) (w' : World) : Prop :=
 ∃ A' c', e = .returned (.agg #[.slice A' n c', .int .i64 I, .int .i64 H, .int .i64 S, .int .i64 P, .string D, .string Q, .int .i64 z]) ∧ n ≤ c' ∧ w'.ownsRow w.heap.size 97 4 (.slice A' n c') n ((cellsL f n).map (Value.int .i64)) ∧ Below w.heap.size w w'
theorem copyConsole_any (A : Option Addr) (n c lo hi : Nat) (f : Nat → Int) (I H S P : Int) (D Q : ByteArray) (z : Int) (w : World) (hs : Sl w lo hi 4 A n f) (hn : n ≤ 1048576) (hnc : n ≤ c) (hnone : A = none → n = 0 ∧ c = 0) :
  Calls Tryz.prog 47 #[.agg #[.slice A n c, .int .i64 I, .int .i64 H, .int .i64 S, .int .i64 P, .string D, .string Q, .int .i64 z]] w (conPost w f n I H S P D Q z) := by
 obtain ⟨hX, h1, h2⟩ := bl2 w (.cells #[.slice A n c, .int .i64 I, .int .i64 H, .int .i64 S, .int .i64 P, .string D, .string Q, .int .i64 z] 35) (.cells #[.slice none 0 0, .int .i64 0, .int .i64 0, .int .i64 0, .int .i64 0, .string ⟨#[]⟩, .string ⟨#[]⟩, .int .i64 0] 35)
 go_enter Tryz.func47, Tryz.ntmps47
 go_upto_region 1 with fail
 refine name_wp ?_
 intro w1 hw1
 rw [← hw1] at hX h1 h2
 clear hw1
 obtain ⟨g1, hg1⟩ : ∃ q, w.heap.size = q := ⟨_, rfl⟩
 rw [hg1] at h1 h2
 try rw [hg1]
 obtain ⟨g2, hg2⟩ : ∃ q, g1 + 1 = q := ⟨_, rfl⟩
 rw [hg2] at h2
 try rw [hg2]
 have hne : g1 ≠ g2 := by omega
 have hle2 : w.heap.size ≤ g2 := by omega
 have HS1 := lh (hs.below hX)
 have HX := lh hX
 have H1 := lh h1
 have H2 := lh h2
 have HLE := lh hle2
 clear hg1 hg2 hs hX h1 h2 hle2
 have HF : Hid (∀ w', w1.grownBy w' (some g2) → _) := fun w' hq => cells8 (rowGr H1.out hq hne)
 refine wp_region_held_drew (S := fun w' => w1.grownBy w' (some g2)) (by kernel_rfl) (but_stays w1 _ (grow_refl w1 (some g2)) ((Below.refl _ _).drew)) (fun jd => ?_)
 have hbd : Below w1.heap.size w1 w1.drew := (Below.refl _ _).drew
 obtain ⟨v0, hv0⟩ : ∃ v, w1.drew = v := ⟨_, rfl⟩
 rw [hv0] at jd hbd ⊢
 clear hv0
 refine tj4 0 3 3 6 1 4 4 7 HF jd ?_
 refine wpAnyH_ready (rs := [2]) (by kernel_rfl) (by simp) ?_
 refine (AllReadyH.cons rfl (fun K hK => ?_) AllReadyH.nil)
 go_simp
 refine (copyWorks_any A n c lo hi f I H S P v0 (HS1.out.below hbd) hn hnc hnone).mono ?_
 rintro e v1 ⟨A', c', rfl, hc', _, hown, hbn⟩
 have hr2 := rowC (rowC H2.out hbd) hbn
 have hHeld2 := but_stays v0 v1 jd hbn
 refine hK.out _ _ hHeld2 (fun jd => ?_)
 clear hK K hHeld2
 refine tj 5 8 HF rfl jd ?_
 refine wS0 6 g2 #[.slice A' n c', .int .i64 I, .int .i64 H, .int .i64 S, .int .i64 P, .string D, .string Q, .int .i64 z] 35 infoConE (hr2) (fun w' hg' => grow_trans jd hg') ?ks
 case ks =>
  intro v3 hh hgw hHeld3
  clear jd
  have jd := hHeld3
  clear hHeld3
  refine wpAnyH_done (by kernel_rfl) ?_ _
  have HHR := lh hh
  have hOw := lh (own_other (ownsRow_monoP hown (show w.heap.size ≤ v0.heap.size by have := HX.out.size; have := hbd.size; omega)) hr2 (by decide) hgw)
  have hBw := lh (HX.out.grown jd HX.out.size (fun k hk => by cases hk; exact HLE.out))
  clear hown hr2 hgw hh jd hbn hbd
  go_wp2
  try simp only [Exit.inBlock, Exit.then]
  refine ret_cell1 Tryz.results47 rfl Tryz.underlying35 HHR.out infoConE rfl ?_
  exact ⟨A', c', rfl, hc', hOw.out, hBw.out⟩
theorem l28Own_any (A : Option Addr) (n c lo hi : Nat) (f : Nat → Int) (I H S P : Int) (D Q : ByteArray) (z : Int) (w : World) (hs : Sl w lo hi 4 A n f) (hn : n ≤ 1048576) (hnc : n ≤ c) (hnone : A = none → n = 0 ∧ c = 0) :
  Calls Tryz.prog 41 #[.agg #[.slice A n c, .int .i64 I, .int .i64 H, .int .i64 S, .int .i64 P, .string D, .string Q, .int .i64 z]] w (conPost w f n I H S P D Q z) := by
 obtain ⟨hX, h1, h2⟩ := bl2 w (.cells #[.slice A n c, .int .i64 I, .int .i64 H, .int .i64 S, .int .i64 P, .string D, .string Q, .int .i64 z] 35) (.cells #[.slice none 0 0, .int .i64 0, .int .i64 0, .int .i64 0, .int .i64 0, .string ⟨#[]⟩, .string ⟨#[]⟩, .int .i64 0] 35)
 go_enter Tryz.func41, Tryz.ntmps41
 go_upto_region 1 with fail
 refine name_wp ?_
 intro w1 hw1
 rw [← hw1] at hX h1 h2
 clear hw1
 obtain ⟨g1, hg1⟩ : ∃ q, w.heap.size = q := ⟨_, rfl⟩
 rw [hg1] at h1 h2
 try rw [hg1]
 obtain ⟨g2, hg2⟩ : ∃ q, g1 + 1 = q := ⟨_, rfl⟩
 rw [hg2] at h2
 try rw [hg2]
 have hne : g1 ≠ g2 := by omega
 have hle2 : w.heap.size ≤ g2 := by omega
 have HS1 := lh (hs.below hX)
 have HX := lh hX
 have H1 := lh h1
 have H2 := lh h2
 have HLE := lh hle2
 clear hg1 hg2 hs hX h1 h2 hle2
 have HF : Hid (∀ w', w1.grownBy w' (some g2) → _) := fun w' hq => cells8 (rowGr H1.out hq hne)
 refine wp_region_held_drew (S := fun w' => w1.grownBy w' (some g2)) (by kernel_rfl) (but_stays w1 _ (grow_refl w1 (some g2)) ((Below.refl _ _).drew)) (fun jd => ?_)
 have hbd : Below w1.heap.size w1 w1.drew := (Below.refl _ _).drew
 obtain ⟨v0, hv0⟩ : ∃ v, w1.drew = v := ⟨_, rfl⟩
 rw [hv0] at jd hbd ⊢
 clear hv0
 refine tj4 0 3 3 6 1 4 4 7 HF jd ?_
 refine wpAnyH_ready (rs := [2]) (by kernel_rfl) (by simp) ?_
 refine (AllReadyH.cons rfl (fun K hK => ?_) AllReadyH.nil)
 go_simp
 refine (l25Own_any A n c lo hi f I H S P v0 (HS1.out.below hbd) hn hnc hnone).mono ?_
 rintro e v1 ⟨A', c', rfl, hc', _, hown, hbn⟩
 have hr2 := rowC (rowC H2.out hbd) hbn
 have hHeld2 := but_stays v0 v1 jd hbn
 refine hK.out _ _ hHeld2 (fun jd => ?_)
 clear hK K hHeld2
 refine tj 5 8 HF rfl jd ?_
 refine wS0 6 g2 #[.slice A' n c', .int .i64 I, .int .i64 H, .int .i64 S, .int .i64 P, .string D, .string Q, .int .i64 z] 35 infoConE (hr2) (fun w' hg' => grow_trans jd hg') ?ks
 case ks =>
  intro v3 hh hgw hHeld3
  clear jd
  have jd := hHeld3
  clear hHeld3
  refine wpAnyH_done (by kernel_rfl) ?_ _
  have HHR := lh hh
  have hOw := lh (own_other (ownsRow_monoP hown (show w.heap.size ≤ v0.heap.size by have := HX.out.size; have := hbd.size; omega)) hr2 (by decide) hgw)
  have hBw := lh (HX.out.grown jd HX.out.size (fun k hk => by cases hk; exact HLE.out))
  clear hown hr2 hgw hh jd hbn hbd
  go_wp2
  try simp only [Exit.inBlock, Exit.then]
  refine ret_cell1 Tryz.results41 rfl Tryz.underlying35 HHR.out infoConE rfl ?_
  exact ⟨A', c', rfl, hc', hOw.out, hBw.out⟩
attribute [local go_sem ↓] Go.wp_at_zero Go.wp_at_succ
def joinK (g : Nat → Int) : Nat → ByteArray
 | 0 => ⟨#[]⟩
 | 1 => numB (g 0)
 | k + 2 => (joinK g (k + 1) ++ ⟨#[32]⟩) ++ numB (g (k + 1))
def listB (g : Nat → Int) (n : Nat) : ByteArray := if n = 0 then ⟨#[110, 111, 110, 101]⟩ else joinK g n
theorem joinK_one (g : Nat → Int) : joinK g 1 = numB (g 0) := rfl
theorem joinK_next {g : Nat → Int} {k : Nat} (h : 1 ≤ k) : joinK g (k + 1) = (joinK g k ++ ⟨#[32]⟩) ++ numB (g k) := by
 obtain ⟨m, rfl⟩ : ∃ m, k = m + 1 := ⟨k - 1, by omega⟩
 rfl
theorem joinK_size {g : Nat → Int} {n : Nat} (hg : ∀ j, j < n → 0 ≤ g j ∧ g j ≤ 999999) : ∀ k, k ≤ n → (joinK g k).size ≤ 22 * k
 | 0, _ => Nat.le_refl _
 | 1, h => by
  have := hg 0 (by omega)
  have := numB_size (n := g 0) (by omega) (by omega)
  rw [joinK_one]
  omega
 | k + 2, h => by
  have ih := joinK_size hg (k + 1) (by omega)
  have := hg (k + 1) (by omega)
  have := numB_size (n := g (k + 1)) (by omega) (by omega)
  rw [joinK_next (by omega)]
  simp only [ByteArray.size_append', ByteArray.size_mk', List.size_toArray, List.length_cons, List.length_nil]
  omega
theorem joinTail_snoc (sep : List UInt8) (r : List (List UInt8)) (y : List UInt8) : Lib.joinTail sep (r ++ [y]) = Lib.joinTail sep r ++ sep ++ y := by simp [Lib.joinTail, List.append_assoc]
theorem join_joinK (g : Nat → Int) : ∀ k, 1 ≤ k → Lib.join ((List.range k).map fun j => (numB (g j)).data.toList) [32] = (joinK g k).data.toList
 | 1, _ => by simp [List.range_succ, Lib.join_one, joinK_one]
 | k + 2, _ => by
  have ih := join_joinK g (k + 1) (by omega)
  rw [joinK_next (by omega), Joins.data_append, Joins.data_append, ← ih, List.range_succ, List.map_append, List.map_cons, List.map_nil]
  have h0 : List.range (k + 1) = 0 :: (List.range k).map Nat.succ := List.range_succ_eq_map
  rw [h0, List.map_cons, List.cons_append, Lib.join_cons, Lib.join_cons, joinTail_snoc, List.append_assoc, List.append_assoc, List.append_assoc]
def FillS (w : World) (B n k : Nat) (g : Nat → Int) : Prop := ∃ cur : Array Value, w.heap[B]? = some (.cells cur 9 (0, 0)) ∧ cur.size = n ∧ ∀ j, j < k → cur[j]? = some (.string (numB (g j)))
theorem FillS.cell {w : World} {B n k : Nat} {g : Nat → Int} (h : FillS w B n k g) {i : Nat} (hi : i < n) : (∃ v, w.cell? ⟨B, i, none⟩ = some v) ∧ w.frozen? ⟨B, i, none⟩ = false := by
 obtain ⟨cur, h1, h2, h3⟩ := h
 refine ⟨⟨cur[i]'(by omega), ?_⟩, frozen_of_row w B i _ _ h1⟩
 rw [cell_of_row w B i cur _ (0, 0) h1]
 exact Array.getElem?_eq_getElem (by omega)
theorem FillS.at {w : World} {B n k : Nat} {g : Nat → Int} (h : FillS w B n k g) {i : Nat} (hi : i < k) : w.cell? ⟨B, i, none⟩ = some (.string (numB (g i))) := by
 obtain ⟨cur, h1, h2, h3⟩ := h
 rw [cell_of_row w B i cur _ (0, 0) h1]
 exact h3 i hi
theorem FillS.below {w w' : World} {B n k : Nat} {g : Nat → Int} (h : FillS w B n k g) (hb : Below w.heap.size w w') : FillS w' B n k g := by
 obtain ⟨cur, h1, h2, h3⟩ := h
 exact ⟨cur, (hb.block B (Array.getElem?_eq_some_iff.1 h1).1).trans h1, h2, h3⟩
theorem FillS.lt {w : World} {B n k : Nat} {g : Nat → Int} (h : FillS w B n k g) : B < w.heap.size := by
 obtain ⟨cur, h1, _⟩ := h
 exact (Array.getElem?_eq_some_iff.1 h1).1
theorem FillS.push {w : World} {B n k : Nat} {g : Nat → Int} (h : FillS w B n k g) (hk : k < n) : FillS (w.setCell ⟨B, k, none⟩ (.string (numB (g k)))) B n (k + 1) g := by
 obtain ⟨cur, h1, h2, h3⟩ := h
 refine ⟨cur.setIfInBounds k (.string (numB (g k))), by simp [World.setCell, Array.getElem?_modify, h1], by simpa using h2, fun j hj => ?_⟩
 rw [Array.getElem?_setIfInBounds]
 by_cases hkj : k = j
 ·subst hkj; simp; omega
 ·rw [if_neg hkj]; exact h3 j (by omega)
theorem decimals_any (A : Option Addr) (n c lo hi : Nat) (g : Nat → Int) (w : World) (hs : Sl w lo hi 1 A n g) (hn : n ≤ 1000) (hnc : n ≤ c) (hg : ∀ j, j < n → 0 ≤ g j ∧ g j ≤ 999999) (ht : Tab w) (hn1 : 1 ≤ n) :
  Calls Tryz.prog 171 #[.slice A n c, .string ⟨#[32]⟩] w fun e w' => e = .returned (.string (joinK g n)) ∧ Below w.heap.size w w' := by
 obtain ⟨i, hi, hz0, hz1, hz2⟩ := info_parts infoStr
 have HS := lh hs
 have HT := lh ht
 have hn0 : (0 : Int) ≤ (n : Int) := by omega
 clear hs ht
 go_enter Tryz.func171, Tryz.ntmps171
 go_wp2_with (at_make; refine wpList_make_row _ rfl _ _ 42 rfl 9 i (.string ⟨#[]⟩) Tryz.underlying42 hi hz0 hz1 rfl .i64 .i64 n rfl rfl (by rw [hz2]; omega) (by omega) ?_)
 go_upto_region 2 with fail
 refine name_wp ?_
 intro w1 hw1
 have hb1 : Below w.heap.size w w1 := by rw [hw1]; exact (Below.refl _ w).alloc (Nat.le_refl _) _
 have hf1 : FillS w1 w.heap.size n 0 g := by
  rw [hw1]
  exact ⟨_, heap_alloc_new w _, by simp [size_madeCells], fun j hj => absurd hj (by omega)⟩
 clear hw1
 obtain ⟨B, hB⟩ : ∃ B, w.heap.size = B := ⟨_, rfl⟩
 rw [hB] at hf1
 try rw [hB]
 have HF1 := lh hf1
 have HB1 := lh hb1
 have HBs := lh hB
 clear hf1 hb1 hB
 go_wp2_with fail
 go_loopw [13] (fun kv wr => ∃ k : Nat, k ≤ n ∧ kv = .int .i64 k ∧ FillS wr B n k g ∧ Below w.heap.size w wr) (fun kv _ => n - (intOf kv).toNat)
 case atStart => exact ⟨0, Nat.zero_le _, rfl, HF1.out, HB1.out⟩
 case round =>
  obtain ⟨k, hk, rfl, hf, hB⟩ := hrel
  by_cases hlt : k < n
  ·have hki : (k : Int) < (n : Int) := by omega
   have hk0 : (0 : Int) ≤ (k : Int) := by omega
   obtain ⟨b1, o1, eA, _, hb1, hc⟩ := (HS.out.below hB).here (by omega)
   have d0 := hc (k * 1) (by omega)
   rw [Nat.mul_one] at d0
   have h9 := hg k hlt
   subst eA
   have HF := lh hf
   have HB := lh hB
   have hz := numB_size (n := g k) (by omega) (by omega)
   clear hf hB hc
   go_wp2_with fail
   refine (decimal_any (g k) (by omega) (by omega) wr (HT.out.below HB.out)).mono ?_
   rintro e w2 ⟨rfl, hb2⟩
   have hf2 := HF.out.below hb2
   have hB2 := HB.out.trans (hb2.mono HB.out.size)
   obtain ⟨⟨v0, e0⟩, f0⟩ := hf2.cell hlt
   have hp := lh (hf2.push hlt)
   have hBs := lh (hB2.setCell (p := ⟨B, k, none⟩) (by have := HBs.out; show w.heap.size ≤ B; omega) (.string (numB (g k))))
   clear hf2 hB2 hb2 d0
   go_wp2_with fail
   go_roundw
   case rel => exact ⟨k + 1, by omega, by go_num, hp.out, hBs.out⟩
   case measure => simp [intOf]; omega
  ·obtain rfl : k = n := by omega
   have hki : ¬ ((k : Int) < (k : Int)) := by omega
   have hl := hf.lt
   have hjs := joinK_size hg k (Nat.le_refl _)
   have hjl : (Lib.join (((List.range k).map fun j => numB (g j)).map (·.data.toList)) [32]).length ≤ 140737488355328 := by
    rw [List.map_map]
    have e := join_joinK g k hn1
    rw [show ((fun x : ByteArray => x.data.toList) ∘ fun j => numB (g j)) = fun j => (numB (g j)).data.toList from rfl, e, size_list]
    omega
   have hJ := Tryz.strings_Join B 0 k ((List.range k).map fun j => numB (g j)) ⟨#[32]⟩ wr (fun j x hx => by
    rw [List.getElem?_map] at hx
    by_cases hj : j < k
    ·rw [List.getElem?_range hj] at hx
     simp only [Option.map_some, Option.some.injEq] at hx
     rw [← hx, Nat.zero_add]
     exact hf.at hj
    ·rw [List.getElem?_eq_none (by simp; omega)] at hx
     cases hx) hl (by simp; omega) (by simp) hjl
   have hres : Hid ((⟨(Lib.join (((List.range k).map fun j => numB (g j)).map (·.data.toList)) (ByteArray.mk #[32]).data.toList).toArray⟩ : ByteArray) = joinK g k) := by
    show _ = _
    rw [List.map_map]
    have e := join_joinK g k hn1
    rw [show ((fun x : ByteArray => x.data.toList) ∘ fun j => numB (g j)) = fun j => (numB (g j)).data.toList from rfl, show (ByteArray.mk #[32]).data.toList = [32] from rfl, e]
   rw [List.length_map, List.length_range, hres.out] at hJ
   have HJ := lh hJ
   have HB := lh hB
   clear hJ hf hB hjl hres
   go_wp2_with fail
   refine HJ.out.mono ?_
   rintro e w2 ⟨rfl, hb2⟩
   go_wp2
   go_ret
   exact ⟨rfl, HB.out.trans (hb2.mono HB.out.size)⟩
theorem listText_any (A : Option Addr) (n c lo hi : Nat) (g : Nat → Int) (w : World) (hs : Sl w lo hi 1 A n g) (hn : n ≤ 1000) (hnc : n ≤ c) (hg : ∀ j, j < n → 0 ≤ g j ∧ g j ≤ 999999) (ht : Tab w) :
  Calls Tryz.prog 141 #[.slice A n c] w fun e w' => e = .returned (.string (listB g n)) ∧ Below w.heap.size w w' := by
 by_cases h0 : n = 0
 ·subst h0
  go_enter Tryz.func141, Tryz.ntmps141
  go_wp2_with fail
  go_ret
  exact ⟨rfl, Below.refl _ _⟩
 ·have hne : ((n : Int) == 0) = false := by simp; omega
  have hl : Hid (listB g n = joinK g n) := by show _ = _; rw [listB, if_neg h0]
  go_enter Tryz.func141, Tryz.ntmps141
  go_wp2_with fail
  refine (decimals_any A n c lo hi g w hs hn hnc hg ht (by omega)).mono ?_
  rintro e w1 ⟨rfl, hb⟩
  go_wp2
  go_ret
  exact ⟨by rw [hl.out]; rfl, hb⟩
theorem l28List_any (A : Option Addr) (n c lo hi : Nat) (g : Nat → Int) (w : World) (hs : Sl w lo hi 1 A n g) (hn : n ≤ 1000) (hnc : n ≤ c) (hg : ∀ j, j < n → 0 ≤ g j ∧ g j ≤ 999999) :
  Calls Tryz.prog 129 #[.slice A n c, .bool true] w fun e w' => e = .returned (.string (listB g n)) ∧ Below w.heap.size w w' := by
 by_cases h0 : n = 0
 ·subst h0
  go_enter Tryz.func129, Tryz.ntmps129
  go_wp2_with fail
  go_ret
  exact ⟨rfl, Below.refl _ _⟩
 have hne : ((n : Int) == 0) = false := by simp; omega
 have hl : Hid (listB g n = joinK g n) := by show _ = _; rw [listB, if_neg h0]
 have HS := lh hs
 obtain ⟨b1, o1, eA, _, hb1, hc⟩ := hs.here (by omega)
 have d0 := hc (0 * 1) (by omega)
 simp only [Nat.zero_mul, Nat.add_zero] at d0
 have h9 := hg 0 (by omega)
 have h1i : (0 : Int) < (n : Int) := by omega
 subst eA
 clear hs hc
 go_enter Tryz.func129, Tryz.ntmps129
 go_wp2_with fail
 refine (l1Num_any (g 0) (by omega) (by omega) w).mono ?_
 rintro e w1 ⟨rfl, hb⟩
 have HB := lh hb
 clear hb d0
 go_wp2_with fail
 go_loopw [5, 6] (fun tv kv wr => ∃ k : Nat, 1 ≤ k ∧ k ≤ n ∧ kv = .int .i64 k ∧ tv = .string (joinK g k) ∧ Below w.heap.size w wr) (fun _ kv _ => n - (intOf kv).toNat)
 case atStart => exact ⟨1, Nat.le_refl _, by omega, rfl, rfl, HB.out⟩
 case round =>
  obtain ⟨k, hk1, hk, rfl, rfl, hB⟩ := hrel
  by_cases hlt : k < n
  ·have hki : (k : Int) < (n : Int) := by omega
   have hk0 : (0 : Int) ≤ (k : Int) := by omega
   obtain ⟨b2, o2, eA, _, hb2, hc⟩ := (HS.out.below hB).here (by omega)
   simp only [Option.some.injEq, Addr.mk.injEq, and_true] at eA
   obtain ⟨rfl, rfl⟩ := eA
   have d0 := hc (k * 1) (by omega)
   rw [Nat.mul_one] at d0
   have h9 := hg k hlt
   have hjs := joinK_size hg k (by omega)
   have hz := numB_size (n := g k) (by omega) (by omega)
   have hnx := lh (joinK_next (g := g) hk1)
   have HBk := lh hB
   clear hc hB
   go_wp2_with fail
   refine (l1Num_any (g k) (by omega) (by omega) wr).mono ?_
   rintro e w2 ⟨rfl, hb⟩
   have HB2 := lh (HBk.out.trans (hb.mono HBk.out.size))
   clear hb d0
   go_wp2
   go_roundw
   case rel => exact ⟨k + 1, by omega, by omega, by go_num, by rw [hnx.out], HB2.out⟩
   case measure => simp [intOf]; omega
  ·obtain rfl : k = n := by omega
   have hki : ¬ ((k : Int) < (k : Int)) := by omega
   have HBk := lh hB
   clear hB
   go_wp2_with fail
   go_ret
   exact ⟨by rw [hl.out]; rfl, HBk.out⟩
end Go.Proofs.YtpndjhelpoenpaaGreatDoor
namespace Go.Proofs.YtpndjhelpoenpaaGreatDoor
open Go.RowKit
def cutL (c : UInt8) : List UInt8 → List (List UInt8)
 | [] => [[]]
 | b :: l => if b = c then [] :: cutL c l else match cutL c l with
  | [] => [[b]]
  | x :: r => (b :: x) :: r
theorem cutL_none {c : UInt8} : ∀ {l : List UInt8}, c ∉ l → cutL c l = [l]
 | [], _ => rfl
 | b :: l, h => by
  have h1 : b ≠ c := fun e => h (by simp [e])
  have h2 : c ∉ l := fun e => h (by simp [e])
  simp only [cutL, if_neg h1, cutL_none h2]
theorem cutL_hit {c : UInt8} {r : List UInt8} : ∀ {a : List UInt8}, c ∉ a → cutL c (a ++ c :: r) = a :: cutL c r
 | [], _ => by simp [cutL]
 | b :: a, h => by
  have h1 : b ≠ c := fun e => h (by simp [e])
  have h2 : c ∉ a := fun e => h (by simp [e])
  simp only [List.cons_append, cutL, if_neg h1, cutL_hit h2]
theorem cutL_pos (c : UInt8) : ∀ l, 1 ≤ (cutL c l).length
 | [] => Nat.le_refl _
 | b :: l => by
  unfold cutL
  split
  ·simp
  ·split <;> simp
theorem cutL_le (c : UInt8) : ∀ l, (cutL c l).length ≤ l.length + 1
 | [] => Nat.le_refl _
 | b :: l => by
  have ih := cutL_le c l
  unfold cutL
  split
  ·simp only [List.length_cons]; omega
  ·split
   ·simp
   ·next x r e => rw [e] at ih; simp only [List.length_cons] at ih ⊢; omega
theorem splitK_cut (c : UInt8) : ∀ l : List UInt8, Lib.splitK [c] 0 (Lib.count l [c]) l = cutL c l
 | [] => by rw [Lib.count_miss (by simp [Lib.index])]; rfl
 | b :: l => by
  have ih := splitK_cut c l
  by_cases h : b = c
  ·subst h
   have hix : Lib.index (b :: l) [b] = ((0 : Nat) : Int) := by rw [Lib.index]; simp [List.isPrefixOf]
   rw [Lib.count_cons_eq, Nat.add_comm, Lib.splitK, if_neg (by rw [hix]; decide), hix]
   simp [cutL, ih]
  ·have hp : ([c] : List UInt8).isPrefixOf (b :: l) = false := by simp [List.isPrefixOf, Ne.symm h]
   have hix : Lib.index (b :: l) [c] = if Lib.index l [c] == -1 then -1 else Lib.index l [c] + 1 := by rw [Lib.index, hp]; simp
   rw [Lib.count_cons_ne b c l h]
   by_cases hm : Lib.index l [c] = -1
   ·rw [Lib.count_miss hm] at ih ⊢
    simp only [Lib.splitK] at ih ⊢
    simp only [cutL, if_neg h, ← ih]
   ·have hge := Lib.index_ge l [c]
    obtain ⟨j, hj⟩ : ∃ j : Nat, Lib.index l [c] = j := ⟨(Lib.index l [c]).toNat, by omega⟩
    have hix' : Lib.index (b :: l) [c] = ((j + 1 : Nat) : Int) := by rw [hix, if_neg (fun e => hm (beq_iff_eq.1 e)), hj]; omega
    rw [Lib.count_hit (by simp) hj] at ih ⊢
    generalize Lib.count (l.drop (j + [c].length)) [c] = k at ih ⊢
    have n1 : ¬ (Lib.index l [c] == -1) = true := fun e => hm (beq_iff_eq.1 e)
    have n2 : ¬ (Lib.index (b :: l) [c] == -1) = true := fun e => by have := beq_iff_eq.1 e; omega
    rw [Nat.add_comm, Lib.splitK, if_neg n1, hj] at ih
    rw [Nat.add_comm, Lib.splitK, if_neg n2, hix']
    simp only [cutL, if_neg h, ← ih]
    simp
def wordsV (c : UInt8) (s : ByteArray) : List ByteArray := (cutL c s.data.toList).map fun l => (⟨l.toArray⟩ : ByteArray)
theorem words_of {c : UInt8} {s : ByteArray} {P : List ByteArray} (h : P.map (·.data.toList) = cutL c s.data.toList) : P = wordsV c s := by
 unfold wordsV
 rw [← h, List.map_map]
 have : ∀ Q : List ByteArray, Q = Q.map ((fun l => (⟨l.toArray⟩ : ByteArray)) ∘ fun x => x.data.toList) := by
  intro Q
  induction Q with
  | nil => rfl
  | cons x Q ih => rw [List.map_cons, ← ih]; simp
 exact this P
theorem splitB_words (c : UInt8) (s : ByteArray) : Lib.splitB ⟨#[c]⟩ 0 (Lib.countB s ⟨#[c]⟩) s = wordsV c s := by
 refine words_of ?_
 rw [Lib.splitB_data]
 exact splitK_cut c s.data.toList
theorem countB_words (c : UInt8) (s : ByteArray) : Lib.countB s ⟨#[c]⟩ + 1 = (wordsV c s).length := by
 rw [← splitB_words, Lib.splitB_all ⟨#[c]⟩ (by simp [ByteArray.size]) 0 _ s rfl]
theorem wordsV_pos (c : UInt8) (s : ByteArray) : 1 ≤ (wordsV c s).length := by
 unfold wordsV
 rw [List.length_map]
 exact cutL_pos _ _
theorem wordsV_le (c : UInt8) (s : ByteArray) : (wordsV c s).length ≤ s.size + 1 := by
 unfold wordsV
 rw [List.length_map]
 exact cutL_le _ _
theorem cutL_size {c : UInt8} : ∀ {l x : List UInt8}, x ∈ cutL c l → x.length ≤ l.length
 | [], x, h => by simp [cutL] at h; subst h; simp
 | b :: l, x, h => by
  unfold cutL at h
  split at h
  ·rcases List.mem_cons.1 h with rfl | h
   ·simp
   ·have := cutL_size h; simp only [List.length_cons]; omega
  ·split at h
   ·simp at h; subst h; simp
   ·next y r e =>
    rcases List.mem_cons.1 h with rfl | h
    ·have := cutL_size (c := c) (l := l) (x := y) (by rw [e]; simp); simp only [List.length_cons]; omega
    ·have := cutL_size (c := c) (l := l) (x := x) (by rw [e]; simp [h]); simp only [List.length_cons]; omega
theorem wordsV_size {c : UInt8} {s x : ByteArray} (h : x ∈ wordsV c s) : x.size ≤ s.size := by
 unfold wordsV at h
 obtain ⟨l, hl, rfl⟩ := List.mem_map.1 h
 have h := cutL_size hl
 rw [size_list] at h
 have e : (⟨l.toArray⟩ : ByteArray).size = l.length := by rw [← size_list]
 omega
theorem wordsV_none {c : UInt8} {s : ByteArray} (h : (wordsV c s).length = 1) : wordsV c s = [s] := by
 by_cases hm : c ∈ s.data.toList
 ·exfalso
  obtain ⟨a, r, e, ha⟩ : ∃ a r, s.data.toList = a ++ c :: r ∧ c ∉ a := by
   obtain ⟨a, r, h1, h2⟩ := List.eq_append_cons_of_mem hm
   exact ⟨a, r, h1, h2⟩
  unfold wordsV at h
  rw [List.length_map, e, cutL_hit ha, List.length_cons] at h
  have := cutL_pos c r
  omega
 ·refine (words_of ?_).symm
  rw [cutL_none hm]
  rfl
def SPW (s : ByteArray) (c : UInt8) (k F : Nat) (P : List ByteArray) : Prop :=
 cutL c s.data.toList = P.map (·.data.toList) ++ cutL c (s.data.toList.drop F) ∧ F ≤ k ∧ ∀ j, F ≤ j → j < k → byteAt s j ≠ c
theorem byte_at {s : ByteArray} {j : Nat} (h : j < s.size) : s.data.toList[j]? = some (byteAt s j) := by
 have h' : j < s.data.toList.length := by rw [size_list]; exact h
 rw [List.getElem?_eq_getElem h']
 unfold byteAt
 rw [getD_lt h']
theorem not_in_part {s : ByteArray} {c : UInt8} {F k : Nat} (hk : k ≤ s.size) (h : ∀ j, F ≤ j → j < k → byteAt s j ≠ c) : c ∉ (s.data.toList.drop F).take (k - F) := by
 intro hm
 obtain ⟨j, hj, e⟩ := List.getElem_of_mem hm
 rw [List.length_take, List.length_drop] at hj
 rw [List.getElem_take, List.getElem_drop] at e
 have h1 : s.data.toList[F + j]? = some (byteAt s (F + j)) := byte_at (by omega)
 rw [List.getElem?_eq_getElem (by have := size_list s; omega)] at h1
 exact h (F + j) (by omega) (by omega) ((Option.some.inj h1).symm.trans e)
theorem SPW.start (s : ByteArray) (c : UInt8) : SPW s c 0 0 [] := ⟨by simp, Nat.le_refl _, fun j h1 h2 => absurd h2 (by omega)⟩
theorem SPW.next {s : ByteArray} {c : UInt8} {k F : Nat} {P : List ByteArray} (h : SPW s c k F P) (hb : byteAt s k ≠ c) : SPW s c (k + 1) F P :=
 ⟨h.1, by have := h.2.1; omega, fun j h1 h2 => by
  by_cases e : j = k
  ·rw [e]; exact hb
  ·exact h.2.2 j h1 (by omega)⟩
theorem SPW.hit {s : ByteArray} {c : UInt8} {k F : Nat} {P : List ByteArray} (h : SPW s c k F P) (hk : k < s.size) (hb : byteAt s k = c) : SPW s c (k + 1) (k + 1) (P ++ [s.extract F k]) := by
 obtain ⟨h1, h2, h3⟩ := h
 refine ⟨?_, Nat.le_refl _, fun j a b => absurd b (by omega)⟩
 have hn := not_in_part (by omega) h3
 have hl := size_list s
 have e : s.data.toList.drop F = (s.data.toList.drop F).take (k - F) ++ c :: s.data.toList.drop (k + 1) := by
  have e1 := (List.take_append_drop (k - F) (s.data.toList.drop F)).symm
  rw [List.drop_drop, show F + (k - F) = k by omega] at e1
  have e2 : s.data.toList.drop k = c :: s.data.toList.drop (k + 1) := by
   have hb2 := byte_at hk
   rw [hb] at hb2
   rw [List.drop_eq_getElem_cons (by omega)]
   rw [List.getElem?_eq_getElem (by omega)] at hb2
   rw [Option.some.inj hb2]
  rw [e2] at e1
  exact e1
 rw [h1, e, cutL_hit hn, List.map_append, List.map_cons, List.map_nil, List.append_assoc, List.singleton_append, Lib.extract_data]
theorem SPW.fin {s : ByteArray} {c : UInt8} {F : Nat} {P : List ByteArray} (h : SPW s c s.size F P) : P ++ [s.extract F s.size] = wordsV c s := by
 obtain ⟨h1, h2, h3⟩ := h
 refine words_of ?_
 have hn := not_in_part (Nat.le_refl _) h3
 have hl := size_list s
 rw [List.take_of_length_le (by rw [List.length_drop]; omega)] at hn
 rw [h1, cutL_none hn, List.map_append, List.map_cons, List.map_nil, Lib.extract_data, List.take_of_length_le (by rw [List.length_drop]; omega)]
end Go.Proofs.YtpndjhelpoenpaaGreatDoor
