/-
  Texts of this claim, merged.
-/
import Derived.Test.YtpndjhelpoenpaaGreatDoorZC17
import Derived.Deep.AppendLies
set_option linter.unusedVariables false
set_option linter.unusedSimpArgs false
set_option maxRecDepth 100000
set_option maxHeartbeats 8000000
namespace Go.Proofs.YtpndjhelpoenpaaGreatDoor
open Go.RowKit
attribute [local go_sem ↓] Go.wp_at_zero Go.wp_at_succ
def aheadB (k : Int) : BA := numB k ++ ⟨#[32]⟩
def restB (k : Int) (s : BA) : BA := (bef 35 s).extract (aheadB k).size (bef 35 s).size
def repB (k : Int) (s : BA) : BA := (restB k s).extract ((bef 64 (restB k s)).size + 1) (restB k s).size
theorem spec_facts {k : Int} {s c r : BA} (h0 : 0 ≤ k) (h : dec k s = some (c, r)) : ¬ (bef 35 s).size < (aheadB k).size ∧ (bef 35 s).extract 0 (aheadB k).size = aheadB k ∧ bef 64 (restB k s) = c ∧ (bef 64 (restB k s)).size ≠ (restB k s).size ∧ repB k s = r := by
 obtain ⟨h1, h2⟩ := spec_dec h0 h
 have h1' : bef 35 s = aheadB k ++ ((c ++ ⟨#[64]⟩) ++ r) := h1
 have hr : restB k s = (c ++ ⟨#[64]⟩) ++ r := by unfold restB; rw [h1']; exact ext_right rfl
 have h64 : (ByteArray.mk #[64]).size = 1 := rfl
 refine ⟨?_, ?_, ?_, ?_, ?_⟩
 ·rw [h1', size_app]; omega
 ·rw [h1']; exact ext_left _ _
 ·rw [hr]; exact h2
 ·rw [hr, h2, size_app, size_app]; omega
 ·unfold repB
  rw [hr, h2]
  have : c.size + 1 = (c ++ ⟨#[64]⟩).size := by rw [size_app]; rfl
  rw [this]
  exact ext_right rfl
theorem spec_none {k : Int} {s : BA} (h0 : 0 ≤ k) (h : (bef 35 s).size < (aheadB k).size ∨ (bef 35 s).extract 0 (aheadB k).size ≠ aheadB k ∨ (bef 64 (restB k s)).size = (restB k s).size ∨ lineIs k (bef 64 (restB k s)) (repB k s) s = false) : dec k s = none := by
 cases hd : dec k s with
 | none => rfl
 | some e =>
  exfalso
  obtain ⟨c, r⟩ := e
  obtain ⟨a1, a2, a3, a4, a5⟩ := spec_facts h0 hd
  rcases h with h | h | h | h
  ·exact a1 h
  ·exact h a2
  ·exact a4 h
  ·rw [a3, a5, dec_some hd] at h; cases h
theorem split_val {w : World} {lo : Nat} {v : Value} {P : List BA} {x : BA} (h : w.ownsRow lo 9 1 v P.length (P.map Value.string)) (h1 : 1 ≤ P.length) (hx : P.headD ⟨#[]⟩ = x) :
  ∃ g c, v = .slice (some ⟨g, 0, none⟩) P.length c ∧ w.cell? ⟨g, 0, none⟩ = some (.string x) := by
 rcases h.2 with ⟨_, h0⟩ | ⟨g, cap, cur, rfl, _, hg, _⟩
 ·omega
 ·refine ⟨g, cap, rfl, ?_⟩
  have := h.cells (g := g) rfl 0 (.string x) (by
   cases P with
   | nil => simp at h1
   | cons y P => simp at hx; subst hx; rfl)
  simpa [Addr.add] using this
theorem zero_row {w w' : World} (h : Below (w.alloc (.cells #[.string ⟨#[]⟩, .string ⟨#[]⟩] 70)).heap.size (w.alloc (.cells #[.string ⟨#[]⟩, .string ⟨#[]⟩] 70)) w') : w'.heap[w.heap.size]? = some (.cells #[.string ⟨#[]⟩, .string ⟨#[]⟩] 70 (0, 0)) :=
 (h.block w.heap.size (by simp)).trans (heap_alloc_new w _)
theorem row2 {w : World} {g : Nat} {p q : BA} (h : w.heap[g]? = some (.cells #[.string p, .string q] 70 (0, 0))) : w.cell? ⟨g, 0, none⟩ = some (.string p) ∧ w.cell? ⟨g, 1, none⟩ = some (.string q) ∧ w.frozen? ⟨g, 0, none⟩ = false ∧ w.frozen? ⟨g, 1, none⟩ = false := by
 refine ⟨by rw [cell_of_row w g 0 _ _ (0, 0) h]; rfl, by rw [cell_of_row w g 1 _ _ (0, 0) h]; rfl, by simp [World.frozen?, h], by simp [World.frozen?, h]⟩
theorem row2_set {w : World} {g : Nat} {p q x y : BA} (h : w.heap[g]? = some (.cells #[.string p, .string q] 70 (0, 0))) : ((w.setCell ⟨g, 0, none⟩ (.string x)).setCell ⟨g, 1, none⟩ (.string y)).heap[g]? = some (.cells #[.string x, .string y] 70 (0, 0)) := by
 simp [World.setCell, Array.getElem?_modify, h]
def ReadPost (w : World) (k : Int) (s : BA) (e : Ending) (w' : World) : Prop :=
 (∃ c r b, e = .returned (.tuple #[.agg #[.string c, .string r], .bool b]) ∧ (b = true → dec k s = some (c, r)) ∧ (b = false → dec k s = none)) ∧ Below w.heap.size w w'
theorem l27Read_any (s : BA) (k : Int) (h0 : 0 ≤ k) (h1 : k ≤ 59) (hs : s.size ≤ 4000000) (w : World) :
  Calls Tryz.prog 148 #[.string s, .int .i64 k] w (ReadPost w k s) := by
 have HAL : Below w.heap.size w (w.alloc (.cells #[.string ⟨#[]⟩, .string ⟨#[]⟩] 70)) := (Below.refl _ w).alloc (Nat.le_refl _) _
 have hts := bef_size 35 s
 have hnz := numB_size (n := k) (by omega) (by omega)
 have hAz : (aheadB k).size ≤ 22 := by
  have := numB_size (n := k) (by omega) (by omega)
  simp only [aheadB, ByteArray.size_append', ByteArray.size_mk', List.size_toArray, List.length_cons, List.length_nil]; omega
 have hAdef : Hid (numB k ++ ⟨#[32]⟩ = aheadB k) := rfl
 have HSN := lh (spec_none (k := k) (s := s) h0)
 have hrs : (restB k s).size ≤ 4000000 := by unfold restB; simp [ByteArray.size_extract]; omega
 have hask := bef_size 64 (restB k s)
 have hrp : (repB k s).size ≤ 4000000 := by unfold repB; simp [ByteArray.size_extract]; omega
 have hRdef : Hid ((bef 35 s).extract (aheadB k).size (bef 35 s).size = restB k s) := rfl
 have hPdef : Hid ((restB k s).extract ((bef 64 (restB k s)).size + 1) (restB k s).size = repB k s) := rfl
 have HDI := lh (fun h => dec_of_is (k := k) (c := bef 64 (restB k s)) (r := repB k s) (line := s) h0 h)
 by_cases c1 : (bef 35 s).size < (aheadB k).size
 ·have hNone : Hid (dec k s = none) := HSN.out (.inl c1)
  have c1i : ((bef 35 s).size : Int) < ((aheadB k).size : Int) := by omega
  go_enter Tryz.func148, Tryz.ntmps148
  go_wp2_with fail
  refine (l1Num_any k h0 (by omega) _).mono ?_
  rintro e w1 ⟨rfl, hb1⟩
  go_wp2_with fail
  refine (l1Split_any s 35 hs w1).mono ?_
  rintro e w2 ⟨v2, P2, rfl, hown2, hP1, hPh, _, _, hb2⟩
  have hbx := hb1.trans (hb2.mono hb1.size)
  obtain ⟨g2, c2, rfl, hc2⟩ := split_val hown2 hP1 hPh
  have hP2 : (0 : Int) < (P2.length : Int) := by omega
  have hP3 : 0 < P2.length := by omega
  clear hb1 hb2 hown2 hP1 hPh
  have h4_ := zero_row hbx
  obtain ⟨z0, z1, z2, z3⟩ := row2 h4_
  have B2 : Below w.heap.size w w2 := HAL.trans (hbx.mono (by simp))
  have lt2 : w.heap.size < w2.heap.size := Nat.lt_of_lt_of_le (by simp) hbx.size
  rw [hAdef.out]
  go_wp2_with fail
  obtain ⟨a0, a1, _, _⟩ := row2 (row2_set (x := ⟨#[]⟩) (y := ⟨#[]⟩) h4_)
  have BZ := (B2.setCell (p := ⟨w.heap.size, 0, none⟩) (Nat.le_refl _) (.string ⟨#[]⟩)).setCell (p := ⟨w.heap.size, 1, none⟩) (Nat.le_refl _) (.string ⟨#[]⟩)
  generalize (w2.setCell ⟨w.heap.size, 0, none⟩ (.string ⟨#[]⟩)).setCell ⟨w.heap.size, 1, none⟩ (.string ⟨#[]⟩) = WZ at *
  (try simp only [Exit.inBlock, Exit.then]); refine bodyPost_ret (by simp [results, Tryz.results148, go_sem, a0, a1]; try rfl) rfl ?_
  exact ⟨⟨_, _, _, rfl, (fun h => by cases h), fun _ => hNone.out⟩, BZ⟩
 ·have c1i : ¬ (((bef 35 s).size : Int) < ((aheadB k).size : Int)) := by omega
  have c1j : ((aheadB k).size : Int) ≤ ((bef 35 s).size : Int) := by omega
  have c1k : (0 : Int) ≤ ((aheadB k).size : Int) := by omega
  by_cases c2 : (bef 35 s).extract 0 (aheadB k).size = aheadB k
  ·have hcm : (((bef 35 s).extract 0 (aheadB k).size).toList == (aheadB k).toList) = true := by rw [toList_beq, c2]; simp
   clear c2
   by_cases c3 : (bef 64 (restB k s)).size = (restB k s).size
   ·have hNone : Hid (dec k s = none) := HSN.out (.inr (.inr (.inl c3)))
    have c3i : (((bef 64 (restB k s)).size : Int) == ((restB k s).size : Int)) = true := by rw [c3]; simp
    go_enter Tryz.func148, Tryz.ntmps148
    go_wp2_with fail
    refine (l1Num_any k h0 (by omega) _).mono ?_
    rintro e w1 ⟨rfl, hb1⟩
    go_wp2_with fail
    refine (l1Split_any s 35 hs w1).mono ?_
    rintro e w2 ⟨v2, P2, rfl, hown2, hP1, hPh, _, _, hb2⟩
    have hbx := hb1.trans (hb2.mono hb1.size)
    obtain ⟨g2, c2, rfl, hc2⟩ := split_val hown2 hP1 hPh
    have hP2 : (0 : Int) < (P2.length : Int) := by omega
    have hP3 : 0 < P2.length := by omega
    clear hb1 hb2 hown2 hP1 hPh
    have h4_ := zero_row hbx
    obtain ⟨z0, z1, z2, z3⟩ := row2 h4_
    have B2 : Below w.heap.size w w2 := HAL.trans (hbx.mono (by simp))
    have lt2 : w.heap.size < w2.heap.size := Nat.lt_of_lt_of_le (by simp) hbx.size
    rw [hAdef.out]
    go_wp2_with fail
    rw [hRdef.out]
    refine (l1Split_any (restB k s) 64 hrs w2).mono ?_
    rintro e w3 ⟨v3, P3, rfl, hown3, hQ1, hQh, _, _, hb3⟩
    obtain ⟨g3, c3', rfl, hc3⟩ := split_val hown3 hQ1 hQh
    have hQ2 : (0 : Int) < (P3.length : Int) := by omega
    have hQ3 : 0 < P3.length := by omega
    clear hown3 hQ1 hQh
    have B3 := below_of B2 hb3 B2.size
    have lt3 : w.heap.size < w3.heap.size := Nat.lt_of_lt_of_le lt2 hb3.size
    have h4w3 := (hb3.block w.heap.size lt2).trans h4_
    obtain ⟨y0, y1, y2, y3⟩ := row2 h4w3
    clear z0 z1 z2 z3 hc2
    go_wp2_with fail
    obtain ⟨a0, a1, _, _⟩ := row2 (row2_set (x := ⟨#[]⟩) (y := ⟨#[]⟩) h4w3)
    have BZ := (B3.setCell (p := ⟨w.heap.size, 0, none⟩) (Nat.le_refl _) (.string ⟨#[]⟩)).setCell (p := ⟨w.heap.size, 1, none⟩) (Nat.le_refl _) (.string ⟨#[]⟩)
    generalize (w3.setCell ⟨w.heap.size, 0, none⟩ (.string ⟨#[]⟩)).setCell ⟨w.heap.size, 1, none⟩ (.string ⟨#[]⟩) = WZ at *
    (try simp only [Exit.inBlock, Exit.then]); refine bodyPost_ret (by simp [results, Tryz.results148, go_sem, a0, a1]; try rfl) rfl ?_
    exact ⟨⟨_, _, _, rfl, (fun h => by cases h), fun _ => hNone.out⟩, BZ⟩
   ·have c3i : (((bef 64 (restB k s)).size : Int) == ((restB k s).size : Int)) = false := by simp; omega
    have c3j : ((bef 64 (restB k s)).size : Int) + 1 ≤ ((restB k s).size : Int) := by omega
    have c3k : (0 : Int) ≤ ((bef 64 (restB k s)).size : Int) + 1 := by omega
    have hci : ((bef 64 (restB k s)).size : Int) ≤ 9223372036854775807 := by omega
    have hri : ((repB k s).size : Int) ≤ 9223372036854775807 := by omega
    cases hg : goodRec (bef 64 (restB k s)) (repB k s) with
    | false =>
     have hli : lineIs k (bef 64 (restB k s)) (repB k s) s = false := by rw [lineIs, hg]; rfl
     have hNn := HSN.out (.inr (.inr (.inr hli)))
     have hT : Hid (false = true → dec k s = some (bef 64 (restB k s), repB k s)) := fun h => by cases h
     have hFf : Hid (false = false → dec k s = none) := fun _ => hNn
     clear hNn hli
     go_enter Tryz.func148, Tryz.ntmps148
     go_wp2_with fail
     refine (l1Num_any k h0 (by omega) _).mono ?_
     rintro e w1 ⟨rfl, hb1⟩
     go_wp2_with fail
     refine (l1Split_any s 35 hs w1).mono ?_
     rintro e w2 ⟨v2, P2, rfl, hown2, hP1, hPh, _, _, hb2⟩
     have hbx := hb1.trans (hb2.mono hb1.size)
     obtain ⟨g2, c2, rfl, hc2⟩ := split_val hown2 hP1 hPh
     have hP2 : (0 : Int) < (P2.length : Int) := by omega
     have hP3 : 0 < P2.length := by omega
     clear hb1 hb2 hown2 hP1 hPh
     have h4_ := zero_row hbx
     obtain ⟨z0, z1, z2, z3⟩ := row2 h4_
     have B2 : Below w.heap.size w w2 := HAL.trans (hbx.mono (by simp))
     have lt2 : w.heap.size < w2.heap.size := Nat.lt_of_lt_of_le (by simp) hbx.size
     rw [hAdef.out]
     go_wp2_with fail
     rw [hRdef.out]
     refine (l1Split_any (restB k s) 64 hrs w2).mono ?_
     rintro e w3 ⟨v3, P3, rfl, hown3, hQ1, hQh, _, _, hb3⟩
     obtain ⟨g3, c3', rfl, hc3⟩ := split_val hown3 hQ1 hQh
     have hQ2 : (0 : Int) < (P3.length : Int) := by omega
     have hQ3 : 0 < P3.length := by omega
     clear hown3 hQ1 hQh
     have B3 := below_of B2 hb3 B2.size
     have lt3 : w.heap.size < w3.heap.size := Nat.lt_of_lt_of_le lt2 hb3.size
     have h4w3 := (hb3.block w.heap.size lt2).trans h4_
     obtain ⟨y0, y1, y2, y3⟩ := row2 h4w3
     clear z0 z1 z2 z3 hc2
     go_wp2_with fail
     rw [hPdef.out]
     generalize hask2 : bef 64 (restB k s) = ask at *
     generalize hrp2 : repB k s = rp at *
     have h4_W : (w3.alloc (.cells #[.string ask, .string rp] 70)).heap[w.heap.size]? = some (.cells #[.string ⟨#[]⟩, .string ⟨#[]⟩] 70 (0, 0)) := (((Below.refl _ w3).alloc (Nat.le_refl _) _).block _ lt3).trans h4w3
     have S_W : (w3.alloc (.cells #[.string ask, .string rp] 70)).cell? ⟨w3.heap.size, 0, none⟩ = some (.string ask) ∧ (w3.alloc (.cells #[.string ask, .string rp] 70)).cell? ⟨w3.heap.size, 1, none⟩ = some (.string rp) := ⟨by simp, by simp⟩
     have lt_W : w.heap.size < (w3.alloc (.cells #[.string ask, .string rp] 70)).heap.size := by simp; omega
     have lg_W : w3.heap.size < (w3.alloc (.cells #[.string ask, .string rp] 70)).heap.size := by simp
     have B_W : Below w.heap.size w (w3.alloc (.cells #[.string ask, .string rp] 70)) := B3.alloc B3.size _
     have hne : w.heap.size ≠ w3.heap.size := by omega
     have hlt4 : w.heap.size < w.heap.size + 1 := by omega
     generalize (w3.alloc (.cells #[.string ask, .string rp] 70)) = W at *
     generalize w3.heap.size = g10 at *
     refine wp_region_held_drew (S := fun w' => w'.cell? ⟨g10, 0, none⟩ = some (.string ask) ∧ w'.cell? ⟨g10, 1, none⟩ = some (.string rp)) (by kernel_rfl) S_W (fun jd => ?_)
     have h4_W : W.drew.heap[w.heap.size]? = _ := h4_W
     have lt_W : w.heap.size < W.drew.heap.size := lt_W
     have lg_W : g10 < W.drew.heap.size := lg_W
     have B_W : Below w.heap.size w W.drew := B_W.drew
     clear S_W
     generalize W.drew = W at *
     refine tj 0 53 (lh fun _ h => h) rfl jd ?_
     refine tj 1 54 (lh fun _ h => h) rfl jd ?_
     refine wpAnyH_ready (rs := [2]) (by kernel_rfl) (by simp) ?_
     refine (AllReadyH.cons rfl (fun K hK => ?_) AllReadyH.nil)
     go_simp
     refine (l27Good_any ask rp hci hri _).mono ?_
     rw [hg]
     rintro e wa ⟨rfl, hb_wa⟩
     have h4_wa := (hb_wa.block w.heap.size (by first | exact hlt4 | exact lt_W)).trans h4_W
     have lt_wa : w.heap.size < wa.heap.size := Nat.lt_of_lt_of_le lt_W hb_wa.size
     have B_wa := below_of B_W hb_wa B_W.size
     have S_wa : wa.cell? ⟨g10, 0, none⟩ = some (.string ask) ∧ wa.cell? ⟨g10, 1, none⟩ = some (.string rp) := ⟨(hb_wa.cell (p := ⟨g10, 0, none⟩) lg_W).trans jd.1, (hb_wa.cell (p := ⟨g10, 1, none⟩) lg_W).trans jd.2⟩
     have lg_wa : g10 < wa.heap.size := Nat.lt_of_lt_of_le lg_W hb_wa.size
     refine hK.out _ _ S_wa (fun jd => ?_)
     clear hK K
     refine tj 3 56 (lh fun _ h => h) rfl jd ?_
     refine wpAnyH_skips (by kernel_rfl) (fun _ _ _ _ _ h => h) jd [(4, 57), (5, 58), (6, 59), (7, 60), (8, 61), (9, 62)] 3 6 _ _ rfl (by kernel_rfl) ?_
     simp only [skipL, skipA, Act.put, p1, p2, p3]
     refine tj 10 63 (lh fun _ h => h) rfl jd ?_
     refine wpAnyH_ready (rs := [11]) (by kernel_rfl) (by simp) ?_
     refine (AllReadyH.cons rfl (fun K hK => ?_) AllReadyH.nil)
     obtain ⟨z0, z1, z2, z3⟩ := row2 h4_wa
     have h4x := row2_set (x := ask) (y := rp) h4_wa
     have B_wb : Below w.heap.size w ((wa.setCell ⟨w.heap.size, 0, none⟩ (.string ask)).setCell ⟨w.heap.size, 1, none⟩ (.string rp)) := (B_wa.setCell (Nat.le_refl _) _).setCell (Nat.le_refl _) _
     have S_wb : ((wa.setCell ⟨w.heap.size, 0, none⟩ (.string ask)).setCell ⟨w.heap.size, 1, none⟩ (.string rp)).cell? ⟨g10, 0, none⟩ = some (.string ask) ∧ ((wa.setCell ⟨w.heap.size, 0, none⟩ (.string ask)).setCell ⟨w.heap.size, 1, none⟩ (.string rp)).cell? ⟨g10, 1, none⟩ = some (.string rp) := by
      refine ⟨?_, ?_⟩ <;> (rw [World.cell?_setCell_far _ _ _ _ (by exact hne), World.cell?_setCell_far _ _ _ _ (by exact hne)]; first | exact jd.1 | exact jd.2)
     have lt_wb : w.heap.size < ((wa.setCell ⟨w.heap.size, 0, none⟩ (.string ask)).setCell ⟨w.heap.size, 1, none⟩ (.string rp)).heap.size := by simpa [World.setCell] using lt_wa
     have lg_wb : g10 < ((wa.setCell ⟨w.heap.size, 0, none⟩ (.string ask)).setCell ⟨w.heap.size, 1, none⟩ (.string rp)).heap.size := by simpa [World.setCell] using lg_wa
     go_simp
     generalize ((wa.setCell ⟨w.heap.size, 0, none⟩ (.string ask)).setCell ⟨w.heap.size, 1, none⟩ (.string rp)) = wb at *
     have h4_wb := h4x
     refine hK.out _ _ S_wb (fun jd => ?_)
     clear hK K z0 z1 z2 z3 h4x
     refine tj 12 5 (lh fun _ h => h) rfl jd ?_
     refine wpAnyH_done (by kernel_rfl) ?_ _
     obtain ⟨z0, z1, z2, z3⟩ := row2 h4_wb
     go_wp2_with fail
     (try simp only [Exit.inBlock, Exit.then]); refine bodyPost_ret (by simp [results, Tryz.results148, go_sem, z0, z1]; try rfl) rfl ?_
     exact ⟨⟨_, _, _, rfl, by first | exact hT.out | exact fun _ => hT.out trivial | (intro h; cases h), by first | exact hFf.out | exact fun _ => hFf.out trivial | (intro h; cases h)⟩, B_wb⟩
    | true =>
     obtain ⟨_, hc1', hr1', _⟩ := goodRec_facts hg
     have hc1 : (bef 64 (restB k s)).size ≤ 1048576 := by omega
     have hr1 : (repB k s).size ≤ 1048576 := by omega
     by_cases hsl : sealB (bodyB k (bef 64 (restB k s)) (repB k s)) = s
     ·have hli : lineIs k (bef 64 (restB k s)) (repB k s) s = true := by simp [lineIs, hg, hsl]
      have hTn := HDI.out hli
      have hT : Hid (true = true → dec k s = some (bef 64 (restB k s), repB k s)) := fun _ => hTn
      have hFf : Hid (true = false → dec k s = none) := fun h => by cases h
      have hcmp : ((lineB k (bef 64 (restB k s)) (repB k s)).toList == (s ++ ⟨#[10]⟩).toList) = true := by rw [toList_beq, lineB, hsl]; simp
      clear hTn hli hsl HDI HSN
      go_enter Tryz.func148, Tryz.ntmps148
      go_wp2_with fail
      refine (l1Num_any k h0 (by omega) _).mono ?_
      rintro e w1 ⟨rfl, hb1⟩
      go_wp2_with fail
      refine (l1Split_any s 35 hs w1).mono ?_
      rintro e w2 ⟨v2, P2, rfl, hown2, hP1, hPh, _, _, hb2⟩
      have hbx := hb1.trans (hb2.mono hb1.size)
      obtain ⟨g2, c2, rfl, hc2⟩ := split_val hown2 hP1 hPh
      have hP2 : (0 : Int) < (P2.length : Int) := by omega
      have hP3 : 0 < P2.length := by omega
      clear hb1 hb2 hown2 hP1 hPh
      have h4_ := zero_row hbx
      obtain ⟨z0, z1, z2, z3⟩ := row2 h4_
      have B2 : Below w.heap.size w w2 := HAL.trans (hbx.mono (by simp))
      have lt2 : w.heap.size < w2.heap.size := Nat.lt_of_lt_of_le (by simp) hbx.size
      rw [hAdef.out]
      go_wp2_with fail
      rw [hRdef.out]
      refine (l1Split_any (restB k s) 64 hrs w2).mono ?_
      rintro e w3 ⟨v3, P3, rfl, hown3, hQ1, hQh, _, _, hb3⟩
      obtain ⟨g3, c3', rfl, hc3⟩ := split_val hown3 hQ1 hQh
      have hQ2 : (0 : Int) < (P3.length : Int) := by omega
      have hQ3 : 0 < P3.length := by omega
      clear hown3 hQ1 hQh
      have B3 := below_of B2 hb3 B2.size
      have lt3 : w.heap.size < w3.heap.size := Nat.lt_of_lt_of_le lt2 hb3.size
      have h4w3 := (hb3.block w.heap.size lt2).trans h4_
      obtain ⟨y0, y1, y2, y3⟩ := row2 h4w3
      clear z0 z1 z2 z3 hc2
      go_wp2_with fail
      rw [hPdef.out]
      generalize hask2 : bef 64 (restB k s) = ask at *
      generalize hrp2 : repB k s = rp at *
      have h4_W : (w3.alloc (.cells #[.string ask, .string rp] 70)).heap[w.heap.size]? = some (.cells #[.string ⟨#[]⟩, .string ⟨#[]⟩] 70 (0, 0)) := (((Below.refl _ w3).alloc (Nat.le_refl _) _).block _ lt3).trans h4w3
      have S_W : (w3.alloc (.cells #[.string ask, .string rp] 70)).cell? ⟨w3.heap.size, 0, none⟩ = some (.string ask) ∧ (w3.alloc (.cells #[.string ask, .string rp] 70)).cell? ⟨w3.heap.size, 1, none⟩ = some (.string rp) := ⟨by simp, by simp⟩
      have lt_W : w.heap.size < (w3.alloc (.cells #[.string ask, .string rp] 70)).heap.size := by simp; omega
      have lg_W : w3.heap.size < (w3.alloc (.cells #[.string ask, .string rp] 70)).heap.size := by simp
      have B_W : Below w.heap.size w (w3.alloc (.cells #[.string ask, .string rp] 70)) := B3.alloc B3.size _
      have hne : w.heap.size ≠ w3.heap.size := by omega
      have hlt4 : w.heap.size < w.heap.size + 1 := by omega
      generalize (w3.alloc (.cells #[.string ask, .string rp] 70)) = W at *
      generalize w3.heap.size = g10 at *
      refine wp_region_held_drew (S := fun w' => w'.cell? ⟨g10, 0, none⟩ = some (.string ask) ∧ w'.cell? ⟨g10, 1, none⟩ = some (.string rp)) (by kernel_rfl) S_W (fun jd => ?_)
      have h4_W : W.drew.heap[w.heap.size]? = _ := h4_W
      have lt_W : w.heap.size < W.drew.heap.size := lt_W
      have lg_W : g10 < W.drew.heap.size := lg_W
      have B_W : Below w.heap.size w W.drew := B_W.drew
      clear S_W
      generalize W.drew = W at *
      refine tj 0 53 (lh fun _ h => h) rfl jd ?_
      refine tj 1 54 (lh fun _ h => h) rfl jd ?_
      refine wpAnyH_ready (rs := [2]) (by kernel_rfl) (by simp) ?_
      refine (AllReadyH.cons rfl (fun K hK => ?_) AllReadyH.nil)
      go_simp
      refine (l27Good_any ask rp hci hri _).mono ?_
      rw [hg]
      rintro e wa ⟨rfl, hb_wa⟩
      have h4_wa := (hb_wa.block w.heap.size (by first | exact hlt4 | exact lt_W)).trans h4_W
      have lt_wa : w.heap.size < wa.heap.size := Nat.lt_of_lt_of_le lt_W hb_wa.size
      have B_wa := below_of B_W hb_wa B_W.size
      have S_wa : wa.cell? ⟨g10, 0, none⟩ = some (.string ask) ∧ wa.cell? ⟨g10, 1, none⟩ = some (.string rp) := ⟨(hb_wa.cell (p := ⟨g10, 0, none⟩) lg_W).trans jd.1, (hb_wa.cell (p := ⟨g10, 1, none⟩) lg_W).trans jd.2⟩
      have lg_wa : g10 < wa.heap.size := Nat.lt_of_lt_of_le lg_W hb_wa.size
      refine hK.out _ _ S_wa (fun jd => ?_)
      clear hK K
      refine tj 3 56 (lh fun _ h => h) rfl jd ?_
      refine tj 4 57 (lh fun _ h => h) rfl jd ?_
      refine tj 5 58 (lh fun _ h => h) rfl jd ?_
      refine tj 7 60 (lh fun _ h => h) rfl jd ?_
      refine wpAnyH_takeD (i := 8) (d := 61) (v := ?_) rfl (by kernel_rfl) (by kernel_rfl) (by kernel_rfl) (fun _ _ _ h => h) (by rfl) ?_ jd ?_
      rotate_left
      ·intro wS hS
       refine run_add_strP ⟨_, _, rfl, rfl, by simp only [ByteArray.size_append', ByteArray.size_mk', List.size_toArray, List.length_cons, List.length_nil]; omega, ?_⟩
       with_reducible rfl
      simp only [Act.put, p1, p2, p3]
      refine wpAnyH_ready (rs := [6]) (by kernel_rfl) (by simp) ?_
      refine (AllReadyH.cons rfl (fun K hK => ?_) AllReadyH.nil)
      go_simp
      refine (l27Line_any k ask rp h0 (by omega) hc1 hr1 _).mono ?_
      rintro e wb ⟨rfl, hb_wb⟩
      have h4_wb := (hb_wb.block w.heap.size (by first | exact hlt4 | exact lt_wa)).trans h4_wa
      have lt_wb : w.heap.size < wb.heap.size := Nat.lt_of_lt_of_le lt_wa hb_wb.size
      have B_wb := below_of B_wa hb_wb B_wa.size
      have S_wb : wb.cell? ⟨g10, 0, none⟩ = some (.string ask) ∧ wb.cell? ⟨g10, 1, none⟩ = some (.string rp) := ⟨(hb_wb.cell (p := ⟨g10, 0, none⟩) lg_wa).trans jd.1, (hb_wb.cell (p := ⟨g10, 1, none⟩) lg_wa).trans jd.2⟩
      have lg_wb : g10 < wb.heap.size := Nat.lt_of_lt_of_le lg_wa hb_wb.size
      refine hK.out _ _ S_wb (fun jd => ?_)
      clear hK K
      refine tj 9 62 (lh fun _ h => h) rfl jd ?_
      refine tj 10 63 (lh fun _ h => h) rfl jd ?_
      refine wpAnyH_ready (rs := [11]) (by kernel_rfl) (by simp) ?_
      refine (AllReadyH.cons rfl (fun K hK => ?_) AllReadyH.nil)
      obtain ⟨z0, z1, z2, z3⟩ := row2 h4_wb
      have h4x := row2_set (x := ask) (y := rp) h4_wb
      have B_wc : Below w.heap.size w ((wb.setCell ⟨w.heap.size, 0, none⟩ (.string ask)).setCell ⟨w.heap.size, 1, none⟩ (.string rp)) := (B_wb.setCell (Nat.le_refl _) _).setCell (Nat.le_refl _) _
      have S_wc : ((wb.setCell ⟨w.heap.size, 0, none⟩ (.string ask)).setCell ⟨w.heap.size, 1, none⟩ (.string rp)).cell? ⟨g10, 0, none⟩ = some (.string ask) ∧ ((wb.setCell ⟨w.heap.size, 0, none⟩ (.string ask)).setCell ⟨w.heap.size, 1, none⟩ (.string rp)).cell? ⟨g10, 1, none⟩ = some (.string rp) := by
       refine ⟨?_, ?_⟩ <;> (rw [World.cell?_setCell_far _ _ _ _ (by exact hne), World.cell?_setCell_far _ _ _ _ (by exact hne)]; first | exact jd.1 | exact jd.2)
      have lt_wc : w.heap.size < ((wb.setCell ⟨w.heap.size, 0, none⟩ (.string ask)).setCell ⟨w.heap.size, 1, none⟩ (.string rp)).heap.size := by simpa [World.setCell] using lt_wb
      have lg_wc : g10 < ((wb.setCell ⟨w.heap.size, 0, none⟩ (.string ask)).setCell ⟨w.heap.size, 1, none⟩ (.string rp)).heap.size := by simpa [World.setCell] using lg_wb
      go_simp
      generalize ((wb.setCell ⟨w.heap.size, 0, none⟩ (.string ask)).setCell ⟨w.heap.size, 1, none⟩ (.string rp)) = wc at *
      have h4_wc := h4x
      refine hK.out _ _ S_wc (fun jd => ?_)
      clear hK K z0 z1 z2 z3 h4x
      refine tj 12 5 (lh fun _ h => h) rfl jd ?_
      refine wpAnyH_done (by kernel_rfl) ?_ _
      obtain ⟨z0, z1, z2, z3⟩ := row2 h4_wc
      go_wp2_with fail
      (try simp only [Exit.inBlock, Exit.then]); refine bodyPost_ret (by simp [results, Tryz.results148, go_sem, z0, z1]; try rfl) rfl ?_
      exact ⟨⟨_, _, _, rfl, by first | exact hT.out | exact fun _ => hT.out trivial | (intro h; cases h), by first | exact hFf.out | exact fun _ => hFf.out trivial | (intro h; cases h)⟩, B_wc⟩
     ·have hli : lineIs k (bef 64 (restB k s)) (repB k s) s = false := by simp [lineIs, hsl]
      have hNn := HSN.out (.inr (.inr (.inr hli)))
      have hT : Hid (false = true → dec k s = some (bef 64 (restB k s), repB k s)) := fun h => by cases h
      have hFf : Hid (false = false → dec k s = none) := fun _ => hNn
      have hcmp : ((lineB k (bef 64 (restB k s)) (repB k s)).toList == (s ++ ⟨#[10]⟩).toList) = false := by
       rw [toList_beq]
       refine decide_eq_false (fun e => hsl ?_)
       have := congrArg (fun x : BA => x.data.toList) e
       simp only [lineB, Joins.data_append] at this
       exact ba_ext (List.append_cancel_right this)
      clear hNn hli hsl HDI HSN
      go_enter Tryz.func148, Tryz.ntmps148
      go_wp2_with fail
      refine (l1Num_any k h0 (by omega) _).mono ?_
      rintro e w1 ⟨rfl, hb1⟩
      go_wp2_with fail
      refine (l1Split_any s 35 hs w1).mono ?_
      rintro e w2 ⟨v2, P2, rfl, hown2, hP1, hPh, _, _, hb2⟩
      have hbx := hb1.trans (hb2.mono hb1.size)
      obtain ⟨g2, c2, rfl, hc2⟩ := split_val hown2 hP1 hPh
      have hP2 : (0 : Int) < (P2.length : Int) := by omega
      have hP3 : 0 < P2.length := by omega
      clear hb1 hb2 hown2 hP1 hPh
      have h4_ := zero_row hbx
      obtain ⟨z0, z1, z2, z3⟩ := row2 h4_
      have B2 : Below w.heap.size w w2 := HAL.trans (hbx.mono (by simp))
      have lt2 : w.heap.size < w2.heap.size := Nat.lt_of_lt_of_le (by simp) hbx.size
      rw [hAdef.out]
      go_wp2_with fail
      rw [hRdef.out]
      refine (l1Split_any (restB k s) 64 hrs w2).mono ?_
      rintro e w3 ⟨v3, P3, rfl, hown3, hQ1, hQh, _, _, hb3⟩
      obtain ⟨g3, c3', rfl, hc3⟩ := split_val hown3 hQ1 hQh
      have hQ2 : (0 : Int) < (P3.length : Int) := by omega
      have hQ3 : 0 < P3.length := by omega
      clear hown3 hQ1 hQh
      have B3 := below_of B2 hb3 B2.size
      have lt3 : w.heap.size < w3.heap.size := Nat.lt_of_lt_of_le lt2 hb3.size
      have h4w3 := (hb3.block w.heap.size lt2).trans h4_
      obtain ⟨y0, y1, y2, y3⟩ := row2 h4w3
      clear z0 z1 z2 z3 hc2
      go_wp2_with fail
      rw [hPdef.out]
      generalize hask2 : bef 64 (restB k s) = ask at *
      generalize hrp2 : repB k s = rp at *
      have h4_W : (w3.alloc (.cells #[.string ask, .string rp] 70)).heap[w.heap.size]? = some (.cells #[.string ⟨#[]⟩, .string ⟨#[]⟩] 70 (0, 0)) := (((Below.refl _ w3).alloc (Nat.le_refl _) _).block _ lt3).trans h4w3
      have S_W : (w3.alloc (.cells #[.string ask, .string rp] 70)).cell? ⟨w3.heap.size, 0, none⟩ = some (.string ask) ∧ (w3.alloc (.cells #[.string ask, .string rp] 70)).cell? ⟨w3.heap.size, 1, none⟩ = some (.string rp) := ⟨by simp, by simp⟩
      have lt_W : w.heap.size < (w3.alloc (.cells #[.string ask, .string rp] 70)).heap.size := by simp; omega
      have lg_W : w3.heap.size < (w3.alloc (.cells #[.string ask, .string rp] 70)).heap.size := by simp
      have B_W : Below w.heap.size w (w3.alloc (.cells #[.string ask, .string rp] 70)) := B3.alloc B3.size _
      have hne : w.heap.size ≠ w3.heap.size := by omega
      have hlt4 : w.heap.size < w.heap.size + 1 := by omega
      generalize (w3.alloc (.cells #[.string ask, .string rp] 70)) = W at *
      generalize w3.heap.size = g10 at *
      refine wp_region_held_drew (S := fun w' => w'.cell? ⟨g10, 0, none⟩ = some (.string ask) ∧ w'.cell? ⟨g10, 1, none⟩ = some (.string rp)) (by kernel_rfl) S_W (fun jd => ?_)
      have h4_W : W.drew.heap[w.heap.size]? = _ := h4_W
      have lt_W : w.heap.size < W.drew.heap.size := lt_W
      have lg_W : g10 < W.drew.heap.size := lg_W
      have B_W : Below w.heap.size w W.drew := B_W.drew
      clear S_W
      generalize W.drew = W at *
      refine tj 0 53 (lh fun _ h => h) rfl jd ?_
      refine tj 1 54 (lh fun _ h => h) rfl jd ?_
      refine wpAnyH_ready (rs := [2]) (by kernel_rfl) (by simp) ?_
      refine (AllReadyH.cons rfl (fun K hK => ?_) AllReadyH.nil)
      go_simp
      refine (l27Good_any ask rp hci hri _).mono ?_
      rw [hg]
      rintro e wa ⟨rfl, hb_wa⟩
      have h4_wa := (hb_wa.block w.heap.size (by first | exact hlt4 | exact lt_W)).trans h4_W
      have lt_wa : w.heap.size < wa.heap.size := Nat.lt_of_lt_of_le lt_W hb_wa.size
      have B_wa := below_of B_W hb_wa B_W.size
      have S_wa : wa.cell? ⟨g10, 0, none⟩ = some (.string ask) ∧ wa.cell? ⟨g10, 1, none⟩ = some (.string rp) := ⟨(hb_wa.cell (p := ⟨g10, 0, none⟩) lg_W).trans jd.1, (hb_wa.cell (p := ⟨g10, 1, none⟩) lg_W).trans jd.2⟩
      have lg_wa : g10 < wa.heap.size := Nat.lt_of_lt_of_le lg_W hb_wa.size
      refine hK.out _ _ S_wa (fun jd => ?_)
      clear hK K
      refine tj 3 56 (lh fun _ h => h) rfl jd ?_
      refine tj 4 57 (lh fun _ h => h) rfl jd ?_
      refine tj 5 58 (lh fun _ h => h) rfl jd ?_
      refine tj 7 60 (lh fun _ h => h) rfl jd ?_
      refine wpAnyH_takeD (i := 8) (d := 61) (v := ?_) rfl (by kernel_rfl) (by kernel_rfl) (by kernel_rfl) (fun _ _ _ h => h) (by rfl) ?_ jd ?_
      rotate_left
      ·intro wS hS
       refine run_add_strP ⟨_, _, rfl, rfl, by simp only [ByteArray.size_append', ByteArray.size_mk', List.size_toArray, List.length_cons, List.length_nil]; omega, ?_⟩
       with_reducible rfl
      simp only [Act.put, p1, p2, p3]
      refine wpAnyH_ready (rs := [6]) (by kernel_rfl) (by simp) ?_
      refine (AllReadyH.cons rfl (fun K hK => ?_) AllReadyH.nil)
      go_simp
      refine (l27Line_any k ask rp h0 (by omega) hc1 hr1 _).mono ?_
      rintro e wb ⟨rfl, hb_wb⟩
      have h4_wb := (hb_wb.block w.heap.size (by first | exact hlt4 | exact lt_wa)).trans h4_wa
      have lt_wb : w.heap.size < wb.heap.size := Nat.lt_of_lt_of_le lt_wa hb_wb.size
      have B_wb := below_of B_wa hb_wb B_wa.size
      have S_wb : wb.cell? ⟨g10, 0, none⟩ = some (.string ask) ∧ wb.cell? ⟨g10, 1, none⟩ = some (.string rp) := ⟨(hb_wb.cell (p := ⟨g10, 0, none⟩) lg_wa).trans jd.1, (hb_wb.cell (p := ⟨g10, 1, none⟩) lg_wa).trans jd.2⟩
      have lg_wb : g10 < wb.heap.size := Nat.lt_of_lt_of_le lg_wa hb_wb.size
      refine hK.out _ _ S_wb (fun jd => ?_)
      clear hK K
      refine tj 9 62 (lh fun _ h => h) rfl jd ?_
      refine tj 10 63 (lh fun _ h => h) rfl jd ?_
      refine wpAnyH_ready (rs := [11]) (by kernel_rfl) (by simp) ?_
      refine (AllReadyH.cons rfl (fun K hK => ?_) AllReadyH.nil)
      obtain ⟨z0, z1, z2, z3⟩ := row2 h4_wb
      have h4x := row2_set (x := ask) (y := rp) h4_wb
      have B_wc : Below w.heap.size w ((wb.setCell ⟨w.heap.size, 0, none⟩ (.string ask)).setCell ⟨w.heap.size, 1, none⟩ (.string rp)) := (B_wb.setCell (Nat.le_refl _) _).setCell (Nat.le_refl _) _
      have S_wc : ((wb.setCell ⟨w.heap.size, 0, none⟩ (.string ask)).setCell ⟨w.heap.size, 1, none⟩ (.string rp)).cell? ⟨g10, 0, none⟩ = some (.string ask) ∧ ((wb.setCell ⟨w.heap.size, 0, none⟩ (.string ask)).setCell ⟨w.heap.size, 1, none⟩ (.string rp)).cell? ⟨g10, 1, none⟩ = some (.string rp) := by
       refine ⟨?_, ?_⟩ <;> (rw [World.cell?_setCell_far _ _ _ _ (by exact hne), World.cell?_setCell_far _ _ _ _ (by exact hne)]; first | exact jd.1 | exact jd.2)
      have lt_wc : w.heap.size < ((wb.setCell ⟨w.heap.size, 0, none⟩ (.string ask)).setCell ⟨w.heap.size, 1, none⟩ (.string rp)).heap.size := by simpa [World.setCell] using lt_wb
      have lg_wc : g10 < ((wb.setCell ⟨w.heap.size, 0, none⟩ (.string ask)).setCell ⟨w.heap.size, 1, none⟩ (.string rp)).heap.size := by simpa [World.setCell] using lg_wb
      go_simp
      generalize ((wb.setCell ⟨w.heap.size, 0, none⟩ (.string ask)).setCell ⟨w.heap.size, 1, none⟩ (.string rp)) = wc at *
      have h4_wc := h4x
      refine hK.out _ _ S_wc (fun jd => ?_)
      clear hK K z0 z1 z2 z3 h4x
      refine tj 12 5 (lh fun _ h => h) rfl jd ?_
      refine wpAnyH_done (by kernel_rfl) ?_ _
      obtain ⟨z0, z1, z2, z3⟩ := row2 h4_wc
      go_wp2_with fail
      (try simp only [Exit.inBlock, Exit.then]); refine bodyPost_ret (by simp [results, Tryz.results148, go_sem, z0, z1]; try rfl) rfl ?_
      exact ⟨⟨_, _, _, rfl, by first | exact hT.out | exact fun _ => hT.out trivial | (intro h; cases h), by first | exact hFf.out | exact fun _ => hFf.out trivial | (intro h; cases h)⟩, B_wc⟩
  ·have hNone : Hid (dec k s = none) := HSN.out (.inr (.inl c2))
   have hcm : (((bef 35 s).extract 0 (aheadB k).size).toList == (aheadB k).toList) = false := by rw [toList_beq]; simp [c2]
   clear c2
   go_enter Tryz.func148, Tryz.ntmps148
   go_wp2_with fail
   refine (l1Num_any k h0 (by omega) _).mono ?_
   rintro e w1 ⟨rfl, hb1⟩
   go_wp2_with fail
   refine (l1Split_any s 35 hs w1).mono ?_
   rintro e w2 ⟨v2, P2, rfl, hown2, hP1, hPh, _, _, hb2⟩
   have hbx := hb1.trans (hb2.mono hb1.size)
   obtain ⟨g2, c2, rfl, hc2⟩ := split_val hown2 hP1 hPh
   have hP2 : (0 : Int) < (P2.length : Int) := by omega
   have hP3 : 0 < P2.length := by omega
   clear hb1 hb2 hown2 hP1 hPh
   have h4_ := zero_row hbx
   obtain ⟨z0, z1, z2, z3⟩ := row2 h4_
   have B2 : Below w.heap.size w w2 := HAL.trans (hbx.mono (by simp))
   have lt2 : w.heap.size < w2.heap.size := Nat.lt_of_lt_of_le (by simp) hbx.size
   rw [hAdef.out]
   go_wp2_with fail
   obtain ⟨a0, a1, _, _⟩ := row2 (row2_set (x := ⟨#[]⟩) (y := ⟨#[]⟩) h4_)
   have BZ := (B2.setCell (p := ⟨w.heap.size, 0, none⟩) (Nat.le_refl _) (.string ⟨#[]⟩)).setCell (p := ⟨w.heap.size, 1, none⟩) (Nat.le_refl _) (.string ⟨#[]⟩)
   generalize (w2.setCell ⟨w.heap.size, 0, none⟩ (.string ⟨#[]⟩)).setCell ⟨w.heap.size, 1, none⟩ (.string ⟨#[]⟩) = WZ at *
   (try simp only [Exit.inBlock, Exit.then]); refine bodyPost_ret (by simp [results, Tryz.results148, go_sem, a0, a1]; try rfl) rfl ?_
   exact ⟨⟨_, _, _, rfl, (fun h => by cases h), fun _ => hNone.out⟩, BZ⟩
end Go.Proofs.YtpndjhelpoenpaaGreatDoor
namespace Go.Proofs.YtpndjhelpoenpaaGreatDoor
open Go.RowKit
attribute [local go_sem ↓] Go.wp_at_zero Go.wp_at_succ
theorem split_val2 {w : World} {lo : Nat} {v : Value} {P : List BA} {x : BA} (h : w.ownsRow lo 9 1 v P.length (P.map Value.string)) (h1 : 1 ≤ P.length) (hx : P.headD ⟨#[]⟩ = x) :
  ∃ g c cur, v = .slice (some ⟨g, 0, none⟩) P.length c ∧ w.cell? ⟨g, 0, none⟩ = some (.string x) ∧ w.heap[g]? = some (.cells cur 9 (0, 0)) := by
 obtain ⟨g, c, rfl, hc⟩ := split_val h h1 hx
 rcases h.2 with ⟨h2, _⟩ | ⟨g', cap, cur, h2, _, hg, _⟩
 ·cases h2
 ·simp only [Value.slice.injEq, Option.some.injEq, Addr.mk.injEq, and_true, true_and] at h2
  obtain ⟨rfl, _⟩ := h2
  exact ⟨g, c, cur, rfl, hc, hg⟩
theorem far_cell {w2 W8 w7 : World} {g : Nat} {cur : Array Value} {x : Value} {base n : Nat} {v : Value} {xs : List Value} (hgrow : W8.grownBy w7 v.ownBlock) (hown : W8.ownsRow base 70 2 v n xs) (hb : Below w2.heap.size w2 W8)
  (hh : w2.heap[g]? = some (.cells cur 9 (0, 0))) (hc : w2.cell? ⟨g, 0, none⟩ = some x) : w7.cell? ⟨g, 0, none⟩ = some x := by
 have hlt := (Array.getElem?_eq_some_iff.1 hh).1
 have h8 := (hb.block g hlt).trans hh
 refine (hgrow.cell_far ⟨g, 0, none⟩ (Nat.lt_of_lt_of_le hlt hb.size) ?_).trans (kp hb hc)
 intro he
 rcases hown.2 with ⟨rfl, _⟩ | ⟨G, cap, cur', rfl, _, hG, _⟩
 ·simp [Value.ownBlock] at he
 ·simp [Value.ownBlock] at he
  subst he
  rw [h8] at hG
  simp at hG
theorem l27Open_any (s : BA) (hs : s.size ≤ 4000000) (w : World) :
  Calls Tryz.prog 102 #[.string s] w fun e w' => ∃ v, e = .returned (.tuple #[v, .int .i64 ((readN s 60).2 : Nat)]) ∧ w'.ownsRow w.heap.size 70 2 v (readN s 60).1.length (recCells (readN s 60).1) ∧ Below w.heap.size w w' := by
 go_enter Tryz.func102, Tryz.ntmps102
 go_wp2_with fail
 go_loopw [4, 5] (fun v rd wr => ∃ m : Nat, m ≤ 60 ∧ Hid ((readN s m).1.length = m) ∧ rd = .int .i64 ((readN s m).2 : Nat) ∧ wr.ownsRow w.heap.size 70 2 v (readN s m).1.length (recCells (readN s m).1) ∧ Below w.heap.size w wr) (fun v _ _ => 60 - lenOf v)
 case atStart => exact ⟨0, by omega, rfl, rfl, World.ownsRow_made w #[] 0 (Nat.le_refl _) (by unfold maxLen; omega) rfl, (Below.refl _ w).alloc (Nat.le_refl _) _⟩
 case round =>
  obtain ⟨m, hm60, hlm, rfl, hown, hB⟩ := hrel
  obtain ⟨hat, _⟩ := readN_at s m hm60
  have hsz := hB.size
  obtain ⟨A4, c4, hv4, _, _⟩ := own_form hown
  rw [hlm.out] at hv4
  have HST : Hid (∀ n, m ≤ n → stepR s m (readN s m).2 = none → readN s n = readN s m) := fun n hn hs => readN_stop hlm.out hs hn
  have HYE : Hid (∀ e a, stepR s m (readN s m).2 = some (e, a) → readN s (m + 1) = ((readN s m).1 ++ [e], a)) := fun e a hs => readN_yes hlm.out hs
  have HL : Hid ((readN s m).1.length = m) := hlm.out
  have hl : (readN s m).1.length ≤ 100000000 := by rw [hlm.out]; omega
  clear hlm
  have HRN := lh (Eq.refl (readN s m))
  generalize hR : readN s m = RN at *
  obtain ⟨L, at_⟩ := RN
  simp only at *
  have HR := lh hR
  have HO : Hid (wr.ownsRow w.heap.size 70 2 u4 L.length (recCells L)) := hown
  clear hR HRN hown
  subst hv4
  have hat0 : (0 : Int) ≤ (at_ : Int) := by omega
  have hat1 : (at_ : Int) ≤ (s.size : Int) := by omega
  by_cases hend : at_ = s.size
  ·have hnone : Hid (stepR s m at_ = none) := by
    show stepR s m at_ = none
    have h0 : (s.extract at_ s.size).size = 0 := by simp [ByteArray.size_extract]; omega
    have hn : noByte (s.extract at_ s.size) 10 = true := by unfold noByte; rw [h0]; rfl
    unfold stepR
    rw [hn]; simp
   have hge : ¬ ((at_ : Int) < (s.size : Int)) := by omega
   clear hend
   go_wp2_with fail
   go_ret2
   refine ⟨.slice A4 m c4, ?_, ?_, hB⟩
   ·have hq := HST.out 60 (by omega) hnone.out; rw [hq]; try rfl
   ·rw [HST.out 60 (by omega) hnone.out]; exact HO.out
  ·have hlti : (at_ : Int) < (s.size : Int) := by omega
   by_cases hlt : m < 60
   ·have hst : Hid (stepR s m at_ = if noByte (s.extract at_ s.size) 10 then none else (dec m (bef 10 (s.extract at_ s.size))).map fun e => (e, at_ + (bef 10 (s.extract at_ s.size)).size + 1)) := rfl
    have hxs : (s.extract at_ s.size).size ≤ 4000000 := by simp [ByteArray.size_extract]; omega
    have hmi : (m : Int) < 60 := by omega
    have hm0 : (0 : Int) ≤ (m : Int) := by omega
    generalize hX : s.extract at_ s.size = X at hst hxs
    have hls := bef_size 10 X
    go_wp2_with fail
    first | rw [hX] | skip
    refine (l1Split_any X 10 hxs wr).mono ?_
    rintro e w1 ⟨v1, P, rfl, hown1, hP1, hPh, hPn, hPl, hb1⟩
    clear hX
    obtain ⟨g1, c1, cur1, rfl, hc1, hh1⟩ := split_val2 hown1 hP1 hPh
    have hP2 : (0 : Int) < (P.length : Int) := by omega
    have hP3 : 0 < P.length := by omega
    have B1 := below_of hB hb1 hB.size
    have hg1 : g1 < w1.heap.size := World.block_lt_of_cell? w1 _ hc1
    have HO1 := lh (ownsRow_below HO.out hb1)
    generalize bef 10 X = line at hst hls hc1
    clear HO hb1 hown1 hP1 hPh
    go_wp2_with fail
    refine (l27Read_any line m hm0 (by omega) (by omega) w1).mono ?_
    rintro e w2 ⟨⟨cm, rp, bb, rfl, hbt, hbf⟩, hb2⟩
    have HBT := lh hbt
    have HBF := lh hbf
    clear hbt hbf
    have B2 := below_of B1 hb2 B1.size
    have HO2 := lh (ownsRow_below HO1.out hb2)
    have hc2 := kp hb2 hc1
    have hh2 := (hb2.block g1 hg1).trans hh1
    have hg2 : g1 < w2.heap.size := Nat.lt_of_lt_of_le hg1 hb2.size
    have B3 : Below w.heap.size w (w2.alloc (.cells #[.string cm, .string rp] 70)) := B2.alloc B2.size _
    have AL2 := (Below.refl _ w2).alloc (Nat.le_refl _) (.cells #[.string cm, .string rp] 70)
    have hs2 := B2.size
    have HH2 := lh hh2
    clear hc1 hb2 HO1 hh1 hh2
    by_cases hn : P.length < 2
    ·have hnone : Hid (stepR s m at_ = none) := by show _ = _; rw [hst.out, hPn]; simp [hn]
     have hnd2 : decide (P.length < 2) = true := by simp; omega
     have hni : (P.length : Int) < 2 := by omega
     go_wp2_with fail
     go_ret2
     refine ⟨.slice A4 m c4, ?_, ?_, B3⟩
     ·have hq := HST.out 60 (by omega) hnone.out; rw [hq]; try rfl
     ·rw [HST.out 60 (by omega) hnone.out]; exact ownsRow_below HO2.out AL2
    ·have hni : ¬ ((P.length : Int) < 2) := by omega
     have hnd2 : decide (P.length < 2) = false := by simp; omega
     have hnd3 : decide ((P.length : Int) < 2) = false := by simp; omega
     have hst2 : Hid (stepR s m at_ = (dec m line).map fun e => (e, at_ + line.size + 1)) := by show _ = _; rw [hst.out, hPn]; simp [hn]
     cases bb with
     | false =>
      have hnone : Hid (stepR s m at_ = none) := by show _ = _; rw [hst2.out, HBF.out rfl]; rfl
      go_wp2_with fail
      go_ret2
      refine ⟨.slice A4 m c4, ?_, ?_, B3⟩
      ·have hq := HST.out 60 (by omega) hnone.out; rw [hq]; try rfl
      ·rw [HST.out 60 (by omega) hnone.out]; exact ownsRow_below HO2.out AL2
     | true =>
      have hsome : Hid (stepR s m at_ = some ((cm, rp), at_ + line.size + 1)) := by show _ = _; rw [hst2.out, HBT.out rfl]; rfl
      have HC2 := lh hc2
      go_wp2_with (at_builtin; refine wpList_append_rec _ rfl _ _ 66 rfl w.heap.size Tryz.underlying66 L cm rp _ rfl ((HO2.out.alloc _).alloc _) _ rfl (by simp) (by simp) hl (by simp; omega) ?_; intro v' w7 hown7 hgrow7; refine Hid.out ?_)
      have hc7 := far_cell hgrow7 ((HO2.out.alloc _).alloc _) (by go_grown) HH2.out HC2.out
      refine lh ?_
      go_wp2_with fail
      go_roundw
      case rel => exact ⟨m + 1, by omega, by show _ = _; rw [HYE.out _ _ hsome.out]; simp [HL.out], by rw [HYE.out _ _ hsome.out]; go_num, by rw [HYE.out _ _ hsome.out]; exact hown7, below_app (B3.alloc B3.size _) ((HO2.out.alloc _).alloc _) hgrow7⟩
      case measure =>
       obtain ⟨A7, c7, rfl, _, _⟩ := own_form hown7
       have := HL.out
       simp [lenOf]; omega
   ·obtain rfl : m = 60 := by omega
    go_wp2_with fail
    go_ret2
    exact ⟨.slice A4 60 c4, by have hq := HR.out; rw [hq]; try rfl, by rw [HR.out]; exact HO.out, hB⟩
end Go.Proofs.YtpndjhelpoenpaaGreatDoor
namespace Go.Proofs.YtpndjhelpoenpaaGreatDoor
open Go.RowKit
attribute [local go_sem ↓] Go.wp_at_zero Go.wp_at_succ
theorem row3 {w : World} {g : Nat} {p q : BA} {z : Int} (h : w.heap[g]? = some (.cells #[.string p, .string q, .int .i64 z] 33 (0, 0))) : w.cell? ⟨g, 0, none⟩ = some (.string p) ∧ w.cell? ⟨g, 1, none⟩ = some (.string q) ∧ w.cell? ⟨g, 2, none⟩ = some (.int .i64 z) ∧ w.frozen? ⟨g, 0, none⟩ = false ∧ w.frozen? ⟨g, 1, none⟩ = false ∧ w.frozen? ⟨g, 2, none⟩ = false := by
 refine ⟨by rw [cell_of_row w g 0 _ _ (0, 0) h]; rfl, by rw [cell_of_row w g 1 _ _ (0, 0) h]; rfl, by rw [cell_of_row w g 2 _ _ (0, 0) h]; rfl, by simp [World.frozen?, h], by simp [World.frozen?, h], by simp [World.frozen?, h]⟩
theorem row3_set {w : World} {g : Nat} {p q x y : BA} {z u : Int} (h : w.heap[g]? = some (.cells #[.string p, .string q, .int .i64 z] 33 (0, 0))) : (((w.setCell ⟨g, 0, none⟩ (.string x)).setCell ⟨g, 1, none⟩ (.string y)).setCell ⟨g, 2, none⟩ (.int .i64 u)).heap[g]? = some (.cells #[.string x, .string y, .int .i64 u] 33 (0, 0)) := by
 simp [World.setCell, Array.getElem?_modify, h]
theorem base_le {w : World} {b b' : Nat} {e : TypeId} {size : Nat} {v : Value} {n : Nat} {xs : List Value} (h : w.ownsRow b e size v n xs) (hb : b' ≤ b) : w.ownsRow b' e size v n xs := by
 obtain ⟨h1, h2⟩ := h
 refine ⟨h1, ?_⟩
 rcases h2 with h2 | ⟨g, cap, cur, h3, h4, h5⟩
 ·exact .inl h2
 ·exact .inr ⟨g, cap, cur, h3, Nat.le_trans hb h4, h5⟩
def recOk (s : BA) : Bool := decide (s.size ≤ 30000)
def recD (s : BA) : BA := if recOk s then s.extract 0 (readN s 60).2 else ⟨#[]⟩
def recC (s : BA) : Int := if recOk s then (readN s 60).1.length else 0
def recR (s : BA) : Int := if recOk s then ((readN s 60).2 : Nat) else 0
def logOk (D P : BA) (z : Int) : Bool := decide ((readN (D ++ P) 60).2 = (D ++ P).size) && decide ((readN D 60).2 = D.size) && decide (z = ((readN (D ++ P) 60).1.length : Nat))
theorem logOk_size {D P : BA} {z : Int} (h : logOk D P z = true) : D.size + P.size ≤ 24780 := by
 simp only [logOk, Bool.and_eq_true, decide_eq_true_eq] at h
 have := (readN_at (D ++ P) 60 (Nat.le_refl _)).2
 rw [h.1.1, size_app] at this
 omega
theorem recordsOf_any (D P : BA) (z : Int) (hD : D.size ≤ 1048576) (hP : P.size ≤ 1048576) (w : World) (ht : Tab w) (hm : Mx w) :
  Calls Tryz.prog 77 #[.agg #[.string D, .string P, .int .i64 z]] w fun e w' => ∃ v, e = .returned (.tuple #[v, .bool (logOk D P z)]) ∧ w'.ownsRow w.heap.size 70 2 v (readN (D ++ P) 60).1.length (recCells (readN (D ++ P) 60).1) ∧ Below w.heap.size w w' := by
 have HAL : Below w.heap.size w (w.alloc (.cells #[.string D, .string P, .int .i64 z] 33)) := (Below.refl _ w).alloc (Nat.le_refl _) _
 have HF0 : Hid (∀ w', Below (w.alloc (.cells #[.string D, .string P, .int .i64 z] 33)).heap.size (w.alloc (.cells #[.string D, .string P, .int .i64 z] 33)) w' → w'.cell? ⟨w.heap.size, 0, none⟩ = some (.string D) ∧ w'.cell? ⟨w.heap.size, 1, none⟩ = some (.string P) ∧ w'.cell? ⟨w.heap.size, 2, none⟩ = some (.int .i64 z)) := by
  intro w' hq
  exact (cells3 (bx (g := w.heap.size) hq))
 have hsz : (D ++ P).size ≤ 4000000 := by rw [size_app]; omega
 have HR1 := lh (readRecords_any (D ++ P) hsz (w.alloc (.cells #[.string D, .string P, .int .i64 z] 33)) (ht.below HAL) (hm.below HAL))
 have HR2 := lh (fun W hT hM => readRecords_any D (by omega) W hT hM)
 have HOK : Hid (logOk D P z = (decide ((readN (D ++ P) 60).2 = (D ++ P).size) && decide ((readN D 60).2 = D.size) && decide (z = ((readN (D ++ P) 60).1.length : Nat)))) := rfl
 have hszn : D.size + P.size ≤ 4000000 := by omega
 have hsa : (D ++ P).size = D.size + P.size := size_app D P
 rw [hsa] at HOK
 generalize (readN (D ++ P) 60).2 = n1 at *
 generalize (readN (D ++ P) 60).1 = L at *
 generalize (readN D 60).2 = n2 at *
 generalize (readN D 60).1 = L2 at *
 clear hsa hsz
 go_enter Tryz.func77, Tryz.ntmps77
 go_wp2_with fail
 refine HR1.out.mono ?_
 rintro e w1 ⟨v1, rfl, hown1, hb1⟩
 obtain ⟨A1, c1, rfl, _, _⟩ := own_form hown1
 obtain ⟨q0, q1, q2⟩ := HF0.out w1 hb1
 have B1 := HAL.trans (hb1.mono (by simp))
 go_wp2_with fail
 refine (HR2.out w1 (ht.below B1) (hm.below B1)).mono ?_
 rintro e w2 ⟨v2, rfl, hown2, hb2⟩
 obtain ⟨A2, c2, rfl, _, _⟩ := own_form hown2
 have hb12 := hb1.trans (hb2.mono hb1.size)
 have B2 := HAL.trans (hb12.mono (by simp))
 have HO := lh (base_le (b' := w.heap.size) (ownsRow_below hown1 hb2) (by simp))
 have HF : Hid (∀ w', Below w2.heap.size w2 w' → w'.cell? ⟨w.heap.size, 0, none⟩ = some (.string D) ∧ w'.cell? ⟨w.heap.size, 1, none⟩ = some (.string P) ∧ w'.cell? ⟨w.heap.size, 2, none⟩ = some (.int .i64 z)) := fun w' hq => HF0.out w' (hb12.trans (hq.mono hb12.size))
 clear hown1 hown2 hb1 hb2 hb12 HF0 HR1 HR2 q0 q1 q2 HAL B1
 go_wp2_with fail
 by_cases e1 : n1 = D.size + P.size
 ·have b1 : ((n1 : Int) == (D.size : Int) + (P.size : Int)) = true := by simp; omega
  have b1' : (n1 == D.size + P.size) = true := by simp [e1]
  by_cases e2 : n2 = D.size
  ·have b2 : ((n2 : Int) == (D.size : Int)) = true := by simp; omega
   have b2' : (n2 == D.size) = true := by simp [e2]
   have HOK2 : Hid (logOk D P z = (z == ((L.length : Nat) : Int))) := by show _ = _; rw [HOK.out, e1, e2]; simp only [decide_true, Bool.true_and]; rw [Bool.eq_iff_iff]; simp
   clear e1 e2
   refine wp_region_held_drew (S := fun w' => Below (w2).heap.size (w2) w') (by kernel_rfl) ((Below.refl _ _).drew) (fun jd => ?_)
   refine tj4 0 25 1 26 2 27 3 28 HF jd ?_
   refine tj4 4 29 5 30 6 31 7 32 HF jd ?_
   refine tj4 8 33 9 34 10 35 11 36 HF jd ?_
   refine tj4 12 37 13 38 14 39 15 40 HF jd ?_
   refine tj4 16 41 17 42 18 43 19 2 HF jd ?_
   refine tj 20 3 HF rfl jd ?_
   refine wpAnyH_done (by kernel_rfl) ?_ _
   go_wp2_with fail
   go_ret2
   exact ⟨_, by rw [HOK2.out]; rfl, ownsRow_below HO.out jd, below_of B2 jd B2.size⟩
  ·have b2 : ((n2 : Int) == (D.size : Int)) = false := by simp; omega
   have b2' : (n2 == D.size) = false := by simp [e2]
   have HOK2 : Hid (logOk D P z = false) := by show _ = _; rw [HOK.out]; simp [e2]
   clear e1 e2
   refine wp_region_held_drew (S := fun w' => Below (w2).heap.size (w2) w') (by kernel_rfl) ((Below.refl _ _).drew) (fun jd => ?_)
   refine tj4 0 25 1 26 2 27 3 28 HF jd ?_
   refine tj4 4 29 5 30 6 31 7 32 HF jd ?_
   refine tj4 8 33 9 34 10 35 11 36 HF jd ?_
   refine tj 12 37 HF rfl jd ?_
   refine wpAnyH_skips (by kernel_rfl) (fun _ _ _ _ _ h => h) jd [(13, 38), (14, 39), (15, 40), (16, 41), (17, 42)] 3 5 _ _ rfl (by kernel_rfl) ?_
   simp only [skipL, skipA, Act.put, p1, p2, p3]
   refine tj3 18 43 19 2 20 3 HF jd ?_
   refine wpAnyH_done (by kernel_rfl) ?_ _
   go_wp2_with fail
   go_ret2
   exact ⟨_, by rw [HOK2.out]; rfl, ownsRow_below HO.out jd, below_of B2 jd B2.size⟩
 ·have b1 : ((n1 : Int) == (D.size : Int) + (P.size : Int)) = false := by simp; omega
  have b1' : (n1 == D.size + P.size) = false := by simp [e1]
  have HOK2 : Hid (logOk D P z = false) := by show _ = _; rw [HOK.out]; simp [e1]
  clear e1
  refine wp_region_held_drew (S := fun w' => Below (w2).heap.size (w2) w') (by kernel_rfl) ((Below.refl _ _).drew) (fun jd => ?_)
  refine tj4 0 25 1 26 2 27 3 28 HF jd ?_
  refine tj2 4 29 5 30 HF jd ?_
  refine wpAnyH_skips (by kernel_rfl) (fun _ _ _ _ _ h => h) jd [(6, 31), (7, 32), (8, 33), (9, 34), (10, 35)] 10 5 _ _ rfl (by kernel_rfl) ?_
  simp only [skipL, skipA, Act.put, p1, p2, p3]
  refine tj2 11 36 12 37 HF jd ?_
  refine wpAnyH_skips (by kernel_rfl) (fun _ _ _ _ _ h => h) jd [(13, 38), (14, 39), (15, 40), (16, 41), (17, 42)] 3 5 _ _ rfl (by kernel_rfl) ?_
  simp only [skipL, skipA, Act.put, p1, p2, p3]
  refine tj3 18 43 19 2 20 3 HF jd ?_
  refine wpAnyH_done (by kernel_rfl) ?_ _
  go_wp2_with fail
  go_ret2
  exact ⟨_, by rw [HOK2.out]; rfl, ownsRow_below HO.out jd, below_of B2 jd B2.size⟩
theorem IsValidLog_any (D P : BA) (z : Int) (hD : D.size ≤ 1048576) (hP : P.size ≤ 1048576) (w : World) (ht : Tab w) (hm : Mx w) :
  Calls Tryz.prog 73 #[.agg #[.string D, .string P, .int .i64 z]] w fun e w' => e = .returned (.bool (logOk D P z)) ∧ Below w.heap.size w w' := by
 have HAL : Below w.heap.size w (w.alloc (.cells #[.string D, .string P, .int .i64 z] 33)) := (Below.refl _ w).alloc (Nat.le_refl _) _
 go_enter Tryz.func73, Tryz.ntmps73
 go_wp2_with fail
 refine (recordsOf_any D P z hD hP _ (ht.below HAL) (hm.below HAL)).mono ?_
 rintro e w1 ⟨v, rfl, _, hb1⟩
 go_wp2_with fail
 go_ret
 exact ⟨rfl, HAL.trans (hb1.mono (by simp))⟩
theorem l27Log_any (D P : BA) (z : Int) (hD : D.size ≤ 1048576) (hP : P.size ≤ 1048576) (w : World) :
  Calls Tryz.prog 58 #[.agg #[.string D, .string P, .int .i64 z]] w fun e w' => e = .returned (.bool (logOk D P z)) ∧ Below w.heap.size w w' := by
 have HAL : Below w.heap.size w (w.alloc (.cells #[.string D, .string P, .int .i64 z] 33)) := (Below.refl _ w).alloc (Nat.le_refl _) _
 have HF0 : Hid (∀ w', Below (w.alloc (.cells #[.string D, .string P, .int .i64 z] 33)).heap.size (w.alloc (.cells #[.string D, .string P, .int .i64 z] 33)) w' → w'.cell? ⟨w.heap.size, 0, none⟩ = some (.string D) ∧ w'.cell? ⟨w.heap.size, 1, none⟩ = some (.string P) ∧ w'.cell? ⟨w.heap.size, 2, none⟩ = some (.int .i64 z)) := by
  intro w' hq
  exact (cells3 (bx (g := w.heap.size) hq))
 have hsa : (D ++ P).size = D.size + P.size := size_app D P
 by_cases hbig : D.size + P.size ≤ 30000
 ·have hbi : ¬ (30000 < (D.size : Int) + (P.size : Int)) := by omega
  have hsz : (D ++ P).size ≤ 4000000 := by omega
  have HR1 := lh (l27Open_any (D ++ P) hsz (w.alloc (.cells #[.string D, .string P, .int .i64 z] 33)))
  have HR2 := lh (fun W => l27Open_any D (by omega) W)
  have HOK : Hid (logOk D P z = (decide ((readN (D ++ P) 60).2 = (D ++ P).size) && decide ((readN D 60).2 = D.size) && decide (z = ((readN (D ++ P) 60).1.length : Nat)))) := rfl
  rw [hsa] at HOK
  generalize (readN (D ++ P) 60).2 = n1 at *
  generalize (readN (D ++ P) 60).1 = L at *
  generalize (readN D 60).2 = n2 at *
  generalize (readN D 60).1 = L2 at *
  clear hsa hsz
  go_enter Tryz.func58, Tryz.ntmps58
  go_wp2_with fail
  refine HR1.out.mono ?_
  rintro e w1 ⟨v1, rfl, hown1, hb1⟩
  obtain ⟨A1, c1, rfl, _, _⟩ := own_form hown1
  obtain ⟨q0, q1, q2⟩ := HF0.out w1 hb1
  go_wp2_with fail
  refine (HR2.out w1).mono ?_
  rintro e w2 ⟨v2, rfl, hown2, hb2⟩
  obtain ⟨A2, c2, rfl, _, _⟩ := own_form hown2
  have hb12 := hb1.trans (hb2.mono hb1.size)
  have B2 := HAL.trans (hb12.mono (by simp))
  obtain ⟨r0, r1, r2⟩ := HF0.out w2 hb12
  clear hown1 hown2 hb1 hb2 hb12 HF0 HR1 HR2 q0 q1 q2 HAL
  by_cases e1 : n1 = D.size + P.size
  ·have b1 : ((n1 : Int) == (D.size : Int) + (P.size : Int)) = true := by simp; omega
   have b1' : (n1 == D.size + P.size) = true := by simp [e1]
   by_cases e2 : n2 = D.size
   ·have b2 : ((n2 : Int) == (D.size : Int)) = true := by simp; omega
    have b2' : (n2 == D.size) = true := by simp [e2]
    by_cases e3 : z = ((L.length : Nat) : Int)
    ·have HOK2 : Hid (logOk D P z = true) := by show _ = _; rw [HOK.out, e1, e2, e3]; simp
     have b3 : (((L.length : Nat) : Int) == z) = true := by simp; omega
     clear e1 e2 e3
     go_wp2_with fail
     go_ret
     exact ⟨ret_bool (by rw [HOK2.out]), B2⟩
    ·have HOK2 : Hid (logOk D P z = false) := by show _ = _; rw [HOK.out]; simp [e3]
     have b3 : (((L.length : Nat) : Int) == z) = false := by simp; omega
     clear e1 e2 e3
     go_wp2_with fail
     go_ret
     exact ⟨ret_bool (by rw [HOK2.out]), B2⟩
   ·have b2 : ((n2 : Int) == (D.size : Int)) = false := by simp; omega
    have b2' : (n2 == D.size) = false := by simp [e2]
    have HOK2 : Hid (logOk D P z = false) := by show _ = _; rw [HOK.out]; simp [e2]
    clear e1 e2
    go_wp2_with fail
    go_ret
    exact ⟨ret_bool (by rw [HOK2.out]), B2⟩
  ·have b1 : ((n1 : Int) == (D.size : Int) + (P.size : Int)) = false := by simp; omega
   have b1' : (n1 == D.size + P.size) = false := by simp [e1]
   have HOK2 : Hid (logOk D P z = false) := by show _ = _; rw [HOK.out]; simp [e1]
   clear e1
   go_wp2_with fail
   go_ret
   exact ⟨ret_bool (by rw [HOK2.out]), B2⟩
 ·have hbi : 30000 < (D.size : Int) + (P.size : Int) := by omega
  have HOK2 : Hid (logOk D P z = false) := by
   show logOk D P z = false
   cases h : logOk D P z with
   | false => rfl
   | true => have := logOk_size h; omega
  go_enter Tryz.func58, Tryz.ntmps58
  go_wp2_with fail
  go_ret
  exact ⟨ret_bool (by rw [HOK2.out]), HAL⟩
theorem toLog_any (D P : BA) (z : Int) (w : World) :
  Calls Tryz.prog 23 #[.agg #[.string D, .string P, .int .i64 z]] w fun e w' => e = .returned (.agg #[.string D, .string P, .int .i64 z]) ∧ Below w.heap.size w w' := by
 go_enter Tryz.func23, Tryz.ntmps23
 go_wp2
 go_returns
 exact ⟨rfl, by go_grown⟩
theorem szLog_ok (D P : BA) (z : Int) (w : World) (h : (D.size : Int) + (P.size : Int) ≤ 1048576) :
  Calls Tryz.prog 21 #[.agg #[.string D, .string P, .int .i64 z], .int .i64 1048576] w fun e w' => e = .returned (.int .i64 (1048576 - D.size - P.size)) ∧ Below w.heap.size w w' := by
 go_enter Tryz.func21, Tryz.ntmps21
 go_wp2
 go_ret
 exact ⟨rfl, by go_grown⟩
theorem szLog_big (D P : BA) (z : Int) (w : World) (hc : (D.size : Int) ≤ 9223372036854775807) (hr : (P.size : Int) ≤ 9223372036854775807) (h : 1048576 < (D.size : Int) + (P.size : Int)) :
  Calls Tryz.prog 21 #[.agg #[.string D, .string P, .int .i64 z], .int .i64 1048576] w fun e w' => e = .returned (.int .i64 (-1)) ∧ Below w.heap.size w w' := by
 by_cases h1 : 1048576 < (D.size : Int)
 ·go_enter Tryz.func21, Tryz.ntmps21
  go_wp2
  go_ret
  exact ⟨rfl, by go_grown⟩
 ·go_enter Tryz.func21, Tryz.ntmps21
  go_wp2
  go_ret
  exact ⟨rfl, by go_grown⟩
end Go.Proofs.YtpndjhelpoenpaaGreatDoor
namespace Go.Proofs.YtpndjhelpoenpaaGreatDoor
open Go.RowKit
theorem rowC {X w' : World} {g : Nat} {o : Obj} (hX : X.heap[g]? = some o) (h : Below X.heap.size X w') : w'.heap[g]? = some o :=
 (h.block g (Array.getElem?_eq_some_iff.1 hX).1).trans hX
end Go.Proofs.YtpndjhelpoenpaaGreatDoor
