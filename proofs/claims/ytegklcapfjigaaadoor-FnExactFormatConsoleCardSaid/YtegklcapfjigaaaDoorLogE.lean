/-
  l27Read: the reference decodes a line as the record with a sequence number.
-/
import Derived.Test.YtegklcapfjigaaaDoorLogC
import Derived.Test.YtegklcapfjigaaaDoorRegion
namespace Go.Proofs.YtegklcapfjigaaaDoor
open Go.RowKit
set_option linter.unusedVariables false
set_option linter.unusedSimpArgs false
attribute [local go_sem ↓] Go.wp_at_zero Go.wp_at_succ
def aheadB (k : Int) : BA := numB k ++ ⟨#[32]⟩
def restB (k : Int) (s : BA) : BA := (bef 35 s).extract (aheadB k).size (bef 35 s).size
def repB (k : Int) (s : BA) : BA := (restB k s).extract ((bef 64 (restB k s)).size + 1) (restB k s).size
theorem spec_facts {k : Int} {s c r : BA} (h0 : 0 ≤ k) (h : dec k s = some (c, r)) : ¬ (bef 35 s).size < (aheadB k).size ∧ (bef 35 s).extract 0 (aheadB k).size = aheadB k ∧ bef 64 (restB k s) = c ∧ (bef 64 (restB k s)).size ≠ (restB k s).size ∧ repB k s = r := by
  obtain ⟨h1, h2⟩ := spec_dec h0 h
  have h1' : bef 35 s = aheadB k ++ ((c ++ ⟨#[64]⟩) ++ r) := h1
  have hr : restB k s = (c ++ ⟨#[64]⟩) ++ r := by unfold restB; rw [h1']; exact ext_right rfl
  have h64 : (ByteArray.mk #[64]).size = 1 := rfl
  refine ⟨?_, ?_, ?_, ?_, ?_⟩
  · rw [h1', size_app]; omega
  · rw [h1']; exact ext_left _ _
  · rw [hr]; exact h2
  · rw [hr, h2, size_app, size_app]; omega
  · unfold repB
    rw [hr, h2]
    have : c.size + 1 = (c ++ ⟨#[64]⟩).size := by rw [size_app]; rfl
    rw [this]
    exact ext_right rfl
theorem spec_none {k : Int} {s : BA} (h0 : 0 ≤ k) (h : (bef 35 s).size < (aheadB k).size ∨ (bef 35 s).extract 0 (aheadB k).size ≠ aheadB k ∨ (bef 64 (restB k s)).size = (restB k s).size ∨ lineIs k (bef 64 (restB k s)) (repB k s) s = false) : dec k s = none := by
  cases hd : dec k s with
  | none => rfl
  | some e =>
    exfalso
    obtain ⟨c, r⟩ := e
    obtain ⟨a1, a2, a3, a4, a5⟩ := spec_facts h0 hd
    rcases h with h | h | h | h
    · exact a1 h
    · exact h a2
    · exact a4 h
    · rw [a3, a5, dec_some hd] at h; cases h
theorem split_val {w : World} {lo : Nat} {v : Value} {P : List BA} {x : BA} (h : w.ownsRow lo 9 1 v P.length (P.map Value.string)) (h1 : 1 ≤ P.length) (hx : P.headD ⟨#[]⟩ = x) :
    ∃ g c, v = .slice (some ⟨g, 0, none⟩) P.length c ∧ w.cell? ⟨g, 0, none⟩ = some (.string x) := by
  rcases h.2 with ⟨_, h0⟩ | ⟨g, cap, cur, rfl, _, hg, _⟩
  · omega
  · refine ⟨g, cap, rfl, ?_⟩
    have := h.cells (g := g) rfl 0 (.string x) (by
      cases P with
      | nil => simp at h1
      | cons y P => simp at hx; subst hx; rfl)
    simpa [Addr.add] using this
theorem zero_row {w w' : World} (h : Below (w.alloc (.cells #[.string ⟨#[]⟩, .string ⟨#[]⟩] 84)).heap.size (w.alloc (.cells #[.string ⟨#[]⟩, .string ⟨#[]⟩] 84)) w') : w'.heap[w.heap.size]? = some (.cells #[.string ⟨#[]⟩, .string ⟨#[]⟩] 84 (0, 0)) :=
  (h.block w.heap.size (by simp)).trans (heap_alloc_new w _)
theorem row2 {w : World} {g : Nat} {p q : BA} (h : w.heap[g]? = some (.cells #[.string p, .string q] 84 (0, 0))) : w.cell? ⟨g, 0, none⟩ = some (.string p) ∧ w.cell? ⟨g, 1, none⟩ = some (.string q) ∧ w.frozen? ⟨g, 0, none⟩ = false ∧ w.frozen? ⟨g, 1, none⟩ = false := by
  refine ⟨by rw [cell_of_row w g 0 _ _ (0, 0) h]; rfl, by rw [cell_of_row w g 1 _ _ (0, 0) h]; rfl, by simp [World.frozen?, h], by simp [World.frozen?, h]⟩
theorem row2_set {w : World} {g : Nat} {p q x y : BA} (h : w.heap[g]? = some (.cells #[.string p, .string q] 84 (0, 0))) : ((w.setCell ⟨g, 0, none⟩ (.string x)).setCell ⟨g, 1, none⟩ (.string y)).heap[g]? = some (.cells #[.string x, .string y] 84 (0, 0)) := by
  simp [World.setCell, Array.getElem?_modify, h]
def ReadPost (w : World) (k : Int) (s : BA) (e : Ending) (w' : World) : Prop :=
  (∃ c r b, e = .returned (.tuple #[.agg #[.string c, .string r], .bool b]) ∧ (b = true → dec k s = some (c, r)) ∧ (b = false → dec k s = none)) ∧ Below w.heap.size w w'
set_option maxRecDepth 100000 in
set_option maxHeartbeats 1500000 in
theorem l27Read_any (s : BA) (k : Int) (h0 : 0 ≤ k) (h1 : k ≤ 59) (hs : s.size ≤ 4000000) (w : World) :
    Calls Tryd.prog 55 #[.string s, .int .i64 k] w (ReadPost w k s) := by
  have HAL : Below w.heap.size w (w.alloc (.cells #[.string ⟨#[]⟩, .string ⟨#[]⟩] 84)) := (Below.refl _ w).alloc (Nat.le_refl _) _
  have hts := bef_size 35 s
  have hnz := numB_size (n := k) (by omega) (by omega)
  have hAz : (aheadB k).size ≤ 22 := by
    have := numB_size (n := k) (by omega) (by omega)
    simp only [aheadB, ByteArray.size_append', ByteArray.size_mk', List.size_toArray, List.length_cons, List.length_nil]; omega
  have hAdef : Hid (numB k ++ ⟨#[32]⟩ = aheadB k) := rfl
  have HSN := Lib.hid (spec_none (k := k) (s := s) h0)
  have hrs : (restB k s).size ≤ 4000000 := by unfold restB; simp [ByteArray.size_extract]; omega
  have hask := bef_size 64 (restB k s)
  have hrp : (repB k s).size ≤ 4000000 := by unfold repB; simp [ByteArray.size_extract]; omega
  have hRdef : Hid ((bef 35 s).extract (aheadB k).size (bef 35 s).size = restB k s) := rfl
  have hPdef : Hid ((restB k s).extract ((bef 64 (restB k s)).size + 1) (restB k s).size = repB k s) := rfl
  have HDI := Lib.hid (fun h => dec_of_is (k := k) (c := bef 64 (restB k s)) (r := repB k s) (line := s) h0 h)
  by_cases c1 : (bef 35 s).size < (aheadB k).size
  · have hNone : Hid (dec k s = none) := HSN.out (.inl c1)
    have c1i : ((bef 35 s).size : Int) < ((aheadB k).size : Int) := by omega
    go_enter Tryd.func55, Tryd.ntmps55
    go_wp2_with fail
    refine (l1Num_any k h0 (by omega) _).mono ?_
    rintro e w1 ⟨rfl, hb1⟩
    go_wp2_with fail
    refine (l1Split_any s 35 hs w1).mono ?_
    rintro e w2 ⟨v2, P2, rfl, hown2, hP1, hPh, _, _, hb2⟩
    have hbx := hb1.trans (hb2.mono hb1.size)
    obtain ⟨g2, c2, rfl, hc2⟩ := split_val hown2 hP1 hPh
    have hP2 : (0 : Int) < (P2.length : Int) := by omega
    have hP3 : 0 < P2.length := by omega
    clear hb1 hb2 hown2 hP1 hPh
    have h4_ := zero_row hbx
    obtain ⟨z0, z1, z2, z3⟩ := row2 h4_
    have B2 : Below w.heap.size w w2 := HAL.trans (hbx.mono (by simp))
    have lt2 : w.heap.size < w2.heap.size := Nat.lt_of_lt_of_le (by simp) hbx.size
    rw [hAdef.out]
    go_wp2_with fail
    obtain ⟨a0, a1, _, _⟩ := row2 (row2_set (x := ⟨#[]⟩) (y := ⟨#[]⟩) h4_)
    have BZ := (B2.setCell (p := ⟨w.heap.size, 0, none⟩) (Nat.le_refl _) (.string ⟨#[]⟩)).setCell (p := ⟨w.heap.size, 1, none⟩) (Nat.le_refl _) (.string ⟨#[]⟩)
    generalize (w2.setCell ⟨w.heap.size, 0, none⟩ (.string ⟨#[]⟩)).setCell ⟨w.heap.size, 1, none⟩ (.string ⟨#[]⟩) = WZ at *
    (try simp only [Exit.inBlock, Exit.then]); refine bodyPost_ret (by simp [results, Tryd.results55, go_sem, a0, a1]; try rfl) rfl ?_
    exact ⟨⟨_, _, _, rfl, (fun h => by cases h), fun _ => hNone.out⟩, BZ⟩
  · have c1i : ¬ (((bef 35 s).size : Int) < ((aheadB k).size : Int)) := by omega
    have c1j : ((aheadB k).size : Int) ≤ ((bef 35 s).size : Int) := by omega
    have c1k : (0 : Int) ≤ ((aheadB k).size : Int) := by omega
    by_cases c2 : (bef 35 s).extract 0 (aheadB k).size = aheadB k
    · have hcm : (((bef 35 s).extract 0 (aheadB k).size).toList == (aheadB k).toList) = true := by rw [toList_beq, c2]; simp
      clear c2
      by_cases c3 : (bef 64 (restB k s)).size = (restB k s).size
      · have hNone : Hid (dec k s = none) := HSN.out (.inr (.inr (.inl c3)))
        have c3i : (((bef 64 (restB k s)).size : Int) == ((restB k s).size : Int)) = true := by rw [c3]; simp
        go_enter Tryd.func55, Tryd.ntmps55
        go_wp2_with fail
        refine (l1Num_any k h0 (by omega) _).mono ?_
        rintro e w1 ⟨rfl, hb1⟩
        go_wp2_with fail
        refine (l1Split_any s 35 hs w1).mono ?_
        rintro e w2 ⟨v2, P2, rfl, hown2, hP1, hPh, _, _, hb2⟩
        have hbx := hb1.trans (hb2.mono hb1.size)
        obtain ⟨g2, c2, rfl, hc2⟩ := split_val hown2 hP1 hPh
        have hP2 : (0 : Int) < (P2.length : Int) := by omega
        have hP3 : 0 < P2.length := by omega
        clear hb1 hb2 hown2 hP1 hPh
        have h4_ := zero_row hbx
        obtain ⟨z0, z1, z2, z3⟩ := row2 h4_
        have B2 : Below w.heap.size w w2 := HAL.trans (hbx.mono (by simp))
        have lt2 : w.heap.size < w2.heap.size := Nat.lt_of_lt_of_le (by simp) hbx.size
        rw [hAdef.out]
        go_wp2_with fail
        rw [hRdef.out]
        refine (l1Split_any (restB k s) 64 hrs w2).mono ?_
        rintro e w3 ⟨v3, P3, rfl, hown3, hQ1, hQh, _, _, hb3⟩
        obtain ⟨g3, c3', rfl, hc3⟩ := split_val hown3 hQ1 hQh
        have hQ2 : (0 : Int) < (P3.length : Int) := by omega
        have hQ3 : 0 < P3.length := by omega
        clear hown3 hQ1 hQh
        have B3 := below_of B2 hb3 B2.size
        have lt3 : w.heap.size < w3.heap.size := Nat.lt_of_lt_of_le lt2 hb3.size
        have h4w3 := (hb3.block w.heap.size lt2).trans h4_
        obtain ⟨y0, y1, y2, y3⟩ := row2 h4w3
        clear z0 z1 z2 z3 hc2
        go_wp2_with fail
        obtain ⟨a0, a1, _, _⟩ := row2 (row2_set (x := ⟨#[]⟩) (y := ⟨#[]⟩) h4w3)
        have BZ := (B3.setCell (p := ⟨w.heap.size, 0, none⟩) (Nat.le_refl _) (.string ⟨#[]⟩)).setCell (p := ⟨w.heap.size, 1, none⟩) (Nat.le_refl _) (.string ⟨#[]⟩)
        generalize (w3.setCell ⟨w.heap.size, 0, none⟩ (.string ⟨#[]⟩)).setCell ⟨w.heap.size, 1, none⟩ (.string ⟨#[]⟩) = WZ at *
        (try simp only [Exit.inBlock, Exit.then]); refine bodyPost_ret (by simp [results, Tryd.results55, go_sem, a0, a1]; try rfl) rfl ?_
        exact ⟨⟨_, _, _, rfl, (fun h => by cases h), fun _ => hNone.out⟩, BZ⟩
      · have c3i : (((bef 64 (restB k s)).size : Int) == ((restB k s).size : Int)) = false := by simp; omega
        have c3j : ((bef 64 (restB k s)).size : Int) + 1 ≤ ((restB k s).size : Int) := by omega
        have c3k : (0 : Int) ≤ ((bef 64 (restB k s)).size : Int) + 1 := by omega
        have hci : ((bef 64 (restB k s)).size : Int) ≤ 9223372036854775807 := by omega
        have hri : ((repB k s).size : Int) ≤ 9223372036854775807 := by omega
        cases hg : goodRec (bef 64 (restB k s)) (repB k s) with
        | false =>
          have hli : lineIs k (bef 64 (restB k s)) (repB k s) s = false := by rw [lineIs, hg]; rfl
          have hNn := HSN.out (.inr (.inr (.inr hli)))
          have hT : Hid (false = true → dec k s = some (bef 64 (restB k s), repB k s)) := fun h => by cases h
          have hFf : Hid (false = false → dec k s = none) := fun _ => hNn
          clear hNn hli
          go_enter Tryd.func55, Tryd.ntmps55
          go_wp2_with fail
          refine (l1Num_any k h0 (by omega) _).mono ?_
          rintro e w1 ⟨rfl, hb1⟩
          go_wp2_with fail
          refine (l1Split_any s 35 hs w1).mono ?_
          rintro e w2 ⟨v2, P2, rfl, hown2, hP1, hPh, _, _, hb2⟩
          have hbx := hb1.trans (hb2.mono hb1.size)
          obtain ⟨g2, c2, rfl, hc2⟩ := split_val hown2 hP1 hPh
          have hP2 : (0 : Int) < (P2.length : Int) := by omega
          have hP3 : 0 < P2.length := by omega
          clear hb1 hb2 hown2 hP1 hPh
          have h4_ := zero_row hbx
          obtain ⟨z0, z1, z2, z3⟩ := row2 h4_
          have B2 : Below w.heap.size w w2 := HAL.trans (hbx.mono (by simp))
          have lt2 : w.heap.size < w2.heap.size := Nat.lt_of_lt_of_le (by simp) hbx.size
          rw [hAdef.out]
          go_wp2_with fail
          rw [hRdef.out]
          refine (l1Split_any (restB k s) 64 hrs w2).mono ?_
          rintro e w3 ⟨v3, P3, rfl, hown3, hQ1, hQh, _, _, hb3⟩
          obtain ⟨g3, c3', rfl, hc3⟩ := split_val hown3 hQ1 hQh
          have hQ2 : (0 : Int) < (P3.length : Int) := by omega
          have hQ3 : 0 < P3.length := by omega
          clear hown3 hQ1 hQh
          have B3 := below_of B2 hb3 B2.size
          have lt3 : w.heap.size < w3.heap.size := Nat.lt_of_lt_of_le lt2 hb3.size
          have h4w3 := (hb3.block w.heap.size lt2).trans h4_
          obtain ⟨y0, y1, y2, y3⟩ := row2 h4w3
          clear z0 z1 z2 z3 hc2
          go_wp2_with fail
          rw [hPdef.out]
          generalize hask2 : bef 64 (restB k s) = ask at *
          generalize hrp2 : repB k s = rp at *
          have h4_W : (w3.alloc (.cells #[.string ask, .string rp] 84)).heap[w.heap.size]? = some (.cells #[.string ⟨#[]⟩, .string ⟨#[]⟩] 84 (0, 0)) := (((Below.refl _ w3).alloc (Nat.le_refl _) _).block _ lt3).trans h4w3
          have S_W : (w3.alloc (.cells #[.string ask, .string rp] 84)).cell? ⟨w3.heap.size, 0, none⟩ = some (.string ask) ∧ (w3.alloc (.cells #[.string ask, .string rp] 84)).cell? ⟨w3.heap.size, 1, none⟩ = some (.string rp) := ⟨by simp, by simp⟩
          have lt_W : w.heap.size < (w3.alloc (.cells #[.string ask, .string rp] 84)).heap.size := by simp; omega
          have lg_W : w3.heap.size < (w3.alloc (.cells #[.string ask, .string rp] 84)).heap.size := by simp
          have B_W : Below w.heap.size w (w3.alloc (.cells #[.string ask, .string rp] 84)) := B3.alloc B3.size _
          have hne : w.heap.size ≠ w3.heap.size := by omega
          have hlt4 : w.heap.size < w.heap.size + 1 := by omega
          generalize (w3.alloc (.cells #[.string ask, .string rp] 84)) = W at *
          generalize w3.heap.size = g10 at *
          refine wp_region_held_drew (S := fun w' => w'.cell? ⟨g10, 0, none⟩ = some (.string ask) ∧ w'.cell? ⟨g10, 1, none⟩ = some (.string rp)) (by kernel_rfl) S_W (fun hHeld => ?_)
          have h4_W : W.drew.heap[w.heap.size]? = _ := h4_W
          have lt_W : w.heap.size < W.drew.heap.size := lt_W
          have lg_W : g10 < W.drew.heap.size := lg_W
          have B_W : Below w.heap.size w W.drew := B_W.drew
          clear S_W
          generalize W.drew = W at *
          refine wpAnyH_takeD (i := 0) (d := 53) (v := ?_) rfl (by kernel_rfl) (by kernel_rfl) (by kernel_rfl) (fun _ _ _ h => h) (by rfl) ?_ hHeld ?_
          rotate_left
          · intro wS hS
            obtain ⟨eF0, eF1⟩ := hS
            go_simp
            try with_reducible rfl
          simp only [Act.put, List.setIfInBounds_toArray, List.set_cons_zero, List.set_cons_succ]
          refine wpAnyH_takeD (i := 1) (d := 54) (v := ?_) rfl (by kernel_rfl) (by kernel_rfl) (by kernel_rfl) (fun _ _ _ h => h) (by rfl) ?_ hHeld ?_
          rotate_left
          · intro wS hS
            obtain ⟨eF0, eF1⟩ := hS
            go_simp
            try with_reducible rfl
          simp only [Act.put, List.setIfInBounds_toArray, List.set_cons_zero, List.set_cons_succ]
          refine wpAnyH_ready (rs := [2]) (by kernel_rfl) (by simp) ?_
          refine (AllReadyH.cons rfl (fun K hK => ?_) AllReadyH.nil)
          go_simp
          refine (l27Good_any ask rp hci hri _).mono ?_
          rw [hg]
          rintro e wa ⟨rfl, hb_wa⟩
          have h4_wa := (hb_wa.block w.heap.size (by first | exact hlt4 | exact lt_W)).trans h4_W
          have lt_wa : w.heap.size < wa.heap.size := Nat.lt_of_lt_of_le lt_W hb_wa.size
          have B_wa := below_of B_W hb_wa B_W.size
          have S_wa : wa.cell? ⟨g10, 0, none⟩ = some (.string ask) ∧ wa.cell? ⟨g10, 1, none⟩ = some (.string rp) := ⟨(hb_wa.cell (p := ⟨g10, 0, none⟩) lg_W).trans hHeld.1, (hb_wa.cell (p := ⟨g10, 1, none⟩) lg_W).trans hHeld.2⟩
          have lg_wa : g10 < wa.heap.size := Nat.lt_of_lt_of_le lg_W hb_wa.size
          refine hK.out _ _ S_wa (fun hHeld => ?_)
          clear hK K
          refine wpAnyH_takeD (i := 3) (d := 56) (v := ?_) rfl (by kernel_rfl) (by kernel_rfl) (by kernel_rfl) (fun _ _ _ h => h) (by rfl) ?_ hHeld ?_
          rotate_left
          · intro wS hS
            obtain ⟨eF0, eF1⟩ := hS
            go_simp
            try with_reducible rfl
          simp only [Act.put, List.setIfInBounds_toArray, List.set_cons_zero, List.set_cons_succ]
          refine wpAnyH_skips (by kernel_rfl) (fun _ _ _ _ _ h => h) hHeld [(4, 57), (5, 58), (6, 59), (7, 60), (8, 61), (9, 62)] 3 6 _ _ rfl (by kernel_rfl) ?_
          simp only [skipL, skipA, Act.put, List.setIfInBounds_toArray, List.set_cons_zero, List.set_cons_succ]
          refine wpAnyH_takeD (i := 10) (d := 63) (v := ?_) rfl (by kernel_rfl) (by kernel_rfl) (by kernel_rfl) (fun _ _ _ h => h) (by rfl) ?_ hHeld ?_
          rotate_left
          · intro wS hS
            obtain ⟨eF0, eF1⟩ := hS
            go_simp
            try with_reducible rfl
          simp only [Act.put, List.setIfInBounds_toArray, List.set_cons_zero, List.set_cons_succ]
          refine wpAnyH_ready (rs := [11]) (by kernel_rfl) (by simp) ?_
          refine (AllReadyH.cons rfl (fun K hK => ?_) AllReadyH.nil)
          obtain ⟨z0, z1, z2, z3⟩ := row2 h4_wa
          have h4x := row2_set (x := ask) (y := rp) h4_wa
          have B_wb : Below w.heap.size w ((wa.setCell ⟨w.heap.size, 0, none⟩ (.string ask)).setCell ⟨w.heap.size, 1, none⟩ (.string rp)) := (B_wa.setCell (Nat.le_refl _) _).setCell (Nat.le_refl _) _
          have S_wb : ((wa.setCell ⟨w.heap.size, 0, none⟩ (.string ask)).setCell ⟨w.heap.size, 1, none⟩ (.string rp)).cell? ⟨g10, 0, none⟩ = some (.string ask) ∧ ((wa.setCell ⟨w.heap.size, 0, none⟩ (.string ask)).setCell ⟨w.heap.size, 1, none⟩ (.string rp)).cell? ⟨g10, 1, none⟩ = some (.string rp) := by
            refine ⟨?_, ?_⟩ <;> (rw [World.cell?_setCell_far _ _ _ _ (by exact hne), World.cell?_setCell_far _ _ _ _ (by exact hne)]; first | exact hHeld.1 | exact hHeld.2)
          have lt_wb : w.heap.size < ((wa.setCell ⟨w.heap.size, 0, none⟩ (.string ask)).setCell ⟨w.heap.size, 1, none⟩ (.string rp)).heap.size := by simpa [World.setCell] using lt_wa
          have lg_wb : g10 < ((wa.setCell ⟨w.heap.size, 0, none⟩ (.string ask)).setCell ⟨w.heap.size, 1, none⟩ (.string rp)).heap.size := by simpa [World.setCell] using lg_wa
          go_simp
          generalize ((wa.setCell ⟨w.heap.size, 0, none⟩ (.string ask)).setCell ⟨w.heap.size, 1, none⟩ (.string rp)) = wb at *
          have h4_wb := h4x
          refine hK.out _ _ S_wb (fun hHeld => ?_)
          clear hK K z0 z1 z2 z3 h4x
          refine wpAnyH_takeD (i := 12) (d := 5) (v := ?_) rfl (by kernel_rfl) (by kernel_rfl) (by kernel_rfl) (fun _ _ _ h => h) (by rfl) ?_ hHeld ?_
          rotate_left
          · intro wS hS
            obtain ⟨eF0, eF1⟩ := hS
            go_simp
            try with_reducible rfl
          simp only [Act.put, List.setIfInBounds_toArray, List.set_cons_zero, List.set_cons_succ]
          refine wpAnyH_done (by kernel_rfl) ?_ _
          obtain ⟨z0, z1, z2, z3⟩ := row2 h4_wb
          go_wp2_with fail
          (try simp only [Exit.inBlock, Exit.then]); refine bodyPost_ret (by simp [results, Tryd.results55, go_sem, z0, z1]; try rfl) rfl ?_
          exact ⟨⟨_, _, _, rfl, by first | exact hT.out | exact fun _ => hT.out trivial | (intro h; cases h), by first | exact hFf.out | exact fun _ => hFf.out trivial | (intro h; cases h)⟩, B_wb⟩
        | true =>
          obtain ⟨_, hc1', hr1', _⟩ := goodRec_facts hg
          have hc1 : (bef 64 (restB k s)).size ≤ 1048576 := by omega
          have hr1 : (repB k s).size ≤ 1048576 := by omega
          by_cases hsl : sealB (bodyB k (bef 64 (restB k s)) (repB k s)) = s
          · have hli : lineIs k (bef 64 (restB k s)) (repB k s) s = true := by simp [lineIs, hg, hsl]
            have hTn := HDI.out hli
            have hT : Hid (true = true → dec k s = some (bef 64 (restB k s), repB k s)) := fun _ => hTn
            have hFf : Hid (true = false → dec k s = none) := fun h => by cases h
            have hcmp : ((lineB k (bef 64 (restB k s)) (repB k s)).toList == (s ++ ⟨#[10]⟩).toList) = true := by rw [toList_beq, lineB, hsl]; simp
            clear hTn hli hsl HDI HSN
            go_enter Tryd.func55, Tryd.ntmps55
            go_wp2_with fail
            refine (l1Num_any k h0 (by omega) _).mono ?_
            rintro e w1 ⟨rfl, hb1⟩
            go_wp2_with fail
            refine (l1Split_any s 35 hs w1).mono ?_
            rintro e w2 ⟨v2, P2, rfl, hown2, hP1, hPh, _, _, hb2⟩
            have hbx := hb1.trans (hb2.mono hb1.size)
            obtain ⟨g2, c2, rfl, hc2⟩ := split_val hown2 hP1 hPh
            have hP2 : (0 : Int) < (P2.length : Int) := by omega
            have hP3 : 0 < P2.length := by omega
            clear hb1 hb2 hown2 hP1 hPh
            have h4_ := zero_row hbx
            obtain ⟨z0, z1, z2, z3⟩ := row2 h4_
            have B2 : Below w.heap.size w w2 := HAL.trans (hbx.mono (by simp))
            have lt2 : w.heap.size < w2.heap.size := Nat.lt_of_lt_of_le (by simp) hbx.size
            rw [hAdef.out]
            go_wp2_with fail
            rw [hRdef.out]
            refine (l1Split_any (restB k s) 64 hrs w2).mono ?_
            rintro e w3 ⟨v3, P3, rfl, hown3, hQ1, hQh, _, _, hb3⟩
            obtain ⟨g3, c3', rfl, hc3⟩ := split_val hown3 hQ1 hQh
            have hQ2 : (0 : Int) < (P3.length : Int) := by omega
            have hQ3 : 0 < P3.length := by omega
            clear hown3 hQ1 hQh
            have B3 := below_of B2 hb3 B2.size
            have lt3 : w.heap.size < w3.heap.size := Nat.lt_of_lt_of_le lt2 hb3.size
            have h4w3 := (hb3.block w.heap.size lt2).trans h4_
            obtain ⟨y0, y1, y2, y3⟩ := row2 h4w3
            clear z0 z1 z2 z3 hc2
            go_wp2_with fail
            rw [hPdef.out]
            generalize hask2 : bef 64 (restB k s) = ask at *
            generalize hrp2 : repB k s = rp at *
            have h4_W : (w3.alloc (.cells #[.string ask, .string rp] 84)).heap[w.heap.size]? = some (.cells #[.string ⟨#[]⟩, .string ⟨#[]⟩] 84 (0, 0)) := (((Below.refl _ w3).alloc (Nat.le_refl _) _).block _ lt3).trans h4w3
            have S_W : (w3.alloc (.cells #[.string ask, .string rp] 84)).cell? ⟨w3.heap.size, 0, none⟩ = some (.string ask) ∧ (w3.alloc (.cells #[.string ask, .string rp] 84)).cell? ⟨w3.heap.size, 1, none⟩ = some (.string rp) := ⟨by simp, by simp⟩
            have lt_W : w.heap.size < (w3.alloc (.cells #[.string ask, .string rp] 84)).heap.size := by simp; omega
            have lg_W : w3.heap.size < (w3.alloc (.cells #[.string ask, .string rp] 84)).heap.size := by simp
            have B_W : Below w.heap.size w (w3.alloc (.cells #[.string ask, .string rp] 84)) := B3.alloc B3.size _
            have hne : w.heap.size ≠ w3.heap.size := by omega
            have hlt4 : w.heap.size < w.heap.size + 1 := by omega
            generalize (w3.alloc (.cells #[.string ask, .string rp] 84)) = W at *
            generalize w3.heap.size = g10 at *
            refine wp_region_held_drew (S := fun w' => w'.cell? ⟨g10, 0, none⟩ = some (.string ask) ∧ w'.cell? ⟨g10, 1, none⟩ = some (.string rp)) (by kernel_rfl) S_W (fun hHeld => ?_)
            have h4_W : W.drew.heap[w.heap.size]? = _ := h4_W
            have lt_W : w.heap.size < W.drew.heap.size := lt_W
            have lg_W : g10 < W.drew.heap.size := lg_W
            have B_W : Below w.heap.size w W.drew := B_W.drew
            clear S_W
            generalize W.drew = W at *
            refine wpAnyH_takeD (i := 0) (d := 53) (v := ?_) rfl (by kernel_rfl) (by kernel_rfl) (by kernel_rfl) (fun _ _ _ h => h) (by rfl) ?_ hHeld ?_
            rotate_left
            · intro wS hS
              obtain ⟨eF0, eF1⟩ := hS
              go_simp
              try with_reducible rfl
            simp only [Act.put, List.setIfInBounds_toArray, List.set_cons_zero, List.set_cons_succ]
            refine wpAnyH_takeD (i := 1) (d := 54) (v := ?_) rfl (by kernel_rfl) (by kernel_rfl) (by kernel_rfl) (fun _ _ _ h => h) (by rfl) ?_ hHeld ?_
            rotate_left
            · intro wS hS
              obtain ⟨eF0, eF1⟩ := hS
              go_simp
              try with_reducible rfl
            simp only [Act.put, List.setIfInBounds_toArray, List.set_cons_zero, List.set_cons_succ]
            refine wpAnyH_ready (rs := [2]) (by kernel_rfl) (by simp) ?_
            refine (AllReadyH.cons rfl (fun K hK => ?_) AllReadyH.nil)
            go_simp
            refine (l27Good_any ask rp hci hri _).mono ?_
            rw [hg]
            rintro e wa ⟨rfl, hb_wa⟩
            have h4_wa := (hb_wa.block w.heap.size (by first | exact hlt4 | exact lt_W)).trans h4_W
            have lt_wa : w.heap.size < wa.heap.size := Nat.lt_of_lt_of_le lt_W hb_wa.size
            have B_wa := below_of B_W hb_wa B_W.size
            have S_wa : wa.cell? ⟨g10, 0, none⟩ = some (.string ask) ∧ wa.cell? ⟨g10, 1, none⟩ = some (.string rp) := ⟨(hb_wa.cell (p := ⟨g10, 0, none⟩) lg_W).trans hHeld.1, (hb_wa.cell (p := ⟨g10, 1, none⟩) lg_W).trans hHeld.2⟩
            have lg_wa : g10 < wa.heap.size := Nat.lt_of_lt_of_le lg_W hb_wa.size
            refine hK.out _ _ S_wa (fun hHeld => ?_)
            clear hK K
            refine wpAnyH_takeD (i := 3) (d := 56) (v := ?_) rfl (by kernel_rfl) (by kernel_rfl) (by kernel_rfl) (fun _ _ _ h => h) (by rfl) ?_ hHeld ?_
            rotate_left
            · intro wS hS
              obtain ⟨eF0, eF1⟩ := hS
              go_simp
              try with_reducible rfl
            simp only [Act.put, List.setIfInBounds_toArray, List.set_cons_zero, List.set_cons_succ]
            refine wpAnyH_takeD (i := 4) (d := 57) (v := ?_) rfl (by kernel_rfl) (by kernel_rfl) (by kernel_rfl) (fun _ _ _ h => h) (by rfl) ?_ hHeld ?_
            rotate_left
            · intro wS hS
              obtain ⟨eF0, eF1⟩ := hS
              go_simp
              try with_reducible rfl
            simp only [Act.put, List.setIfInBounds_toArray, List.set_cons_zero, List.set_cons_succ]
            refine wpAnyH_takeD (i := 5) (d := 58) (v := ?_) rfl (by kernel_rfl) (by kernel_rfl) (by kernel_rfl) (fun _ _ _ h => h) (by rfl) ?_ hHeld ?_
            rotate_left
            · intro wS hS
              obtain ⟨eF0, eF1⟩ := hS
              go_simp
              try with_reducible rfl
            simp only [Act.put, List.setIfInBounds_toArray, List.set_cons_zero, List.set_cons_succ]
            refine wpAnyH_takeD (i := 7) (d := 60) (v := ?_) rfl (by kernel_rfl) (by kernel_rfl) (by kernel_rfl) (fun _ _ _ h => h) (by rfl) ?_ hHeld ?_
            rotate_left
            · intro wS hS
              obtain ⟨eF0, eF1⟩ := hS
              go_simp
              try with_reducible rfl
            simp only [Act.put, List.setIfInBounds_toArray, List.set_cons_zero, List.set_cons_succ]
            refine wpAnyH_takeD (i := 8) (d := 61) (v := ?_) rfl (by kernel_rfl) (by kernel_rfl) (by kernel_rfl) (fun _ _ _ h => h) (by rfl) ?_ hHeld ?_
            rotate_left
            · intro wS hS
              refine run_add_strP ⟨_, _, rfl, rfl, by simp only [ByteArray.size_append', ByteArray.size_mk', List.size_toArray, List.length_cons, List.length_nil]; omega, ?_⟩
              with_reducible rfl
            simp only [Act.put, List.setIfInBounds_toArray, List.set_cons_zero, List.set_cons_succ]
            refine wpAnyH_ready (rs := [6]) (by kernel_rfl) (by simp) ?_
            refine (AllReadyH.cons rfl (fun K hK => ?_) AllReadyH.nil)
            go_simp
            refine (l27Line_any k ask rp h0 (by omega) hc1 hr1 _).mono ?_
            rintro e wb ⟨rfl, hb_wb⟩
            have h4_wb := (hb_wb.block w.heap.size (by first | exact hlt4 | exact lt_wa)).trans h4_wa
            have lt_wb : w.heap.size < wb.heap.size := Nat.lt_of_lt_of_le lt_wa hb_wb.size
            have B_wb := below_of B_wa hb_wb B_wa.size
            have S_wb : wb.cell? ⟨g10, 0, none⟩ = some (.string ask) ∧ wb.cell? ⟨g10, 1, none⟩ = some (.string rp) := ⟨(hb_wb.cell (p := ⟨g10, 0, none⟩) lg_wa).trans hHeld.1, (hb_wb.cell (p := ⟨g10, 1, none⟩) lg_wa).trans hHeld.2⟩
            have lg_wb : g10 < wb.heap.size := Nat.lt_of_lt_of_le lg_wa hb_wb.size
            refine hK.out _ _ S_wb (fun hHeld => ?_)
            clear hK K
            refine wpAnyH_takeD (i := 9) (d := 62) (v := ?_) rfl (by kernel_rfl) (by kernel_rfl) (by kernel_rfl) (fun _ _ _ h => h) (by rfl) ?_ hHeld ?_
            rotate_left
            · intro wS hS
              obtain ⟨eF0, eF1⟩ := hS
              go_simp
              try with_reducible rfl
            simp only [Act.put, List.setIfInBounds_toArray, List.set_cons_zero, List.set_cons_succ]
            refine wpAnyH_takeD (i := 10) (d := 63) (v := ?_) rfl (by kernel_rfl) (by kernel_rfl) (by kernel_rfl) (fun _ _ _ h => h) (by rfl) ?_ hHeld ?_
            rotate_left
            · intro wS hS
              obtain ⟨eF0, eF1⟩ := hS
              go_simp
              try with_reducible rfl
            simp only [Act.put, List.setIfInBounds_toArray, List.set_cons_zero, List.set_cons_succ]
            refine wpAnyH_ready (rs := [11]) (by kernel_rfl) (by simp) ?_
            refine (AllReadyH.cons rfl (fun K hK => ?_) AllReadyH.nil)
            obtain ⟨z0, z1, z2, z3⟩ := row2 h4_wb
            have h4x := row2_set (x := ask) (y := rp) h4_wb
            have B_wc : Below w.heap.size w ((wb.setCell ⟨w.heap.size, 0, none⟩ (.string ask)).setCell ⟨w.heap.size, 1, none⟩ (.string rp)) := (B_wb.setCell (Nat.le_refl _) _).setCell (Nat.le_refl _) _
            have S_wc : ((wb.setCell ⟨w.heap.size, 0, none⟩ (.string ask)).setCell ⟨w.heap.size, 1, none⟩ (.string rp)).cell? ⟨g10, 0, none⟩ = some (.string ask) ∧ ((wb.setCell ⟨w.heap.size, 0, none⟩ (.string ask)).setCell ⟨w.heap.size, 1, none⟩ (.string rp)).cell? ⟨g10, 1, none⟩ = some (.string rp) := by
              refine ⟨?_, ?_⟩ <;> (rw [World.cell?_setCell_far _ _ _ _ (by exact hne), World.cell?_setCell_far _ _ _ _ (by exact hne)]; first | exact hHeld.1 | exact hHeld.2)
            have lt_wc : w.heap.size < ((wb.setCell ⟨w.heap.size, 0, none⟩ (.string ask)).setCell ⟨w.heap.size, 1, none⟩ (.string rp)).heap.size := by simpa [World.setCell] using lt_wb
            have lg_wc : g10 < ((wb.setCell ⟨w.heap.size, 0, none⟩ (.string ask)).setCell ⟨w.heap.size, 1, none⟩ (.string rp)).heap.size := by simpa [World.setCell] using lg_wb
            go_simp
            generalize ((wb.setCell ⟨w.heap.size, 0, none⟩ (.string ask)).setCell ⟨w.heap.size, 1, none⟩ (.string rp)) = wc at *
            have h4_wc := h4x
            refine hK.out _ _ S_wc (fun hHeld => ?_)
            clear hK K z0 z1 z2 z3 h4x
            refine wpAnyH_takeD (i := 12) (d := 5) (v := ?_) rfl (by kernel_rfl) (by kernel_rfl) (by kernel_rfl) (fun _ _ _ h => h) (by rfl) ?_ hHeld ?_
            rotate_left
            · intro wS hS
              obtain ⟨eF0, eF1⟩ := hS
              go_simp
              try with_reducible rfl
            simp only [Act.put, List.setIfInBounds_toArray, List.set_cons_zero, List.set_cons_succ]
            refine wpAnyH_done (by kernel_rfl) ?_ _
            obtain ⟨z0, z1, z2, z3⟩ := row2 h4_wc
            go_wp2_with fail
            (try simp only [Exit.inBlock, Exit.then]); refine bodyPost_ret (by simp [results, Tryd.results55, go_sem, z0, z1]; try rfl) rfl ?_
            exact ⟨⟨_, _, _, rfl, by first | exact hT.out | exact fun _ => hT.out trivial | (intro h; cases h), by first | exact hFf.out | exact fun _ => hFf.out trivial | (intro h; cases h)⟩, B_wc⟩
          · have hli : lineIs k (bef 64 (restB k s)) (repB k s) s = false := by simp [lineIs, hsl]
            have hNn := HSN.out (.inr (.inr (.inr hli)))
            have hT : Hid (false = true → dec k s = some (bef 64 (restB k s), repB k s)) := fun h => by cases h
            have hFf : Hid (false = false → dec k s = none) := fun _ => hNn
            have hcmp : ((lineB k (bef 64 (restB k s)) (repB k s)).toList == (s ++ ⟨#[10]⟩).toList) = false := by
              rw [toList_beq]
              refine decide_eq_false (fun e => hsl ?_)
              have := congrArg (fun x : BA => x.data.toList) e
              simp only [lineB, Joins.data_append] at this
              exact ba_ext (List.append_cancel_right this)
            clear hNn hli hsl HDI HSN
            go_enter Tryd.func55, Tryd.ntmps55
            go_wp2_with fail
            refine (l1Num_any k h0 (by omega) _).mono ?_
            rintro e w1 ⟨rfl, hb1⟩
            go_wp2_with fail
            refine (l1Split_any s 35 hs w1).mono ?_
            rintro e w2 ⟨v2, P2, rfl, hown2, hP1, hPh, _, _, hb2⟩
            have hbx := hb1.trans (hb2.mono hb1.size)
            obtain ⟨g2, c2, rfl, hc2⟩ := split_val hown2 hP1 hPh
            have hP2 : (0 : Int) < (P2.length : Int) := by omega
            have hP3 : 0 < P2.length := by omega
            clear hb1 hb2 hown2 hP1 hPh
            have h4_ := zero_row hbx
            obtain ⟨z0, z1, z2, z3⟩ := row2 h4_
            have B2 : Below w.heap.size w w2 := HAL.trans (hbx.mono (by simp))
            have lt2 : w.heap.size < w2.heap.size := Nat.lt_of_lt_of_le (by simp) hbx.size
            rw [hAdef.out]
            go_wp2_with fail
            rw [hRdef.out]
            refine (l1Split_any (restB k s) 64 hrs w2).mono ?_
            rintro e w3 ⟨v3, P3, rfl, hown3, hQ1, hQh, _, _, hb3⟩
            obtain ⟨g3, c3', rfl, hc3⟩ := split_val hown3 hQ1 hQh
            have hQ2 : (0 : Int) < (P3.length : Int) := by omega
            have hQ3 : 0 < P3.length := by omega
            clear hown3 hQ1 hQh
            have B3 := below_of B2 hb3 B2.size
            have lt3 : w.heap.size < w3.heap.size := Nat.lt_of_lt_of_le lt2 hb3.size
            have h4w3 := (hb3.block w.heap.size lt2).trans h4_
            obtain ⟨y0, y1, y2, y3⟩ := row2 h4w3
            clear z0 z1 z2 z3 hc2
            go_wp2_with fail
            rw [hPdef.out]
            generalize hask2 : bef 64 (restB k s) = ask at *
            generalize hrp2 : repB k s = rp at *
            have h4_W : (w3.alloc (.cells #[.string ask, .string rp] 84)).heap[w.heap.size]? = some (.cells #[.string ⟨#[]⟩, .string ⟨#[]⟩] 84 (0, 0)) := (((Below.refl _ w3).alloc (Nat.le_refl _) _).block _ lt3).trans h4w3
            have S_W : (w3.alloc (.cells #[.string ask, .string rp] 84)).cell? ⟨w3.heap.size, 0, none⟩ = some (.string ask) ∧ (w3.alloc (.cells #[.string ask, .string rp] 84)).cell? ⟨w3.heap.size, 1, none⟩ = some (.string rp) := ⟨by simp, by simp⟩
            have lt_W : w.heap.size < (w3.alloc (.cells #[.string ask, .string rp] 84)).heap.size := by simp; omega
            have lg_W : w3.heap.size < (w3.alloc (.cells #[.string ask, .string rp] 84)).heap.size := by simp
            have B_W : Below w.heap.size w (w3.alloc (.cells #[.string ask, .string rp] 84)) := B3.alloc B3.size _
            have hne : w.heap.size ≠ w3.heap.size := by omega
            have hlt4 : w.heap.size < w.heap.size + 1 := by omega
            generalize (w3.alloc (.cells #[.string ask, .string rp] 84)) = W at *
            generalize w3.heap.size = g10 at *
            refine wp_region_held_drew (S := fun w' => w'.cell? ⟨g10, 0, none⟩ = some (.string ask) ∧ w'.cell? ⟨g10, 1, none⟩ = some (.string rp)) (by kernel_rfl) S_W (fun hHeld => ?_)
            have h4_W : W.drew.heap[w.heap.size]? = _ := h4_W
            have lt_W : w.heap.size < W.drew.heap.size := lt_W
            have lg_W : g10 < W.drew.heap.size := lg_W
            have B_W : Below w.heap.size w W.drew := B_W.drew
            clear S_W
            generalize W.drew = W at *
            refine wpAnyH_takeD (i := 0) (d := 53) (v := ?_) rfl (by kernel_rfl) (by kernel_rfl) (by kernel_rfl) (fun _ _ _ h => h) (by rfl) ?_ hHeld ?_
            rotate_left
            · intro wS hS
              obtain ⟨eF0, eF1⟩ := hS
              go_simp
              try with_reducible rfl
            simp only [Act.put, List.setIfInBounds_toArray, List.set_cons_zero, List.set_cons_succ]
            refine wpAnyH_takeD (i := 1) (d := 54) (v := ?_) rfl (by kernel_rfl) (by kernel_rfl) (by kernel_rfl) (fun _ _ _ h => h) (by rfl) ?_ hHeld ?_
            rotate_left
            · intro wS hS
              obtain ⟨eF0, eF1⟩ := hS
              go_simp
              try with_reducible rfl
            simp only [Act.put, List.setIfInBounds_toArray, List.set_cons_zero, List.set_cons_succ]
            refine wpAnyH_ready (rs := [2]) (by kernel_rfl) (by simp) ?_
            refine (AllReadyH.cons rfl (fun K hK => ?_) AllReadyH.nil)
            go_simp
            refine (l27Good_any ask rp hci hri _).mono ?_
            rw [hg]
            rintro e wa ⟨rfl, hb_wa⟩
            have h4_wa := (hb_wa.block w.heap.size (by first | exact hlt4 | exact lt_W)).trans h4_W
            have lt_wa : w.heap.size < wa.heap.size := Nat.lt_of_lt_of_le lt_W hb_wa.size
            have B_wa := below_of B_W hb_wa B_W.size
            have S_wa : wa.cell? ⟨g10, 0, none⟩ = some (.string ask) ∧ wa.cell? ⟨g10, 1, none⟩ = some (.string rp) := ⟨(hb_wa.cell (p := ⟨g10, 0, none⟩) lg_W).trans hHeld.1, (hb_wa.cell (p := ⟨g10, 1, none⟩) lg_W).trans hHeld.2⟩
            have lg_wa : g10 < wa.heap.size := Nat.lt_of_lt_of_le lg_W hb_wa.size
            refine hK.out _ _ S_wa (fun hHeld => ?_)
            clear hK K
            refine wpAnyH_takeD (i := 3) (d := 56) (v := ?_) rfl (by kernel_rfl) (by kernel_rfl) (by kernel_rfl) (fun _ _ _ h => h) (by rfl) ?_ hHeld ?_
            rotate_left
            · intro wS hS
              obtain ⟨eF0, eF1⟩ := hS
              go_simp
              try with_reducible rfl
            simp only [Act.put, List.setIfInBounds_toArray, List.set_cons_zero, List.set_cons_succ]
            refine wpAnyH_takeD (i := 4) (d := 57) (v := ?_) rfl (by kernel_rfl) (by kernel_rfl) (by kernel_rfl) (fun _ _ _ h => h) (by rfl) ?_ hHeld ?_
            rotate_left
            · intro wS hS
              obtain ⟨eF0, eF1⟩ := hS
              go_simp
              try with_reducible rfl
            simp only [Act.put, List.setIfInBounds_toArray, List.set_cons_zero, List.set_cons_succ]
            refine wpAnyH_takeD (i := 5) (d := 58) (v := ?_) rfl (by kernel_rfl) (by kernel_rfl) (by kernel_rfl) (fun _ _ _ h => h) (by rfl) ?_ hHeld ?_
            rotate_left
            · intro wS hS
              obtain ⟨eF0, eF1⟩ := hS
              go_simp
              try with_reducible rfl
            simp only [Act.put, List.setIfInBounds_toArray, List.set_cons_zero, List.set_cons_succ]
            refine wpAnyH_takeD (i := 7) (d := 60) (v := ?_) rfl (by kernel_rfl) (by kernel_rfl) (by kernel_rfl) (fun _ _ _ h => h) (by rfl) ?_ hHeld ?_
            rotate_left
            · intro wS hS
              obtain ⟨eF0, eF1⟩ := hS
              go_simp
              try with_reducible rfl
            simp only [Act.put, List.setIfInBounds_toArray, List.set_cons_zero, List.set_cons_succ]
            refine wpAnyH_takeD (i := 8) (d := 61) (v := ?_) rfl (by kernel_rfl) (by kernel_rfl) (by kernel_rfl) (fun _ _ _ h => h) (by rfl) ?_ hHeld ?_
            rotate_left
            · intro wS hS
              refine run_add_strP ⟨_, _, rfl, rfl, by simp only [ByteArray.size_append', ByteArray.size_mk', List.size_toArray, List.length_cons, List.length_nil]; omega, ?_⟩
              with_reducible rfl
            simp only [Act.put, List.setIfInBounds_toArray, List.set_cons_zero, List.set_cons_succ]
            refine wpAnyH_ready (rs := [6]) (by kernel_rfl) (by simp) ?_
            refine (AllReadyH.cons rfl (fun K hK => ?_) AllReadyH.nil)
            go_simp
            refine (l27Line_any k ask rp h0 (by omega) hc1 hr1 _).mono ?_
            rintro e wb ⟨rfl, hb_wb⟩
            have h4_wb := (hb_wb.block w.heap.size (by first | exact hlt4 | exact lt_wa)).trans h4_wa
            have lt_wb : w.heap.size < wb.heap.size := Nat.lt_of_lt_of_le lt_wa hb_wb.size
            have B_wb := below_of B_wa hb_wb B_wa.size
            have S_wb : wb.cell? ⟨g10, 0, none⟩ = some (.string ask) ∧ wb.cell? ⟨g10, 1, none⟩ = some (.string rp) := ⟨(hb_wb.cell (p := ⟨g10, 0, none⟩) lg_wa).trans hHeld.1, (hb_wb.cell (p := ⟨g10, 1, none⟩) lg_wa).trans hHeld.2⟩
            have lg_wb : g10 < wb.heap.size := Nat.lt_of_lt_of_le lg_wa hb_wb.size
            refine hK.out _ _ S_wb (fun hHeld => ?_)
            clear hK K
            refine wpAnyH_takeD (i := 9) (d := 62) (v := ?_) rfl (by kernel_rfl) (by kernel_rfl) (by kernel_rfl) (fun _ _ _ h => h) (by rfl) ?_ hHeld ?_
            rotate_left
            · intro wS hS
              obtain ⟨eF0, eF1⟩ := hS
              go_simp
              try with_reducible rfl
            simp only [Act.put, List.setIfInBounds_toArray, List.set_cons_zero, List.set_cons_succ]
            refine wpAnyH_takeD (i := 10) (d := 63) (v := ?_) rfl (by kernel_rfl) (by kernel_rfl) (by kernel_rfl) (fun _ _ _ h => h) (by rfl) ?_ hHeld ?_
            rotate_left
            · intro wS hS
              obtain ⟨eF0, eF1⟩ := hS
              go_simp
              try with_reducible rfl
            simp only [Act.put, List.setIfInBounds_toArray, List.set_cons_zero, List.set_cons_succ]
            refine wpAnyH_ready (rs := [11]) (by kernel_rfl) (by simp) ?_
            refine (AllReadyH.cons rfl (fun K hK => ?_) AllReadyH.nil)
            obtain ⟨z0, z1, z2, z3⟩ := row2 h4_wb
            have h4x := row2_set (x := ask) (y := rp) h4_wb
            have B_wc : Below w.heap.size w ((wb.setCell ⟨w.heap.size, 0, none⟩ (.string ask)).setCell ⟨w.heap.size, 1, none⟩ (.string rp)) := (B_wb.setCell (Nat.le_refl _) _).setCell (Nat.le_refl _) _
            have S_wc : ((wb.setCell ⟨w.heap.size, 0, none⟩ (.string ask)).setCell ⟨w.heap.size, 1, none⟩ (.string rp)).cell? ⟨g10, 0, none⟩ = some (.string ask) ∧ ((wb.setCell ⟨w.heap.size, 0, none⟩ (.string ask)).setCell ⟨w.heap.size, 1, none⟩ (.string rp)).cell? ⟨g10, 1, none⟩ = some (.string rp) := by
              refine ⟨?_, ?_⟩ <;> (rw [World.cell?_setCell_far _ _ _ _ (by exact hne), World.cell?_setCell_far _ _ _ _ (by exact hne)]; first | exact hHeld.1 | exact hHeld.2)
            have lt_wc : w.heap.size < ((wb.setCell ⟨w.heap.size, 0, none⟩ (.string ask)).setCell ⟨w.heap.size, 1, none⟩ (.string rp)).heap.size := by simpa [World.setCell] using lt_wb
            have lg_wc : g10 < ((wb.setCell ⟨w.heap.size, 0, none⟩ (.string ask)).setCell ⟨w.heap.size, 1, none⟩ (.string rp)).heap.size := by simpa [World.setCell] using lg_wb
            go_simp
            generalize ((wb.setCell ⟨w.heap.size, 0, none⟩ (.string ask)).setCell ⟨w.heap.size, 1, none⟩ (.string rp)) = wc at *
            have h4_wc := h4x
            refine hK.out _ _ S_wc (fun hHeld => ?_)
            clear hK K z0 z1 z2 z3 h4x
            refine wpAnyH_takeD (i := 12) (d := 5) (v := ?_) rfl (by kernel_rfl) (by kernel_rfl) (by kernel_rfl) (fun _ _ _ h => h) (by rfl) ?_ hHeld ?_
            rotate_left
            · intro wS hS
              obtain ⟨eF0, eF1⟩ := hS
              go_simp
              try with_reducible rfl
            simp only [Act.put, List.setIfInBounds_toArray, List.set_cons_zero, List.set_cons_succ]
            refine wpAnyH_done (by kernel_rfl) ?_ _
            obtain ⟨z0, z1, z2, z3⟩ := row2 h4_wc
            go_wp2_with fail
            (try simp only [Exit.inBlock, Exit.then]); refine bodyPost_ret (by simp [results, Tryd.results55, go_sem, z0, z1]; try rfl) rfl ?_
            exact ⟨⟨_, _, _, rfl, by first | exact hT.out | exact fun _ => hT.out trivial | (intro h; cases h), by first | exact hFf.out | exact fun _ => hFf.out trivial | (intro h; cases h)⟩, B_wc⟩
    · have hNone : Hid (dec k s = none) := HSN.out (.inr (.inl c2))
      have hcm : (((bef 35 s).extract 0 (aheadB k).size).toList == (aheadB k).toList) = false := by rw [toList_beq]; simp [c2]
      clear c2
      go_enter Tryd.func55, Tryd.ntmps55
      go_wp2_with fail
      refine (l1Num_any k h0 (by omega) _).mono ?_
      rintro e w1 ⟨rfl, hb1⟩
      go_wp2_with fail
      refine (l1Split_any s 35 hs w1).mono ?_
      rintro e w2 ⟨v2, P2, rfl, hown2, hP1, hPh, _, _, hb2⟩
      have hbx := hb1.trans (hb2.mono hb1.size)
      obtain ⟨g2, c2, rfl, hc2⟩ := split_val hown2 hP1 hPh
      have hP2 : (0 : Int) < (P2.length : Int) := by omega
      have hP3 : 0 < P2.length := by omega
      clear hb1 hb2 hown2 hP1 hPh
      have h4_ := zero_row hbx
      obtain ⟨z0, z1, z2, z3⟩ := row2 h4_
      have B2 : Below w.heap.size w w2 := HAL.trans (hbx.mono (by simp))
      have lt2 : w.heap.size < w2.heap.size := Nat.lt_of_lt_of_le (by simp) hbx.size
      rw [hAdef.out]
      go_wp2_with fail
      obtain ⟨a0, a1, _, _⟩ := row2 (row2_set (x := ⟨#[]⟩) (y := ⟨#[]⟩) h4_)
      have BZ := (B2.setCell (p := ⟨w.heap.size, 0, none⟩) (Nat.le_refl _) (.string ⟨#[]⟩)).setCell (p := ⟨w.heap.size, 1, none⟩) (Nat.le_refl _) (.string ⟨#[]⟩)
      generalize (w2.setCell ⟨w.heap.size, 0, none⟩ (.string ⟨#[]⟩)).setCell ⟨w.heap.size, 1, none⟩ (.string ⟨#[]⟩) = WZ at *
      (try simp only [Exit.inBlock, Exit.then]); refine bodyPost_ret (by simp [results, Tryd.results55, go_sem, a0, a1]; try rfl) rfl ?_
      exact ⟨⟨_, _, _, rfl, (fun h => by cases h), fun _ => hNone.out⟩, BZ⟩
end Go.Proofs.YtegklcapfjigaaaDoor
