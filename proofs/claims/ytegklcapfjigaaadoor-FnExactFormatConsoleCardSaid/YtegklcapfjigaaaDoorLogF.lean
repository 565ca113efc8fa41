/-
  l27Open: the reference's reader of the records at the start of a text; it reads what readRecords reads.
-/
import Derived.Test.YtegklcapfjigaaaDoorLogD
import Derived.Test.YtegklcapfjigaaaDoorLogE
import Derived.Deep.AppendLies
namespace Go.Proofs.YtegklcapfjigaaaDoor
open Go.RowKit
set_option linter.unusedVariables false
set_option linter.unusedSimpArgs false
attribute [local go_sem ↓] Go.wp_at_zero Go.wp_at_succ
theorem split_val2 {w : World} {lo : Nat} {v : Value} {P : List BA} {x : BA} (h : w.ownsRow lo 9 1 v P.length (P.map Value.string)) (h1 : 1 ≤ P.length) (hx : P.headD ⟨#[]⟩ = x) :
    ∃ g c cur, v = .slice (some ⟨g, 0, none⟩) P.length c ∧ w.cell? ⟨g, 0, none⟩ = some (.string x) ∧ w.heap[g]? = some (.cells cur 9 (0, 0)) := by
  obtain ⟨g, c, rfl, hc⟩ := split_val h h1 hx
  rcases h.2 with ⟨h2, _⟩ | ⟨g', cap, cur, h2, _, hg, _⟩
  · cases h2
  · simp only [Value.slice.injEq, Option.some.injEq, Addr.mk.injEq, and_true, true_and] at h2
    obtain ⟨rfl, _⟩ := h2
    exact ⟨g, c, cur, rfl, hc, hg⟩
theorem far_cell {w2 W8 w7 : World} {g : Nat} {cur : Array Value} {x : Value} {base n : Nat} {v : Value} {xs : List Value} (hgrow : W8.grownBy w7 v.ownBlock) (hown : W8.ownsRow base 84 2 v n xs) (hb : Below w2.heap.size w2 W8)
    (hh : w2.heap[g]? = some (.cells cur 9 (0, 0))) (hc : w2.cell? ⟨g, 0, none⟩ = some x) : w7.cell? ⟨g, 0, none⟩ = some x := by
  have hlt := (Array.getElem?_eq_some_iff.1 hh).1
  have h8 := (hb.block g hlt).trans hh
  refine (hgrow.cell_far ⟨g, 0, none⟩ (Nat.lt_of_lt_of_le hlt hb.size) ?_).trans ((hb.cell (p := ⟨g, 0, none⟩) hlt).trans hc)
  intro he
  rcases hown.2 with ⟨rfl, _⟩ | ⟨G, cap, cur', rfl, _, hG, _⟩
  · simp [Value.ownBlock] at he
  · simp [Value.ownBlock] at he
    subst he
    rw [h8] at hG
    simp at hG
set_option maxHeartbeats 2000000 in
theorem l27Open_any (s : BA) (hs : s.size ≤ 4000000) (w : World) :
    Calls Tryd.prog 44 #[.string s] w fun e w' => ∃ v, e = .returned (.tuple #[v, .int .i64 ((readN s 60).2 : Nat)]) ∧ w'.ownsRow w.heap.size 84 2 v (readN s 60).1.length (recCells (readN s 60).1) ∧ Below w.heap.size w w' := by
  go_enter Tryd.func44, Tryd.ntmps44
  go_wp2_with fail
  go_loopw [4, 5] (fun v rd wr => ∃ m : Nat, m ≤ 60 ∧ Hid ((readN s m).1.length = m) ∧ rd = .int .i64 ((readN s m).2 : Nat) ∧ wr.ownsRow w.heap.size 84 2 v (readN s m).1.length (recCells (readN s m).1) ∧ Below w.heap.size w wr) (fun v _ _ => 60 - lenOf v)
  case atStart => exact ⟨0, by omega, rfl, rfl, World.ownsRow_made w #[] 0 (Nat.le_refl _) (by unfold maxLen; omega) rfl, (Below.refl _ w).alloc (Nat.le_refl _) _⟩
  case round =>
    obtain ⟨m, hm60, hlm, rfl, hown, hB⟩ := hrel
    obtain ⟨hat, _⟩ := readN_at s m hm60
    have hsz := hB.size
    obtain ⟨A4, c4, hv4, _, _⟩ := own_form hown
    rw [hlm.out] at hv4
    have HST : Hid (∀ n, m ≤ n → stepR s m (readN s m).2 = none → readN s n = readN s m) := fun n hn hs => readN_stop hlm.out hs hn
    have HYE : Hid (∀ e a, stepR s m (readN s m).2 = some (e, a) → readN s (m + 1) = ((readN s m).1 ++ [e], a)) := fun e a hs => readN_yes hlm.out hs
    have HL : Hid ((readN s m).1.length = m) := hlm.out
    have hl : (readN s m).1.length ≤ 100000000 := by rw [hlm.out]; omega
    clear hlm
    have HRN := Lib.hid (Eq.refl (readN s m))
    generalize hR : readN s m = RN at *
    obtain ⟨L, at_⟩ := RN
    simp only at *
    have HR := Lib.hid hR
    have HO : Hid (wr.ownsRow w.heap.size 84 2 u4 L.length (recCells L)) := hown
    clear hR HRN hown
    subst hv4
    have hat0 : (0 : Int) ≤ (at_ : Int) := by omega
    have hat1 : (at_ : Int) ≤ (s.size : Int) := by omega
    by_cases hend : at_ = s.size
    · have hnone : Hid (stepR s m at_ = none) := by
        show stepR s m at_ = none
        have h0 : (s.extract at_ s.size).size = 0 := by simp [ByteArray.size_extract]; omega
        have hn : noByte (s.extract at_ s.size) 10 = true := by unfold noByte; rw [h0]; rfl
        unfold stepR
        rw [hn]; simp
      have hge : ¬ ((at_ : Int) < (s.size : Int)) := by omega
      clear hend
      go_wp2_with fail
      go_ret2
      refine ⟨.slice A4 m c4, ?_, ?_, hB⟩
      · have hq := HST.out 60 (by omega) hnone.out; rw [hq]; try rfl
      · rw [HST.out 60 (by omega) hnone.out]; exact HO.out
    · have hlti : (at_ : Int) < (s.size : Int) := by omega
      by_cases hlt : m < 60
      · have hst : Hid (stepR s m at_ = if noByte (s.extract at_ s.size) 10 then none else (dec m (bef 10 (s.extract at_ s.size))).map fun e => (e, at_ + (bef 10 (s.extract at_ s.size)).size + 1)) := rfl
        have hxs : (s.extract at_ s.size).size ≤ 4000000 := by simp [ByteArray.size_extract]; omega
        have hmi : (m : Int) < 60 := by omega
        have hm0 : (0 : Int) ≤ (m : Int) := by omega
        generalize hX : s.extract at_ s.size = X at hst hxs
        have hls := bef_size 10 X
        go_wp2_with fail
        first | rw [hX] | skip
        refine (l1Split_any X 10 hxs wr).mono ?_
        rintro e w1 ⟨v1, P, rfl, hown1, hP1, hPh, hPn, hPl, hb1⟩
        clear hX
        obtain ⟨g1, c1, cur1, rfl, hc1, hh1⟩ := split_val2 hown1 hP1 hPh
        have hP2 : (0 : Int) < (P.length : Int) := by omega
        have hP3 : 0 < P.length := by omega
        have B1 := below_of hB hb1 hB.size
        have hg1 : g1 < w1.heap.size := World.block_lt_of_cell? w1 _ hc1
        have HO1 := Lib.hid (ownsRow_below HO.out hb1)
        generalize bef 10 X = line at hst hls hc1
        clear HO hb1 hown1 hP1 hPh
        go_wp2_with fail
        refine (l27Read_any line m hm0 (by omega) (by omega) w1).mono ?_
        rintro e w2 ⟨⟨cm, rp, bb, rfl, hbt, hbf⟩, hb2⟩
        have HBT := Lib.hid hbt
        have HBF := Lib.hid hbf
        clear hbt hbf
        have B2 := below_of B1 hb2 B1.size
        have HO2 := Lib.hid (ownsRow_below HO1.out hb2)
        have hc2 : w2.cell? ⟨g1, 0, none⟩ = some (.string line) := (hb2.cell (p := ⟨g1, 0, none⟩) hg1).trans hc1
        have hh2 := (hb2.block g1 hg1).trans hh1
        have hg2 : g1 < w2.heap.size := Nat.lt_of_lt_of_le hg1 hb2.size
        have B3 : Below w.heap.size w (w2.alloc (.cells #[.string cm, .string rp] 84)) := B2.alloc B2.size _
        have AL2 := (Below.refl _ w2).alloc (Nat.le_refl _) (.cells #[.string cm, .string rp] 84)
        have hs2 := B2.size
        have HH2 := Lib.hid hh2
        clear hc1 hb2 HO1 hh1 hh2
        by_cases hn : P.length < 2
        · have hnone : Hid (stepR s m at_ = none) := by show _ = _; rw [hst.out, hPn]; simp [hn]
          have hnd2 : decide (P.length < 2) = true := by simp; omega
          have hni : (P.length : Int) < 2 := by omega
          go_wp2_with fail
          go_ret2
          refine ⟨.slice A4 m c4, ?_, ?_, B3⟩
          · have hq := HST.out 60 (by omega) hnone.out; rw [hq]; try rfl
          · rw [HST.out 60 (by omega) hnone.out]; exact ownsRow_below HO2.out AL2
        · have hni : ¬ ((P.length : Int) < 2) := by omega
          have hnd2 : decide (P.length < 2) = false := by simp; omega
          have hnd3 : decide ((P.length : Int) < 2) = false := by simp; omega
          have hst2 : Hid (stepR s m at_ = (dec m line).map fun e => (e, at_ + line.size + 1)) := by show _ = _; rw [hst.out, hPn]; simp [hn]
          cases bb with
          | false =>
            have hnone : Hid (stepR s m at_ = none) := by show _ = _; rw [hst2.out, HBF.out rfl]; rfl
            go_wp2_with fail
            go_ret2
            refine ⟨.slice A4 m c4, ?_, ?_, B3⟩
            · have hq := HST.out 60 (by omega) hnone.out; rw [hq]; try rfl
            · rw [HST.out 60 (by omega) hnone.out]; exact ownsRow_below HO2.out AL2
          | true =>
            have hsome : Hid (stepR s m at_ = some ((cm, rp), at_ + line.size + 1)) := by show _ = _; rw [hst2.out, HBT.out rfl]; rfl
            have HC2 := Lib.hid hc2
            go_wp2_with (at_builtin; refine wpList_append_rec _ rfl _ _ 64 rfl w.heap.size Tryd.underlying64 L cm rp _ rfl ((HO2.out.alloc _).alloc _) _ rfl (by simp) (by simp) hl (by simp; omega) ?_; intro v' w7 hown7 hgrow7; refine Hid.out ?_)
            have hc7 := far_cell hgrow7 ((HO2.out.alloc _).alloc _) (by go_grown) HH2.out HC2.out
            refine Lib.hid ?_
            go_wp2_with fail
            go_roundw
            case rel => exact ⟨m + 1, by omega, by show _ = _; rw [HYE.out _ _ hsome.out]; simp [HL.out], by rw [HYE.out _ _ hsome.out]; go_num, by rw [HYE.out _ _ hsome.out]; exact hown7, below_app (B3.alloc B3.size _) ((HO2.out.alloc _).alloc _) hgrow7⟩
            case measure =>
              obtain ⟨A7, c7, rfl, _, _⟩ := own_form hown7
              have := HL.out
              simp [lenOf]; omega
      · obtain rfl : m = 60 := by omega
        go_wp2_with fail
        go_ret2
        exact ⟨.slice A4 60 c4, by have hq := HR.out; rw [hq]; try rfl, by rw [HR.out]; exact HO.out, hB⟩
end Go.Proofs.YtegklcapfjigaaaDoor
