/-
  readRecords: the records at the start of a text.
-/
import Derived.Test.YtegklcapfjigaaaDoorLogC
namespace Go.Proofs.YtegklcapfjigaaaDoor
open Go.RowKit
set_option linter.unusedVariables false
set_option linter.unusedSimpArgs false
attribute [local go_sem ↓] Go.wp_at_zero Go.wp_at_succ
def recCells : List (BA × BA) → List Value
  | [] => []
  | e :: L => .string e.1 :: .string e.2 :: recCells L
theorem recCells_app (L : List (BA × BA)) (e : BA × BA) : recCells (L ++ [e]) = recCells L ++ [.string e.1, .string e.2] := by
  induction L with
  | nil => rfl
  | cons x L ih => simp [recCells, ih]
theorem recCells_len (L : List (BA × BA)) : (recCells L).length = L.length * 2 := by
  induction L with
  | nil => rfl
  | cons x L ih => simp [recCells, ih]; omega
def lenOf : Value → Nat
  | .slice _ n _ => n
  | _ => 0
theorem own_form {w : World} {base : Nat} {e : TypeId} {size : Nat} {v : Value} {n : Nat} {xs : List Value} (h : w.ownsRow base e size v n xs) : ∃ A c, v = .slice A n c ∧ n ≤ c ∧ c ≤ maxLen := by
  rcases h.2 with ⟨rfl, rfl⟩ | ⟨g, cap, cur, rfl, _, _, h1, h2, _⟩
  · exact ⟨none, 0, rfl, Nat.le_refl _, by unfold maxLen; omega⟩
  · exact ⟨_, cap, rfl, h1, h2⟩
theorem infoRec : (Tryd.prog.info? 84).map (fun i => (i.zero, i.size, i.bytes)) = some (some (.agg #[.string ⟨#[]⟩, .string ⟨#[]⟩]), 2, 32) := by kernel_rfl
theorem wpList_append_rec {ops : Array Oper} {rest : List Oper} {o : Oper} {a : Act} {Q : Exit → Act → World → Prop} (w : World) (hg : o.guard = none) (s x : Operand) (t : TypeId)
    (hop : o.op = Op.call { callee := Callee.builtin Builtin.append, args := #[s, x], argTypes := #[t, t] }) (base : Nat) (ht : Tryd.prog.underlying t = some (.slice 84)) (L : List (BA × BA)) (p q : BA) (v : Value) (hs : a.eval s = v)
    (hown : w.ownsRow base 84 2 v L.length (recCells L)) (b : Nat) (hx : a.eval x = .slice (some ⟨b, 0, none⟩) 1 1) (hc : w.cell? ⟨b, 0, none⟩ = some (.string p)) (hc1 : w.cell? ⟨b, 1, none⟩ = some (.string q)) (hlen : L.length ≤ 100000000) (hbase : base ≤ w.heap.size)
    (h : ∀ v' w', w'.ownsRow base 84 2 v' (L ++ [(p, q)]).length (recCells (L ++ [(p, q)])) → w.grownBy w' v.ownBlock → wpList Tryd.prog ops Q rest (a.put o.dst v') w') :
    wpList Tryd.prog ops Q (o :: rest) a w := by
  obtain ⟨i, hi, hz0, hz1, hz2⟩ := info_parts infoRec
  refine wpList_append_own w hg s x t hop base 84 i (.agg #[.string ⟨#[]⟩, .string ⟨#[]⟩]) 2 32 ht hi hz0 hz1 hz2 rfl (by decide) v L.length (recCells L) hs hown ⟨b, 0, none⟩ 1 1 [.string p, .string q] hx rfl ?_ ?_ ?_ ?_ hbase ?_
  · intro j u' hj
    match j, hj with
    | 0, hj => simp at hj; subst hj; simpa [Addr.add] using hc
    | 1, hj => simp at hj; subst hj; simpa [Addr.add] using hc1
  · intro u' hu
    simp at hu
    rcases hu with rfl | rfl <;> rfl
  · unfold maxLen; omega
  · omega
  · intro v' w' hown' hgrow _
    exact h v' w' (by rw [recCells_app]; simpa using hown') hgrow
theorem implText_size (s : BA) : (implText s).size ≤ s.size := by
  unfold implText
  split
  · exact bef_size 35 s
  · exact Nat.zero_le _
theorem aft_size (c : UInt8) (s : BA) : (aft c s).size ≤ s.size := by
  rw [← size_list (aft c s), aft_data, List.length_drop, ← size_list s]
  have := (List.dropWhile_sublist (fun x => x != c) (l := s.data.toList)).length_le
  omega
set_option maxHeartbeats 2000000 in
theorem readRecords_any (s : BA) (hs : s.size ≤ 4000000) (w : World) (ht : Tab w) (hm : Mx w) :
    Calls Tryd.prog 46 #[.string s] w fun e w' => ∃ v, e = .returned (.tuple #[v, .int .i64 ((readN s 60).2 : Nat)]) ∧ w'.ownsRow w.heap.size 84 2 v (readN s 60).1.length (recCells (readN s 60).1) ∧ Below w.heap.size w w' := by
  have HT := Lib.hid ht
  have HM := Lib.hid hm
  clear ht hm
  go_enter Tryd.func46, Tryd.ntmps46
  go_wp2_with fail
  go_loopw [4, 5] (fun v rd wr => ∃ m : Nat, m ≤ 60 ∧ Hid ((readN s m).1.length = m) ∧ rd = .int .i64 ((readN s m).2 : Nat) ∧ wr.ownsRow w.heap.size 84 2 v (readN s m).1.length (recCells (readN s m).1) ∧ Below w.heap.size w wr) (fun v _ _ => 60 - lenOf v)
  case atStart => exact ⟨0, by omega, rfl, rfl, World.ownsRow_nil _ _ _ _, Below.refl _ _⟩
  case round =>
    obtain ⟨m, hm60, hlm, rfl, hown, hB⟩ := hrel
    obtain ⟨hat, _⟩ := readN_at s m hm60
    have hsz := hB.size
    obtain ⟨A4, c4, hv4, _, _⟩ := own_form hown
    rw [hlm.out] at hv4
    have HST : Hid (∀ n, m ≤ n → stepR s m (readN s m).2 = none → readN s n = readN s m) := fun n hn hs => readN_stop hlm.out hs hn
    have HYE : Hid (∀ e a, stepR s m (readN s m).2 = some (e, a) → readN s (m + 1) = ((readN s m).1 ++ [e], a)) := fun e a hs => readN_yes hlm.out hs
    have HL : Hid ((readN s m).1.length = m) := hlm.out
    have hl : (readN s m).1.length ≤ 100000000 := by rw [hlm.out]; omega
    clear hlm
    have HRN := Lib.hid (Eq.refl (readN s m))
    generalize hR : readN s m = RN at *
    obtain ⟨L, at_⟩ := RN
    simp only at *
    have HR := Lib.hid hR
    have HO : Hid (wr.ownsRow w.heap.size 84 2 u4 L.length (recCells L)) := hown
    clear hR HRN hown
    subst hv4
    have hat0 : (0 : Int) ≤ (at_ : Int) := by omega
    have hat1 : (at_ : Int) ≤ (s.size : Int) := by omega
    by_cases hlt : m < 60
    · have hst : Hid (stepR s m at_ = if noByte (s.extract at_ s.size) 10 then none else (dec m (bef 10 (s.extract at_ s.size))).map fun e => (e, at_ + (bef 10 (s.extract at_ s.size)).size + 1)) := rfl
      have hxs : (s.extract at_ s.size).size ≤ 4000000 := by simp [ByteArray.size_extract]; omega
      have hmi : (m : Int) < 60 := by omega
      have hm0 : (0 : Int) ≤ (m : Int) := by omega
      generalize hX : s.extract at_ s.size = X at hst hxs
      have hls := bef_size 10 X
      go_wp2_with fail
      first | rw [hX] | skip
      refine (Cut_any X 10 (by omega) wr (HM.out.below hB)).mono ?_
      rintro e w1 ⟨rfl, hb1⟩
      clear hX
      have B1 := below_of hB hb1 hB.size
      cases hn : noByte X 10 with
      | true =>
        have hnone : Hid (stepR s m at_ = none) := by show _ = _; rw [hst.out, hn]; simp
        go_wp2_with fail
        go_ret2
        refine ⟨.slice A4 m c4, ?_, ?_, B1⟩
        · have hq := HST.out 60 (by omega) hnone.out; rw [hq]; try rfl
        · rw [HST.out 60 (by omega) hnone.out]; exact ownsRow_below HO.out hb1
      | false =>
        have hst2 : Hid (stepR s m at_ = (dec m (bef 10 X)).map fun e => (e, at_ + (bef 10 X).size + 1)) := by show _ = _; rw [hst.out, hn]; simp
        clear hst
        generalize hLN : bef 10 X = line at hst2 hls
        have HO1 := Lib.hid (ownsRow_below HO.out hb1)
        clear HO hb1
        have T1 := HT.out.below B1
        have M1 := HM.out.below B1
        go_wp2_with fail
        first | rw [hLN] | skip
        refine (VerifyChecksum_any line (by omega) w1 T1 M1).mono ?_
        rintro e w2 ⟨⟨bb, rfl⟩, hb2⟩
        have B2 := below_of B1 hb2 B1.size
        have hti := implText_size line
        have hid := Lib.hid (impl_dec (k := m) (line := line) (by omega) (by omega))
        generalize implText line = txt at hti hid
        have HO2 := Lib.hid (ownsRow_below HO1.out hb2)
        clear HO1 hb2 T1 M1
        go_wp2_with fail
        refine (Cut_any txt 32 (by omega) w2 (HM.out.below B2)).mono ?_
        rintro e w3 ⟨rfl, hb3⟩
        have B3 := below_of B2 hb3 B2.size
        have hrs := aft_size 32 txt
        generalize aft 32 txt = rst at hrs hid
        have HO3 := Lib.hid (ownsRow_below HO2.out hb3)
        clear HO2 hb3
        go_wp2_with fail
        refine (Cut_any rst 64 (by omega) w3 (HM.out.below B3)).mono ?_
        rintro e w4 ⟨rfl, hb4⟩
        have B4 := below_of B3 hb4 B3.size
        have hcs := bef_size 64 rst
        have hrs2 := aft_size 64 rst
        generalize bef 64 rst = cm at hcs hid
        generalize aft 64 rst = rp at hrs2 hid
        have HO4 := Lib.hid (ownsRow_below HO3.out hb4)
        clear HO3 hb4
        have hci : (cm.size : Int) ≤ 9223372036854775807 := by omega
        have hri : (rp.size : Int) ≤ 9223372036854775807 := by omega
        have hl1 : (line.size : Int) + 1 ≤ 9223372036854775807 := by omega
        have hl2 : line.size + 1 ≤ 9223372036854775807 := by omega
        have AL4 := (Below.refl _ w4).alloc (Nat.le_refl _) (.cells #[.string cm, .string rp] 84)
        have B5 : Below w.heap.size w (w4.alloc (.cells #[.string cm, .string rp] 84)) := B4.alloc B4.size _
        have hin : inR (m : Int) 0 59 = true := by simp only [inR, decide_eq_true_eq]; omega
        have HE := Lib.hid (EncodeRecord_any m cm rp hci hri _ (HT.out.below B5))
        rw [hin] at HE
        simp only [Bool.true_and] at HE
        go_wp2_with fail
        refine HE.out.mono ?_
        clear HE
        cases hgd : goodRec cm rp with
        | false =>
          have hnone : Hid (stepR s m at_ = none) := by show _ = _; rw [hst2.out, hid.out, lineIs, hgd]; rfl
          rintro e w6 ⟨rfl, hb6⟩
          go_wp2_with fail
          go_ret2
          refine ⟨.slice A4 m c4, ?_, ?_, below_of B5 hb6 B5.size⟩
          · have hq := HST.out 60 (by omega) hnone.out; rw [hq]; try rfl
          · rw [HST.out 60 (by omega) hnone.out]; exact ownsRow_below (ownsRow_below HO4.out AL4) hb6
        | true =>
          by_cases hsl : sealB (bodyB m cm rp) = line
          · have hsome : Hid (stepR s m at_ = some ((cm, rp), at_ + line.size + 1)) := by show _ = _; rw [hst2.out, hid.out, lineIs, hgd, hsl]; simp
            have hcmp : ((lineB m cm rp).toList == (line ++ ⟨#[10]⟩).toList) = true := by rw [toList_beq, lineB, hsl]; simp
            have HC := Lib.hid hcmp
            clear hsl hcmp
            rintro e w6 ⟨rfl, hb6⟩
            have q0 : w6.cell? ⟨w4.heap.size, 0, none⟩ = some (.string cm) := (hb6.cell (p := ⟨w4.heap.size, 0, none⟩) (by simp)).trans (by simp)
            have q1 : w6.cell? ⟨w4.heap.size, 1, none⟩ = some (.string rp) := (hb6.cell (p := ⟨w4.heap.size, 1, none⟩) (by simp)).trans (by simp)
            have HO6 := Lib.hid (ownsRow_below (ownsRow_below HO4.out AL4) hb6)
            have B6 := below_of B5 hb6 B5.size
            have hs6 := B6.size
            have hcmp := HC.out
            generalize lineB m cm rp = LB at hcmp
            clear HO4 hb6 AL4 B5 HC
            go_wp2_with (at_builtin; refine wpList_append_rec _ rfl _ _ 64 rfl w.heap.size Tryd.underlying64 L cm rp _ rfl (HO6.out.alloc _) _ rfl (by simp) (by simp) hl (by simp; omega) ?_; intro v' w7 hown7 hgrow7)
            go_roundw
            case rel => exact ⟨m + 1, by omega, by show _ = _; rw [HYE.out _ _ hsome.out]; simp [HL.out], by rw [HYE.out _ _ hsome.out]; go_num, by rw [HYE.out _ _ hsome.out]; exact hown7, below_app (B6.alloc hs6 _) (HO6.out.alloc _) hgrow7⟩
            case measure =>
              obtain ⟨A7, c7, rfl, _, _⟩ := own_form hown7
              have := HL.out
              simp [lenOf]; omega
          · have hnone : Hid (stepR s m at_ = none) := by show _ = _; rw [hst2.out, hid.out, lineIs]; simp [hsl]
            have hcmp : ((lineB m cm rp).toList == (line ++ ⟨#[10]⟩).toList) = false := by
              rw [toList_beq]
              refine decide_eq_false (fun e => hsl ?_)
              have := congrArg (fun x : BA => x.data.toList) e
              simp only [lineB, Joins.data_append] at this
              exact ba_ext (List.append_cancel_right this)
            have HC := Lib.hid hcmp
            clear hsl hcmp
            rintro e w6 ⟨rfl, hb6⟩
            have hcmp := HC.out
            generalize lineB m cm rp = LB at hcmp
            clear HC
            go_wp2_with fail
            go_ret2
            refine ⟨.slice A4 m c4, ?_, ?_, below_of B5 hb6 B5.size⟩
            · have hq := HST.out 60 (by omega) hnone.out; rw [hq]; try rfl
            · rw [HST.out 60 (by omega) hnone.out]; exact ownsRow_below (ownsRow_below HO4.out AL4) hb6
    · obtain rfl : m = 60 := by omega
      go_wp2_with fail
      go_ret2
      exact ⟨.slice A4 60 c4, by have hq := HR.out; rw [hq]; try rfl, by rw [HR.out]; exact HO.out, hB⟩
end Go.Proofs.YtegklcapfjigaaaDoor
