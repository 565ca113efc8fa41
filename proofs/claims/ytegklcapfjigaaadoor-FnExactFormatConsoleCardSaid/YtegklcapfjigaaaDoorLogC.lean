/-
  strings.Cut at one byte; VerifyChecksum; l1Split: the parts of a text between bytes.
-/
import Derived.Test.YtegklcapfjigaaaDoorLogP
import Derived.Test.YtegklcapfjigaaaDoorApp
import Derived.Deep.RegionLaw
namespace Go.Proofs.YtegklcapfjigaaaDoor
open Go.RowKit
set_option linter.unusedVariables false
set_option linter.unusedSimpArgs false
attribute [local go_sem ↓] Go.wp_at_zero Go.wp_at_succ
/-- The library's variable MaxLen holds some int. -/
def Mx (w : World) : Prop := ∃ m, w.cell? ⟨1, 0, none⟩ = some (.int .i64 m)
theorem Mx.below {w w' : World} (h : Mx w) (hb : Below w.heap.size w w') : Mx w' := by
  obtain ⟨m, hm⟩ := h
  exact ⟨m, (hb.cell (p := ⟨1, 0, none⟩) (World.block_lt_of_cell? w _ hm)).trans hm⟩
theorem below_draws (w : World) (n : Nat) : Below w.heap.size w (w.drewN n) := below_drewN (Below.refl _ w) n
theorem Cut_any (s : BA) (c : UInt8) (hs : s.size < 4294967281) (w : World) (hm : Mx w) :
    Calls Tryd.prog 57 #[.string s, .string ⟨#[c]⟩] w fun e w' => e = .returned (.tuple #[.string (bef c s), .string (aft c s), .bool (!noByte s c)]) ∧ Below w.heap.size w w' := by
  obtain ⟨m, hm⟩ := hm
  refine (Tryd.strings_Cut s ⟨#[c]⟩ m w hs hm).mono ?_
  rintro e w' ⟨rfl, n, rfl⟩
  obtain ⟨h1, h2, h3⟩ := cut_bef s c
  refine ⟨?_, below_draws w n⟩
  have e1 : (ByteArray.mk #[c]).data.toList = [c] := rfl
  rw [e1, h1, h2, h3]
set_option maxHeartbeats 800000 in
theorem VerifyChecksum_any (s : BA) (hs : s.size ≤ 4000000000) (w : World) (ht : Tab w) (hm : Mx w) :
    Calls Tryd.prog 58 #[.string s] w fun e w' => (∃ b, e = .returned (.tuple #[.string (implText s), .bool b])) ∧ Below w.heap.size w w' := by
  have hbs := bef_size 35 s
  have hi : Hid (implText s = if appOk (bef 35 s) && decide (sealB (bef 35 s) = s) then bef 35 s else ⟨#[]⟩) := rfl
  have hbi : ((bef 35 s).size : Int) ≤ 9000000000000000000 := by omega
  cases hA : appOk (bef 35 s) with
  | false =>
    have hi2 : Hid (implText s = ⟨#[]⟩) := by show _ = _; rw [hi.out, hA]; simp
    go_enter Tryd.func58, Tryd.ntmps58
    go_wp2_with fail
    refine (Cut_any s 35 (by omega) w hm).mono ?_
    rintro e w1 ⟨rfl, hb1⟩
    go_wp2_with fail
    refine (AppendChecksum_any (bef 35 s) hbi w1 (ht.below hb1)).mono ?_
    rw [hA]
    rintro e w2 ⟨rfl, hb2⟩
    go_wp2_with fail
    go_ret2
    exact ⟨⟨_, by rw [hi2.out]; rfl⟩, below_of hb1 hb2 hb1.size⟩
  | true =>
    by_cases hE : sealB (bef 35 s) = s
    · have hi2 : Hid (implText s = bef 35 s) := by show _ = _; rw [hi.out, hA, hE]; simp
      have hTB : ((sealB (bef 35 s)).toList == s.toList) = true := by rw [toList_beq, hE]; simp
      clear hE
      go_enter Tryd.func58, Tryd.ntmps58
      go_wp2_with fail
      refine (Cut_any s 35 (by omega) w hm).mono ?_
      rintro e w1 ⟨rfl, hb1⟩
      go_wp2_with fail
      refine (AppendChecksum_any (bef 35 s) hbi w1 (ht.below hb1)).mono ?_
      rw [hA]
      rintro e w2 ⟨rfl, hb2⟩
      go_wp2_with fail
      go_ret2
      exact ⟨⟨_, by rw [hi2.out]; rfl⟩, below_of hb1 hb2 hb1.size⟩
    · have hi2 : Hid (implText s = ⟨#[]⟩) := by show _ = _; rw [hi.out]; simp [hE]
      have hTB : ((sealB (bef 35 s)).toList == s.toList) = false := by rw [toList_beq]; simp [hE]
      clear hE
      go_enter Tryd.func58, Tryd.ntmps58
      go_wp2_with fail
      refine (Cut_any s 35 (by omega) w hm).mono ?_
      rintro e w1 ⟨rfl, hb1⟩
      go_wp2_with fail
      refine (AppendChecksum_any (bef 35 s) hbi w1 (ht.below hb1)).mono ?_
      rw [hA]
      rintro e w2 ⟨rfl, hb2⟩
      go_wp2_with fail
      go_ret2
      exact ⟨⟨_, by rw [hi2.out]; rfl⟩, below_of hb1 hb2 hb1.size⟩
theorem infoStr : (Tryd.prog.info? 9).map (fun i => (i.zero, i.size, i.bytes)) = some (some (.string ⟨#[]⟩), 1, 16) := by kernel_rfl
theorem wpList_append_str {ops : Array Oper} {rest : List Oper} {o : Oper} {a : Act} {Q : Exit → Act → World → Prop} (w : World) (hg : o.guard = none) (s x : Operand) (t : TypeId)
    (hop : o.op = Op.call { callee := Callee.builtin Builtin.append, args := #[s, x], argTypes := #[t, t] }) (base : Nat) (ht : Tryd.prog.underlying t = some (.slice 9)) (L : List BA) (u : BA) (v : Value) (hs : a.eval s = v)
    (hown : w.ownsRow base 9 1 v L.length (L.map Value.string)) (b : Nat) (hx : a.eval x = .slice (some ⟨b, 0, none⟩) 1 1) (hc : w.cell? ⟨b, 0, none⟩ = some (.string u)) (hlen : L.length ≤ 100000000) (hbase : base ≤ w.heap.size)
    (h : ∀ v' w', w'.ownsRow base 9 1 v' (L ++ [u]).length ((L ++ [u]).map Value.string) → w.grownBy w' v.ownBlock → wpList Tryd.prog ops Q rest (a.put o.dst v') w') :
    wpList Tryd.prog ops Q (o :: rest) a w := by
  obtain ⟨i, hi, hz0, hz1, hz2⟩ := info_parts infoStr
  refine wpList_append_own w hg s x t hop base 9 i (.string ⟨#[]⟩) 1 16 ht hi hz0 hz1 hz2 rfl (by decide) v L.length (L.map Value.string) hs hown ⟨b, 0, none⟩ 1 1 [.string u] hx rfl ?_ ?_ ?_ ?_ hbase ?_
  · intro j u' hj
    match j, hj with
    | 0, hj => simp at hj; subst hj; simpa [Addr.add] using hc
  · intro u' hu; simp at hu; subst hu; rfl
  · unfold maxLen; omega
  · omega
  · intro v' w' hown' hgrow _
    exact h v' w' (by simpa using hown') hgrow
def SP (s : BA) (b : UInt8) (k F : Nat) (P : List BA) : Prop :=
  (allTo (fun j => decide (byteAt s j ≠ b)) k = true ∧ P = [] ∧ F = 0) ∨ (noByte s b = false ∧ 1 ≤ P.length ∧ P.headD ⟨#[]⟩ = bef b s)
theorem SP.next {s : BA} {b : UInt8} {k F : Nat} {P : List BA} (h : SP s b k F P) (hb : byteAt s k ≠ b) : SP s b (k + 1) F P := by
  rcases h with ⟨h1, h2⟩ | h
  · exact .inl ⟨allTo_succ h1 (by simp [hb]), h2⟩
  · exact .inr h
theorem list_at {l : List UInt8} {k : Nat} (h : k < l.length) : l = l.take k ++ l[k] :: l.drop (k + 1) := by
  rw [List.getElem_cons_drop, List.take_append_drop]
theorem SP.hit {s : BA} {b : UInt8} {k F : Nat} {P : List BA} (h : SP s b k F P) (hk : k < s.size) (hb : byteAt s k = b) : SP s b (k + 1) (k + 1) (P ++ [s.extract F k]) := by
  have hno : noByte s b = false := allTo_false hk (by simp [hb])
  rcases h with ⟨h1, rfl, rfl⟩ | ⟨_, h2, h3⟩
  · right
    refine ⟨hno, by simp, ?_⟩
    simp only [List.nil_append, List.headD_cons]
    apply ba_ext
    rw [Lib.extract_data, bef_data]
    have hk' : k < s.data.toList.length := by rw [size_list]; exact hk
    have e : s.data.toList[k] = b := by rw [← hb]; unfold byteAt; rw [getD_lt hk']
    have hn : b ∉ s.data.toList.take k := by
      intro hm
      obtain ⟨j, hj, ej⟩ := List.getElem_of_mem hm
      rw [List.length_take] at hj
      have hjk : j < k := by omega
      have hj' : j < s.data.toList.length := by omega
      have := allTo_at hjk h1
      simp only [decide_eq_true_eq] at this
      apply this
      unfold byteAt
      rw [getD_lt hj', ← ej]
      simp
    have := (take_app (b := s.data.toList.drop (k + 1)) hn).1
    rw [← e, ← list_at hk'] at this
    rw [← e, this]
    simp
  · right
    refine ⟨hno, by simp, ?_⟩
    rw [← h3]
    cases P with
    | nil => simp at h2
    | cons x P => rfl
theorem SP.fin {s : BA} {b : UInt8} {F : Nat} {P : List BA} (h : SP s b s.size F P) : 1 ≤ (P ++ [s.extract F s.size]).length ∧ (P ++ [s.extract F s.size]).headD ⟨#[]⟩ = bef b s ∧ noByte s b = decide ((P ++ [s.extract F s.size]).length < 2) := by
  rcases h with ⟨h1, rfl, rfl⟩ | ⟨h1, h2, h3⟩
  · have h1' : noByte s b = true := h1
    refine ⟨by simp, ?_, by rw [h1']; rfl⟩
    rw [bef_all h1']
    simp only [List.nil_append, List.headD_cons]
    apply ba_ext
    rw [Lib.extract_data, List.drop_zero, List.take_of_length_le]
    rw [size_list]; omega
  · refine ⟨by simp, ?_, ?_⟩
    · rw [← h3]
      cases P with
      | nil => simp at h2
      | cons x P => rfl
    · rw [h1, eq_comm]; simp; omega
set_option maxHeartbeats 1000000 in
theorem l1Split_any (s : BA) (b : UInt8) (hs : s.size ≤ 4000000) (w : World) :
    Calls Tryd.prog 54 #[.string s, .int .u8 (b.toNat : Int)] w fun e w' => ∃ (v : Value) (P : List BA), e = .returned v ∧ w'.ownsRow w.heap.size 9 1 v P.length (P.map Value.string) ∧ 1 ≤ P.length ∧ P.headD ⟨#[]⟩ = bef b s ∧ noByte s b = decide (P.length < 2) ∧ P.length ≤ 4000001 ∧ Below w.heap.size w w' := by
  go_enter Tryd.func54, Tryd.ntmps54
  go_wp2_with fail
  go_loopw [5, 6, 7] (fun v fr i wr => ∃ (k F : Nat) (P : List BA), k ≤ s.size ∧ F ≤ k ∧ i = .int .i64 k ∧ fr = .int .i64 F ∧ wr.ownsRow w.heap.size 9 1 v P.length (P.map Value.string) ∧ P.length ≤ k ∧ Below w.heap.size w wr ∧ Hid (SP s b k F P)) (fun _ _ i _ => s.size - (intOf i).toNat)
  case atStart => exact ⟨0, 0, [], Nat.zero_le _, Nat.le_refl _, rfl, rfl, World.ownsRow_made w #[] 0 (Nat.le_refl _) (by unfold maxLen; omega) rfl, Nat.le_refl _, (Below.refl _ w).alloc (Nat.le_refl _) _, Or.inl ⟨rfl, rfl, rfl⟩⟩
  case round =>
    obtain ⟨k, F, P, hk, hF, rfl, rfl, hown, hPl, hB, hSP⟩ := hrel
    have hsz := hB.size
    have hl : P.length ≤ 100000000 := by omega
    have HO : Hid (wr.ownsRow w.heap.size 9 1 u5 P.length (P.map Value.string)) := hown
    clear hown
    have hF0 : (0 : Int) ≤ (F : Int) := by omega
    by_cases hlt : k < s.size
    · have hbk := byteAt_eq s k hlt
      have hk0 : (0 : Int) ≤ (k : Int) ∧ (k : Int) < (s.size : Int) ∧ (k : Int) ≤ (s.size : Int) ∧ (F : Int) ≤ (k : Int) := by omega
      obtain ⟨hk0, hk1, hk2, hk3⟩ := hk0
      by_cases hp : byteAt s k = b
      · have hn := Lib.hid (hSP.out.hit hlt hp)
        rw [hp] at hbk
        clear hp
        generalize hX : s.extract F k = X at hn
        go_wp2_with (at_builtin; refine wpList_append_str _ rfl _ _ 81 rfl w.heap.size Tryd.underlying81 P X _ rfl (HO.out.alloc _) _ rfl (by simp [← hX]) hl (by simp; omega) ?_; intro v' w3 hown3 hgrow3)
        go_roundw
        case rel => exact ⟨k + 1, k + 1, P ++ [X], by omega, Nat.le_refl _, by go_num, by go_num, hown3, by simp; omega, below_app (hB.alloc hB.size _) (HO.out.alloc _) hgrow3, hn⟩
        case measure => simp [intOf]; omega
      · have hn := Lib.hid (hSP.out.next hp)
        have hne : byteAt s k ≠ b := hp
        clear hp
        generalize byteAt s k = c at hbk hne
        have hn2 : c.toNat ≠ b.toNat := fun e => hne (UInt8.toNat_inj.1 e)
        have hn3 : ((c.toNat : Int) == (b.toNat : Int)) = false := by simp; omega
        go_wp2_with fail
        go_roundw
        case rel => exact ⟨k + 1, F, P, by omega, by omega, by go_num, rfl, HO.out, by omega, hB, hn⟩
        case measure => simp [intOf]; omega
    · obtain rfl : k = s.size := by omega
      have hfin := Lib.hid hSP.out.fin
      clear hSP
      have hF1 : (F : Int) ≤ (s.size : Int) := by omega
      generalize hX : s.extract F s.size = X at hfin
      go_wp2_with (at_builtin; refine wpList_append_str _ rfl _ _ 81 rfl w.heap.size Tryd.underlying81 P X _ rfl (HO.out.alloc _) _ rfl (by simp [← hX]) hl (by simp; omega) ?_; intro v' w3 hown3 hgrow3)
      go_ret
      obtain ⟨f1, f2, f3⟩ := hfin.out
      exact ⟨_, P ++ [X], rfl, hown3, f1, f2, f3, by simp; omega, below_app (hB.alloc hB.size _) (HO.out.alloc _) hgrow3⟩
end Go.Proofs.YtegklcapfjigaaaDoor
