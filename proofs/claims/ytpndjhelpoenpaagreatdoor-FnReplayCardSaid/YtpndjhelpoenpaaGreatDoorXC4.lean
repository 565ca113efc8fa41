/-
  Texts of this claim, merged.
-/
import Derived.Test.YtpndjhelpoenpaaGreatDoorXC3
set_option linter.unusedVariables false
set_option linter.unusedSimpArgs false
set_option maxRecDepth 100000
set_option maxHeartbeats 8000000
namespace Go.Proofs.YtpndjhelpoenpaaGreatDoor
open Go.RowKit
attribute [local go_sem ↓] Go.wp_at_zero Go.wp_at_succ
def crL (P : BA) (n : Nat) (torn : Bool) : List UInt8 := if torn && decide (0 < n) then (P.extract 0 n).data.toList.set (n - 1) (255 - (P.extract 0 n).data.toList.getD (n - 1) 0) else (P.extract 0 n).data.toList
def crB (P : BA) (n : Nat) (torn : Bool) : BA := ⟨(crL P n torn).toArray⟩
def crT (D P : BA) (z k : Int) : Bool := logOk D P z && inR k 0 (P.size : Int)
def crS (D P : BA) (z k : Int) (torn : Bool) : BA := if crT D P z k then D ++ crB P k.toNat torn else ⟨#[]⟩
theorem crL_len (P : BA) (n : Nat) (torn : Bool) (h : n ≤ P.size) : (crL P n torn).length = n := by
 have h1 : (P.extract 0 n).data.toList.length = n := by
  have h2 : (P.extract 0 n).size = n := by simp; omega
  simpa using h2
 unfold crL
 split
 ·rw [List.length_set, h1]
 ·exact h1
theorem bytes_free (w : World) (e : TypeId) (s : BA) (j : Nat) (hj : j < s.size) : (Lib.bytesWorld w e s).frozen? ⟨w.heap.size, j, none⟩ = false := by
 have h := Lib.bytesWorld_at_new w e s
 have hz : j < (Lib.bytesCells w e s).size := by simp [Lib.bytesCells]; omega
 have : ∀ m : Nat, j < m → (decide (m ≤ j) && decide (j < m + 1)) = false := fun m hm => by simp; omega
 simp only [World.frozen?, h]
 exact this _ hz
theorem wrap_tear (b : UInt8) : IntKind.u8.wrap (255 - (b.toNat : Int)) = ((255 - b).toNat : Int) := by
 have hb : b.toNat < 256 := b.toNat_lt
 have h1 : b ≤ 255 := by rw [UInt8.le_iff_toNat_le]; show b.toNat ≤ 255; omega
 have h2 : (255 - b).toNat = 255 - b.toNat := by rw [UInt8.toNat_sub_of_le _ _ h1]; rfl
 rw [h2]
 have h3 : ((255 - b.toNat : Nat) : Int) = 255 - (b.toNat : Int) := by omega
 rw [h3]
 exact IntWalk.u8_in _ (by omega)
theorem CrashLog_any (D P : BA) (z k : Int) (torn : Bool) (hD : D.size ≤ 1048576) (hP : P.size ≤ 1048576) (w : World) (ht : Tab w) (hm : Mx w) :
  Calls Tryz.prog 34 #[.agg (lV D P z), .int .i64 k, .bool torn] w fun e w' => e = .returned (.tuple #[.string (crS D P z k torn), .bool (crT D P z k)]) ∧ bW w w' := by
 obtain ⟨HAL, hX⟩ := bl1 w (.cells (lV D P z) 33)
 have HC := lh (IsValidLog_any D P z hD hP (w.alloc (.cells (lV D P z) 33)) (ht.below HAL) (hm.below HAL))
 cases hk : logOk D P z with
 | false =>
  have e1 : crT D P z k = false := by simp [crT, hk]
  have e2 : crS D P z k torn = ⟨#[]⟩ := by simp [crS, e1]
  rw [e1, e2]
  rw [hk] at HC
  go_enter Tryz.func34, Tryz.ntmps34
  go_wp2_with fail
  refine HC.out.mono ?_
  rintro e w1 ⟨rfl, hb1⟩
  have hL := rowB hX hb1
  have B1 := HAL.trans (hb1.mono (by simp))
  obtain ⟨l0, l1, l2, _, _, _⟩ := row3 hL
  clear HC HAL hX hL hk ht hm hD hP e1 e2
  go_wp2_with fail
  go_ret2
  exact ⟨rfl, B1⟩
 | true =>
  have hsz := logOk_size hk
  rw [hk] at HC
  cases hin : inR k 0 (P.size : Int) with
  | false =>
   have e1 : crT D P z k = false := by simp [crT, hk, hin]
   have e2 : crS D P z k torn = ⟨#[]⟩ := by simp [crS, e1]
   rw [e1, e2]
   go_enter Tryz.func34, Tryz.ntmps34
   go_wp2_with fail
   refine HC.out.mono ?_
   rintro e w1 ⟨rfl, hb1⟩
   have hL := rowB hX hb1
   have B1 := HAL.trans (hb1.mono (by simp))
   obtain ⟨l0, l1, l2, _, _, _⟩ := row3 hL
   clear HC HAL hX hL hk ht hm hD hP e1 e2 hsz
   go_wp2_with fail
   refine z26 ?_
   rw [hin]
   rintro e w3 ⟨rfl, rfl⟩
   go_wp2_with fail
   go_ret2
   exact ⟨rfl, B1⟩
  | true =>
   have e1 : crT D P z k = true := by simp [crT, hk, hin]
   have e2 : crS D P z k torn = D ++ crB P k.toNat torn := by simp [crS, e1]
   rw [e1, e2]
   have hkr : 0 ≤ k ∧ k ≤ (P.size : Int) := by simpa [inR] using hin
   obtain ⟨n, rfl⟩ : ∃ n : Nat, k = (n : Int) := ⟨k.toNat, by omega⟩
   rw [Int.toNat_natCast]
   have hn : n ≤ P.size := by omega
   have hlen := crL_len P n torn hn
   have hTs : (P.extract 0 n).size = n := by simp; omega
   have hT2 : (P.extract 0 n).data.toList.length = n := by simpa using hTs
   have hRs : (crB P n torn).size = n := by show (crL P n torn).toArray.size = n; simp [hlen]
   have hsum : D.size + (crB P n torn).size ≤ 4000000 := by omega
   have hnb : n ≤ 30000 := by omega
   obtain ⟨R, hR⟩ : ∃ R, crB P n torn = R := ⟨_, rfl⟩
   rw [hR] at hRs hsum ⊢
   have HR := lh hR
   clear hR
   have hn0 : (0 : Int) ≤ (n : Int) := by omega
   have hn1 : (n : Int) ≤ (P.size : Int) := by omega
   have HIN := lh hin
   obtain ⟨T, hT⟩ : ∃ T, P.extract 0 n = T := ⟨_, rfl⟩
   go_enter Tryz.func34, Tryz.ntmps34
   go_wp2_with fail
   refine HC.out.mono ?_
   rintro e w1 ⟨rfl, hb1⟩
   have hL := rowB hX hb1
   have B1 := HAL.trans (hb1.mono (by simp))
   obtain ⟨l0, l1, l2, _, _, _⟩ := row3 hL
   have hcv := Lib.run_convert_string_bytes (P := Tryz.prog) w1 9 52 5 T (u := .string) Tryz.underlying9 Tryz.underlying52 Tryz.underlying5
   have hW := Lib.bytesWorld_below w1 5 T
   have hcells : ∀ j, j < n → cE (Lib.bytesWorld w1 5 T) w1.heap.size j (.int .u8 (T.data.toList.getD j 0).toNat) := fun j hj => Lib.bytesWorld_cell w1 5 T j (by rw [← hT]; omega)
   have hfree : ∀ j, j < n → (Lib.bytesWorld w1 5 T).frozen? ⟨w1.heap.size, j, none⟩ = false := fun j hj => bytes_free w1 5 T j (by rw [← hT]; omega)
   have hLT : w.heap.size < w1.heap.size := (gL hL)
   have hL2 := rowB hL hW
   have B2 := below_of B1 hW B1.size
   rw [hT] at hTs hT2
   rw [hTs] at hcv
   generalize grownCap w1 n 0 5 = cap at hcv
   have hg1 : w1.heap.size = w1.heap.size := rfl
   obtain ⟨W2, hW2⟩ : ∃ v, Lib.bytesWorld w1 5 T = v := ⟨_, rfl⟩
   rw [hW2] at hcv hW hcells hfree hL2 B2
   have HCE := lh hcells
   have HFR := lh hfree
   have HL2 := lh hL2
   have HL0 := lh hlen
   have HT2 := lh hT2
   have HTT := lh hT
   clear HC HAL hX hL hk ht hm hD hP e1 e2 hsz hin hcells hfree hL2 hlen hT2 hg1 hW hW2 l0 l2 hTs
   go_wp2_with fail
   refine z26 ?_
   rw [HIN.out]
   rintro e w3 ⟨rfl, rfl⟩
   have hTT := HTT.out
   go_upto_region 4 with fail
   clear hcv hTT l1
   have hgle : w.heap.size ≤ w1.heap.size := B1.size
   have hglt : w.heap.size < w1.heap.size := hLT
   generalize w1.heap.size = g at *
   have hL2 := HL2.out
   obtain ⟨l0, l1, l2, _, _, _⟩ := row3 hL2
   clear hL2
   by_cases ht2 : torn = true ∧ 0 < n
   ·obtain ⟨rfl, hpos⟩ := ht2
    have hc := HCE.out (n - 1) (by omega)
    have hf := HFR.out (n - 1) (by omega)
    have p1 : (0 : Int) < (n : Int) := by omega
    have p2 : ((n : Int) - 1).toNat = n - 1 := by omega
    have p3 : 0 ≤ (n : Int) - 1 := by omega
    have p4 : (n : Int) - 1 < n := by omega
    have p5 : IntKind.i64.wrap ((n : Int) - 1) = (n : Int) - 1 := IntWalk.i64_in _ (by omega)
    have p6 := wrap_tear (T.data.toList.getD (n - 1) 0)
    have hback : (convert 52 9 (.slice (some ⟨g, 0, none⟩) n cap)).run Tryz.prog (W2.setCell ⟨g, n - 1, none⟩ (.int .u8 ((255 - T.data.toList.getD (n - 1) 0).toNat : Int))) = .ok (.string R) (W2.setCell ⟨g, n - 1, none⟩ (.int .u8 ((255 - T.data.toList.getD (n - 1) 0).toNat : Int))) := by
     have h := run_convert_bytes_back (P := Tryz.prog) (W2.setCell ⟨g, n - 1, none⟩ (.int .u8 ((255 - T.data.toList.getD (n - 1) 0).toNat : Int))) 52 9 5 ⟨g, 0, none⟩ cap (crL P n true) Tryz.underlying52 Tryz.underlying5 Tryz.underlying9 (fun j hj => ?_)
     ·rw [HL0.out] at h; rw [← HR.out]; exact h
     ·rw [HL0.out] at hj
      have he : (⟨g, 0, none⟩ : Addr).add j = ⟨g, j, none⟩ := by unfold Addr.add; split <;> simp_all
      rw [he]
      have hcl : crL P n true = T.data.toList.set (n - 1) (255 - T.data.toList.getD (n - 1) 0) := by simp [crL, hpos, HTT.out]
      by_cases hj1 : j = n - 1
      ·subst hj1
       rw [World.cell?_setCell_same _ _ _ hc]
       simp [hcl]
      ·rw [World.cell?_setCell_other _ _ _ _ (by intro e; simp at e; first | done | omega), HCE.out j hj]
       have h4 : j < T.data.toList.length := by rw [HT2.out]; exact hj
       have h5 : n - 1 ≠ j := by omega
       have h3 : ∀ (L : List UInt8) (hl : j < L.length), L = T.data.toList.set (n - 1) (255 - T.data.toList.getD (n - 1) 0) → L[j] = T.data.toList.getD j 0 := by
        rintro L hl rfl
        rw [List.getElem_set_ne h5]
        simp only [List.getD, List.getElem?_eq_getElem h4, Option.getD_some]
       rw [h3 _ _ hcl]
    have BZ := B2.setCell (p := ⟨g, n - 1, none⟩) hgle (.int .u8 ((255 - T.data.toList.getD (n - 1) 0).toNat : Int))
    clear HCE HFR HL2 HL0 HT2 HTT hb1 B1 hkr hn hnb hT hRs HIN HR
    generalize ((255 - T.data.toList.getD (n - 1) 0).toNat : Int) = v2 at *
    generalize ((T.data.toList.getD (n - 1) 0).toNat : Int) = v1 at *
    go_upto_region 6 with fail
    have l0z := (World.cell?_setCell_other W2 ⟨g, n - 1, none⟩ ⟨w.heap.size, 0, none⟩ (.int .u8 v2) (by intro e; simp at e; first | done | omega)).trans l0
    clear l0 l1 l2 hc hf B2 p1 p2 p3 p4 p5 p6
    generalize W2.setCell ⟨g, n - 1, none⟩ (.int .u8 v2) = W3 at *
    go_wp2_with fail
    go_ret2
    exact z77
   ·have hback : (convert 52 9 (.slice (some ⟨g, 0, none⟩) n cap)).run Tryz.prog W2 = .ok (.string R) W2 := by
     have hcl : crL P n torn = T.data.toList := by
      have : (torn && decide (0 < n)) = false := by rw [Bool.eq_false_iff]; intro h; apply ht2; simpa using h
      simp only [crL, this, HTT.out]; rfl
     have h := run_convert_bytes_back (P := Tryz.prog) W2 52 9 5 ⟨g, 0, none⟩ cap (crL P n torn) Tryz.underlying52 Tryz.underlying5 Tryz.underlying9 (fun j hj => ?_)
     ·rw [HL0.out] at h; rw [← HR.out]; exact h
     ·rw [HL0.out] at hj
      have he : (⟨g, 0, none⟩ : Addr).add j = ⟨g, j, none⟩ := by unfold Addr.add; split <;> simp_all
      rw [he, HCE.out j hj]
      have h4 : j < T.data.toList.length := by rw [HT2.out]; exact hj
      have h3 : ∀ (L : List UInt8) (hl : j < L.length), L = T.data.toList → L[j] = T.data.toList.getD j 0 := by
       rintro L hl rfl
       simp only [List.getD, List.getElem?_eq_getElem h4, Option.getD_some]
      rw [h3 _ _ hcl]
    clear HCE HFR HL2 HL0 HT2 HTT hb1 B1
    cases torn with
    | false =>
     clear ht2
     go_wp2_with fail
     go_ret2
     exact ⟨rfl, B2⟩
    | true =>
     obtain rfl : n = 0 := by rcases Nat.eq_zero_or_pos n with h | h; exact h; exact absurd ⟨rfl, h⟩ ht2
     clear ht2 hn0 hn1
     go_wp2_with fail
     go_ret2
     exact ⟨rfl, B2⟩
end Go.Proofs.YtpndjhelpoenpaaGreatDoor
namespace Go.Proofs.YtpndjhelpoenpaaGreatDoor
open Go.RowKit
theorem line_ascii {k : Int} {c r : BA} (h0 : 0 ≤ k) (hg : goodRec c r = true) : ∀ b ∈ (sealB (bodyB k c r)).data.toList, b.toNat < 128 := by
 intro b hb
 obtain ⟨_, _, _, hp, hq, _⟩ := goodRec_facts hg
 have h1 := (sumTo_ok (bodyB k c r) (bodyB k c r).size).1
 unfold sealB at hb
 generalize sumTo (bodyB k c r) (bodyB k c r).size = u at hb h1
 simp only [bodyB, mem_append_data] at hb
 rcases hb with (((((h | h) | h) | h) | h) | h) | h
 ·have := numB_byte h0 h; omega
 ·simp at h; subst h; decide
 ·have := plain_byte hp h; omega
 ·simp at h; subst h; decide
 ·have := plain_byte hq h; omega
 ·simp at h; subst h; decide
 ·have := numB_byte h1 h; omega
theorem step_list {all : BA} {m a b : Nat} {e : BA × BA} (ha : a ≤ all.size) (h : stepR all m a = some (e, b)) :
  ∃ L R : BA, lineIs m e.1 e.2 L = true ∧ b = a + L.size + 1 ∧ all.data.toList.drop a = L.data.toList ++ 10 :: R.data.toList := by
 unfold stepR at h
 split at h
 ·cases h
 ·refine z30 ?_
  intro hn' e' he h2
  obtain ⟨rfl, rfl⟩ := Prod.mk.inj h2
  have hi := dec_some he
  have hx := split_eq hn'
  have hl : all.data.toList.length = all.size := size_list all
  refine ⟨bef 10 (all.extract a all.size), aft 10 (all.extract a all.size), hi, rfl, ?_⟩
  have e := extract_list all a all.size nL
  rw [List.take_of_length_le (by omega)] at e
  rw [← e, ← app3_data, ← hx]
theorem step_ascii {all : BA} {m a b : Nat} {e : BA × BA} (ha : a ≤ all.size) (h : stepR all m a = some (e, b)) (i : ∀ x ∈ all.data.toList.take a, x.toNat < 128) : ∀ x ∈ all.data.toList.take b, x.toNat < 128 := by
 obtain ⟨L, R, hi, rfl, hd⟩ := step_list ha h
 simp only [lineIs, Bool.and_eq_true, decide_eq_true_eq] at hi
 have hl : L.data.toList.length = L.size := size_list L
 intro x hx
 rw [show a + L.size + 1 = a + (L.size + 1) by omega, List.take_add, hd, List.take_append, List.take_of_length_le (l := L.data.toList) (by omega), show L.size + 1 - L.data.toList.length = 1 by omega] at hx
 rcases List.mem_append.1 hx with hx | hx
 ·exact i x hx
 ·rcases List.mem_append.1 hx with hx | hx
  ·rw [← hi.2] at hx
   exact line_ascii (Int.natCast_nonneg m) hi.1 x hx
  ·simp at hx; subst hx; decide
theorem readN_ascii (all : BA) : ∀ n, n ≤ 60 → ∀ x ∈ all.data.toList.take (readN all n).2, x.toNat < 128
 | 0, _ => by intro x hx; simp [readN] at hx
 | n + 1, hn => by
  have i := readN_ascii all n (by omega)
  rw [readN_succ]
  split
  ·exact i
  ·split
   ·exact i
   ·rename_i e a hs
    exact step_ascii (readN_at all n (by omega)).1 hs i
theorem readN_pre (all : BA) (m : Nat) : ∀ d, ∃ T, (readN all (m + d)).1 = (readN all m).1 ++ T
 | 0 => ⟨[], by simp⟩
 | d + 1 => by
  obtain ⟨T, hT⟩ := readN_pre all m d
  show ∃ T, (readN all (m + d + 1)).1 = _
  rw [readN_succ]
  split
  ·exact ⟨T, hT⟩
  ·split
   ·exact ⟨T, hT⟩
   ·rename_i e a hs
    exact ⟨T ++ [e], by rw [hT]; simp⟩
theorem readN_sim {s all : BA} (H : ∀ n a e b, n ≤ 59 → a ≤ s.size → stepR s n a = some (e, b) → stepR all n a = some (e, b)) : ∀ n, n ≤ 60 → ∃ m, m ≤ n ∧ readN s n = readN all m ∧ (readN all m).1.length = m
 | 0, _ => ⟨0, Nat.le_refl _, rfl, rfl⟩
 | n + 1, hn => by
  obtain ⟨m, hm, he, hl⟩ := readN_sim H n (by omega)
  rw [readN_succ]
  by_cases hlt : m < n
  ·rw [if_pos (by rw [he, hl]; exact hlt)]
   exact ⟨m, by omega, he, hl⟩
  ·obtain rfl : m = n := by omega
   rw [if_neg (by rw [he, hl]; omega)]
   have ha := (readN_at s m (by omega)).1
   cases hs : stepR s m (readN s m).2 with
   | none => exact ⟨m, by omega, he, hl⟩
   | some p =>
    obtain ⟨e, b⟩ := p
    have h2 := H _ _ _ _ (by omega) ha hs
    rw [he] at h2
    have hy := readN_yes hl h2
    exact ⟨m + 1, Nat.le_refl _, by rw [hy, he], by rw [hy]; simp [hl]⟩
theorem sim_torn {U X : BA} {y : UInt8} (hy : y ≠ 10) : ∀ n a e b, n ≤ 59 → a ≤ (U ++ ⟨#[y]⟩).size → stepR (U ++ ⟨#[y]⟩) n a = some (e, b) → stepR (U ++ X) n a = some (e, b) := by
 intro n a e b hn ha h
 obtain ⟨h1, _, h2⟩ := stepR_at ha hn h
 have hsz : (U ++ (⟨#[y]⟩ : BA)).size = U.size + 1 := by rw [size_app]; rfl
 by_cases hb : b ≤ U.size
 ·have h3 := stepR_cut (B := U.size) (by omega) h hb
  rw [ext_left] at h3
  exact stepR_ext (by omega) h3
 ·exfalso
  obtain ⟨L, R, _, hbb, hd⟩ := step_list ha h
  have hl : L.data.toList.length = L.size := size_list L
  have hlu : (U ++ (⟨#[y]⟩ : BA)).data.toList.length = (U ++ (⟨#[y]⟩ : BA)).size := size_list _
  have hlen := congrArg List.length hd
  rw [List.length_drop, hlu, List.length_append, List.length_cons, hl] at hlen
  have hR : R.data.toList = [] := List.eq_nil_of_length_eq_zero (by omega)
  rw [hR] at hd
  have e1 := List.take_append_drop a (U ++ (⟨#[y]⟩ : BA)).data.toList
  rw [hd, app_list] at e1
  have e2 := congrArg List.getLast? e1
  simp at e2
  exact hy e2.symm
theorem crash_facts {D P : BA} {z : Int} {n : Nat} {torn : Bool} (h : logOk D P z = true) (hn : n ≤ P.size) :
  (D ++ crB P n torn).size ≤ 24780 ∧ D.size ≤ (readN (D ++ crB P n torn) 60).2 ∧ (readN (D ++ crB P n torn) 60).2 ≤ (D ++ crB P n torn).size ∧
   ∃ T, (readN (D ++ P) 60).1 = (readN (D ++ crB P n torn) 60).1 ++ T := by
 have hsz := logOk_size h
 simp only [logOk, Bool.and_eq_true, decide_eq_true_eq] at h
 obtain ⟨⟨h1, h2⟩, _⟩ := h
 have hcs : (crB P n torn).size = n := by
  have e := crL_len P n torn hn
  show (crL P n torn).toArray.size = n
  simpa using e
 refine ⟨by rw [size_app, hcs]; omega, ?_, (readN_at _ 60 nL).1, ?_⟩
 ·have hl60 := readN_len D 60
  have e1 := readN_ext (X := crB P n torn) (Nat.le_refl 60) (rfl : (readN D 60).1.length = _) _ nL
  have e2 := readN_last (rfl : (readN D 60).1.length = _)
  have e3 := readN_mono (D ++ crB P n torn) (60 - (readN D 60).1.length) (readN D 60).1.length (by omega)
  rw [show (readN D 60).1.length + (60 - (readN D 60).1.length) = 60 by omega, e1, e2, h2] at e3
  exact e3
 ·have hsim : ∀ k a e b, k ≤ 59 → a ≤ (D ++ crB P n torn).size → stepR (D ++ crB P n torn) k a = some (e, b) → stepR (D ++ P) k a = some (e, b) := by
   have hPx : P.data.toList = (P.extract 0 n).data.toList ++ P.data.toList.drop n := by
    rw [extract_list _ _ _ hn, List.drop_zero, List.take_append_drop]
   have hTl : (P.extract 0 n).data.toList.length = n := by rw [size_list]; simp [ByteArray.size_extract]; omega
   by_cases ht : (torn && decide (0 < n)) = true
   ·have ht2 : torn = true ∧ 0 < n := by simpa using ht
    obtain ⟨q, rfl⟩ : ∃ q, n = q + 1 := ⟨n - 1, by omega⟩
    generalize hT : (P.extract 0 (q + 1)).data.toList = T at hPx hTl
    have hTs : T = T.take q ++ [T.getD q 0] := by
     have e := List.take_append_drop q T
     have hd : T.drop q = [T.getD q 0] := by
      have hq : q < T.length := by omega
      rw [List.drop_eq_getElem_cons hq, List.drop_of_length_le (by omega)]
      simp [List.getD, List.getElem?_eq_getElem hq]
     rw [hd] at e; exact e.symm
    have hc : (crB P (q + 1) torn).data.toList = T.take q ++ [255 - T.getD q 0] := by
     show ((crL P (q + 1) torn).toArray).toList = _
     simp only [crL, ht, if_true, hT, List.toList_toArray]
     rw [show q + 1 - 1 = q by omega, List.set_eq_take_append_cons_drop, if_pos (by omega), List.drop_of_length_le (by omega)]
    have hasc := readN_ascii (D ++ P) 60 nL
    rw [h1, List.take_of_length_le (by rw [size_list]; exact z35)] at hasc
    generalize T.getD q 0 = b at hTs hc
    have hP2 : P.data.toList = T.take q ++ [b] ++ P.data.toList.drop (q + 1) := by rw [← hTs]; exact hPx
    have hmem : b ∈ (D ++ P).data.toList := by rw [app_list, hP2]; simp
    have hlt := hasc _ hmem
    have hy : (255 - b) ≠ (10 : UInt8) := by
     intro e
     have e2 := congrArg UInt8.toNat e
     have hb : b ≤ 255 := by rw [UInt8.le_iff_toNat_le]; show b.toNat ≤ 255; omega
     rw [UInt8.toNat_sub_of_le _ _ hb] at e2
     have e3 : (255 : UInt8).toNat - b.toNat = 10 := e2
     have e4 : (255 : UInt8).toNat = 255 := rfl
     omega
    have eS : D ++ crB P (q + 1) torn = (D ++ ⟨(T.take q).toArray⟩) ++ ⟨#[255 - b]⟩ := by
     apply ba_ext; simp only [app_list, hc, List.append_assoc]
    have eA : D ++ P = (D ++ ⟨(T.take q).toArray⟩) ++ ⟨(b :: P.data.toList.drop (q + 1)).toArray⟩ := by
     apply ba_ext
     simp only [app_list]
     generalize P.data.toList.drop (q + 1) = R at hP2 ⊢
     rw [hP2]
     simp [List.append_assoc]
    rw [eS, eA]
    exact sim_torn hy
   ·have hc : crB P n torn = P.extract 0 n := by
     apply ba_ext
     show ((crL P n torn).toArray).toList = _
     simp only [crL, ht, List.toList_toArray]
     rfl
    rw [hc]
    intro k a e b _ ha hs
    have eA : D ++ P = (D ++ P.extract 0 n) ++ ⟨(P.data.toList.drop n).toArray⟩ := by
     apply ba_ext
     simp only [app_list, List.append_assoc]
     rw [← hPx]
    rw [eA]
    exact stepR_ext ha hs
  obtain ⟨m, hm, he, hl⟩ := readN_sim hsim 60 nL
  obtain ⟨T, hT⟩ := readN_pre (D ++ P) m (60 - m)
  rw [show m + (60 - m) = 60 by omega] at hT
  exact ⟨T, by rw [hT, he]⟩
theorem flatR_app' (L M : List (BA × BA)) : flatR (L ++ M) = flatR L ++ flatR M := by
 induction L with
 | nil => rfl
 | cons a L ih => simp [flatR, ih]
theorem flatR_len' (L : List (BA × BA)) : (flatR L).length = L.length * 2 := by
 induction L with
 | nil => rfl
 | cons a L ih => simp [flatR, ih]; omega
theorem crash_yes {D P s : BA} {z k : Int} {torn : Bool} (hs : s = crS D P z k torn) (hok : crT D P z k = true) :
  ∃ n m R : Nat, logOk D P z = true ∧ s.size ≤ 30000 ∧ lrN D P z = n ∧ lrN (recD s) ⟨#[]⟩ (recC s) = m ∧ m ≤ n ∧ n ≤ 60 ∧ (∀ j, j < m * 2 → lrF (recD s) ⟨#[]⟩ j = lrF D P j) ∧
   recR s = (R : Int) ∧ D.size ≤ R ∧ R ≤ s.size ∧ s.extract 0 R = recD s ∧ recOk s = true ∧ logOk (recD s) ⟨#[]⟩ (recC s) = true ∧ (recD s).size ≤ 30000 := by
 have h2 : logOk D P z = true ∧ inR k 0 (P.size : Int) = true := by simpa [crT] using hok
 obtain ⟨hl, hk⟩ := h2
 have hk2 : 0 ≤ k ∧ k ≤ (P.size : Int) := by simpa [inR] using hk
 have hs2 : s = D ++ crB P k.toNat torn := by rw [hs]; simp [crS, hok]
 obtain ⟨c1, c2, c3, T, hT⟩ := crash_facts (torn := torn) hl (show k.toNat ≤ P.size by omega)
 rw [← hs2] at c1 c2 c3 hT
 have hro : recOk s = true := by simp [recOk]; omega
 have hlo := rec_ok hro
 have hcut := readN_cut s
 have hD : recD s = s.extract 0 (readN s 60).2 := by simp [recD, hro]
 have hm : (readN (recD s ++ (⟨#[]⟩ : BA)) 60).1 = (readN s 60).1 := by rw [app_nil, hD, hcut]
 have hlen := congrArg List.length hT
 rw [List.length_append] at hlen
 have hln := readN_len (D ++ P) 60
 refine ⟨(readN (D ++ P) 60).1.length, (readN s 60).1.length, (readN s 60).2, hl, by omega, by simp [lrN, hl], ?_, by omega, by omega, ?_, by simp [recR, hro], c2, c3, hD.symm, hro, hlo, ?_⟩
 ·simp only [lrN, hlo, if_true, hm]
 ·intro j hj
  have hfl := flatR_len' (readN s 60).1
  simp only [lrF, hm, hT, flatR_app']
  simp only [List.getD]; rw [List.getElem?_append_left (by omega)]
 ·rw [hD]; simp [ByteArray.size_extract]; omega
end Go.Proofs.YtpndjhelpoenpaaGreatDoor
namespace Go.Proofs.YtpndjhelpoenpaaGreatDoor
open Go.RowKit
theorem cells_lf (f : Nat → Int) (n : Nat) : cellsL (lf (cellsL f n)) n = cellsL f n := by
 show (List.range (n * 4)).map _ = (List.range (n * 4)).map _
 exact List.map_congr_left fun j hj => lf_cells f n (by simpa using hj)
noncomputable def CS.nrm (c : CS) : CS := ⟨lf (cellsL c.f c.n), c.n, c.I, c.H, c.S, c.P, c.D, c.Q, c.z⟩
section
variable (f : Nat → Int) (n : Nat) (I H S P : Int) (D Q : ByteArray) (z : Int) (s : ByteArray)
theorem nrm_go : xcGo (lf (cellsL f n)) n I H S P D Q z s = xcGo f n I H S P D Q z s := by
 unfold xcGo
 rw [good_cells]
theorem nrm_A : xcA (lf (cellsL f n)) n I H S P s = xcA f n I H S P s := by
 unfold xcA
 rw [cells_lf]
theorem nrm_up : xcUp (lf (cellsL f n)) n I H S P D Q z s = xcUp f n I H S P D Q z s := by
 unfold xcUp
 rw [nrm_go, nrm_A]
theorem nrm_T : xcT (lf (cellsL f n)) n I H S P s = xcT f n I H S P s := by
 unfold xcT
 rw [nrm_A, cells_lf]
end
theorem next_nrm (c : CS) (s : ByteArray) : c.nrm.next s = c.next s := by
 unfold CS.next CS.nrm xcL xcN xcI xcH xcS xcP xcQ xcZ
 simp only
 rw [nrm_up, nrm_go, nrm_T, cells_lf]
theorem rep_nrm (c : CS) (s : ByteArray) : c.nrm.rep s = c.rep s := by
 unfold CS.rep CS.nrm xcR
 simp only
 rw [nrm_T, good_cells]
def Same (c d : CS) : Prop := c.nrm = d.nrm
theorem Same.next {c d : CS} (h : Same c d) (s : ByteArray) : c.next s = d.next s := by rw [← next_nrm c, h, next_nrm]
theorem Same.rep {c d : CS} (h : Same c d) (s : ByteArray) : c.rep s = d.rep s := by rw [← rep_nrm c, h, rep_nrm]
theorem Same.nrm (c : CS) : Same c c.nrm := by
 unfold Same CS.nrm
 simp only [cells_lf]
theorem csN_congr {c : CS} {ws us : Nat → ByteArray} : ∀ {k : Nat}, (∀ j, j < k → ws j = us j) → csN c ws k = csN c us k
 | 0, _ => rfl
 | k + 1, h => by
  rw [csN, csN, csN_congr (fun j hj => h j (by omega)), h k (by omega)]
noncomputable def recN (c : CS) : Nat := (readN (c.D ++ c.Q) 60).1.length
noncomputable def wR (c : CS) (j : Nat) : ByteArray := lrF c.D c.Q (j * 2)
noncomputable def aR (c : CS) (j : Nat) : ByteArray := lrF c.D c.Q (j * 2 + 1)
structure RInv (hz : Int) (c : CS) : Prop where
 good : c.good = true
 rep : ∀ k, k < recN c → rpN (newC hz) (wR c) k = aR c k
 last : Same (csN (newC hz) (wR c) (recN c)) c
theorem rinv_new {hz : Int} (h : goodWorks (lf (newL hz)) (newM hz) 0 0 0 0 = true) : RInv hz (newC hz) := by
 have h1 : logOk ⟨#[]⟩ ⟨#[]⟩ 0 = true := by decide +kernel
 have h0 : recN (newC hz) = 0 := by
  have := log_cnt h1
  unfold recN
  show (readN ((⟨#[]⟩ : ByteArray) ++ ⟨#[]⟩) 60).1.length = 0
  omega
 refine ⟨?_, fun k hk => by omega, ?_⟩
 ·show (goodWorks (lf (newL hz)) (newM hz) 0 0 0 0 && logOk ⟨#[]⟩ ⟨#[]⟩ 0) = true
  rw [h, h1]
  rfl
 ·rw [h0]
  rfl
theorem RInv.next {hz : Int} {c : CS} (h : RInv hz c) (s : ByteArray) : RInv hz (c.next s) := by
 cases hgo : xcGo c.f c.n c.I c.H c.S c.P c.D c.Q c.z s with
 | false =>
  obtain ⟨e1, e2, e3, e4, e5, e6, e7, e8⟩ := no_keep hgo
  have e : c.next s = c.nrm := by
   unfold CS.next CS.nrm
   rw [e1, e2, e3, e4, e5, e6, e7, e8]
  rw [e]
  refine ⟨?_, h.rep, ?_⟩
  ·show (goodWorks (lf (cellsL c.f c.n)) c.n c.I c.H c.S c.P && logOk c.D c.Q c.z) = true
   rw [good_cells]
   exact h.good
  ·exact Eq.trans h.last (Same.nrm c)
 | true =>
  have hr : (readN ((c.next s).D ++ (c.next s).Q) 60).1 = (readN (c.D ++ c.Q) 60).1 ++ [(s, c.rep s)] := go_read hgo
  have hn : recN (c.next s) = recN c + 1 := by
   unfold recN
   rw [hr]
   simp
  have hl := cons_last hr
  have hlt : ∀ j, j < recN c * 2 → lrF (c.next s).D (c.next s).Q j = lrF c.D c.Q j := by
   intro j hj
   unfold lrF
   rw [hr, flatR_app, List.getD_eq_getElem?_getD, List.getD_eq_getElem?_getD, List.getElem?_append_left (by rw [flatR_len]; exact hj)]
  have hw : ∀ j, j < recN c → wR (c.next s) j = wR c j := fun j hj => hlt _ (by omega)
  have ha : ∀ j, j < recN c → aR (c.next s) j = aR c j := fun j hj => hlt _ (by omega)
  have hwk : wR (c.next s) (recN c) = s := hl.1
  have hak : aR (c.next s) (recN c) = c.rep s := hl.2
  refine ⟨?_, ?_, ?_⟩
  ·show (goodWorks _ _ _ _ _ _ && logOk _ _ _) = true
   rw [Bool.and_eq_true]
   exact ⟨xc_good (go_facts hgo).1, go_log hgo⟩
  ·intro k hk
   rw [hn] at hk
   by_cases hkk : k < recN c
   ·rw [ha k hkk, ← h.rep k hkk]
    unfold rpN
    rw [csN_congr (fun j hj => hw j (by omega)), hw k hkk]
   ·have e : k = recN c := by omega
    rw [e]
    unfold rpN
    rw [csN_congr (fun j hj => hw j hj), hwk, hak]
    exact h.last.rep s
  ·rw [hn]
   show Same (csN (newC hz) (wR (c.next s)) (recN c + 1)) _
   rw [csN, csN_congr (fun j hj => hw j hj), hwk, h.last.next s]
   rfl
theorem RInv.csN {hz : Int} {c : CS} (h : RInv hz c) (ws : Nat → ByteArray) : ∀ k, RInv hz (csN c ws k)
 | 0 => h
 | k + 1 => (RInv.csN h ws k).next (ws k)
theorem good_log {c : CS} (h : c.good = true) : logOk c.D c.Q c.z = true := by
 unfold CS.good at h
 rw [Bool.and_eq_true] at h
 exact h.2
theorem lrN_cnt {D Q : ByteArray} {z : Int} (h : logOk D Q z = true) : (lrN D Q z : Int) = z := by
 rw [lrN, if_pos h]
 exact (log_cnt h).symm
theorem rl_of {hz : Int} {D Q : ByteArray} {z : Int} (hr : inR hz 1 100000 = true) (hl : logOk D Q z = true) (h : ∀ k, k < lrN D Q z → rpN (newC hz) (fun j => lrF D Q (j * 2)) k = lrF D Q (k * 2 + 1)) :
  rlOk hz D Q z = true ∧ (rlV hz D Q z : Int) = z := by
 have hk : rlOk hz D Q z = true := by rw [rlOk, hr, hl]; rfl
 refine ⟨hk, ?_⟩
 rw [rlV, if_pos hk, lead_all (fun j hj => by unfold rlP; exact decide_eq_true (h j hj))]
 exact lrN_cnt hl
theorem rl_all {hz : Int} {c : CS} (hr : inR hz 1 100000 = true) (h : RInv hz c) : rlOk hz c.D c.Q c.z = true ∧ (rlV hz c.D c.Q c.z : Int) = c.z := by
 have hl := good_log h.good
 refine rl_of hr hl fun k hk => h.rep k ?_
 rw [lrN, if_pos hl] at hk
 exact hk
theorem rl_part {hz k : Int} {c : CS} (hr : inR hz 1 100000 = true) (h : RInv hz c) (h0 : 0 ≤ k) (h1 : k ≤ (c.Q.size : Int)) :
  ∃ s : ByteArray, crS c.D c.Q c.z k false = s ∧ crT c.D c.Q c.z k = true ∧ s.size ≤ 30000 ∧ recOk s = true ∧ (recD s).size ≤ 30000 ∧ rlOk hz (recD s) ⟨#[]⟩ (recC s) = true ∧ (rlV hz (recD s) ⟨#[]⟩ (recC s) : Int) = recC s := by
 have hl := good_log h.good
 have hok : crT c.D c.Q c.z k = true := by
  unfold crT
  rw [hl]
  simp [inR, h0, h1]
 obtain ⟨n, m, R, hlog, hsz, hn, hm, hmn, hn60, hF, hR, hD, hRs, hex, hrec, hlr, hrd⟩ := crash_yes (s := crS c.D c.Q c.z k false) rfl hok
 have hnn : n = recN c := by rw [← hn, lrN, if_pos hl]; rfl
 obtain ⟨e1, e2⟩ := rl_of (hz := hz) hr hlr fun j hj => by
  rw [hm] at hj
  have hjn : j < recN c := by omega
  have hi := h.rep j hjn
  rw [hF (j * 2 + 1) (by omega)]
  unfold rpN at hi ⊢
  show (Go.Proofs.YtpndjhelpoenpaaGreatDoor.csN (newC hz) (fun i => lrF (recD (crS c.D c.Q c.z k false)) ⟨#[]⟩ (i * 2)) j).rep (lrF (recD (crS c.D c.Q c.z k false)) ⟨#[]⟩ (j * 2)) = _
  rw [hF (j * 2) (by omega), csN_congr (us := wR c) (fun i hi' => hF (i * 2) (by omega))]
  exact hi
 exact ⟨_, rfl, hok, hsz, hrec, hrd, e1, e2⟩
end Go.Proofs.YtpndjhelpoenpaaGreatDoor
