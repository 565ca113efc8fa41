/-
  CrashLog: the same on both sides.
-/
import Derived.Test.YtbhhlnciojcgbaaDoorLogI
import Derived.Lib.ConvBytes
import Derived.Lib.AtoiErrMem
import Derived.Laws.IdiomStrings
namespace Go.Proofs.YtbhhlnciojcgbaaDoor
open Go.RowKit
set_option linter.unusedVariables false
set_option linter.unusedSimpArgs false
attribute [local go_sem ↓] Go.wp_at_zero Go.wp_at_succ
def crL (P : BA) (n : Nat) (torn : Bool) : List UInt8 := if torn && decide (0 < n) then (P.extract 0 n).data.toList.set (n - 1) (255 - (P.extract 0 n).data.toList.getD (n - 1) 0) else (P.extract 0 n).data.toList
def crB (P : BA) (n : Nat) (torn : Bool) : BA := ⟨(crL P n torn).toArray⟩
def crT (D P : BA) (z k : Int) : Bool := logOk D P z && inR k 0 (P.size : Int)
def crS (D P : BA) (z k : Int) (torn : Bool) : BA := if crT D P z k then D ++ crB P k.toNat torn else ⟨#[]⟩
theorem crL_len (P : BA) (n : Nat) (torn : Bool) (h : n ≤ P.size) : (crL P n torn).length = n := by
  have h1 : (P.extract 0 n).data.toList.length = n := by
    have h2 : (P.extract 0 n).size = n := by simp; omega
    simpa using h2
  unfold crL
  split
  · rw [List.length_set, h1]
  · exact h1
theorem bytes_free (w : World) (e : TypeId) (s : BA) (j : Nat) (hj : j < s.size) : (Lib.bytesWorld w e s).frozen? ⟨w.heap.size, j, none⟩ = false := by
  have h := Lib.bytesWorld_at_new w e s
  have hz : j < (Lib.bytesCells w e s).size := by simp [Lib.bytesCells]; omega
  have : ∀ m : Nat, j < m → (decide (m ≤ j) && decide (j < m + 1)) = false := fun m hm => by simp; omega
  simp only [World.frozen?, h]
  exact this _ hz
theorem wrap_tear (b : UInt8) : IntKind.u8.wrap (255 - (b.toNat : Int)) = ((255 - b).toNat : Int) := by
  have hb : b.toNat < 256 := b.toNat_lt
  have h1 : b ≤ 255 := by rw [UInt8.le_iff_toNat_le]; show b.toNat ≤ 255; omega
  have h2 : (255 - b).toNat = 255 - b.toNat := by rw [UInt8.toNat_sub_of_le _ _ h1]; rfl
  rw [h2]
  have h3 : ((255 - b.toNat : Nat) : Int) = 255 - (b.toNat : Int) := by omega
  rw [h3]
  exact IntWalk.u8_in _ (by omega)
set_option maxHeartbeats 2000000 in
theorem CrashLog_any (D P : BA) (z k : Int) (torn : Bool) (hD : D.size ≤ 1048576) (hP : P.size ≤ 1048576) (w : World) (ht : Tab w) (hm : Mx w) :
    Calls Tryd.prog 23 #[.agg #[.string D, .string P, .int .i64 z], .int .i64 k, .bool torn] w fun e w' => e = .returned (.tuple #[.string (crS D P z k torn), .bool (crT D P z k)]) ∧ Below w.heap.size w w' := by
  have HAL : Below w.heap.size w (w.alloc (.cells #[.string D, .string P, .int .i64 z] 25)) := (Below.refl _ w).alloc (Nat.le_refl _) _
  have hX : (w.alloc (.cells #[.string D, .string P, .int .i64 z] 25)).heap[w.heap.size]? = some (.cells #[.string D, .string P, .int .i64 z] 25 (0, 0)) := heap_alloc_new w _
  have HC := Lib.hid (IsValidLog_any D P z hD hP (w.alloc (.cells #[.string D, .string P, .int .i64 z] 25)) (ht.below HAL) (hm.below HAL))
  cases hk : logOk D P z with
  | false =>
    have e1 : crT D P z k = false := by simp [crT, hk]
    have e2 : crS D P z k torn = ⟨#[]⟩ := by simp [crS, e1]
    rw [e1, e2]
    rw [hk] at HC
    go_enter Tryd.func23, Tryd.ntmps23
    go_wp2_with fail
    refine HC.out.mono ?_
    rintro e w1 ⟨rfl, hb1⟩
    have hL := rowB hX hb1
    have B1 := HAL.trans (hb1.mono (by simp))
    obtain ⟨l0, l1, l2, _, _, _⟩ := row3 hL
    clear HC HAL hX hL hk ht hm hD hP e1 e2
    go_wp2_with fail
    go_ret2
    exact ⟨rfl, B1⟩
  | true =>
    have hsz := logOk_size hk
    rw [hk] at HC
    cases hin : inR k 0 (P.size : Int) with
    | false =>
      have e1 : crT D P z k = false := by simp [crT, hk, hin]
      have e2 : crS D P z k torn = ⟨#[]⟩ := by simp [crS, e1]
      rw [e1, e2]
      go_enter Tryd.func23, Tryd.ntmps23
      go_wp2_with fail
      refine HC.out.mono ?_
      rintro e w1 ⟨rfl, hb1⟩
      have hL := rowB hX hb1
      have B1 := HAL.trans (hb1.mono (by simp))
      obtain ⟨l0, l1, l2, _, _, _⟩ := row3 hL
      clear HC HAL hX hL hk ht hm hD hP e1 e2 hsz
      go_wp2_with fail
      refine (within_any _ _ _ _).mono ?_
      rw [hin]
      rintro e w3 ⟨rfl, rfl⟩
      go_wp2_with fail
      go_ret2
      exact ⟨rfl, B1⟩
    | true =>
      have e1 : crT D P z k = true := by simp [crT, hk, hin]
      have e2 : crS D P z k torn = D ++ crB P k.toNat torn := by simp [crS, e1]
      rw [e1, e2]
      have hkr : 0 ≤ k ∧ k ≤ (P.size : Int) := by simpa [inR] using hin
      obtain ⟨n, rfl⟩ : ∃ n : Nat, k = (n : Int) := ⟨k.toNat, by omega⟩
      rw [Int.toNat_natCast]
      have hn : n ≤ P.size := by omega
      have hlen := crL_len P n torn hn
      have hTs : (P.extract 0 n).size = n := by simp; omega
      have hT2 : (P.extract 0 n).data.toList.length = n := by simpa using hTs
      have hRs : (crB P n torn).size = n := by show (crL P n torn).toArray.size = n; simp [hlen]
      have hsum : D.size + (crB P n torn).size ≤ 4000000 := by omega
      have hnb : n ≤ 30000 := by omega
      obtain ⟨R, hR⟩ : ∃ R, crB P n torn = R := ⟨_, rfl⟩
      rw [hR] at hRs hsum ⊢
      have HR := Lib.hid hR
      clear hR
      have hn0 : (0 : Int) ≤ (n : Int) := by omega
      have hn1 : (n : Int) ≤ (P.size : Int) := by omega
      have HIN := Lib.hid hin
      obtain ⟨T, hT⟩ : ∃ T, P.extract 0 n = T := ⟨_, rfl⟩
      go_enter Tryd.func23, Tryd.ntmps23
      go_wp2_with fail
      refine HC.out.mono ?_
      rintro e w1 ⟨rfl, hb1⟩
      have hL := rowB hX hb1
      have B1 := HAL.trans (hb1.mono (by simp))
      obtain ⟨l0, l1, l2, _, _, _⟩ := row3 hL
      have hcv := Lib.run_convert_string_bytes (P := Tryd.prog) w1 9 22 5 T (u := .string) Tryd.underlying9 Tryd.underlying22 Tryd.underlying5
      have hW := Lib.bytesWorld_below w1 5 T
      have hcells : ∀ j, j < n → (Lib.bytesWorld w1 5 T).cell? ⟨w1.heap.size, j, none⟩ = some (.int .u8 (T.data.toList.getD j 0).toNat) := fun j hj => Lib.bytesWorld_cell w1 5 T j (by rw [← hT]; omega)
      have hfree : ∀ j, j < n → (Lib.bytesWorld w1 5 T).frozen? ⟨w1.heap.size, j, none⟩ = false := fun j hj => bytes_free w1 5 T j (by rw [← hT]; omega)
      have hLT : w.heap.size < w1.heap.size := (Array.getElem?_eq_some_iff.1 hL).1
      have hL2 := rowB hL hW
      have B2 := below_of B1 hW B1.size
      rw [hT] at hTs hT2
      rw [hTs] at hcv
      generalize grownCap w1 n 0 5 = cap at hcv
      have hg1 : w1.heap.size = w1.heap.size := rfl
      obtain ⟨W2, hW2⟩ : ∃ v, Lib.bytesWorld w1 5 T = v := ⟨_, rfl⟩
      rw [hW2] at hcv hW hcells hfree hL2 B2
      have HCE := Lib.hid hcells
      have HFR := Lib.hid hfree
      have HL2 := Lib.hid hL2
      have HL0 := Lib.hid hlen
      have HT2 := Lib.hid hT2
      have HTT := Lib.hid hT
      clear HC HAL hX hL hk ht hm hD hP e1 e2 hsz hin hcells hfree hL2 hlen hT2 hg1 hW hW2 l0 l2 hTs
      go_wp2_with fail
      refine (within_any _ _ _ _).mono ?_
      rw [HIN.out]
      rintro e w3 ⟨rfl, rfl⟩
      have hTT := HTT.out
      go_upto_region 4 with fail
      clear hcv hTT l1
      have hgle : w.heap.size ≤ w1.heap.size := B1.size
      have hglt : w.heap.size < w1.heap.size := hLT
      generalize w1.heap.size = g at *
      have hL2 := HL2.out
      obtain ⟨l0, l1, l2, _, _, _⟩ := row3 hL2
      clear hL2
      by_cases ht2 : torn = true ∧ 0 < n
      · obtain ⟨rfl, hpos⟩ := ht2
        have hc := HCE.out (n - 1) (by omega)
        have hf := HFR.out (n - 1) (by omega)
        have p1 : (0 : Int) < (n : Int) := by omega
        have p2 : ((n : Int) - 1).toNat = n - 1 := by omega
        have p3 : 0 ≤ (n : Int) - 1 := by omega
        have p4 : (n : Int) - 1 < n := by omega
        have p5 : IntKind.i64.wrap ((n : Int) - 1) = (n : Int) - 1 := IntWalk.i64_in _ (by omega)
        have p6 := wrap_tear (T.data.toList.getD (n - 1) 0)
        have hback : (convert 22 9 (.slice (some ⟨g, 0, none⟩) n cap)).run Tryd.prog (W2.setCell ⟨g, n - 1, none⟩ (.int .u8 ((255 - T.data.toList.getD (n - 1) 0).toNat : Int))) = .ok (.string R) (W2.setCell ⟨g, n - 1, none⟩ (.int .u8 ((255 - T.data.toList.getD (n - 1) 0).toNat : Int))) := by
          have h := run_convert_bytes_back (P := Tryd.prog) (W2.setCell ⟨g, n - 1, none⟩ (.int .u8 ((255 - T.data.toList.getD (n - 1) 0).toNat : Int))) 22 9 5 ⟨g, 0, none⟩ cap (crL P n true) Tryd.underlying22 Tryd.underlying5 Tryd.underlying9 (fun j hj => ?_)
          · rw [HL0.out] at h; rw [← HR.out]; exact h
          · rw [HL0.out] at hj
            have he : (⟨g, 0, none⟩ : Addr).add j = ⟨g, j, none⟩ := by unfold Addr.add; split <;> simp_all
            rw [he]
            have hcl : crL P n true = T.data.toList.set (n - 1) (255 - T.data.toList.getD (n - 1) 0) := by simp [crL, hpos, HTT.out]
            by_cases hj1 : j = n - 1
            · subst hj1
              rw [World.cell?_setCell_same _ _ _ hc]
              simp [hcl]
            · rw [World.cell?_setCell_other _ _ _ _ (by intro e; simp at e; first | done | omega), HCE.out j hj]
              have h4 : j < T.data.toList.length := by rw [HT2.out]; exact hj
              have h5 : n - 1 ≠ j := by omega
              have h3 : ∀ (L : List UInt8) (hl : j < L.length), L = T.data.toList.set (n - 1) (255 - T.data.toList.getD (n - 1) 0) → L[j] = T.data.toList.getD j 0 := by
                rintro L hl rfl
                rw [List.getElem_set_ne h5]
                simp only [List.getD, List.getElem?_eq_getElem h4, Option.getD_some]
              rw [h3 _ _ hcl]
        have BZ := B2.setCell (p := ⟨g, n - 1, none⟩) hgle (.int .u8 ((255 - T.data.toList.getD (n - 1) 0).toNat : Int))
        clear HCE HFR HL2 HL0 HT2 HTT hb1 B1 hkr hn hnb hT hRs HIN HR
        generalize ((255 - T.data.toList.getD (n - 1) 0).toNat : Int) = v2 at *
        generalize ((T.data.toList.getD (n - 1) 0).toNat : Int) = v1 at *
        go_upto_region 6 with fail
        have l0z := (World.cell?_setCell_other W2 ⟨g, n - 1, none⟩ ⟨w.heap.size, 0, none⟩ (.int .u8 v2) (by intro e; simp at e; first | done | omega)).trans l0
        clear l0 l1 l2 hc hf B2 p1 p2 p3 p4 p5 p6
        generalize W2.setCell ⟨g, n - 1, none⟩ (.int .u8 v2) = W3 at *
        go_wp2_with fail
        go_ret2
        exact ⟨rfl, BZ⟩
      · have hback : (convert 22 9 (.slice (some ⟨g, 0, none⟩) n cap)).run Tryd.prog W2 = .ok (.string R) W2 := by
          have hcl : crL P n torn = T.data.toList := by
            have : (torn && decide (0 < n)) = false := by rw [Bool.eq_false_iff]; intro h; apply ht2; simpa using h
            simp only [crL, this, HTT.out]; rfl
          have h := run_convert_bytes_back (P := Tryd.prog) W2 22 9 5 ⟨g, 0, none⟩ cap (crL P n torn) Tryd.underlying22 Tryd.underlying5 Tryd.underlying9 (fun j hj => ?_)
          · rw [HL0.out] at h; rw [← HR.out]; exact h
          · rw [HL0.out] at hj
            have he : (⟨g, 0, none⟩ : Addr).add j = ⟨g, j, none⟩ := by unfold Addr.add; split <;> simp_all
            rw [he, HCE.out j hj]
            have h4 : j < T.data.toList.length := by rw [HT2.out]; exact hj
            have h3 : ∀ (L : List UInt8) (hl : j < L.length), L = T.data.toList → L[j] = T.data.toList.getD j 0 := by
              rintro L hl rfl
              simp only [List.getD, List.getElem?_eq_getElem h4, Option.getD_some]
            rw [h3 _ _ hcl]
        clear HCE HFR HL2 HL0 HT2 HTT hb1 B1
        cases torn with
        | false =>
          clear ht2
          go_wp2_with fail
          go_ret2
          exact ⟨rfl, B2⟩
        | true =>
          obtain rfl : n = 0 := by rcases Nat.eq_zero_or_pos n with h | h; exact h; exact absurd ⟨rfl, h⟩ ht2
          clear ht2 hn0 hn1
          go_wp2_with fail
          go_ret2
          exact ⟨rfl, B2⟩
set_option maxHeartbeats 2000000 in
theorem sCrashLog_any (D P : BA) (z k : Int) (torn : Bool) (hD : D.size ≤ 1048576) (hP : P.size ≤ 1048576) (w : World) :
    Calls Tryd.prog 24 #[.agg #[.string D, .string P, .int .i64 z], .int .i64 k, .bool torn] w fun e w' => e = .returned (.tuple #[.string (crS D P z k torn), .bool (crT D P z k)]) ∧ Below w.heap.size w w' := by
  have HAL : Below w.heap.size w (w.alloc (.cells #[.string D, .string P, .int .i64 z] 25)) := (Below.refl _ w).alloc (Nat.le_refl _) _
  have hX : (w.alloc (.cells #[.string D, .string P, .int .i64 z] 25)).heap[w.heap.size]? = some (.cells #[.string D, .string P, .int .i64 z] 25 (0, 0)) := heap_alloc_new w _
  have HC := Lib.hid (l27Log_any D P z hD hP (w.alloc (.cells #[.string D, .string P, .int .i64 z] 25)))
  cases hk : logOk D P z with
  | false =>
    have e1 : crT D P z k = false := by simp [crT, hk]
    have e2 : crS D P z k torn = ⟨#[]⟩ := by simp [crS, e1]
    rw [e1, e2]
    rw [hk] at HC
    go_enter Tryd.func24, Tryd.ntmps24
    go_wp2_with fail
    refine HC.out.mono ?_
    rintro e w1 ⟨rfl, hb1⟩
    have hL := rowB hX hb1
    have B1 := HAL.trans (hb1.mono (by simp))
    obtain ⟨l0, l1, l2, _, _, _⟩ := row3 hL
    clear HC HAL hX hL hk hD hP e1 e2
    go_wp2_with fail
    go_ret2
    exact ⟨rfl, B1⟩
  | true =>
    have hsz := logOk_size hk
    rw [hk] at HC
    cases hin : inR k 0 (P.size : Int) with
    | false =>
      have e1 : crT D P z k = false := by simp [crT, hk, hin]
      have e2 : crS D P z k torn = ⟨#[]⟩ := by simp [crS, e1]
      rw [e1, e2]
      go_enter Tryd.func24, Tryd.ntmps24
      go_wp2_with fail
      refine HC.out.mono ?_
      rintro e w1 ⟨rfl, hb1⟩
      have hL := rowB hX hb1
      have B1 := HAL.trans (hb1.mono (by simp))
      obtain ⟨l0, l1, l2, _, _, _⟩ := row3 hL
      clear HC HAL hX hL hk hD hP e1 e2 hsz
      go_wp2_with fail
      refine (l1In_any _ _ _ _).mono ?_
      rw [hin]
      rintro e w3 ⟨rfl, rfl⟩
      go_wp2_with fail
      go_ret2
      exact ⟨rfl, B1⟩
    | true =>
      have e1 : crT D P z k = true := by simp [crT, hk, hin]
      have e2 : crS D P z k torn = D ++ crB P k.toNat torn := by simp [crS, e1]
      rw [e1, e2]
      have hkr : 0 ≤ k ∧ k ≤ (P.size : Int) := by simpa [inR] using hin
      obtain ⟨n, rfl⟩ : ∃ n : Nat, k = (n : Int) := ⟨k.toNat, by omega⟩
      rw [Int.toNat_natCast]
      have hn : n ≤ P.size := by omega
      have hlen := crL_len P n torn hn
      have hTs : (P.extract 0 n).size = n := by simp; omega
      have hT2 : (P.extract 0 n).data.toList.length = n := by simpa using hTs
      have hRs : (crB P n torn).size = n := by show (crL P n torn).toArray.size = n; simp [hlen]
      have hsum : D.size + (crB P n torn).size ≤ 4000000 := by omega
      have hnb : n ≤ 30000 := by omega
      obtain ⟨R, hR⟩ : ∃ R, crB P n torn = R := ⟨_, rfl⟩
      rw [hR] at hRs hsum ⊢
      have HR := Lib.hid hR
      clear hR
      have hn0 : (0 : Int) ≤ (n : Int) := by omega
      have hn1 : (n : Int) ≤ (P.size : Int) := by omega
      have HIN := Lib.hid hin
      obtain ⟨T, hT⟩ : ∃ T, P.extract 0 n = T := ⟨_, rfl⟩
      go_enter Tryd.func24, Tryd.ntmps24
      go_wp2_with fail
      refine HC.out.mono ?_
      rintro e w1 ⟨rfl, hb1⟩
      have hL := rowB hX hb1
      have B1 := HAL.trans (hb1.mono (by simp))
      obtain ⟨l0, l1, l2, _, _, _⟩ := row3 hL
      have hcv := Lib.run_convert_string_bytes (P := Tryd.prog) w1 9 22 5 T (u := .string) Tryd.underlying9 Tryd.underlying22 Tryd.underlying5
      have hW := Lib.bytesWorld_below w1 5 T
      have hcells : ∀ j, j < n → (Lib.bytesWorld w1 5 T).cell? ⟨w1.heap.size, j, none⟩ = some (.int .u8 (T.data.toList.getD j 0).toNat) := fun j hj => Lib.bytesWorld_cell w1 5 T j (by rw [← hT]; omega)
      have hfree : ∀ j, j < n → (Lib.bytesWorld w1 5 T).frozen? ⟨w1.heap.size, j, none⟩ = false := fun j hj => bytes_free w1 5 T j (by rw [← hT]; omega)
      have hLT : w.heap.size < w1.heap.size := (Array.getElem?_eq_some_iff.1 hL).1
      have hL2 := rowB hL hW
      have B2 := below_of B1 hW B1.size
      rw [hT] at hTs hT2
      rw [hTs] at hcv
      generalize grownCap w1 n 0 5 = cap at hcv
      have hg1 : w1.heap.size = w1.heap.size := rfl
      obtain ⟨W2, hW2⟩ : ∃ v, Lib.bytesWorld w1 5 T = v := ⟨_, rfl⟩
      rw [hW2] at hcv hW hcells hfree hL2 B2
      have HCE := Lib.hid hcells
      have HFR := Lib.hid hfree
      have HL2 := Lib.hid hL2
      have HL0 := Lib.hid hlen
      have HT2 := Lib.hid hT2
      have HTT := Lib.hid hT
      clear HC HAL hX hL hk hD hP e1 e2 hsz hin hcells hfree hL2 hlen hT2 hg1 hW hW2 l0 l2 hTs
      go_wp2_with fail
      refine (l1In_any _ _ _ _).mono ?_
      rw [HIN.out]
      rintro e w3 ⟨rfl, rfl⟩
      have hTT := HTT.out
      go_upto_region 4 with fail
      clear hcv hTT l1
      have hgle : w.heap.size ≤ w1.heap.size := B1.size
      have hglt : w.heap.size < w1.heap.size := hLT
      generalize w1.heap.size = g at *
      have hL2 := HL2.out
      obtain ⟨l0, l1, l2, _, _, _⟩ := row3 hL2
      clear hL2
      by_cases ht2 : torn = true ∧ 0 < n
      · obtain ⟨rfl, hpos⟩ := ht2
        have hc := HCE.out (n - 1) (by omega)
        have hf := HFR.out (n - 1) (by omega)
        have p1 : (0 : Int) < (n : Int) := by omega
        have p2 : ((n : Int) - 1).toNat = n - 1 := by omega
        have p3 : 0 ≤ (n : Int) - 1 := by omega
        have p4 : (n : Int) - 1 < n := by omega
        have p5 : IntKind.i64.wrap ((n : Int) - 1) = (n : Int) - 1 := IntWalk.i64_in _ (by omega)
        have p6 := wrap_tear (T.data.toList.getD (n - 1) 0)
        have hback : (convert 22 9 (.slice (some ⟨g, 0, none⟩) n cap)).run Tryd.prog (W2.setCell ⟨g, n - 1, none⟩ (.int .u8 ((255 - T.data.toList.getD (n - 1) 0).toNat : Int))) = .ok (.string R) (W2.setCell ⟨g, n - 1, none⟩ (.int .u8 ((255 - T.data.toList.getD (n - 1) 0).toNat : Int))) := by
          have h := run_convert_bytes_back (P := Tryd.prog) (W2.setCell ⟨g, n - 1, none⟩ (.int .u8 ((255 - T.data.toList.getD (n - 1) 0).toNat : Int))) 22 9 5 ⟨g, 0, none⟩ cap (crL P n true) Tryd.underlying22 Tryd.underlying5 Tryd.underlying9 (fun j hj => ?_)
          · rw [HL0.out] at h; rw [← HR.out]; exact h
          · rw [HL0.out] at hj
            have he : (⟨g, 0, none⟩ : Addr).add j = ⟨g, j, none⟩ := by unfold Addr.add; split <;> simp_all
            rw [he]
            have hcl : crL P n true = T.data.toList.set (n - 1) (255 - T.data.toList.getD (n - 1) 0) := by simp [crL, hpos, HTT.out]
            by_cases hj1 : j = n - 1
            · subst hj1
              rw [World.cell?_setCell_same _ _ _ hc]
              simp [hcl]
            · rw [World.cell?_setCell_other _ _ _ _ (by intro e; simp at e; first | done | omega), HCE.out j hj]
              have h4 : j < T.data.toList.length := by rw [HT2.out]; exact hj
              have h5 : n - 1 ≠ j := by omega
              have h3 : ∀ (L : List UInt8) (hl : j < L.length), L = T.data.toList.set (n - 1) (255 - T.data.toList.getD (n - 1) 0) → L[j] = T.data.toList.getD j 0 := by
                rintro L hl rfl
                rw [List.getElem_set_ne h5]
                simp only [List.getD, List.getElem?_eq_getElem h4, Option.getD_some]
              rw [h3 _ _ hcl]
        have BZ := B2.setCell (p := ⟨g, n - 1, none⟩) hgle (.int .u8 ((255 - T.data.toList.getD (n - 1) 0).toNat : Int))
        clear HCE HFR HL2 HL0 HT2 HTT hb1 B1 hkr hn hnb hT hRs HIN HR
        generalize ((255 - T.data.toList.getD (n - 1) 0).toNat : Int) = v2 at *
        generalize ((T.data.toList.getD (n - 1) 0).toNat : Int) = v1 at *
        go_upto_region 6 with fail
        have l0z := (World.cell?_setCell_other W2 ⟨g, n - 1, none⟩ ⟨w.heap.size, 0, none⟩ (.int .u8 v2) (by intro e; simp at e; first | done | omega)).trans l0
        clear l0 l1 l2 hc hf B2 p1 p2 p3 p4 p5 p6
        generalize W2.setCell ⟨g, n - 1, none⟩ (.int .u8 v2) = W3 at *
        go_wp2_with fail
        go_ret2
        exact ⟨rfl, BZ⟩
      · have hback : (convert 22 9 (.slice (some ⟨g, 0, none⟩) n cap)).run Tryd.prog W2 = .ok (.string R) W2 := by
          have hcl : crL P n torn = T.data.toList := by
            have : (torn && decide (0 < n)) = false := by rw [Bool.eq_false_iff]; intro h; apply ht2; simpa using h
            simp only [crL, this, HTT.out]; rfl
          have h := run_convert_bytes_back (P := Tryd.prog) W2 22 9 5 ⟨g, 0, none⟩ cap (crL P n torn) Tryd.underlying22 Tryd.underlying5 Tryd.underlying9 (fun j hj => ?_)
          · rw [HL0.out] at h; rw [← HR.out]; exact h
          · rw [HL0.out] at hj
            have he : (⟨g, 0, none⟩ : Addr).add j = ⟨g, j, none⟩ := by unfold Addr.add; split <;> simp_all
            rw [he, HCE.out j hj]
            have h4 : j < T.data.toList.length := by rw [HT2.out]; exact hj
            have h3 : ∀ (L : List UInt8) (hl : j < L.length), L = T.data.toList → L[j] = T.data.toList.getD j 0 := by
              rintro L hl rfl
              simp only [List.getD, List.getElem?_eq_getElem h4, Option.getD_some]
            rw [h3 _ _ hcl]
        clear HCE HFR HL2 HL0 HT2 HTT hb1 B1
        cases torn with
        | false =>
          clear ht2
          go_wp2_with fail
          go_ret2
          exact ⟨rfl, B2⟩
        | true =>
          obtain rfl : n = 0 := by rcases Nat.eq_zero_or_pos n with h | h; exact h; exact absurd ⟨rfl, h⟩ ht2
          clear ht2 hn0 hn1
          go_wp2_with fail
          go_ret2
          exact ⟨rfl, B2⟩
end Go.Proofs.YtbhhlnciojcgbaaDoor
