/-
  The walk of the law FnLogLines.
-/
import Derived.Test.YtbhhlnciojcgbaaDoorLinesP
import Derived.Test.YtbhhlnciojcgbaaDoorDrawRec
import Derived.Test.YtbhhlnciojcgbaaDoorLogH
import Derived.Test.YtbhhlnciojcgbaaDoorRels
import Derived.Deep.Cut
namespace Go.Proofs.YtbhhlnciojcgbaaDoor
open Go.RowKit
set_option linter.unusedVariables false
set_option linter.unusedSimpArgs false
theorem rec_facts (t : BA) : (recD t).size ≤ 30000 ∧ (recOk t = true → logOk (recD t) ⟨#[]⟩ (recC t) = true) := by
  refine ⟨?_, rec_ok⟩
  unfold recD
  split
  · rename_i h
    have hB := (readN_at t 60 (Nat.le_refl _)).1
    simp only [recOk, decide_eq_true_eq] at h
    simp [ByteArray.size_extract]; omega
  · exact Nat.zero_le _
theorem enc_facts {k : Int} {x y ST : BA} {ok : Bool} (hok : ok = (inR k 0 59 && goodRec x y)) (hST : ST = (if ok = true then lineB k x y else ⟨#[]⟩)) :
    ST.size ≤ 1000 ∧ (ok = true → (k = 0 → 0 < recR ST ∧ recC ST = 1) ∧ (k ≠ 0 → recR ST = 0)) ∧ (ok = false → ST = ⟨#[]⟩) := by
  cases ok with
  | false =>
    have e : ST = ⟨#[]⟩ := by rw [hST]; simp
    subst e
    exact ⟨Nat.zero_le _, fun h => (by simp at h), fun _ => rfl⟩
  | true =>
    simp only [if_true] at hST
    have h1 : inR k 0 59 = true ∧ goodRec x y = true := by simpa using hok.symm
    have h2 : 0 ≤ k ∧ k ≤ 59 := by simpa [inR] using h1.1
    have hs := lineB_size h2.1 h2.2 h1.2
    have hr := line_read h2.1 h2.2 h1.2
    rw [← hST] at hs hr
    have hro : recOk ST = true := by simp [recOk]; omega
    refine ⟨by omega, fun _ => ⟨fun hk => ?_, fun hk => ?_⟩, fun h => by cases h⟩
    · rw [if_pos hk] at hr
      have hpos : 0 < ST.size := by rw [hST]; simp only [lineB, ByteArray.size_append', ByteArray.size_mk', List.size_toArray, List.length_cons, List.length_nil]; omega
      simp only [recR, recC, hro, if_true, hr]
      exact ⟨by omega, rfl⟩
    · rw [if_neg hk] at hr
      simp only [recR, hro, if_true, hr]
      rfl
set_option maxRecDepth 100000 in
set_option maxHeartbeats 4000000 in
theorem FnLogLines_walk (A0 : Option Addr) (n0 c0 : Nat) (w : World) (hnc0 : n0 ≤ c0) (hcm0 : c0 ≤ maxLen) (hk0 : Code w A0 n0) (ht : Tab w) (hm : Mx w) :
    Calls Tryd.prog 4 #[.slice A0 n0 c0] w fun e w' => e = .returned (.bool true) ∧ Below w.heap.size w w' := by
  by_cases hbig : 65536 < n0
  · go_enter Tryd.func4, Tryd.ntmps4
    go_wp2_with fail
    refine (vBig_any A0 n0 c0 w).mono ?_
    rw [decide_eq_true hbig]
    rintro e w1 ⟨rfl, rfl⟩
    go_wp2
    go_ret
    exact ⟨rfl, Below.refl _ _⟩
  go_enter Tryd.func4, Tryd.ntmps4
  go_wp2_with fail
  refine (vBig_any A0 n0 c0 w).mono ?_
  rw [decide_eq_false hbig]
  rintro e wx ⟨rfl, hwx⟩
  rw [hwx]
  clear hwx wx
  go_wp2_with fail
  refine (DrawEncodeRecord_any A0 n0 c0 w hk0 (by omega)).mono ?_
  rintro e w1 ⟨k, x, y, rfl, hx, hy, hB⟩
  have HK : Hid (∀ w', Below w.heap.size w w' → Code w' A0 n0) := fun w' h => hk0.below h
  clear hk0
  have H1 := fun W ht => EncodeRecord_any k x y (by omega) (by omega) W ht
  have H2 := fun W => sEncodeRecord_any k x y (by omega) (by omega) W
  obtain ⟨ok, hok⟩ : ∃ ok, ok = (inR k 0 59 && goodRec x y) := ⟨_, rfl⟩
  rw [← hok] at H1 H2
  obtain ⟨ST, hST⟩ : ∃ ST, ST = (if ok = true then lineB k x y else ⟨#[]⟩) := ⟨_, rfl⟩
  rw [← hST] at H1 H2
  obtain ⟨hsz, hyes, hno⟩ := enc_facts hok hST
  clear hok hST
  have H1 := Lib.hid H1
  have H2 := Lib.hid H2
  have HY := Lib.hid hyes
  have HN := Lib.hid hno
  clear hyes hno
  go_wp2_with fail
  refine nameC ?_
  intro w2 hw
  have h4 : w2.heap[w1.heap.size]? = some (.cells #[.string x, .string y] 27 (0, 0)) := by rw [hw]; exact heap_alloc_new w1 _
  have hB := (by rw [hw]; exact hB.alloc hB.size _ : Below w.heap.size w w2)
  clear hw
  generalize w1.heap.size = b4 at h4 ⊢
  refine (H1.out _ (ht.below hB)).mono ?_
  rintro e w3 ⟨rfl, hb⟩
  have hB := below_of hB hb hB.size
  have h4 := rowB h4 hb
  clear hb
  obtain ⟨p0, p1, _, _⟩ := row2 h4
  go_wp2_with fail
  clear p0 p1
  refine (H2.out _).mono ?_
  rintro e w4 ⟨rfl, hb⟩
  have hB := below_of hB hb hB.size
  clear hb
  clear h4 H1 H2
  go_wp2_with fail
  refine (DrawRecoverLog_any A0 n0 c0 _ (HK.out _ hB) (by omega)).mono ?_
  rintro e w5 ⟨t, rfl, hts, hb⟩
  have hB := below_of hB hb hB.size
  clear hb
  have G1 := fun W ht hm => RecoverLog_any t hts W ht hm
  have G2 := fun W => sRecoverLog_any t hts W
  obtain ⟨hDs, hlo⟩ := rec_facts t
  generalize recD t = D at G1 G2 hDs hlo
  generalize recC t = C at G1 G2 hlo
  generalize recR t = R at G1 G2
  generalize recOk t = to at G1 G2 hlo
  have G1 := Lib.hid G1
  have G2 := Lib.hid G2
  have HLO := Lib.hid hlo
  clear hlo
  go_wp2_with fail
  refine (G1.out _ (ht.below hB) (hm.below hB)).mono ?_
  rintro e w6 ⟨rfl, hb⟩
  have hB := below_of hB hb hB.size
  clear hb
  go_wp2_with fail
  refine nameC ?_
  intro w7 hw
  have h10 : w7.heap[w6.heap.size]? = some (.cells #[.string D, .string ⟨#[]⟩, .int .i64 C] 25 (0, 0)) := by rw [hw]; exact heap_alloc_new w6 _
  have hB := (by rw [hw]; exact hB.alloc hB.size _ : Below w.heap.size w w7)
  clear hw
  generalize w6.heap.size = b10 at h10 ⊢
  refine (G2.out _).mono ?_
  rintro e w8 ⟨rfl, hb⟩
  have hB := below_of hB hb hB.size
  have h10 := rowB h10 hb
  clear hb
  go_upto_region 9 with fail
  refine nameW0 ?_
  intro w9 hw
  have h13 : w9.heap[w8.heap.size]? = some (.cells #[.string D, .string ⟨#[]⟩, .int .i64 C] 25 (0, 0)) := by rw [hw]; exact heap_alloc_new w8 _
  have h10 := (by rw [hw]; exact rowAl h10 _ : w9.heap[b10]? = some (.cells #[.string D, .string ⟨#[]⟩, .int .i64 C] 25 (0, 0)))
  have hB := (by rw [hw]; exact hB.alloc hB.size _ : Below w.heap.size w w9)
  clear hw
  generalize w8.heap.size = b13 at h13 ⊢
  obtain ⟨p0, p1, p2, _, _, _⟩ := row3 h10
  obtain ⟨r0, r1, r2, _, _, _⟩ := row3 h13
  clear G1 G2
  go_wp2_with fail
  clear p0 p1 p2 r0 r1 r2 h13
  have G1 := fun W ht hm => RecoverLog_any ST (by omega) W ht hm
  generalize recD ST = DS at G1
  have HY2 := HY.out
  generalize recC ST = CS at G1 HY2
  generalize recR ST = RS at G1 HY2
  generalize recOk ST = tos at G1
  have G1 := Lib.hid G1
  have HY2 := Lib.hid HY2
  clear HY
  refine (G1.out _ (ht.below hB) (hm.below hB)).mono ?_
  rintro e w10 ⟨rfl, hb⟩
  have hB := below_of hB hb hB.size
  have h10 := rowB h10 hb
  clear hb
  go_upto_region 12 with fail
  refine nameW0 ?_
  intro w11 hw
  have h16 : w11.heap[w10.heap.size]? = some (.cells #[.string DS, .string ⟨#[]⟩, .int .i64 CS] 25 (0, 0)) := by rw [hw]; exact heap_alloc_new w10 _
  have h10 := (by rw [hw]; exact rowAl h10 _ : w11.heap[b10]? = some (.cells #[.string D, .string ⟨#[]⟩, .int .i64 C] 25 (0, 0)))
  have hB := (by rw [hw]; exact hB.alloc hB.size _ : Below w.heap.size w w11)
  clear hw
  generalize w10.heap.size = b16 at h16 ⊢
  obtain ⟨s0, s1, s2, _, _, _⟩ := row3 h16
  obtain ⟨p0, p1, p2, _, _, _⟩ := row3 h10
  clear h16 G1
  cases ok with
  | false =>
    go_wp2_with fail
    clear s0 s1 s2 p0 p1 p2
    have S1 := fun W ht hm => SyncLog_any D ⟨#[]⟩ C (by omega) (by decide) W ht hm
    have S2 := fun W ht hm => IsValidLog_any D ⟨#[]⟩ C (by omega) (by decide) W ht hm
    cases to with
    | false =>
      generalize (if logOk D ⟨#[]⟩ C = true then D ++ ⟨#[]⟩ else ⟨#[]⟩) = Dn at S1
      generalize (if logOk D ⟨#[]⟩ C = true then C else 0) = Cn at S1
      generalize logOk D ⟨#[]⟩ C = lo at S1
      have S1 := Lib.hid S1
      clear S2
      refine (S1.out _ (ht.below hB) (hm.below hB)).mono ?_
      rintro e w12 ⟨rfl, hb⟩
      have hB := below_of hB hb hB.size
      clear hb
      go_wp2
      go_ret
      exact ⟨rfl, hB.alloc hB.size _⟩
    | true =>
      have hlo := HLO.out rfl
      rw [hlo] at S1 S2
      simp only [if_true, app_nil] at S1
      have S1 := Lib.hid S1
      have S2 := Lib.hid S2
      clear hlo HLO
      refine (S1.out _ (ht.below hB) (hm.below hB)).mono ?_
      rintro e w12 ⟨rfl, hb⟩
      have hB := below_of hB hb hB.size
      have h10 := rowB h10 hb
      clear hb
      go_upto_region 15 with fail
      refine nameW0 ?_
      intro w13 hw
      have h19 : w13.heap[w12.heap.size]? = some (.cells #[.string D, .string ⟨#[]⟩, .int .i64 C] 25 (0, 0)) := by rw [hw]; exact heap_alloc_new w12 _
      have h10 := (by rw [hw]; exact rowAl h10 _ : w13.heap[b10]? = some (.cells #[.string D, .string ⟨#[]⟩, .int .i64 C] 25 (0, 0)))
      have hB := (by rw [hw]; exact hB.alloc hB.size _ : Below w.heap.size w w13)
      clear hw
      generalize w12.heap.size = b19 at h19 ⊢
      obtain ⟨p0, p1, p2, _, _, _⟩ := row3 h10
      obtain ⟨r0, r1, r2, _, _, _⟩ := row3 h19
      clear h10 h19
      go_wp2_with fail
      refine (S2.out _ (ht.below hB) (hm.below hB)).mono ?_
      rintro e w14 ⟨rfl, hb⟩
      have hB := below_of hB hb hB.size
      clear hb
      have hs := HN.out (by first | rfl | trivial)
      subst hs
      go_wp2
      go_ret
      exact ⟨rfl, hB⟩
  | true =>
    have hyy := HY2.out rfl
    clear HY2
    by_cases hk0 : k = 0
    · obtain ⟨hR, hC⟩ := hyy.1 hk0
      subst hk0
      subst hC
      have hRd : decide (0 < RS) = true := by simp; omega
      clear hyy
      go_wp2_with fail
      clear s0 s1 s2 p0 p1 p2
      have S1 := fun W ht hm => SyncLog_any D ⟨#[]⟩ C (by omega) (by decide) W ht hm
      have S2 := fun W ht hm => IsValidLog_any D ⟨#[]⟩ C (by omega) (by decide) W ht hm
      cases to with
      | false =>
        generalize (if logOk D ⟨#[]⟩ C = true then D ++ ⟨#[]⟩ else ⟨#[]⟩) = Dn at S1
        generalize (if logOk D ⟨#[]⟩ C = true then C else 0) = Cn at S1
        generalize logOk D ⟨#[]⟩ C = lo at S1
        have S1 := Lib.hid S1
        clear S2
        refine (S1.out _ (ht.below hB) (hm.below hB)).mono ?_
        rintro e w12 ⟨rfl, hb⟩
        have hB := below_of hB hb hB.size
        clear hb
        go_wp2
        go_ret
        exact ⟨rfl, hB.alloc hB.size _⟩
      | true =>
        have hlo := HLO.out rfl
        rw [hlo] at S1 S2
        simp only [if_true, app_nil] at S1
        have S1 := Lib.hid S1
        have S2 := Lib.hid S2
        clear hlo HLO
        refine (S1.out _ (ht.below hB) (hm.below hB)).mono ?_
        rintro e w12 ⟨rfl, hb⟩
        have hB := below_of hB hb hB.size
        have h10 := rowB h10 hb
        clear hb
        go_upto_region 15 with fail
        refine nameW0 ?_
        intro w13 hw
        have h19 : w13.heap[w12.heap.size]? = some (.cells #[.string D, .string ⟨#[]⟩, .int .i64 C] 25 (0, 0)) := by rw [hw]; exact heap_alloc_new w12 _
        have h10 := (by rw [hw]; exact rowAl h10 _ : w13.heap[b10]? = some (.cells #[.string D, .string ⟨#[]⟩, .int .i64 C] 25 (0, 0)))
        have hB := (by rw [hw]; exact hB.alloc hB.size _ : Below w.heap.size w w13)
        clear hw
        generalize w12.heap.size = b19 at h19 ⊢
        obtain ⟨p0, p1, p2, _, _, _⟩ := row3 h10
        obtain ⟨r0, r1, r2, _, _, _⟩ := row3 h19
        clear h10 h19
        go_wp2_with fail
        refine (S2.out _ (ht.below hB) (hm.below hB)).mono ?_
        rintro e w14 ⟨rfl, hb⟩
        have hB := below_of hB hb hB.size
        clear hb
        go_wp2
        go_ret
        exact ⟨rfl, hB⟩
    · have hR := hyy.2 hk0
      subst hR
      have hkf : (k == 0) = false := by simp [hk0]
      clear hyy hk0
      go_wp2_with fail
      clear s0 s1 s2 p0 p1 p2
      have S1 := fun W ht hm => SyncLog_any D ⟨#[]⟩ C (by omega) (by decide) W ht hm
      have S2 := fun W ht hm => IsValidLog_any D ⟨#[]⟩ C (by omega) (by decide) W ht hm
      cases to with
      | false =>
        generalize (if logOk D ⟨#[]⟩ C = true then D ++ ⟨#[]⟩ else ⟨#[]⟩) = Dn at S1
        generalize (if logOk D ⟨#[]⟩ C = true then C else 0) = Cn at S1
        generalize logOk D ⟨#[]⟩ C = lo at S1
        have S1 := Lib.hid S1
        clear S2
        refine (S1.out _ (ht.below hB) (hm.below hB)).mono ?_
        rintro e w12 ⟨rfl, hb⟩
        have hB := below_of hB hb hB.size
        clear hb
        go_wp2
        go_ret
        exact ⟨rfl, hB.alloc hB.size _⟩
      | true =>
        have hlo := HLO.out rfl
        rw [hlo] at S1 S2
        simp only [if_true, app_nil] at S1
        have S1 := Lib.hid S1
        have S2 := Lib.hid S2
        clear hlo HLO
        refine (S1.out _ (ht.below hB) (hm.below hB)).mono ?_
        rintro e w12 ⟨rfl, hb⟩
        have hB := below_of hB hb hB.size
        have h10 := rowB h10 hb
        clear hb
        go_upto_region 15 with fail
        refine nameW0 ?_
        intro w13 hw
        have h19 : w13.heap[w12.heap.size]? = some (.cells #[.string D, .string ⟨#[]⟩, .int .i64 C] 25 (0, 0)) := by rw [hw]; exact heap_alloc_new w12 _
        have h10 := (by rw [hw]; exact rowAl h10 _ : w13.heap[b10]? = some (.cells #[.string D, .string ⟨#[]⟩, .int .i64 C] 25 (0, 0)))
        have hB := (by rw [hw]; exact hB.alloc hB.size _ : Below w.heap.size w w13)
        clear hw
        generalize w12.heap.size = b19 at h19 ⊢
        obtain ⟨p0, p1, p2, _, _, _⟩ := row3 h10
        obtain ⟨r0, r1, r2, _, _, _⟩ := row3 h19
        clear h10 h19
        go_wp2_with fail
        refine (S2.out _ (ht.below hB) (hm.below hB)).mono ?_
        rintro e w14 ⟨rfl, hb⟩
        have hB := below_of hB hb hB.size
        clear hb
        go_wp2
        go_ret
        exact ⟨rfl, hB⟩
end Go.Proofs.YtbhhlnciojcgbaaDoor
