/-
  Texts of this claim, merged.
-/
import Derived.Test.YtpndjhelpoenpaaGreatDoorXA28
import Derived.Test.YtpndjhelpoenpaaGreatDoorXC1
set_option linter.unusedVariables false
set_option linter.unusedSimpArgs false
set_option maxRecDepth 100000
set_option maxHeartbeats 8000000
namespace Go.Proofs.YtpndjhelpoenpaaGreatDoor
open Go.RowKit
theorem readN_good {all : BA} {n : Nat} (hn : n ≤ 60) : ∀ e ∈ (readN all n).1, goodRec e.1 e.2 = true := by
 induction n with
 | zero => simp [readN]
 | succ n ih =>
  rw [readN_succ]
  split
  ·exact ih (by omega)
  ·split
   ·exact ih (by omega)
   ·rename_i e a hs
    intro x hx
    rcases List.mem_append.1 hx with hx | hx
    ·exact ih (by omega) x hx
    ·simp only [List.mem_singleton] at hx
     subst hx
     unfold stepR at hs
     split at hs
     ·cases hs
     ·obtain ⟨e', he, h2⟩ := Option.map_eq_some_iff.1 hs
      have hi := dec_some he
      simp only [lineIs, Bool.and_eq_true, decide_eq_true_eq] at hi
      obtain ⟨rfl, _⟩ := Prod.mk.inj h2
      exact hi.1
end Go.Proofs.YtpndjhelpoenpaaGreatDoor
namespace Go.Proofs.YtpndjhelpoenpaaGreatDoor
open Go.RowKit
attribute [local go_sem ↓] Go.wp_at_zero Go.wp_at_succ
theorem RecoverLog_any (s : BA) (hs : s.size ≤ 4000000) (w : World) (ht : Tab w) (hm : Mx w) :
  Calls Tryz.prog 35 #[.string s] w fun e w' => e = .returned (.tuple #[.agg (lV (recD s) ⟨#[]⟩ (recC s)), .int .i64 (recR s), .bool (recOk s)]) ∧ bW w w' := by
 have HAL : bW w (w.alloc (.cells (lV ⟨#[]⟩ ⟨#[]⟩ 0) 33)) := (Below.refl _ w).alloc nL _
 have hX := heap_alloc_new w (.cells (lV ⟨#[]⟩ ⟨#[]⟩ 0) 33)
 by_cases h : s.size ≤ 30000
 ·have hi : ¬ (30000 < (s.size : Int)) := by omega
  have ho : recOk s = true := by simp [recOk, h]
  have hd : recD s = s.extract 0 (readN s 60).2 := by simp [recD, ho]
  have hc : recC s = (readN s 60).1.length := by simp [recC, ho]
  have hr : recR s = ((readN s 60).2 : Nat) := by simp [recR, ho]
  rw [hd, hc, hr, ho]
  clear hd hc hr ho
  obtain ⟨ha, _⟩ := readN_at s 60 nL
  have HR := lh (readRecords_any s hs (w.alloc (.cells (lV ⟨#[]⟩ ⟨#[]⟩ 0) 33)) (ht.below HAL) (hm.below HAL))
  generalize (readN s 60).2 = at_ at *
  generalize (readN s 60).1 = L at *
  have ha0 : (0 : Int) ≤ (at_ : Int) := by omega
  have ha1 : (at_ : Int) ≤ (s.size : Int) := by omega
  go_enter Tryz.func35, Tryz.ntmps35
  go_wp2_with fail
  refine HR.out.mono ?_
  rintro e w1 ⟨v, rfl, hown, hb1⟩
  obtain ⟨A, c, rfl, _, _⟩ := own_form hown
  have h4 := zero_row3 (w := w) hX hb1
  have B1 := HAL.trans (hb1.mono (by simp))
  obtain ⟨z0, z1, z2, z3, z4, z5⟩ := row3 h4
  clear hown hb1 HR HAL hX
  go_wp2_with fail
  obtain ⟨a0, a1, a2, _, _, _⟩ := row3 (row3_set (x := s.extract 0 at_) (y := ⟨#[]⟩) (u := (L.length : Int)) h4)
  have BZ := ((B1.setCell (p := ⟨w.heap.size, 0, none⟩) nL (.string (s.extract 0 at_))).setCell (p := ⟨w.heap.size, 1, none⟩) nL (.string ⟨#[]⟩)).setCell (p := ⟨w.heap.size, 2, none⟩) nL (.int .i64 (L.length : Int))
  generalize ((w1.setCell ⟨w.heap.size, 0, none⟩ (.string (s.extract 0 at_))).setCell ⟨w.heap.size, 1, none⟩ (.string ⟨#[]⟩)).setCell ⟨w.heap.size, 2, none⟩ (.int .i64 (L.length : Int)) = WZ at *
  (refine z66 ?_); refine bodyPost_ret (by simp [results, Tryz.results35, go_sem, a0, a1, a2]; try rfl) rfl ?_
  exact z77
 ·have hi : 30000 < (s.size : Int) := by omega
  have ho : recOk s = false := by simp [recOk, h]
  have hd : recD s = ⟨#[]⟩ := by simp [recD, ho]
  have hc : recC s = 0 := by simp [recC, ho]
  have hr : recR s = 0 := by simp [recR, ho]
  rw [hd, hc, hr, ho]
  clear hd hc hr ho
  go_enter Tryz.func35, Tryz.ntmps35
  go_wp2_with fail
  go_returns
  exact z37
end Go.Proofs.YtpndjhelpoenpaaGreatDoor
namespace Go.Proofs.YtpndjhelpoenpaaGreatDoor
open Go.RowKit
theorem rest_cut {all : BA} {a B : Nat} (hB : B ≤ all.size) (h : noByte (all.extract a all.size) 10 = false) (hL : a + (bef 10 (all.extract a all.size)).size + 1 ≤ B) :
  noByte ((all.extract 0 B).extract a (all.extract 0 B).size) 10 = false ∧ bef 10 ((all.extract 0 B).extract a (all.extract 0 B).size) = bef 10 (all.extract a all.size) := by
 have hs : (all.extract 0 B).size = B := by simp [ByteArray.size_extract]; omega
 rw [hs]
 have hx := split_eq h
 have hno := bef_no 10 (all.extract a all.size)
 generalize bef 10 (all.extract a all.size) = L at *
 generalize aft 10 (all.extract a all.size) = R at *
 have e1 : (all.extract a all.size).data.toList = L.data.toList ++ 10 :: R.data.toList := by rw [hx, app3_data]
 have e2 : ((all.extract 0 B).extract a B).data.toList = (all.extract a all.size).data.toList.take (B - a) := by
  rw [extract_list _ _ _ (by omega), extract_list _ _ _ hB, extract_list _ _ _ nL]
  have hl : all.data.toList.length = all.size := size_list all
  simp only [List.drop_zero, List.take_take, Nat.min_self]
  rw [show all.data.toList.take all.size = all.data.toList from List.take_of_length_le (by omega), List.drop_take]
 have e3 : ((all.extract 0 B).extract a B).data.toList = L.data.toList ++ 10 :: R.data.toList.take (B - a - L.size - 1) := by
  have hl : L.data.toList.length = L.size := size_list L
  rw [e2, e1, List.take_append, hl]
  have h1 : L.data.toList.take (B - a) = L.data.toList := List.take_of_length_le (by omega)
  rw [h1]
  obtain ⟨q, hq⟩ : ∃ q, B - a - L.size = q + 1 := ⟨B - a - L.size - 1, by omega⟩
  rw [hq, List.take_succ_cons]
  rfl
 have e4 : (all.extract 0 B).extract a B = (L ++ ⟨#[10]⟩) ++ ⟨(R.data.toList.take (B - a - L.size - 1)).toArray⟩ := by
  apply ba_ext; rw [e3, app3_data]
 constructor
 ·exact no_false (by rw [e3]; simp)
 ·rw [e4, bef_mk hno]
theorem stepR_cut {all : BA} {m a b B : Nat} {e : BA × BA} (hB : B ≤ all.size) (h : stepR all m a = some (e, b)) (hb : b ≤ B) : stepR (all.extract 0 B) m a = some (e, b) := by
 unfold stepR at h ⊢
 split at h
 ·cases h
 ·refine z30 ?_
  intro hn' e' he h2
  obtain ⟨rfl, rfl⟩ := Prod.mk.inj h2
  obtain ⟨r1, r2⟩ := rest_cut hB hn' hb
  rw [r1, r2, he]
  rfl
theorem readN_mono (all : BA) : ∀ d m, m + d ≤ 60 → (readN all m).2 ≤ (readN all (m + d)).2
 | 0, m, _ => Nat.le_refl _
 | d + 1, m, h => by
  refine Nat.le_trans (readN_mono all d m (by omega)) ?_
  show _ ≤ (readN all (m + d + 1)).2
  rw [readN_succ]
  split
  ·exact z35
  ·split
   ·exact z35
   ·rename_i e a hs
    exact Nat.le_of_lt (stepR_at (readN_at all (m + d) (by omega)).1 (by omega) hs).2.2
theorem readN_cutB (all : BA) (B N : Nat) (hN : N = 60) (hBB : (readN all N).2 = B) : ∀ n, n ≤ N → readN (all.extract 0 B) n = readN all n := by
 have hB : B ≤ all.size := by rw [← hBB]; exact (readN_at all N (by omega)).1
 intro n
 induction n with
 | zero => intro _; rfl
 | succ n ih =>
  intro hn
  have i := ih (by omega)
  have hm := readN_mono all (N - (n + 1)) (n + 1) (by omega)
  rw [show n + 1 + (N - (n + 1)) = N by omega, hBB] at hm
  rw [readN_succ (all.extract 0 B) n, i]
  by_cases hl : (readN all n).1.length < n
  ·rw [if_pos hl, readN_succ all n, if_pos hl]
  ·rw [if_neg hl]
   have hlen : (readN all n).1.length = n := by have := readN_len all n; omega
   cases hs : stepR all n (readN all n).2 with
   | none =>
    have e := readN_stop hlen hs (n := N) (by omega)
    have e1 := readN_stop hlen hs (n := n + 1) (by omega)
    have hsz : (all.extract 0 B).size = (readN all n).2 := by rw [← e, hBB]; simp [ByteArray.size_extract]; omega
    have he := stepR_end (all := all.extract 0 B) (m := n)
    rw [hsz] at he
    rw [he, e1]
   | some p =>
    obtain ⟨e, a⟩ := p
    have hy := readN_yes hlen hs
    rw [hy] at hm
    rw [stepR_cut hB hs hm, hy]
theorem readN_cut (all : BA) : readN (all.extract 0 (readN all 60).2) 60 = readN all 60 := readN_cutB all _ 60 rfl rfl 60 nL
theorem rec_ok {s : BA} (h : recOk s = true) : logOk (recD s) ⟨#[]⟩ (recC s) = true := by
 have hB := (readN_at s 60 nL).1
 have hc := readN_cut s
 have hsz : (s.extract 0 (readN s 60).2).size = (readN s 60).2 := by simp [ByteArray.size_extract]; omega
 simp only [logOk, recD, recC, h, if_true, app_nil, hc, hsz, decide_true, Bool.and_self]
end Go.Proofs.YtpndjhelpoenpaaGreatDoor
namespace Go.Proofs.YtpndjhelpoenpaaGreatDoor
open Go.RowKit
attribute [local go_sem ↓] Go.wp_at_zero Go.wp_at_succ
theorem sLogRecords_any (D P : BA) (z : Int) (hD : D.size ≤ 1048576) (hP : P.size ≤ 1048576) (w : World) :
  Calls Tryz.prog 59 #[.agg (lV D P z)] w fun e w' => ∃ A c, e = .returned (.tuple #[.slice A (lrN D P z) c, .bool (logOk D P z)]) ∧ lrN D P z ≤ c ∧ c ≤ maxLen ∧ OwnT w' w.heap.size w'.heap.size 70 2 A (lrN D P z) (lrF D P) ∧ bW w w' := by
 refine z79 ?_
 intro HAL
 have HC := lh (l27Log_any D P z hD hP (w.alloc (.cells (lV D P z) 33)))
 have hX : (w.alloc (.cells (lV D P z) 33)).heap[w.heap.size]? = some (.cells (lV D P z) 33 (0, 0)) := heap_alloc_new w _
 cases hk : logOk D P z with
 | false =>
  have e1 : lrN D P z = 0 := by simp [lrN, hk]
  rw [hk] at HC
  rw [e1]
  go_enter Tryz.func59, Tryz.ntmps59
  go_wp2_with fail
  refine HC.out.mono ?_
  rintro e w1 ⟨rfl, hb1⟩
  have B1 := HAL.trans (hb1.mono (by simp))
  clear HC HAL e1 hk hD hP hX
  go_wp2_with fail
  go_ret2
  exact ⟨_, 0, rfl, Nat.le_refl _, by unfold maxLen; omega, OwnT.none_ nL, by first | exact B1 | exact B1.alloc B1.size _⟩
 | true =>
  have e1 : lrN D P z = (readN (D ++ P) 60).1.length := by simp [lrN, hk]
  have hsz := logOk_size hk
  have hsum : D.size + P.size ≤ 4000000 := by omega
  have hszt : (D ++ P).size ≤ 4000000 := by rw [size_app]; omega
  have HR := lh (fun W => l27Open_any (D ++ P) hszt W)
  rw [hk] at HC
  rw [e1]
  go_enter Tryz.func59, Tryz.ntmps59
  go_wp2_with fail
  refine HC.out.mono ?_
  rintro e w1 ⟨rfl, hb1⟩
  have B1 := HAL.trans (hb1.mono (by simp))
  obtain ⟨l0, l1, l2, _, _, _⟩ := row3 (rowB hX hb1)
  clear HC HAL e1 hk hD hP hX hsz hszt
  go_wp2_with fail
  refine (HR.out w1).mono ?_
  rintro e w2 ⟨v, rfl, hown, hb2⟩
  have B2 := below_of B1 hb2 B1.size
  obtain ⟨A, c, rfl, hc1, hc2, ho⟩ := own_rec hown
  have HO := lh (ho.lo_le (lo' := w.heap.size) B1.size)
  clear hown ho hb2 HR
  go_wp2_with fail
  go_ret2
  exact ⟨A, c, rfl, hc1, hc2, HO.out, B2⟩
end Go.Proofs.YtpndjhelpoenpaaGreatDoor
namespace Go.Proofs.YtpndjhelpoenpaaGreatDoor
open Go.RowKit
theorem flatR_app (A B : List (ByteArray × ByteArray)) : flatR (A ++ B) = flatR A ++ flatR B := by
 induction A with
 | nil => rfl
 | cons e A ih => simp [flatR, ih]
theorem flatR_len (A : List (ByteArray × ByteArray)) : (flatR A).length = A.length * 2 := by
 induction A with
 | nil => rfl
 | cons e A ih => simp only [flatR, List.length_cons, ih]; omega
end Go.Proofs.YtpndjhelpoenpaaGreatDoor
namespace Go.Proofs.YtpndjhelpoenpaaGreatDoor
open Go.RowKit
structure CS where
 f : Nat → Int
 n : Nat
 I : Int
 H : Int
 S : Int
 P : Int
 D : ByteArray
 Q : ByteArray
 z : Int
noncomputable section
def CS.next (c : CS) (s : ByteArray) : CS := ⟨lf (xcL c.f c.n c.I c.H c.S c.P c.D c.Q c.z s), xcN c.f c.n c.I c.H c.S c.P c.D c.Q c.z s, xcI c.f c.n c.I c.H c.S c.P c.D c.Q c.z s, xcH c.f c.n c.I c.H c.S c.P c.D c.Q c.z s, xcS c.f c.n c.I c.H c.S c.P c.D c.Q c.z s, xcP c.f c.n c.I c.H c.S c.P c.D c.Q c.z s, c.D, xcQ c.f c.n c.I c.H c.S c.P c.D c.Q c.z s, xcZ c.f c.n c.I c.H c.S c.P c.D c.Q c.z s⟩
def CS.rep (c : CS) (s : ByteArray) : ByteArray := xcR c.f c.n c.I c.H c.S c.P c.D c.Q c.z s
def CS.good (c : CS) : Bool := goodWorks c.f c.n c.I c.H c.S c.P && logOk c.D c.Q c.z
def csN (c : CS) (ws : Nat → ByteArray) : Nat → CS
 | 0 => c
 | k + 1 => (csN c ws k).next (ws k)
def rpN (c : CS) (ws : Nat → ByteArray) (k : Nat) : ByteArray := (csN c ws k).rep (ws k)
def rpL (c : CS) (ws : Nat → ByteArray) (k : Nat) : List ByteArray := (List.range k).map (rpN c ws)
def lnV (s : ByteArray) (j : Nat) : ByteArray := (wordsV 10 s).getD j ⟨#[]⟩
def scOk (c : CS) (s : ByteArray) : Bool := c.good && (decide (s.size ≤ 4000) && decide ((wordsV 10 s).length ≤ 30))
def scL (c : CS) (s : ByteArray) : List ByteArray := if scOk c s then rpL c (lnV s) (wordsV 10 s).length else []
end
def Fit (c : CS) : Prop := c.n ≤ 1048576 ∧ c.D.size ≤ 1048576 ∧ c.Q.size ≤ 1048576
theorem lnV_size (s : ByteArray) (j : Nat) : (lnV s j).size ≤ s.size := by
 unfold lnV
 by_cases h : j < (wordsV 10 s).length
 ·rw [List.getD_eq_getElem?_getD, List.getElem?_eq_getElem h]
  exact wordsV_size (List.getElem_mem h)
 exact z288
theorem apP_size {D P : ByteArray} {z : Int} {c r : ByteArray} (h : P.size ≤ 1048576) : (apP D P z c r).size ≤ 1048576 := by
 unfold apP
 split
 ·rename_i hk
  rw [apT, Bool.and_eq_true, Bool.and_eq_true, decide_eq_true_eq] at hk
  have h1 := logOk_size hk.1.1
  have h2 := logOk_cnt hk.1.1
  have h3 := lineB_size (k := z) (c := c) (r := r) (by omega) (by omega) hk.1.2
  rw [ByteArray.size_append]
  omega
 ·exact h
theorem Fit.next {c : CS} (h : Fit c) (s : ByteArray) : Fit (c.next s) := by
 refine ⟨xcN_len h.1, h.2.1, ?_⟩
 show (xcQ c.f c.n c.I c.H c.S c.P c.D c.Q c.z s).size ≤ 1048576
 unfold xcQ
 split
 ·have hx : (xcT c.f c.n c.I c.H c.S c.P s).size ≤ 200 := longV_size _
  exact apP_size h.2.2
 ·exact h.2.2
theorem Fit.csN {c : CS} (h : Fit c) (ws : Nat → ByteArray) : ∀ k, Fit (csN c ws k)
 | 0 => h
 | k + 1 => (Fit.csN h ws k).next (ws k)
theorem exec_cs (c : CS) (hc : Fit c) (A : Option Addr) (cp lo hi : Nat) (s : ByteArray) (hsz : s.size ≤ 1048576) (w : World) (hs : Sl w lo hi 4 A c.n c.f) (hnc : c.n ≤ cp) (hnone : A = none → c.n = 0 ∧ cp = 0) (ht : Tab w) (hm : Mx w) (he : Er w) :
  Calls Tryz.prog 12 #[.agg (cB A c.n cp c.I c.H c.S c.P c.D c.Q c.z), .string s] w fun e w' => ∃ (A' : Option Addr) (c' : Nat) (L : List Int), (c.next s).f = lf L ∧ e = .returned (.tuple #[.agg (cB A' (c.next s).n c' (c.next s).I (c.next s).H (c.next s).S (c.next s).P (c.next s).D (c.next s).Q (c.next s).z), .string (c.rep s)]) ∧ (c.next s).n ≤ c' ∧ w'.ownsRow w.heap.size 97 4 (.slice A' (c.next s).n c') (c.next s).n (L.map (Value.int .i64)) ∧ bW w w' := by
 refine (ExecuteCommand_any A c.n cp lo hi c.f c.I c.H c.S c.P c.D c.Q c.z s w hs hc.1 hnc hnone hc.2.1 hc.2.2 hsz ht hm he).mono ?_
 rintro e w' ⟨A', c', rfl, h1, h2, h3⟩
 exact ⟨A', c', _, rfl, rfl, h1, h2, h3⟩
theorem sExec_cs (c : CS) (hc : Fit c) (A : Option Addr) (cp lo hi : Nat) (s : ByteArray) (hsz : s.size ≤ 1048576) (w : World) (hs : Sl w lo hi 4 A c.n c.f) (hnc : c.n ≤ cp) (hnone : A = none → c.n = 0 ∧ cp = 0) :
  Calls Tryz.prog 10 #[.agg (cB A c.n cp c.I c.H c.S c.P c.D c.Q c.z), .string s] w fun e w' => ∃ (A' : Option Addr) (c' : Nat) (L : List Int), (c.next s).f = lf L ∧ e = .returned (.tuple #[.agg (cB A' (c.next s).n c' (c.next s).I (c.next s).H (c.next s).S (c.next s).P (c.next s).D (c.next s).Q (c.next s).z), .string (c.rep s)]) ∧ (c.next s).n ≤ c' ∧ w'.ownsRow w.heap.size 97 4 (.slice A' (c.next s).n c') (c.next s).n (L.map (Value.int .i64)) ∧ bW w w' := by
 refine (sExecuteCommand_any A c.n cp lo hi c.f c.I c.H c.S c.P c.D c.Q c.z s w hs hc.1 hnc hnone hc.2.1 hc.2.2 hsz).mono ?_
 rintro e w' ⟨A', c', rfl, h1, h2, h3⟩
 exact ⟨A', c', _, rfl, rfl, h1, h2, h3⟩
end Go.Proofs.YtpndjhelpoenpaaGreatDoor
namespace Go.Proofs.YtpndjhelpoenpaaGreatDoor
open Go.RowKit
attribute [local go_sem ↓] Go.wp_at_zero Go.wp_at_succ
theorem grow_of {a b : World} {r : Option Nat} (k : bW a b) : a.grownBy b r := ⟨k.os, k.tape, k.output, k.size, fun i hi _ => k.block i hi⟩
def ScPost (c : CS) (s : ByteArray) (w : World) (e : Ending) (w' : World) : Prop :=
 ∃ v, e = .returned (.tuple #[v, .bool (scOk c s)]) ∧ w'.ownsRow w.heap.size 9 1 v (scL c s).length ((scL c s).map Value.string) ∧ bW w w'
end Go.Proofs.YtpndjhelpoenpaaGreatDoor
