/-
  The reference's StepWorks.
-/
import Derived.Test.YtjkockhldaacbaaDoorPk1
import Derived.Test.YtjkockhldaacbaaDoorMakeW
import Derived.Test.YtjkockhldaacbaaDoorPanT
import Derived.Test.YtjkockhldaacbaaDoorPanK
import Derived.Test.YtjkockhldaacbaaDoorPanL
import Derived.BigGuardPart
namespace Go.Proofs.YtjkockhldaacbaaDoor
open Go.RowKit Go.Sort
set_option linter.unusedVariables false
set_option linter.unusedSimpArgs false
attribute [local go_sem ↓] Go.wp_at_zero Go.wp_at_succ

/-- The place of a pan. -/
def atN (f : Nat → Int) (n : Nat) (id : Int) : Nat := (findV (pid f) id n 0).toNat
/-- Is the step one that these works allow? -/
def stV (f : Nat → Int) (n : Nat) (kd id tt0 z : Int) : Bool :=
  if kd = 1 then inR id 1 99 && (decide (findV (pid f) id n 0 < 0) && (decide (tt0 = 0) && inR z 1 100000))
  else if kd = 2 ∨ kd = 4 ∨ kd = 5 then decide (0 ≤ findV (pid f) id n 0) && (decide (tt0 = 0) && decide (1 ≤ z))
  else if kd = 3 then decide (0 ≤ findV (pid f) id n 0) && (decide (0 ≤ findV (pid f) tt0 n 0) && (decide (tt0 ≠ id) && decide (1 ≤ z)))
  else if kd = 6 then decide (id = 0) && (decide (tt0 = 0) && decide (1 ≤ z))
  else decide (kd = 7) && (decide (0 ≤ findV (pid f) id n 0) && (decide (tt0 = 0) && decide (z = 0)))
def stL (f : Nat → Int) (n : Nat) (kd id tt0 z : Int) : List Int :=
  if kd = 1 then buildL f n (placeV f id n 0) id z
  else if kd = 2 then cellsL (setB f (atN f n id) (wrap64 (f (atN f n id * 4 + 2) + wrap64 (z - takeV z))) (wrap64 (f (atN f n id * 4 + 3) + takeV z))) n
  else if kd = 3 then cellsL (leadF f (atN f n id) (atN f n tt0) z) n
  else if kd = 4 then cellsL (setB f (atN f n id) (wrap64 (f (atN f n id * 4 + 2) - z)) (f (atN f n id * 4 + 3))) n
  else if kd = 5 then cellsL (setB f (atN f n id) (f (atN f n id * 4 + 2)) (wrap64 (f (atN f n id * 4 + 3) - z))) n
  else if kd = 6 then cellsL f n
  else shutL f n (atN f n id)
def stN (n : Nat) (kd : Int) : Nat := if kd = 1 then n + 1 else if kd = 7 then n - 1 else n
def stI (I kd z : Int) : Int := if kd = 2 then wrap64 (I + takeV z) else I
def stH (H kd z : Int) : Int := if kd = 5 then wrap64 (H + z) else if kd = 6 then wrap64 (H - z) else H
def stS (S kd z : Int) : Int := if kd = 6 then wrap64 (S + z) else S
def stP (f : Nat → Int) (n : Nat) (P kd id : Int) : Int := if kd = 7 then wrap64 (P + f (atN f n id * 4 + 3)) else P
def stM (f : Nat → Int) (n : Nat) (kd id z : Int) : Bool := if kd = 3 then leadOk f (atN f n id) z else if kd = 5 then mayV (f (atN f n id * 4 + 2)) (f (atN f n id * 4 + 3)) else true
def stG (f : Nat → Int) (n : Nat) (I H S P kd id tt0 z : Int) : Bool := goodWorks (lf (stL f n kd id tt0 z)) (stN n kd) (stI I kd z) (stH H kd z) (stS S kd z) (stP f n P kd id)
def mkOk (f : Nat → Int) (n : Nat) (I H S P kd id tt0 z : Int) : Bool := decide (z ≤ 1000000) && (stM f n kd id z && stG f n I H S P kd id tt0 z)
def stOk (f : Nat → Int) (n : Nat) (I H S P kd id tt0 z : Int) : Bool := goodWorks f n I H S P && (stV f n kd id tt0 z && mkOk f n I H S P kd id tt0 z)

/-- What StepWorks returns: the new works, or none. -/
def stepPost (w : World) (f : Nat → Int) (n : Nat) (I H S P kd id tt0 z : Int) (ok : Bool) (e : Ending) (w' : World) : Prop :=
  panPostL w (if ok then stL f n kd id tt0 z else []) (if ok then stN n kd else 0) (if ok then stI I kd z else 0) (if ok then stH H kd z else 0) (if ok then stS S kd z else 0) (if ok then stP f n P kd id else 0) ok e w'
theorem stepPost_no {w w' : World} {f : Nat → Int} {n : Nat} {I H S P kd id tt0 z : Int} (hb : Below w.heap.size w w') :
    stepPost w f n I H S P kd id tt0 z false (.returned (.tuple #[.agg #[.slice none 0 0, .int .i64 0, .int .i64 0, .int .i64 0, .int .i64 0], .bool false])) w' :=
  ⟨none, 0, rfl, Nat.le_refl _, by unfold maxLen; omega, by simpa using World.ownsRow_nil w' w.heap.size 48 4, hb⟩
theorem stepPost_yes {w w' : World} {f : Nat → Int} {n m c' : Nat} {A' : Option Addr} {L : List Int} {I H S P kd id tt0 z I' H' S' P' : Int}
    (h : L = stL f n kd id tt0 z ∧ m = stN n kd ∧ I' = stI I kd z ∧ H' = stH H kd z ∧ S' = stS S kd z ∧ P' = stP f n P kd id) (h1 : m ≤ c') (h2 : c' ≤ maxLen)
    (ho : w'.ownsRow w.heap.size 48 4 (.slice A' m c') m (L.map (Value.int .i64))) (hb : Below w.heap.size w w') :
    stepPost w f n I H S P kd id tt0 z true (.returned (.tuple #[.agg #[.slice A' m c', .int .i64 I', .int .i64 H', .int .i64 S', .int .i64 P'], .bool true])) w' := by
  obtain ⟨rfl, rfl, rfl, rfl, rfl, rfl⟩ := h
  exact ⟨A', c', rfl, h1, h2, ho, hb⟩
set_option maxRecDepth 100000 in
set_option maxHeartbeats 2000000 in
theorem l25Step_any (A : Option Addr) (n c lo hi : Nat) (f : Nat → Int) (I H S P : Int) (kd id tt0 z : Int) (w : World) (hs : Sl w lo hi 4 A n f) (hn : n ≤ 1048576) (hnc : n ≤ c) :
    Calls Tryd.prog 84 #[.agg #[.slice A n c, .int .i64 I, .int .i64 H, .int .i64 S, .int .i64 P], .agg #[.int .i64 kd, .int .i64 id, .int .i64 tt0, .int .i64 z]] w fun e w' => e = .returned (.bool (stV f n kd id tt0 z)) ∧ Below w.heap.size w w' := by
  have hX2 : Below w.heap.size w ((w.alloc (.cells #[.slice A n c, .int .i64 I, .int .i64 H, .int .i64 S, .int .i64 P] 26)).alloc (.cells #[.int .i64 kd, .int .i64 id, .int .i64 tt0, .int .i64 z] 34)) := ((Below.refl _ w).alloc (Nat.le_refl _) _).alloc (by simp) _
  have HX := Lib.hid hX2
  clear hX2
  have HF : Hid (∀ w', Below ((w.alloc (.cells #[.slice A n c, .int .i64 I, .int .i64 H, .int .i64 S, .int .i64 P] 26)).alloc (.cells #[.int .i64 kd, .int .i64 id, .int .i64 tt0, .int .i64 z] 34)).heap.size ((w.alloc (.cells #[.slice A n c, .int .i64 I, .int .i64 H, .int .i64 S, .int .i64 P] 26)).alloc (.cells #[.int .i64 kd, .int .i64 id, .int .i64 tt0, .int .i64 z] 34)) w' → w'.cell? ⟨w.heap.size, 0, none⟩ = some (.slice A n c) ∧ w'.cell? ⟨w.heap.size, 1, none⟩ = some (.int .i64 I) ∧ w'.cell? ⟨w.heap.size, 2, none⟩ = some (.int .i64 H) ∧ w'.cell? ⟨w.heap.size, 3, none⟩ = some (.int .i64 S) ∧ w'.cell? ⟨w.heap.size, 4, none⟩ = some (.int .i64 P) ∧ w'.cell? ⟨w.heap.size + 1, 0, none⟩ = some (.int .i64 kd) ∧ w'.cell? ⟨w.heap.size + 1, 1, none⟩ = some (.int .i64 id) ∧ w'.cell? ⟨w.heap.size + 1, 2, none⟩ = some (.int .i64 tt0) ∧ w'.cell? ⟨w.heap.size + 1, 3, none⟩ = some (.int .i64 z)) := fun w' hq => ⟨(hq.cell (p := ⟨w.heap.size, 0, none⟩) (by simp; omega)).trans (by go_simp), (hq.cell (p := ⟨w.heap.size, 1, none⟩) (by simp; omega)).trans (by go_simp), (hq.cell (p := ⟨w.heap.size, 2, none⟩) (by simp; omega)).trans (by go_simp), (hq.cell (p := ⟨w.heap.size, 3, none⟩) (by simp; omega)).trans (by go_simp), (hq.cell (p := ⟨w.heap.size, 4, none⟩) (by simp; omega)).trans (by go_simp), (hq.cell (p := ⟨w.heap.size + 1, 0, none⟩) (by simp)).trans (by go_simp), (hq.cell (p := ⟨w.heap.size + 1, 1, none⟩) (by simp)).trans (by go_simp), (hq.cell (p := ⟨w.heap.size + 1, 2, none⟩) (by simp)).trans (by go_simp), (hq.cell (p := ⟨w.heap.size + 1, 3, none⟩) (by simp)).trans (by go_simp)⟩
  have HSW : Hid (∀ w', Below ((w.alloc (.cells #[.slice A n c, .int .i64 I, .int .i64 H, .int .i64 S, .int .i64 P] 26)).alloc (.cells #[.int .i64 kd, .int .i64 id, .int .i64 tt0, .int .i64 z] 34)).heap.size ((w.alloc (.cells #[.slice A n c, .int .i64 I, .int .i64 H, .int .i64 S, .int .i64 P] 26)).alloc (.cells #[.int .i64 kd, .int .i64 id, .int .i64 tt0, .int .i64 z] 34)) w' → Sl w' lo hi 4 A n f) := fun w' hq => hs.below (HX.out.trans (hq.mono HX.out.size))
  clear hs
  go_enter Tryd.func84, Tryd.ntmps84
  go_wp2_with fail
  refine (l25Find_any A n c lo hi f I H S P id _ (HSW.out _ (Below.refl _ _)) hn hnc).mono ?_
  rintro e w1 ⟨rfl, hb1⟩
  obtain ⟨b0, b1, b2, b3, b4, s0, s1, s2, s3⟩ := HF.out w1 hb1
  have B1 := HX.out.trans (hb1.mono HX.out.size)
  obtain ⟨at', hat⟩ : ∃ at', at' = findV (pid f) id n 0 := ⟨_, rfl⟩
  rw [← hat]
  have HAT := Lib.hid hat
  clear hat
  by_cases k1 : kd = 1
  · subst k1
    cases c1 : inR id 1 99 with
    | false =>
      go_wp2_with (go_at_call 71; refine (l1In_any _ _ _ _).mono ?_; rintro e w2 ⟨rfl, rfl⟩)
      go_ret
      exact ⟨ret_bool (by rw [stV]; first | (simp [← HAT.out, c1]; done) | (simp [← HAT.out, c1]; intros; omega)), B1⟩
    | true =>
      by_cases c2 : at' < 0
      · skip
        by_cases c3 : tt0 = 0
        · skip
          have c3t : (tt0 == 0) = true := by simp [c3]
          cases c4 : inR z 1 100000 with
          | false =>
            go_wp2_with (go_at_call 71; refine (l1In_any _ _ _ _).mono ?_; rintro e w2 ⟨rfl, rfl⟩)
            go_ret
            exact ⟨ret_bool (by rw [stV]; first | (simp [← HAT.out, c1, c2, c3, c4]; done) | (simp [← HAT.out, c1, c2, c3, c4]; intros; omega)), B1⟩
          | true =>
            go_wp2_with (go_at_call 71; refine (l1In_any _ _ _ _).mono ?_; rintro e w2 ⟨rfl, rfl⟩)
            go_ret
            exact ⟨ret_bool (by rw [stV]; first | (simp [← HAT.out, c1, c2, c3, c4]; done) | (simp [← HAT.out, c1, c2, c3, c4]; intros; omega)), B1⟩
        · skip
          have c3f : (tt0 == 0) = false := by simp [c3]
          go_wp2_with (go_at_call 71; refine (l1In_any _ _ _ _).mono ?_; rintro e w2 ⟨rfl, rfl⟩)
          go_ret
          exact ⟨ret_bool (by rw [stV]; first | (simp [← HAT.out, c1, c2, c3]; done) | (simp [← HAT.out, c1, c2, c3]; intros; omega)), B1⟩
      · skip
        go_wp2_with (go_at_call 71; refine (l1In_any _ _ _ _).mono ?_; rintro e w2 ⟨rfl, rfl⟩)
        go_ret
        exact ⟨ret_bool (by rw [stV]; first | (simp [← HAT.out, c1, c2]; done) | (simp [← HAT.out, c1, c2]; intros; omega)), B1⟩
  have k1f : (kd == 1) = false := by simp [k1]
  by_cases k2 : kd = 2
  · subst k2
    by_cases c2 : 0 ≤ at'
    · skip
      by_cases c3 : tt0 = 0
      · skip
        have c3t : (tt0 == 0) = true := by simp [c3]
        by_cases c4 : 1 ≤ z
        · skip
          go_wp2_with (go_at_call 71; refine (l1In_any _ _ _ _).mono ?_; rintro e w2 ⟨rfl, rfl⟩)
          go_ret
          exact ⟨ret_bool (by rw [stV]; first | (simp [← HAT.out, c2, c3, c4]; done) | (simp [← HAT.out, c2, c3, c4]; intros; omega)), B1⟩
        · skip
          go_wp2_with (go_at_call 71; refine (l1In_any _ _ _ _).mono ?_; rintro e w2 ⟨rfl, rfl⟩)
          go_ret
          exact ⟨ret_bool (by rw [stV]; first | (simp [← HAT.out, c2, c3, c4]; done) | (simp [← HAT.out, c2, c3, c4]; intros; omega)), B1⟩
      · skip
        have c3f : (tt0 == 0) = false := by simp [c3]
        go_wp2_with (go_at_call 71; refine (l1In_any _ _ _ _).mono ?_; rintro e w2 ⟨rfl, rfl⟩)
        go_ret
        exact ⟨ret_bool (by rw [stV]; first | (simp [← HAT.out, c2, c3]; done) | (simp [← HAT.out, c2, c3]; intros; omega)), B1⟩
    · skip
      go_wp2_with (go_at_call 71; refine (l1In_any _ _ _ _).mono ?_; rintro e w2 ⟨rfl, rfl⟩)
      go_ret
      exact ⟨ret_bool (by rw [stV]; first | (simp [← HAT.out, c2]; done) | (simp [← HAT.out, c2]; intros; omega)), B1⟩
  have k2f : (kd == 2) = false := by simp [k2]
  by_cases k4 : kd = 4
  · subst k4
    by_cases c2 : 0 ≤ at'
    · skip
      by_cases c3 : tt0 = 0
      · skip
        have c3t : (tt0 == 0) = true := by simp [c3]
        by_cases c4 : 1 ≤ z
        · skip
          go_wp2_with (go_at_call 71; refine (l1In_any _ _ _ _).mono ?_; rintro e w2 ⟨rfl, rfl⟩)
          go_ret
          exact ⟨ret_bool (by rw [stV]; first | (simp [← HAT.out, c2, c3, c4]; done) | (simp [← HAT.out, c2, c3, c4]; intros; omega)), B1⟩
        · skip
          go_wp2_with (go_at_call 71; refine (l1In_any _ _ _ _).mono ?_; rintro e w2 ⟨rfl, rfl⟩)
          go_ret
          exact ⟨ret_bool (by rw [stV]; first | (simp [← HAT.out, c2, c3, c4]; done) | (simp [← HAT.out, c2, c3, c4]; intros; omega)), B1⟩
      · skip
        have c3f : (tt0 == 0) = false := by simp [c3]
        go_wp2_with (go_at_call 71; refine (l1In_any _ _ _ _).mono ?_; rintro e w2 ⟨rfl, rfl⟩)
        go_ret
        exact ⟨ret_bool (by rw [stV]; first | (simp [← HAT.out, c2, c3]; done) | (simp [← HAT.out, c2, c3]; intros; omega)), B1⟩
    · skip
      go_wp2_with (go_at_call 71; refine (l1In_any _ _ _ _).mono ?_; rintro e w2 ⟨rfl, rfl⟩)
      go_ret
      exact ⟨ret_bool (by rw [stV]; first | (simp [← HAT.out, c2]; done) | (simp [← HAT.out, c2]; intros; omega)), B1⟩
  have k4f : (kd == 4) = false := by simp [k4]
  by_cases k5 : kd = 5
  · subst k5
    by_cases c2 : 0 ≤ at'
    · skip
      by_cases c3 : tt0 = 0
      · skip
        have c3t : (tt0 == 0) = true := by simp [c3]
        by_cases c4 : 1 ≤ z
        · skip
          go_wp2_with (go_at_call 71; refine (l1In_any _ _ _ _).mono ?_; rintro e w2 ⟨rfl, rfl⟩)
          go_ret
          exact ⟨ret_bool (by rw [stV]; first | (simp [← HAT.out, c2, c3, c4]; done) | (simp [← HAT.out, c2, c3, c4]; intros; omega)), B1⟩
        · skip
          go_wp2_with (go_at_call 71; refine (l1In_any _ _ _ _).mono ?_; rintro e w2 ⟨rfl, rfl⟩)
          go_ret
          exact ⟨ret_bool (by rw [stV]; first | (simp [← HAT.out, c2, c3, c4]; done) | (simp [← HAT.out, c2, c3, c4]; intros; omega)), B1⟩
      · skip
        have c3f : (tt0 == 0) = false := by simp [c3]
        go_wp2_with (go_at_call 71; refine (l1In_any _ _ _ _).mono ?_; rintro e w2 ⟨rfl, rfl⟩)
        go_ret
        exact ⟨ret_bool (by rw [stV]; first | (simp [← HAT.out, c2, c3]; done) | (simp [← HAT.out, c2, c3]; intros; omega)), B1⟩
    · skip
      go_wp2_with (go_at_call 71; refine (l1In_any _ _ _ _).mono ?_; rintro e w2 ⟨rfl, rfl⟩)
      go_ret
      exact ⟨ret_bool (by rw [stV]; first | (simp [← HAT.out, c2]; done) | (simp [← HAT.out, c2]; intros; omega)), B1⟩
  have k5f : (kd == 5) = false := by simp [k5]
  by_cases k3 : kd = 3
  · subst k3
    by_cases c2 : 0 ≤ at'
    · go_wp2_with fail
      refine (l25Find_any A n c lo hi f I H S P tt0 _ (HSW.out _ hb1) hn hnc).mono ?_
      rintro e w2 ⟨rfl, hb2⟩
      have hb12 := hb1.trans (hb2.mono hb1.size)
      clear b0 b1 b2 b3 b4 s0 s1 s2 s3
      obtain ⟨b0, b1, b2, b3, b4, s0, s1, s2, s3⟩ := HF.out w2 hb12
      have B1 := HX.out.trans (hb12.mono HX.out.size)
      obtain ⟨tk, htk⟩ : ∃ tk, tk = findV (pid f) tt0 n 0 := ⟨_, rfl⟩
      rw [← htk]
      have HTK := Lib.hid htk
      clear htk
      by_cases c3 : 0 ≤ tk
      · skip
        by_cases c4 : tt0 ≠ id
        · skip
          have c4t : (tt0 == id) = false := by simp [c4]
          by_cases c5 : 1 ≤ z
          · skip
            go_wp2_with (go_at_call 71; refine (l1In_any _ _ _ _).mono ?_; rintro e w2 ⟨rfl, rfl⟩)
            go_ret
            exact ⟨ret_bool (by rw [stV]; first | (simp [← HAT.out, ← HTK.out, c2, c3, c4, c5]; done) | (simp [← HAT.out, ← HTK.out, c2, c3, c4, c5]; intros; omega)), B1⟩
          · skip
            go_wp2_with (go_at_call 71; refine (l1In_any _ _ _ _).mono ?_; rintro e w2 ⟨rfl, rfl⟩)
            go_ret
            exact ⟨ret_bool (by rw [stV]; first | (simp [← HAT.out, ← HTK.out, c2, c3, c4, c5]; done) | (simp [← HAT.out, ← HTK.out, c2, c3, c4, c5]; intros; omega)), B1⟩
        · skip
          have c4f : (tt0 == id) = true := by simp at c4; simp [c4]
          go_wp2_with (go_at_call 71; refine (l1In_any _ _ _ _).mono ?_; rintro e w2 ⟨rfl, rfl⟩)
          go_ret
          exact ⟨ret_bool (by rw [stV]; first | (simp [← HAT.out, ← HTK.out, c2, c3, c4]; done) | (simp [← HAT.out, ← HTK.out, c2, c3, c4]; intros; omega)), B1⟩
      · skip
        go_wp2_with (go_at_call 71; refine (l1In_any _ _ _ _).mono ?_; rintro e w2 ⟨rfl, rfl⟩)
        go_ret
        exact ⟨ret_bool (by rw [stV]; first | (simp [← HAT.out, ← HTK.out, c2, c3]; done) | (simp [← HAT.out, ← HTK.out, c2, c3]; intros; omega)), B1⟩
    · skip
      go_wp2_with (go_at_call 71; refine (l1In_any _ _ _ _).mono ?_; rintro e w2 ⟨rfl, rfl⟩)
      go_ret
      exact ⟨ret_bool (by rw [stV]; first | (simp [← HAT.out, c2]; done) | (simp [← HAT.out, c2]; intros; omega)), B1⟩
  have k3f : (kd == 3) = false := by simp [k3]
  by_cases k6 : kd = 6
  · subst k6
    by_cases c2 : id = 0
    · skip
      have c2t : (id == 0) = true := by simp [c2]
      by_cases c3 : tt0 = 0
      · skip
        have c3t : (tt0 == 0) = true := by simp [c3]
        by_cases c4 : 1 ≤ z
        · skip
          go_wp2_with (go_at_call 71; refine (l1In_any _ _ _ _).mono ?_; rintro e w2 ⟨rfl, rfl⟩)
          go_ret
          exact ⟨ret_bool (by rw [stV]; first | (simp [← HAT.out, c2, c3, c4]; done) | (simp [← HAT.out, c2, c3, c4]; intros; omega)), B1⟩
        · skip
          go_wp2_with (go_at_call 71; refine (l1In_any _ _ _ _).mono ?_; rintro e w2 ⟨rfl, rfl⟩)
          go_ret
          exact ⟨ret_bool (by rw [stV]; first | (simp [← HAT.out, c2, c3, c4]; done) | (simp [← HAT.out, c2, c3, c4]; intros; omega)), B1⟩
      · skip
        have c3f : (tt0 == 0) = false := by simp [c3]
        go_wp2_with (go_at_call 71; refine (l1In_any _ _ _ _).mono ?_; rintro e w2 ⟨rfl, rfl⟩)
        go_ret
        exact ⟨ret_bool (by rw [stV]; first | (simp [← HAT.out, c2, c3]; done) | (simp [← HAT.out, c2, c3]; intros; omega)), B1⟩
    · skip
      have c2f : (id == 0) = false := by simp [c2]
      go_wp2_with (go_at_call 71; refine (l1In_any _ _ _ _).mono ?_; rintro e w2 ⟨rfl, rfl⟩)
      go_ret
      exact ⟨ret_bool (by rw [stV]; first | (simp [← HAT.out, c2]; done) | (simp [← HAT.out, c2]; intros; omega)), B1⟩
  have k6f : (kd == 6) = false := by simp [k6]
  by_cases k7 : kd = 7
  · subst k7
    by_cases c2 : 0 ≤ at'
    · skip
      have c2f : decide (0 ≤ at') = true := decide_eq_true c2
      by_cases c3 : tt0 = 0
      · skip
        have c3t : (tt0 == 0) = true := by simp [c3]
        by_cases c4 : z = 0
        · skip
          have c4t : (z == 0) = true := by simp [c4]
          go_wp2_with (go_at_call 71; refine (l1In_any _ _ _ _).mono ?_; rintro e w2 ⟨rfl, rfl⟩)
          go_ret
          exact ⟨ret_bool (by rw [stV]; first | (simp [← HAT.out, c2, c3, c4]; done) | (simp [← HAT.out, c2, c3, c4]; intros; omega)), B1⟩
        · skip
          have c4f : (z == 0) = false := by simp [c4]
          go_wp2_with (go_at_call 71; refine (l1In_any _ _ _ _).mono ?_; rintro e w2 ⟨rfl, rfl⟩)
          go_ret
          exact ⟨ret_bool (by rw [stV]; first | (simp [← HAT.out, c2, c3, c4]; done) | (simp [← HAT.out, c2, c3, c4]; intros; omega)), B1⟩
      · skip
        have c3f : (tt0 == 0) = false := by simp [c3]
        go_wp2_with (go_at_call 71; refine (l1In_any _ _ _ _).mono ?_; rintro e w2 ⟨rfl, rfl⟩)
        go_ret
        exact ⟨ret_bool (by rw [stV]; first | (simp [← HAT.out, c2, c3]; done) | (simp [← HAT.out, c2, c3]; intros; omega)), B1⟩
    · skip
      have c2f : decide (0 ≤ at') = false := decide_eq_false c2
      have c2g : at' < 0 := by omega
      go_wp2_with (go_at_call 71; refine (l1In_any _ _ _ _).mono ?_; rintro e w2 ⟨rfl, rfl⟩)
      go_ret
      exact ⟨ret_bool (by rw [stV]; first | (simp [← HAT.out, c2]; done) | (simp [← HAT.out, c2]; intros; omega)), B1⟩
  have k7f : (kd == 7) = false := by simp [k7]
  go_wp2_with (go_at_call 71; refine (l1In_any _ _ _ _).mono ?_; rintro e w2 ⟨rfl, rfl⟩)
  go_ret
  exact ⟨ret_bool (by rw [stV]; first | (simp [← HAT.out, k1, k2, k3, k4, k5, k6, k7]; done) | (simp [← HAT.out, k1, k2, k3, k4, k5, k6, k7]; intros; omega)), B1⟩
theorem l25Make_any (A : Option Addr) (n c lo hi : Nat) (f : Nat → Int) (I H S P : Int) (kd id tt0 z : Int) (w : World) (hs : Sl w lo hi 4 A n f) (hn : n ≤ 1048576) (hnc : n ≤ c) (hnone : A = none → n = 0 ∧ c = 0) (hform : ∀ ad, A = some ad → ∃ b off, ad = ⟨b, off, none⟩) (hn6 : n ≤ 6) (hv : stV f n kd id tt0 z = true) :
    Calls Tryd.prog 39 #[.agg #[.slice A n c, .int .i64 I, .int .i64 H, .int .i64 S, .int .i64 P], .agg #[.int .i64 kd, .int .i64 id, .int .i64 tt0, .int .i64 z]] w (fun e w' => ∃ L m I' H' S' P', (mkOk f n I H S P kd id tt0 z = true → L = stL f n kd id tt0 z ∧ m = stN n kd ∧ I' = stI I kd z ∧ H' = stH H kd z ∧ S' = stS S kd z ∧ P' = stP f n P kd id) ∧ panPostL w L m I' H' S' P' (mkOk f n I H S P kd id tt0 z) e w') := by
  by_cases hz : 1000000 < z
  · refine (l25Make_big A n c lo hi f I H S P kd id tt0 z w hs hn hnc hnone hz).mono ?_
    intro e w' hp
    have hm : mkOk f n I H S P kd id tt0 z = false := by
      have : ¬ z ≤ 1000000 := by omega
      simp [mkOk, this]
    rw [hm]
    exact ⟨_, _, _, _, _, _, (fun h => by cases h), hp⟩
  have hz' : z ≤ 1000000 := by omega
  by_cases k1 : kd = 1
  · subst k1
    refine (l25Make_build A n c lo hi f I H S P id tt0 z w hs hn hnc hnone hform hz' (by omega)).mono ?_
    intro e w' hp
    refine ⟨_, _, _, _, _, _, fun _ => ⟨rfl, rfl, rfl, rfl, rfl, rfl⟩, ?_⟩
    simpa [mkOk, stM, stG, stL, stN, stI, stH, stS, stP, hz'] using hp
  by_cases k2 : kd = 2
  · subst k2
    have hc : 0 ≤ findV (pid f) id n 0 ∧ tt0 = 0 ∧ 1 ≤ z := by simpa [stV, and_assoc] using hv
    rcases findV_cases (pid f) id n 0 with ⟨h1, _⟩ | ⟨i, _, hii, hfd, _⟩
    · exfalso; omega
    have hi' : i < n := by omega
    have ha : atN f n id = i := by simp [atN, hfd]
    have h := l25Make_pan A n c lo hi f I H S P 2 id tt0 z i hi' w hs hn hnc (cellsL (setB f i (wrap64 (f (i * 4 + 2) + wrap64 (z - takeV z))) (wrap64 (f (i * 4 + 3) + takeV z))) n) n (wrap64 (I + takeV z)) H S P true hnone hfd (by omega) (by decide) (by decide) (by omega) (Lib.hid fun w1 hs1 => l25Pan_take A n c lo hi f I H S P id tt0 z i hi' w1 hs1 hn hnc)
    refine h.mono ?_
    intro e w' hp
    refine ⟨_, _, _, _, _, _, fun _ => ⟨rfl, rfl, rfl, rfl, rfl, rfl⟩, ?_⟩
    simpa [mkOk, stM, stG, stL, stN, stI, stH, stS, stP, ha, hz'] using hp
  by_cases k3 : kd = 3
  · subst k3
    have hc : 0 ≤ findV (pid f) id n 0 ∧ 0 ≤ findV (pid f) tt0 n 0 ∧ tt0 ≠ id ∧ 1 ≤ z := by simpa [stV, and_assoc] using hv
    rcases findV_cases (pid f) id n 0 with ⟨h1, _⟩ | ⟨i, _, hii, hfd, _⟩
    · exfalso; omega
    have hi' : i < n := by omega
    have ha : atN f n id = i := by simp [atN, hfd]
    rcases findV_cases (pid f) tt0 n 0 with ⟨h1, _⟩ | ⟨j, _, hjj, hfk, _⟩
    · exfalso; omega
    have hj' : j < n := by omega
    have hb : atN f n tt0 = j := by simp [atN, hfk]
    have h := l25Make_pan A n c lo hi f I H S P 3 id tt0 z i hi' w hs hn hnc (cellsL (leadF f i j z) n) n I H S P (leadOk f i z) hnone hfd (by omega) (by decide) (by decide) (by omega) (Lib.hid fun w1 hs1 => l25Pan_lead A n c lo hi f I H S P id tt0 z i j hi' hj' w1 hs1 hn hnc (by omega) hfk)
    refine h.mono ?_
    intro e w' hp
    refine ⟨_, _, _, _, _, _, fun _ => ⟨rfl, rfl, rfl, rfl, rfl, rfl⟩, ?_⟩
    simpa [mkOk, stM, stG, stL, stN, stI, stH, stS, stP, ha, hb, hz'] using hp
  by_cases k4 : kd = 4
  · subst k4
    have hc : 0 ≤ findV (pid f) id n 0 ∧ tt0 = 0 ∧ 1 ≤ z := by simpa [stV, and_assoc] using hv
    rcases findV_cases (pid f) id n 0 with ⟨h1, _⟩ | ⟨i, _, hii, hfd, _⟩
    · exfalso; omega
    have hi' : i < n := by omega
    have ha : atN f n id = i := by simp [atN, hfd]
    have h := l25Make_pan A n c lo hi f I H S P 4 id tt0 z i hi' w hs hn hnc (cellsL (setB f i (wrap64 (f (i * 4 + 2) - z)) (f (i * 4 + 3))) n) n I H S P true hnone hfd (by omega) (by decide) (by decide) (by omega) (Lib.hid fun w1 hs1 => l25Pan_dry A n c lo hi f I H S P id tt0 z i hi' w1 hs1 hn hnc)
    refine h.mono ?_
    intro e w' hp
    refine ⟨_, _, _, _, _, _, fun _ => ⟨rfl, rfl, rfl, rfl, rfl, rfl⟩, ?_⟩
    simpa [mkOk, stM, stG, stL, stN, stI, stH, stS, stP, ha, hz'] using hp
  by_cases k5 : kd = 5
  · subst k5
    have hc : 0 ≤ findV (pid f) id n 0 ∧ tt0 = 0 ∧ 1 ≤ z := by simpa [stV, and_assoc] using hv
    rcases findV_cases (pid f) id n 0 with ⟨h1, _⟩ | ⟨i, _, hii, hfd, _⟩
    · exfalso; omega
    have hi' : i < n := by omega
    have ha : atN f n id = i := by simp [atN, hfd]
    have h := l25Make_pan A n c lo hi f I H S P 5 id tt0 z i hi' w hs hn hnc (cellsL (setB f i (f (i * 4 + 2)) (wrap64 (f (i * 4 + 3) - z))) n) n I (wrap64 (H + z)) S P (mayV (f (i * 4 + 2)) (f (i * 4 + 3))) hnone hfd (by omega) (by decide) (by decide) (by omega) (Lib.hid fun w1 hs1 => l25Pan_rake A n c lo hi f I H S P id tt0 z i hi' w1 hs1 hn hnc)
    refine h.mono ?_
    intro e w' hp
    refine ⟨_, _, _, _, _, _, fun _ => ⟨rfl, rfl, rfl, rfl, rfl, rfl⟩, ?_⟩
    simpa [mkOk, stM, stG, stL, stN, stI, stH, stS, stP, ha, hz'] using hp
  by_cases k6 : kd = 6
  · subst k6
    refine (l25Make_ship A n c lo hi f I H S P id tt0 z w hs hn hnc hnone hz').mono ?_
    intro e w' hp
    refine ⟨_, _, _, _, _, _, fun _ => ⟨rfl, rfl, rfl, rfl, rfl, rfl⟩, ?_⟩
    simpa [mkOk, stM, stG, stL, stN, stI, stH, stS, stP, hz'] using hp
  by_cases k7 : kd = 7
  · subst k7
    have hc : 0 ≤ findV (pid f) id n 0 ∧ tt0 = 0 ∧ z = 0 := by simpa [stV, and_assoc] using hv
    rcases findV_cases (pid f) id n 0 with ⟨h1, _⟩ | ⟨i, _, hii, hfd, _⟩
    · exfalso; omega
    have hi' : i < n := by omega
    have ha : atN f n id = i := by simp [atN, hfd]
    have h := l25Make_pan A n c lo hi f I H S P 7 id tt0 z i hi' w hs hn hnc (shutL f n i) (n - 1) I H S (wrap64 (P + f (i * 4 + 3))) true hnone hfd (by omega) (by decide) (by decide) (by omega) (Lib.hid fun w1 hs1 => l25Pan_shut A n c lo hi f I H S P id tt0 z i hi' w1 hs1 hn hnc)
    refine h.mono ?_
    intro e w' hp
    refine ⟨_, _, _, _, _, _, fun _ => ⟨rfl, rfl, rfl, rfl, rfl, rfl⟩, ?_⟩
    simpa [mkOk, stM, stG, stL, stN, stI, stH, stS, stP, ha, hz'] using hp
  exfalso
  simp [stV, k1, k2, k3, k4, k5, k6, k7] at hv
set_option maxRecDepth 100000 in
set_option maxHeartbeats 2000000 in
theorem sStepWorks_any (A : Option Addr) (n c lo hi : Nat) (f : Nat → Int) (I H S P : Int) (kd id tt0 z : Int) (w : World) (hs : Sl w lo hi 4 A n f) (hn : n ≤ 1048576) (hnc : n ≤ c) (hnone : A = none → n = 0 ∧ c = 0) (hform : ∀ ad, A = some ad → ∃ b off, ad = ⟨b, off, none⟩) :
    Calls Tryd.prog 65 #[.agg #[.slice A n c, .int .i64 I, .int .i64 H, .int .i64 S, .int .i64 P], .agg #[.int .i64 kd, .int .i64 id, .int .i64 tt0, .int .i64 z]] w (stepPost w f n I H S P kd id tt0 z (stOk f n I H S P kd id tt0 z)) := by
  have hX3 : Below w.heap.size w (((w.alloc (.cells #[.slice A n c, .int .i64 I, .int .i64 H, .int .i64 S, .int .i64 P] 26)).alloc (.cells #[.int .i64 kd, .int .i64 id, .int .i64 tt0, .int .i64 z] 34)).alloc (.cells #[.slice none 0 0, .int .i64 0, .int .i64 0, .int .i64 0, .int .i64 0] 26)) := (((Below.refl _ w).alloc (Nat.le_refl _) _).alloc (by simp) _).alloc (by simp; omega) _
  have HX := Lib.hid hX3
  clear hX3
  have HF : Hid (∀ w', Below (((w.alloc (.cells #[.slice A n c, .int .i64 I, .int .i64 H, .int .i64 S, .int .i64 P] 26)).alloc (.cells #[.int .i64 kd, .int .i64 id, .int .i64 tt0, .int .i64 z] 34)).alloc (.cells #[.slice none 0 0, .int .i64 0, .int .i64 0, .int .i64 0, .int .i64 0] 26)).heap.size (((w.alloc (.cells #[.slice A n c, .int .i64 I, .int .i64 H, .int .i64 S, .int .i64 P] 26)).alloc (.cells #[.int .i64 kd, .int .i64 id, .int .i64 tt0, .int .i64 z] 34)).alloc (.cells #[.slice none 0 0, .int .i64 0, .int .i64 0, .int .i64 0, .int .i64 0] 26)) w' → w'.cell? ⟨w.heap.size, 0, none⟩ = some (.slice A n c) ∧ w'.cell? ⟨w.heap.size, 1, none⟩ = some (.int .i64 I) ∧ w'.cell? ⟨w.heap.size, 2, none⟩ = some (.int .i64 H) ∧ w'.cell? ⟨w.heap.size, 3, none⟩ = some (.int .i64 S) ∧ w'.cell? ⟨w.heap.size, 4, none⟩ = some (.int .i64 P) ∧ w'.cell? ⟨w.heap.size + 1, 0, none⟩ = some (.int .i64 kd) ∧ w'.cell? ⟨w.heap.size + 1, 1, none⟩ = some (.int .i64 id) ∧ w'.cell? ⟨w.heap.size + 1, 2, none⟩ = some (.int .i64 tt0) ∧ w'.cell? ⟨w.heap.size + 1, 3, none⟩ = some (.int .i64 z)) := fun w' hq => ⟨(hq.cell (p := ⟨w.heap.size, 0, none⟩) (by simp; omega)).trans (by go_simp), (hq.cell (p := ⟨w.heap.size, 1, none⟩) (by simp; omega)).trans (by go_simp), (hq.cell (p := ⟨w.heap.size, 2, none⟩) (by simp; omega)).trans (by go_simp), (hq.cell (p := ⟨w.heap.size, 3, none⟩) (by simp; omega)).trans (by go_simp), (hq.cell (p := ⟨w.heap.size, 4, none⟩) (by simp; omega)).trans (by go_simp), (hq.cell (p := ⟨w.heap.size + 1, 0, none⟩) (by simp)).trans (by go_simp), (hq.cell (p := ⟨w.heap.size + 1, 1, none⟩) (by simp)).trans (by go_simp), (hq.cell (p := ⟨w.heap.size + 1, 2, none⟩) (by simp)).trans (by go_simp), (hq.cell (p := ⟨w.heap.size + 1, 3, none⟩) (by simp)).trans (by go_simp)⟩
  have HSW : Hid (∀ w', Below (((w.alloc (.cells #[.slice A n c, .int .i64 I, .int .i64 H, .int .i64 S, .int .i64 P] 26)).alloc (.cells #[.int .i64 kd, .int .i64 id, .int .i64 tt0, .int .i64 z] 34)).alloc (.cells #[.slice none 0 0, .int .i64 0, .int .i64 0, .int .i64 0, .int .i64 0] 26)).heap.size (((w.alloc (.cells #[.slice A n c, .int .i64 I, .int .i64 H, .int .i64 S, .int .i64 P] 26)).alloc (.cells #[.int .i64 kd, .int .i64 id, .int .i64 tt0, .int .i64 z] 34)).alloc (.cells #[.slice none 0 0, .int .i64 0, .int .i64 0, .int .i64 0, .int .i64 0] 26)) w' → Sl w' lo hi 4 A n f) := fun w' hq => hs.below (HX.out.trans (hq.mono HX.out.size))
  clear hs
  have hr3 : (((w.alloc (.cells #[.slice A n c, .int .i64 I, .int .i64 H, .int .i64 S, .int .i64 P] 26)).alloc (.cells #[.int .i64 kd, .int .i64 id, .int .i64 tt0, .int .i64 z] 34)).alloc (.cells #[.slice none 0 0, .int .i64 0, .int .i64 0, .int .i64 0, .int .i64 0] 26)).heap[w.heap.size + 1 + 1]? = some (.cells #[.slice none 0 0, .int .i64 0, .int .i64 0, .int .i64 0, .int .i64 0] 26) := by have := heap_alloc_new ((w.alloc (.cells #[.slice A n c, .int .i64 I, .int .i64 H, .int .i64 S, .int .i64 P] 26)).alloc (.cells #[.int .i64 kd, .int .i64 id, .int .i64 tt0, .int .i64 z] 34)) (.cells #[.slice none 0 0, .int .i64 0, .int .i64 0, .int .i64 0, .int .i64 0] 26); simpa using this
  have HR3 := Lib.hid hr3
  clear hr3
  cases hg : goodWorks f n I H S P with
  | false =>
    have ho : stOk f n I H S P kd id tt0 z = false := by simp [stOk, hg]
    rw [ho]
    go_enter Tryd.func65, Tryd.ntmps65
    go_wp2_with fail
    refine (l25Good_any A n c lo hi f I H S P _ (HSW.out _ (Below.refl _ _)) hn hnc).mono ?_
    rw [hg]
    rintro e w1 ⟨rfl, hb1⟩
    have hr1 := (hb1.block (w.heap.size + 1 + 1) (Array.getElem?_eq_some_iff.1 HR3.out).1).trans HR3.out
    have B1 := HX.out.trans (hb1.mono HX.out.size)
    clear hb1
    obtain ⟨r0, r1, r2, r3, r4⟩ := cells5 hr1
    have rf : ∀ j, w1.frozen? ⟨w.heap.size + 1 + 1, j, none⟩ = false := fun j => frozen_of_row w1 (w.heap.size + 1 + 1) j _ _ hr1
    have HBW := Lib.hid B1
    clear hr1
    go_wp2
    obtain ⟨wq, hwq⟩ : ∃ wq, wq = (((((w1.setCell ⟨w.heap.size + 1 + 1, 0, none⟩ (.slice none 0 0)).setCell ⟨w.heap.size + 1 + 1, 1, none⟩ (.int .i64 0)).setCell ⟨w.heap.size + 1 + 1, 2, none⟩ (.int .i64 0)).setCell ⟨w.heap.size + 1 + 1, 3, none⟩ (.int .i64 0)).setCell ⟨w.heap.size + 1 + 1, 4, none⟩ (.int .i64 0)) := ⟨_, rfl⟩
    rw [← hwq]
    have u0 : wq.cell? ⟨w.heap.size + 1 + 1, 0, none⟩ = some (.slice none 0 0) := by rw [hwq]; go_simp
    have u1 : wq.cell? ⟨w.heap.size + 1 + 1, 1, none⟩ = some (.int .i64 0) := by rw [hwq]; go_simp
    have u2 : wq.cell? ⟨w.heap.size + 1 + 1, 2, none⟩ = some (.int .i64 0) := by rw [hwq]; go_simp
    have u3 : wq.cell? ⟨w.heap.size + 1 + 1, 3, none⟩ = some (.int .i64 0) := by rw [hwq]; go_simp
    have u4 : wq.cell? ⟨w.heap.size + 1 + 1, 4, none⟩ = some (.int .i64 0) := by rw [hwq]; go_simp
    have hBq : Below w.heap.size w wq := by
      rw [hwq]
      exact (((((HBW.out.setCell (show w.heap.size ≤ w.heap.size + 1 + 1 by omega) _).setCell (show w.heap.size ≤ w.heap.size + 1 + 1 by omega) _).setCell (show w.heap.size ≤ w.heap.size + 1 + 1 by omega) _).setCell (show w.heap.size ≤ w.heap.size + 1 + 1 by omega) _).setCell (show w.heap.size ≤ w.heap.size + 1 + 1 by omega) _)
    clear hwq
    try simp only [Exit.inBlock, Exit.then]
    refine bodyPost_ret (by simp [results, Tryd.results65, go_sem, u0, u1, u2, u3, u4]; try rfl) rfl ?_
    first | exact stepPost_no hBq | (rw [hmk]; exact stepPost_no hBq)
  | true =>
  have hn6 := good_len hg
  cases hv : stV f n kd id tt0 z with
  | false =>
    have ho : stOk f n I H S P kd id tt0 z = false := by simp [stOk, hv]
    rw [ho]
    go_enter Tryd.func65, Tryd.ntmps65
    go_wp2_with fail
    refine (l25Good_any A n c lo hi f I H S P _ (HSW.out _ (Below.refl _ _)) hn hnc).mono ?_
    rw [hg]
    rintro e w1 ⟨rfl, hb1⟩
    obtain ⟨b0, b1, b2, b3, b4, s0, s1, s2, s3⟩ := HF.out w1 hb1
    go_wp2_with fail
    refine (l25Step_any A n c lo hi f I H S P kd id tt0 z _ (HSW.out _ hb1) hn hnc).mono ?_
    rw [hv]
    rintro e w2 ⟨rfl, hb2⟩
    have hb12 := hb1.trans (hb2.mono hb1.size)
    have hr1 := (hb12.block (w.heap.size + 1 + 1) (Array.getElem?_eq_some_iff.1 HR3.out).1).trans HR3.out
    have B1 := HX.out.trans (hb12.mono HX.out.size)
    clear hb1 hb2 hb12 b0 b1 b2 b3 b4 s0 s1 s2 s3
    obtain ⟨r0, r1, r2, r3, r4⟩ := cells5 hr1
    have rf : ∀ j, w2.frozen? ⟨w.heap.size + 1 + 1, j, none⟩ = false := fun j => frozen_of_row w2 (w.heap.size + 1 + 1) j _ _ hr1
    have HBW := Lib.hid B1
    clear hr1
    go_wp2
    obtain ⟨wq, hwq⟩ : ∃ wq, wq = (((((w2.setCell ⟨w.heap.size + 1 + 1, 0, none⟩ (.slice none 0 0)).setCell ⟨w.heap.size + 1 + 1, 1, none⟩ (.int .i64 0)).setCell ⟨w.heap.size + 1 + 1, 2, none⟩ (.int .i64 0)).setCell ⟨w.heap.size + 1 + 1, 3, none⟩ (.int .i64 0)).setCell ⟨w.heap.size + 1 + 1, 4, none⟩ (.int .i64 0)) := ⟨_, rfl⟩
    rw [← hwq]
    have u0 : wq.cell? ⟨w.heap.size + 1 + 1, 0, none⟩ = some (.slice none 0 0) := by rw [hwq]; go_simp
    have u1 : wq.cell? ⟨w.heap.size + 1 + 1, 1, none⟩ = some (.int .i64 0) := by rw [hwq]; go_simp
    have u2 : wq.cell? ⟨w.heap.size + 1 + 1, 2, none⟩ = some (.int .i64 0) := by rw [hwq]; go_simp
    have u3 : wq.cell? ⟨w.heap.size + 1 + 1, 3, none⟩ = some (.int .i64 0) := by rw [hwq]; go_simp
    have u4 : wq.cell? ⟨w.heap.size + 1 + 1, 4, none⟩ = some (.int .i64 0) := by rw [hwq]; go_simp
    have hBq : Below w.heap.size w wq := by
      rw [hwq]
      exact (((((HBW.out.setCell (show w.heap.size ≤ w.heap.size + 1 + 1 by omega) _).setCell (show w.heap.size ≤ w.heap.size + 1 + 1 by omega) _).setCell (show w.heap.size ≤ w.heap.size + 1 + 1 by omega) _).setCell (show w.heap.size ≤ w.heap.size + 1 + 1 by omega) _).setCell (show w.heap.size ≤ w.heap.size + 1 + 1 by omega) _)
    clear hwq
    try simp only [Exit.inBlock, Exit.then]
    refine bodyPost_ret (by simp [results, Tryd.results65, go_sem, u0, u1, u2, u3, u4]; try rfl) rfl ?_
    first | exact stepPost_no hBq | (rw [hmk]; exact stepPost_no hBq)
  | true =>
  have ho : stOk f n I H S P kd id tt0 z = mkOk f n I H S P kd id tt0 z := by simp [stOk, hg, hv]
  rw [ho]
  clear ho
  go_enter Tryd.func65, Tryd.ntmps65
  go_wp2_with fail
  refine (l25Good_any A n c lo hi f I H S P _ (HSW.out _ (Below.refl _ _)) hn hnc).mono ?_
  rw [hg]
  rintro e w1 ⟨rfl, hb1⟩
  obtain ⟨b0, b1, b2, b3, b4, s0, s1, s2, s3⟩ := HF.out w1 hb1
  go_wp2_with fail
  refine (l25Step_any A n c lo hi f I H S P kd id tt0 z _ (HSW.out _ hb1) hn hnc).mono ?_
  rw [hv]
  rintro e w2 ⟨rfl, hb2⟩
  have hb12 := hb1.trans (hb2.mono hb1.size)
  clear b0 b1 b2 b3 b4 s0 s1 s2 s3 hb1 hb2
  obtain ⟨b0, b1, b2, b3, b4, s0, s1, s2, s3⟩ := HF.out w2 hb12
  go_wp2_with fail
  refine (l25Make_any A n c lo hi f I H S P kd id tt0 z _ (HSW.out _ hb12) hn hnc hnone hform hn6 hv).mono ?_
  rintro e w3 ⟨L, m, I', H', S', P', hok, A', c', rfl, hmc, hcm, hown, hb3⟩
  have hb13 := hb12.trans (hb3.mono hb12.size)
  have hr1 := (hb13.block (w.heap.size + 1 + 1) (Array.getElem?_eq_some_iff.1 HR3.out).1).trans HR3.out
  have B3 := HX.out.trans (hb13.mono HX.out.size)
  have hown := ownsRow_monoP hown (HX.out.trans (hb12.mono HX.out.size)).size
  have lR : w.heap.size + 1 + 1 < w2.heap.size := by have := hb12.size; simp only [World.size_alloc] at this; omega
  have low : ∀ k : Nat, (Value.slice A' m c').ownBlock = some k → w.heap.size ≤ k ∧ k < w3.heap.size := fun k e => World.ownsRow.lt hown k e
  have nR : ∀ k : Nat, (Value.slice A' m c').ownBlock = some k → k ≠ w.heap.size + 1 + 1 := fun k e hk => by
    subst hk
    exact row_none_ne hown hr1 (by decide) e
  clear b0 b1 b2 b3 b4 s0 s1 s2 s3 hb12 hb3 hb13 HF HSW HR3 HX
  cases hmk : mkOk f n I H S P kd id tt0 z with
  | false =>
    rw [hmk] at hok
    clear hok hown nR low
    go_upto_region 4 with fail
    refine name_wp ?_
    intro w4 hw4
    have hr4 : w4.heap[w.heap.size + 1 + 1]? = some (.cells #[.slice none 0 0, .int .i64 0, .int .i64 0, .int .i64 0, .int .i64 0] 26) := by
      rw [hw4, heap_alloc_old _ _ (by have := (Array.getElem?_eq_some_iff.1 hr1).1; omega)]
      exact hr1
    have B4 : Below w.heap.size w w4 := by
      rw [hw4]
      exact B3.alloc B3.size _
    clear hw4 hr1 B3
    obtain ⟨r0, r1, r2, r3, r4⟩ := cells5 hr4
    have rf : ∀ j, w4.frozen? ⟨w.heap.size + 1 + 1, j, none⟩ = false := fun j => frozen_of_row w4 (w.heap.size + 1 + 1) j _ _ hr4
    have HBW := Lib.hid B4
    clear hr4
    go_wp2
    obtain ⟨wq, hwq⟩ : ∃ wq, wq = (((((w4.setCell ⟨w.heap.size + 1 + 1, 0, none⟩ (.slice none 0 0)).setCell ⟨w.heap.size + 1 + 1, 1, none⟩ (.int .i64 0)).setCell ⟨w.heap.size + 1 + 1, 2, none⟩ (.int .i64 0)).setCell ⟨w.heap.size + 1 + 1, 3, none⟩ (.int .i64 0)).setCell ⟨w.heap.size + 1 + 1, 4, none⟩ (.int .i64 0)) := ⟨_, rfl⟩
    rw [← hwq]
    have u0 : wq.cell? ⟨w.heap.size + 1 + 1, 0, none⟩ = some (.slice none 0 0) := by rw [hwq]; go_simp
    have u1 : wq.cell? ⟨w.heap.size + 1 + 1, 1, none⟩ = some (.int .i64 0) := by rw [hwq]; go_simp
    have u2 : wq.cell? ⟨w.heap.size + 1 + 1, 2, none⟩ = some (.int .i64 0) := by rw [hwq]; go_simp
    have u3 : wq.cell? ⟨w.heap.size + 1 + 1, 3, none⟩ = some (.int .i64 0) := by rw [hwq]; go_simp
    have u4 : wq.cell? ⟨w.heap.size + 1 + 1, 4, none⟩ = some (.int .i64 0) := by rw [hwq]; go_simp
    have hBq : Below w.heap.size w wq := by
      rw [hwq]
      exact (((((HBW.out.setCell (show w.heap.size ≤ w.heap.size + 1 + 1 by omega) _).setCell (show w.heap.size ≤ w.heap.size + 1 + 1 by omega) _).setCell (show w.heap.size ≤ w.heap.size + 1 + 1 by omega) _).setCell (show w.heap.size ≤ w.heap.size + 1 + 1 by omega) _).setCell (show w.heap.size ≤ w.heap.size + 1 + 1 by omega) _)
    clear hwq
    try simp only [Exit.inBlock, Exit.then]
    refine bodyPost_ret (by simp [results, Tryd.results65, go_sem, u0, u1, u2, u3, u4]; try rfl) rfl ?_
    first | exact stepPost_no hBq | (rw [hmk]; exact stepPost_no hBq)
  | true =>
    obtain ⟨eL, em, eI, eH, eS, eP⟩ := hok hmk
    have HE := Lib.hid (⟨eL, em, eI, eH, eS, eP⟩ : L = stL f n kd id tt0 z ∧ m = stN n kd ∧ I' = stI I kd z ∧ H' = stH H kd z ∧ S' = stS S kd z ∧ P' = stP f n P kd id)
    clear hok eL em eI eH eS eP
    go_upto_region 4 with fail
    refine name_wp ?_
    intro w4 hw4
    have b34 : Below w3.heap.size w3 w4 := by rw [hw4]; exact (Below.refl _ _).alloc (Nat.le_refl _) _
    have h6 : w4.heap[w3.heap.size]? = some (.cells #[.slice A' m c', .int .i64 I', .int .i64 H', .int .i64 S', .int .i64 P'] 26) := by rw [hw4]; exact heap_alloc_new w3 _
    have hr4 := (b34.block (w.heap.size + 1 + 1) (Array.getElem?_eq_some_iff.1 hr1).1).trans hr1
    have B4 := below_of B3 b34 B3.size
    have hO4 := ownsRow_below hown b34
    have l3 : w.heap.size + 1 + 1 < w3.heap.size := (Array.getElem?_eq_some_iff.1 hr1).1
    clear hw4 hr1 B3 hown b34
    generalize w3.heap.size = g6 at *
    have n1 : g6 ≠ w.heap.size + 1 + 1 := by omega
    have n2 : w.heap.size + 1 + 1 ≠ g6 := by omega
    obtain ⟨e0, e1, e2, e3, e4⟩ := cells5 h6
    obtain ⟨r0, r1, r2, r3, r4⟩ := cells5 hr4
    have rf : ∀ j, w4.frozen? ⟨w.heap.size + 1 + 1, j, none⟩ = false := fun j => frozen_of_row w4 (w.heap.size + 1 + 1) j _ _ hr4
    have HBW := Lib.hid B4
    have HOW := Lib.hid hO4
    have NR := Lib.hid nR
    clear h6 hr4 B4 hO4 nR low
    go_wp2
    obtain ⟨wq, hwq⟩ : ∃ wq, wq = (((((w4.setCell ⟨w.heap.size + 1 + 1, 0, none⟩ (.slice A' m c')).setCell ⟨w.heap.size + 1 + 1, 1, none⟩ (.int .i64 I')).setCell ⟨w.heap.size + 1 + 1, 2, none⟩ (.int .i64 H')).setCell ⟨w.heap.size + 1 + 1, 3, none⟩ (.int .i64 S')).setCell ⟨w.heap.size + 1 + 1, 4, none⟩ (.int .i64 P')) := ⟨_, rfl⟩
    rw [← hwq]
    have u0 : wq.cell? ⟨w.heap.size + 1 + 1, 0, none⟩ = some (.slice A' m c') := by rw [hwq]; go_simp
    have u1 : wq.cell? ⟨w.heap.size + 1 + 1, 1, none⟩ = some (.int .i64 I') := by rw [hwq]; go_simp
    have u2 : wq.cell? ⟨w.heap.size + 1 + 1, 2, none⟩ = some (.int .i64 H') := by rw [hwq]; go_simp
    have u3 : wq.cell? ⟨w.heap.size + 1 + 1, 3, none⟩ = some (.int .i64 S') := by rw [hwq]; go_simp
    have u4 : wq.cell? ⟨w.heap.size + 1 + 1, 4, none⟩ = some (.int .i64 P') := by rw [hwq]; go_simp
    have hBq : Below w.heap.size w wq := by
      rw [hwq]
      exact (((((HBW.out.setCell (show w.heap.size ≤ w.heap.size + 1 + 1 by omega) _).setCell (show w.heap.size ≤ w.heap.size + 1 + 1 by omega) _).setCell (show w.heap.size ≤ w.heap.size + 1 + 1 by omega) _).setCell (show w.heap.size ≤ w.heap.size + 1 + 1 by omega) _).setCell (show w.heap.size ≤ w.heap.size + 1 + 1 by omega) _)
    have no : ∀ j : Nat, (Value.slice A' m c').ownBlock ≠ some (⟨w.heap.size + 1 + 1, j, none⟩ : Addr).block := fun j e => NR.out _ e rfl
    have hOq := ownsRow_setCell_other (ownsRow_setCell_other (ownsRow_setCell_other (ownsRow_setCell_other (ownsRow_setCell_other HOW.out (no 0) (.slice A' m c')) (no 1) (.int .i64 I')) (no 2) (.int .i64 H')) (no 3) (.int .i64 S')) (no 4) (.int .i64 P')
    rw [← hwq] at hOq
    clear hwq HOW HBW
    try simp only [Exit.inBlock, Exit.then]
    refine bodyPost_ret (by simp [results, Tryd.results65, go_sem, u0, u1, u2, u3, u4]; try rfl) rfl ?_
    rw [hmk]
    exact stepPost_yes HE.out hmc hcm hOq hBq
end Go.Proofs.YtjkockhldaacbaaDoor
