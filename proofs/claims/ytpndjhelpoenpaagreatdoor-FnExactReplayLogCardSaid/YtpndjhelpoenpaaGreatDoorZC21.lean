/-
  Texts of this claim, merged.
-/
import Derived.Test.YtpndjhelpoenpaaGreatDoorZC20
set_option linter.unusedVariables false
set_option linter.unusedSimpArgs false
set_option maxRecDepth 100000
set_option maxHeartbeats 8000000
namespace Go.Proofs.YtpndjhelpoenpaaGreatDoor
open Go.RowKit
def wd1 : ByteArray := ⟨#[98, 117, 105, 108, 100]⟩
def wd2 : ByteArray := ⟨#[116, 97, 107, 101]⟩
def wd3 : ByteArray := ⟨#[108, 101, 97, 100]⟩
def wd4 : ByteArray := ⟨#[100, 114, 121]⟩
def wd5 : ByteArray := ⟨#[114, 97, 107, 101]⟩
def wd6 : ByteArray := ⟨#[115, 104, 105, 112]⟩
def wd7 : ByteArray := ⟨#[115, 104, 117, 116]⟩
def wd8 : ByteArray := ⟨#[105, 110]⟩
def wd9 : ByteArray := ⟨#[104, 101, 97, 112]⟩
def wd10 : ByteArray := ⟨#[112, 97, 110, 115]⟩
def wd11 : ByteArray := ⟨#[109, 97, 121]⟩
def wd12 : ByteArray := ⟨#[111, 114, 100, 101, 114]⟩
def wd13 : ByteArray := ⟨#[109, 111, 114, 101]⟩
def wd14 : ByteArray := ⟨#[116, 101, 120, 116]⟩
def cmdN (u : ByteArray) (m : Nat) : Int :=
 if m = 2 ∧ u = wd1 then 1
 else if m = 2 ∧ u = wd2 then 2
 else if m = 3 ∧ u = wd3 then 3
 else if m = 2 ∧ u = wd4 then 4
 else if m = 2 ∧ u = wd5 then 5
 else if m = 1 ∧ u = wd6 then 6
 else if m = 1 ∧ u = wd7 then 7
 else if m = 0 ∧ u = wd8 then 8
 else if m = 0 ∧ u = wd9 then 9
 else if m = 0 ∧ u = wd10 then 10
 else if m = 0 ∧ u = wd11 then 11
 else if m = 0 ∧ u = wd12 then 12
 else if m = 1 ∧ u = wd13 then 13
 else if m = 1 ∧ u = wd14 then 14
 else 0
def panX (f : Nat → Int) (n : Nat) (id : Int) : ByteArray := panB (f (atN f n id * 4 + 1)) (f (atN f n id * 4 + 2)) (f (atN f n id * 4 + 3))
def rpOk (f : Nat → Int) (n : Nat) (c x0 x1 : Int) : Bool :=
 if c = 3 then decide (0 ≤ findV (pid f) x1 n 0)
 else if c = 1 ∨ c = 2 ∨ c = 4 ∨ c = 14 then decide (0 ≤ findV (pid f) x0 n 0)
 else if c = 13 then decide (0 ≤ findV (pid f) x0 n 0) && decide (f (atN f n x0 * 4 + 3) ≠ 0)
 else true
def rpR (f : Nat → Int) (n : Nat) (I H S P c x0 x1 : Int) : ByteArray :=
 if c = 3 then panX f n x1
 else if c = 5 ∨ c = 9 then numB H
 else if c = 6 then numB S
 else if c = 7 then numB P
 else if c = 8 then numB I
 else if c = 10 then numB (sumW (saltAt f) n)
 else if c = 11 then listB (fun j => (rakeRes f n true).getD j 0) (rakeRes f n true).length
 else if c = 12 then listB (fun j => (ordRes f n true).getD j 0) (ordRes f n true).length
 else if c = 13 then numB (dryN (f (atN f n x0 * 4 + 2)) (f (atN f n x0 * 4 + 3)) : Nat)
 else panX f n x0
def rpS (f : Nat → Int) (n : Nat) (I H S P c x0 x1 : Int) : ByteArray := if rpOk f n c x0 x1 then rpR f n I H S P c x0 x1 else if c = 13 then numB 0 else ⟨#[]⟩
def exId (c x0 : Int) : Int := if c = 6 then 0 else x0
def exTo (c x1 : Int) : Int := if c = 3 then x1 else 0
def exZ (c x0 x1 x2 : Int) : Int := if c = 3 then x2 else if c = 6 then x0 else if c = 7 then 0 else x1
def isStep (c : Int) : Bool := decide (1 ≤ c ∧ c ≤ 7)
def exOk (f : Nat → Int) (n : Nat) (I H S P c x0 x1 x2 : Int) : Bool :=
 if c = 0 then false else if isStep c then stOk f n I H S P c (exId c x0) (exTo c x1) (exZ c x0 x1 x2) else rpOk f n c x0 x1
def exGo (f : Nat → Int) (n : Nat) (I H S P c x0 x1 x2 : Int) : Bool := isStep c && stOk f n I H S P c (exId c x0) (exTo c x1) (exZ c x0 x1 x2)
def exL (f : Nat → Int) (n : Nat) (I H S P c x0 x1 x2 : Int) : List Int := if exGo f n I H S P c x0 x1 x2 then stL f n c (exId c x0) (exTo c x1) (exZ c x0 x1 x2) else cellsL f n
def exN (f : Nat → Int) (n : Nat) (I H S P c x0 x1 x2 : Int) : Nat := if exGo f n I H S P c x0 x1 x2 then stN n c else n
def exI (f : Nat → Int) (n : Nat) (I H S P c x0 x1 x2 : Int) : Int := if exGo f n I H S P c x0 x1 x2 then stI I c (exZ c x0 x1 x2) else I
def exH (f : Nat → Int) (n : Nat) (I H S P c x0 x1 x2 : Int) : Int := if exGo f n I H S P c x0 x1 x2 then stH H c (exZ c x0 x1 x2) else H
def exS (f : Nat → Int) (n : Nat) (I H S P c x0 x1 x2 : Int) : Int := if exGo f n I H S P c x0 x1 x2 then stS S c (exZ c x0 x1 x2) else S
def exP (f : Nat → Int) (n : Nat) (I H S P c x0 x1 x2 : Int) : Int := if exGo f n I H S P c x0 x1 x2 then stP f n P c (exId c x0) else P
def exR (f : Nat → Int) (n : Nat) (I H S P c x0 x1 x2 : Int) : ByteArray :=
 if exOk f n I H S P c x0 x1 x2 then rpR (lf (exL f n I H S P c x0 x1 x2)) (exN f n I H S P c x0 x1 x2) (exI f n I H S P c x0 x1 x2) (exH f n I H S P c x0 x1 x2) (exS f n I H S P c x0 x1 x2) (exP f n I H S P c x0 x1 x2) c x0 x1 else ⟨#[63]⟩
theorem findV_pos {g : Nat → Int} {z : Int} {m j : Nat} (hj : j < m) (h : g j = z) : 0 ≤ findV g z m 0 := by
 rcases findV_cases g z m 0 with ⟨_, h2⟩ | ⟨i, _, _, e, _⟩
 ·exact absurd h (h2 j (Nat.zero_le _) (by omega))
 ·omega
theorem findV_mem {g : Nat → Int} {z : Int} {m : Nat} (h : 0 ≤ findV g z m 0) : ∃ j, j < m ∧ findV g z m 0 = (j : Int) ∧ g j = z := by
 rcases findV_cases g z m 0 with ⟨e, _⟩ | ⟨i, _, hi, e, he⟩
 ·omega
 ·exact ⟨i, by omega, e, he⟩
theorem findV_none {g : Nat → Int} {z : Int} {m : Nat} (h : ¬ 0 ≤ findV g z m 0) : findV g z m 0 = -1 := by
 rcases findV_cases g z m 0 with ⟨e, _⟩ | ⟨i, _, hi, e, he⟩
 ·exact e
 ·omega
theorem atN_eq {f : Nat → Int} {n : Nat} {id : Int} {j : Nat} (h : findV (pid f) id n 0 = (j : Int)) : atN f n id = j := by simp [atN, h]
theorem find_keep {f g : Nat → Int} {n : Nat} {id : Int} (h : ∀ k, k < n → g (k * 4) = f (k * 4)) (hf : 0 ≤ findV (pid f) id n 0) : 0 ≤ findV (pid g) id n 0 := by
 obtain ⟨j, hj, _, e⟩ := findV_mem hf
 exact findV_pos hj ((h j hj).trans e)
theorem lf_cells (f : Nat → Int) (n : Nat) {j : Nat} (h : j < n * 4) : lf (cellsL f n) j = f j := cellsL_getD f n j h
theorem leadF_0 (f : Nat → Int) (i j : Nat) (z : Int) (k : Nat) : leadF f i j z (k * 4) = f (k * 4) := by
 unfold leadF
 split
 ·rw [setB_0, setB_0]
 ·rfl
theorem build_at (f : Nat → Int) (n p : Nat) (id z : Int) (hp : p ≤ n) : lf (buildL f n p id z) (p * 4) = id := by
 unfold lf buildL
 have hl : ((cellsL f n).take (p * 4)).length = p * 4 := by rw [List.length_take, cellsL_len]; omega
 rw [List.getD_eq_getElem?_getD, List.append_assoc, List.getElem?_append_right (by omega), hl, Nat.sub_self]
 rfl
theorem st_there {f : Nat → Int} {n : Nat} {I H S P c x0 x1 x2 : Int} (hc : isStep c = true) (h : stOk f n I H S P c (exId c x0) (exTo c x1) (exZ c x0 x1 x2) = true) :
  rpOk (lf (stL f n c (exId c x0) (exTo c x1) (exZ c x0 x1 x2))) (stN n c) c x0 x1 = true := by
 simp only [stOk, Bool.and_eq_true] at h
 have hv := h.2.1
 clear h
 simp only [isStep, decide_eq_true_eq] at hc
 by_cases c1 : c = 1
 ·subst c1
  have hp := (placeV_le f x0 n 0).2
  simp only [rpOk, stN, stL, exId, exTo, exZ]
  simp
  exact findV_pos (j := placeV f x0 n 0) (by omega) (build_at f n _ x0 x1 (by omega))
 by_cases c2 : c = 2
 ·subst c2
  simp [stV, exId, exTo, exZ] at hv
  simp only [rpOk, stN, stL, exId, exTo, exZ]
  simp
  exact find_keep (fun k hk => by rw [lf_cells _ _ (by omega), setB_0]) hv.1
 by_cases c3 : c = 3
 ·subst c3
  simp [stV, exId, exTo, exZ] at hv
  simp only [rpOk, stN, stL, exId, exTo, exZ]
  simp
  exact find_keep (fun k hk => by rw [lf_cells _ _ (by omega), leadF_0]) hv.2.1
 by_cases c4 : c = 4
 ·subst c4
  simp [stV, exId, exTo, exZ] at hv
  simp only [rpOk, stN, stL, exId, exTo, exZ]
  simp
  exact find_keep (fun k hk => by rw [lf_cells _ _ (by omega), setB_0]) hv.1
 have c14 : c ≠ 14 := by omega
 have c13 : c ≠ 13 := by omega
 simp [rpOk, c1, c2, c3, c4, c14, c13]
theorem st_good {f : Nat → Int} {n : Nat} {I H S P kd id tt0 z : Int} (h : stOk f n I H S P kd id tt0 z = true) : goodWorks (lf (stL f n kd id tt0 z)) (stN n kd) (stI I kd z) (stH H kd z) (stS S kd z) (stP f n P kd id) = true := by
 simp only [stOk, mkOk, Bool.and_eq_true] at h
 exact h.2.2.2.2
theorem ids_small {f : Nat → Int} {n : Nat} {I H S P : Int} (hg : goodWorks f n I H S P = true) {L : List Nat} (hL : ∀ j ∈ L, j < n) : ∀ j, j < (idsP f L).length → 0 ≤ (idsP f L).getD j 0 ∧ (idsP f L).getD j 0 ≤ 999999 := by
 intro j hj
 have hj' : j < L.length := by rw [idsP, List.length_map] at hj; exact hj
 have e : (idsP f L).getD j 0 = f (L[j]'hj' * 4) := by simp [idsP, List.getD_eq_getElem?_getD, hj']
 have := pan_id hg (hL _ (List.getElem_mem hj'))
 rw [e]
 omega
theorem rake_small {f : Nat → Int} {n : Nat} {I H S P : Int} (hg : goodWorks f n I H S P = true) : ∀ j, j < (rakeRes f n true).length → 0 ≤ (rakeRes f n true).getD j 0 ∧ (rakeRes f n true).getD j 0 ≤ 999999 := by
 have e : rakeRes f n true = idsP f (pickN (rakeB f) n) := by simp [rakeRes]
 rw [e]
 exact ids_small hg (fun j hj => (pickN_lt _ n j hj).1)
theorem ord_small {f : Nat → Int} {n : Nat} {I H S P : Int} (hg : goodWorks f n I H S P = true) : ∀ j, j < (ordRes f n true).length → 0 ≤ (ordRes f n true).getD j 0 ∧ (ordRes f n true).getD j 0 ≤ 999999 := by
 have e : ordRes f n true = idsP f (ordL f n) := by simp [ordRes]
 rw [e]
 exact ids_small hg (ordL_lt f n)
end Go.Proofs.YtpndjhelpoenpaaGreatDoor
namespace Go.Proofs.YtpndjhelpoenpaaGreatDoor
open Go.RowKit Go.Sort
attribute [local go_sem ↓] Go.wp_at_zero Go.wp_at_succ
section
variable {P : Program} {md : Region.Mode} {ops : Array Oper} {Q : Exit → Act → World → Prop} {S : World → Prop}
theorem wpAnyH_split {i j di dj : Nat} {fuel : Nat} {listed : Array Bool} {a : Act} {w : World} {oi oj : Oper} {skip : List Nat} {Pi Pj : Value → World → Prop}
  (hoi : ops[i]? = some oi) (hoj : ops[j]? = some oj) (hgi : oi.guard = none) (hgj : oj.guard = none)
  (r0 : Region.ready md ops listed = [i, j]) (Ji : Job P Q S oi di a skip Pi) (Jj : Job P Q S oj dj a skip Pj) (hst : ∀ w1 w2, S w1 → Below w1.heap.size w1 w2 → S w2) (hS : S w)
  (hi : ∀ v w', Pi v w' → S w' → Below w.heap.size w w' → wpAnyH P md ops Q S fuel (listed.setIfInBounds i true) (a.put (some di) v) w')
  (hj : ∀ v w', Pj v w' → S w' → Below w.heap.size w w' → wpAnyH P md ops Q S fuel (listed.setIfInBounds j true) (a.put (some dj) v) w') :
  wpAnyH P md ops Q S (fuel + 1) listed a w := by
 refine wpAnyH_ready (fuel := fuel) r0 (by simp) (AllReadyH.cons hoi (fun K hK => ?_) (AllReadyH.cons hoj (fun K hK => ?_) AllReadyH.nil))
 ·rw [if_pos (wanted_plain hgi)]
  refine Ji a w K (fun _ _ => rfl) hS (fun v w2 hp hb => ?_)
  have hB := hst _ _ hS hb
  exact hK.out _ _ hB (fun _ => hi v w2 hp hB hb)
 ·rw [if_pos (wanted_plain hgj)]
  refine Jj a w K (fun _ _ => rfl) hS (fun v w2 hp hb => ?_)
  have hB := hst _ _ hS hb
  exact hK.out _ _ hB (fun _ => hj v w2 hp hB hb)
end
theorem pans_up {f : Nat → Int} {n : Nat} {I H S P : Int} (hg : goodWorks f n I H S P = true) : ∀ k, k < n → ∀ j, j < k → f (j * 4) < f (k * 4) := by
 intro k
 induction k with
 | zero => intro _ j hj; omega
 | succ k ih =>
  intro hk j hj
  have hs := hg
  simp only [goodWorks, pansOk, Bool.and_eq_true] at hs
  have hp := allTo_at hk hs.1.1.1
  simp only [panStep, Bool.and_eq_true, Bool.or_eq_true, decide_eq_true_eq] at hp
  have h1 : f (k * 4) < f ((k + 1) * 4) := by
   rcases hp.2 with h0 | h0
   ·omega
   ·simpa using h0
  by_cases hjk : j = k
  ·subst hjk; exact h1
  ·exact Int.lt_trans (ih (by omega) j (by omega)) h1
theorem find_at {f : Nat → Int} {n : Nat} {I H S P : Int} (hg : goodWorks f n I H S P = true) {i : Nat} (hi : i < n) : findV (pid f) (f (i * 4)) n 0 = (i : Int) := by
 rcases findV_cases (pid f) (f (i * 4)) n 0 with ⟨_, h⟩ | ⟨j, _, hj, h, he⟩
 ·exact absurd rfl (h i (by omega) (by omega))
 ·rw [h]
  have hu := pans_up hg
  by_cases h1 : j < i
  ·have := hu i hi j h1
   have he' : f (j * 4) = f (i * 4) := he
   omega
  ·by_cases h2 : i < j
   ·have := hu j (by omega) i h2
    have he' : f (j * 4) = f (i * 4) := he
    omega
   ·have : j = i := by omega
    subst this; rfl
theorem sMayRake_any (A : Option Addr) (n c lo hi : Nat) (f : Nat → Int) (I H S P : Int) (w : World) (hs : Sl w lo hi 4 A n f) (hn : n ≤ 1048576) (hnc : n ≤ c) :
  Calls Tryz.prog 128 #[.agg #[.slice A n c, .int .i64 I, .int .i64 H, .int .i64 S, .int .i64 P]] w (IntsPost 3 w (rakeRes f n (goodWorks f n I H S P)) (goodWorks f n I H S P)) := by
 have BW : Below w.heap.size w (w.alloc (.cells #[.slice A n c, .int .i64 I, .int .i64 H, .int .i64 S, .int .i64 P] 32)) := (Below.refl _ w).alloc (Nat.le_refl _) _
 have HS : Hid (Sl ((w.alloc (.cells #[.slice A n c, .int .i64 I, .int .i64 H, .int .i64 S, .int .i64 P] 32)).alloc (.cells #[] 3)) lo hi 4 A n f) := (hs.below BW).below ((Below.refl _ _).alloc (Nat.le_refl _) _)
 have HSW : Hid (Sl (w.alloc (.cells #[.slice A n c, .int .i64 I, .int .i64 H, .int .i64 S, .int .i64 P] 32)) lo hi 4 A n f) := hs.below BW
 clear hs
 cases hg : goodWorks f n I H S P with
 | false =>
  go_enter Tryz.func128, Tryz.ntmps128
  go_wp2_with fail
  refine (l25Good_any A n c lo hi f I H S P _ HS.out hn hnc).mono ?_
  rw [hg]
  rintro e w1 ⟨rfl, hb1⟩
  have HS1 := lh (HS.out.below hb1)
  obtain ⟨b0, b1, b2, b3, b4⟩ := cells5 (bx (g := w.heap.size) hb1)
  have hmade := World.ownsRow_made (base := (w.alloc (.cells #[.slice A n c, .int .i64 I, .int .i64 H, .int .i64 S, .int .i64 P] 32)).heap.size) (e := 3) (size := 1) (w.alloc (.cells #[.slice A n c, .int .i64 I, .int .i64 H, .int .i64 S, .int .i64 P] 32)) #[] 0 (Nat.le_refl _) (Nat.zero_le _) (by simp)
  have hval : (Value.slice (some ⟨(w.alloc (.cells #[.slice A n c, .int .i64 I, .int .i64 H, .int .i64 S, .int .i64 P] 32)).heap.size, 0, none⟩) 0 0) = .slice (some ⟨w.heap.size + 1, 0, none⟩) 0 0 := by simp
  rw [hval] at hmade
  have HROW := lh (ownsRow_below hmade hb1)
  clear hmade hval
  have hB1 : Below (w.alloc (.cells #[.slice A n c, .int .i64 I, .int .i64 H, .int .i64 S, .int .i64 P] 32)).heap.size (w.alloc (.cells #[.slice A n c, .int .i64 I, .int .i64 H, .int .i64 S, .int .i64 P] 32)) w1 := ((Below.refl _ (w.alloc (.cells #[.slice A n c, .int .i64 I, .int .i64 H, .int .i64 S, .int .i64 P] 32))).alloc (Nat.le_refl _) _).trans (hb1.mono (by simp))
  have HBF := lh (BW.trans (hB1.mono BW.size))
  clear hb1 HS
  go_wp2
  go_ret2
  exact IntsPost.mk_ (zs := []) (ownsRow_monoP HROW.out BW.size) HBF.out
 | true =>
  have h6n := good_len hg
  have HFA : Hid (∀ i, i < n → findV (pid f) (f (i * 4)) n 0 = (i : Int)) := fun i hi => find_at hg hi
  have HKA : Hid (∀ i, i < n → (mayV (f (i * 4 + 2)) (f (i * 4 + 3)) && goodWorks (setB f i (f (i * 4 + 2)) (wrap64 (f (i * 4 + 3) - 1))) n I (wrap64 (H + 1)) S P) = mayV (f (i * 4 + 2)) (f (i * 4 + 3))) := fun i hi => rake_ok hg hi
  show Calls _ _ _ _ (IntsPost 3 w (idsP f (pickN (rakeB f) n)) true)
  go_enter Tryz.func128, Tryz.ntmps128
  go_wp2_with fail
  refine (l25Good_any A n c lo hi f I H S P _ HS.out hn hnc).mono ?_
  rw [hg]
  rintro e w1 ⟨rfl, hb1⟩
  have HS1 := lh (HS.out.below hb1)
  obtain ⟨b0, b1, b2, b3, b4⟩ := cells5 (bx (g := w.heap.size) hb1)
  have hmade := World.ownsRow_made (base := (w.alloc (.cells #[.slice A n c, .int .i64 I, .int .i64 H, .int .i64 S, .int .i64 P] 32)).heap.size) (e := 3) (size := 1) (w.alloc (.cells #[.slice A n c, .int .i64 I, .int .i64 H, .int .i64 S, .int .i64 P] 32)) #[] 0 (Nat.le_refl _) (Nat.zero_le _) (by simp)
  have hval : (Value.slice (some ⟨(w.alloc (.cells #[.slice A n c, .int .i64 I, .int .i64 H, .int .i64 S, .int .i64 P] 32)).heap.size, 0, none⟩) 0 0) = .slice (some ⟨w.heap.size + 1, 0, none⟩) 0 0 := by simp
  rw [hval] at hmade
  have HROW := lh (ownsRow_below hmade hb1)
  clear hmade hval
  have hB1 : Below (w.alloc (.cells #[.slice A n c, .int .i64 I, .int .i64 H, .int .i64 S, .int .i64 P] 32)).heap.size (w.alloc (.cells #[.slice A n c, .int .i64 I, .int .i64 H, .int .i64 S, .int .i64 P] 32)) w1 := ((Below.refl _ (w.alloc (.cells #[.slice A n c, .int .i64 I, .int .i64 H, .int .i64 S, .int .i64 P] 32))).alloc (Nat.le_refl _) _).trans (hb1.mono (by simp))
  have HBF := lh (BW.trans (hB1.mono BW.size))
  clear hb1 HS
  clear hg
  go_wp2_with fail
  clear b0 b1 b2 b3 b4
  go_loopw [4, 5] (fun v iv wr => ∃ i : Nat, i ≤ n ∧ iv = .int .i64 i ∧ wr.ownsRow (w.alloc (.cells #[.slice A n c, .int .i64 I, .int .i64 H, .int .i64 S, .int .i64 P] 32)).heap.size 3 1 v (idsP f (pickN (rakeB f) i)).length ((idsP f (pickN (rakeB f) i)).map (Value.int .i64)) ∧ Below (w.alloc (.cells #[.slice A n c, .int .i64 I, .int .i64 H, .int .i64 S, .int .i64 P] 32)).heap.size (w.alloc (.cells #[.slice A n c, .int .i64 I, .int .i64 H, .int .i64 S, .int .i64 P] 32)) wr) (fun _ iv _ => n - (intOf iv).toNat)
  case atStart => exact ⟨0, Nat.zero_le _, rfl, HROW.out, hB1⟩
  case round =>
   obtain ⟨i, hi', rfl, hown, hB⟩ := hrel
   clear HROW HBF hB1 HS1
   have HO := lh hown
   have hl : (idsP f (pickN (rakeB f) i)).length ≤ 6 := by rw [idsP, List.length_map]; have := pickN_len (rakeB f) i; omega
   obtain ⟨z0, z1, z2, z3, z4⟩ := cells5 (bx (g := w.heap.size) hB)
   clear hown
   by_cases hlt : i < n
   ·obtain ⟨b, off, rfl, hbw, HC⟩ := HSW.out.open_ hB (by omega)
    obtain ⟨c0, c1, c2, c3⟩ := cell4 HC hlt
    have hi0i : (0 : Int) ≤ (i : Int) := by omega
    have hini : (i : Int) < (n : Int) := by omega
    have HFD := lh (HFA.out i hlt)
    have HKI := lh (HKA.out i hlt)
    have HPY : Hid (rakeB f i = true → idsP f (pickN (rakeB f) (i + 1)) = idsP f (pickN (rakeB f) i) ++ [f (i * 4)]) := fun h => by rw [pickN_yes h, idsP_append]; rfl
    have HPN : Hid (rakeB f i = false → idsP f (pickN (rakeB f) (i + 1)) = idsP f (pickN (rakeB f) i)) := fun h => by rw [pickN_no h]
    generalize idsP f (pickN (rakeB f) i) = P' at *
    have HF : Hid (∀ w', Below wr.heap.size wr w' → _) := fun w' hq => And.intro (kp hq z0) (And.intro (kp hq z1) (And.intro (kp hq z2) (And.intro (kp hq z3) (And.intro (kp hq z4) (kp hq c0)))))
    clear HC HFA HKA z1 z2 z3 z4 c1 c2 c3 hbw
    cases hqi : (mayV (f (i * 4 + 2)) (f (i * 4 + 3))) with
    | true =>
     have HPB : Hid (rakeB f i = true) := hqi
     have HOK := lh (HKI.out.trans hqi)
     clear hqi HKI
     go_wp2_with fail
     refine wp_region_held_drew (S := fun w' => Below wr.heap.size wr w') (by kernel_rfl) ((Below.refl _ wr).drew) (fun jd => ?_)
     refine tj4 0 21 1 22 3 24 2 23 HF jd ?_
     refine tj4 4 25 5 26 6 27 7 28 HF jd ?_
     refine wpAnyH_split (fuel := 6) (i := 8) (j := 12) (di := 29) (dj := 6) (skip := [29, 6]) (Pi := (fun v w' => ∃ a0 a1 a2 a3 a4, v = .tuple #[.agg #[.slice a0 n a1, .int .i64 I, .int .i64 a2, .int .i64 a3, .int .i64 a4], .bool true])) rfl rfl rfl rfl (by kernel_rfl) ?jmtrue (Job.alloc (skip := [29, 6]) (nb := wr.heap.size) (obj := .cells #[.slice none 0 0, .int .i64 0, .int .i64 0, .int .i64 0, .int .i64 0] 32) rfl (fun _ h => h.size) (fun a' w1 => by go_simp; try rfl)) below_stays jd ?natrue ?nbtrue
     case jmtrue =>
      intro a' w1' K hev hb hK
      have h1 : a'.eval (.tmp 21) = .agg #[.slice (some ⟨b, off, none⟩) n c, .int .i64 I, .int .i64 H, .int .i64 S, .int .i64 P] := (hev 21 (by decide)).trans rfl
      have h2 : a'.tmps[21]?.getD undef = .agg #[.slice (some ⟨b, off, none⟩) n c, .int .i64 I, .int .i64 H, .int .i64 S, .int .i64 P] := by simpa [Act.eval] using h1
      have h3 : a'.eval (.tmp 28) = .agg #[.int .i64 5, .int .i64 (f (i * 4)), .int .i64 0, .int .i64 1] := (hev 28 (by decide)).trans rfl
      have h4 : a'.tmps[28]?.getD undef = .agg #[.int .i64 5, .int .i64 (f (i * 4)), .int .i64 0, .int .i64 1] := by simpa [Act.eval] using h3
      have HK := lh hK
      have HSL := lh (HSW.out.below (below_of hB hb hB.size))
      clear hev h1 h3 hK HF
      go_simp
      go_at_call 114
      refine (l25Make_rake _ n c lo hi f I H S P (f (i * 4)) 0 1 i hlt w1' HSL.out hn hnc (by simp) HFD.out (by omega)).mono ?_
      rw [HOK.out]
      rintro e w2' ⟨A', c', rfl, _, _, _, hb2⟩
      exact HK.out _ w2' ⟨_, _, _, _, _, rfl⟩ hb2
     case natrue =>
      rintro v w3 ⟨a0, a1, a2, a3, a4, rfl⟩ hS3 _
      simp only [Act.put, p1, p2, p3]
      have jd := hS3
      refine tj3 9 20 10 30 11 31 HF jd ?_
      refine wpAnyH_job (fuel := 2) (i := 12) (d := 6) (skip := [29, 6]) rfl rfl (by kernel_rfl) (Job.alloc (skip := [29, 6]) (nb := wr.heap.size) (obj := .cells #[.slice none 0 0, .int .i64 0, .int .i64 0, .int .i64 0, .int .i64 0] 32) rfl (fun _ h => h.size) (fun a' w1 => by go_simp; try rfl)) below_stays jd ?nctrue
      case nctrue =>
      rintro v w4 ⟨g6, rfl, l6, h6⟩ hS4 _
      simp only [Act.put, p1, p2, p3]
      refine wS0 13 g6 #[.slice a0 n a1, .int .i64 I, .int .i64 a2, .int .i64 a3, .int .i64 a4] 32 infoWorks h6 (fun w' hg => hS4.grown hg hS4.size (fun k hk => by cases hk; exact l6)) ?struea
      case struea =>
      intro w5 h5 hg5 hS5
      have jd := hS5
      refine tj 14 7 HF rfl jd ?_
      refine wpAnyH_done (by kernel_rfl) ?_ _
      clear HF h5 hg5 jd h6 l6
      have hO5 := lh (ownsRow_below HO.out hS5)
      have hB5 := below_of hB hS5 hB.size
      have hbs := hB5.size
      have z5 := kp hS5 z0
      have z6 := kp hS5 c0
      clear hS5 HO hB z0 c0
      go_wp2_with (at_builtin; refine wpList_append_int1 _ rfl _ _ 101 rfl (w.alloc (.cells #[.slice (some ⟨b, off, none⟩) n c, .int .i64 I, .int .i64 H, .int .i64 S, .int .i64 P] 32)).heap.size 3 Tryz.underlying101 infoIntP P' (f (i * 4)) _ rfl (hO5.out.alloc _) _ rfl (by simp) (by omega) (by simp; simp at hbs; omega) ?_; intro v' w6 hown6 _ hgrow6)
      go_roundw
      case rel => exact ⟨i + 1, by omega, by go_num, by rw [HPY.out HPB.out]; exact hown6, below_app (hB5.alloc hB5.size _) (hO5.out.alloc _) hgrow6⟩
      case measure => simp [intOf]; omega
     case nbtrue =>
     rintro v w3 ⟨g6, rfl, l6, h63⟩ hS3 _
     simp only [Act.put, p1, p2, p3]
     refine wpAnyH_job (fuel := 5) (i := 8) (d := 29) (skip := [29, 6]) (Post := (fun v w' => ∃ a0 a1 a2 a3 a4, v = .tuple #[.agg #[.slice a0 n a1, .int .i64 I, .int .i64 a2, .int .i64 a3, .int .i64 a4], .bool true])) rfl rfl (by kernel_rfl) ?jntrue below_stays hS3 ?ndtrue
     case jntrue =>
      intro a' w1' K hev hb hK
      have h1 : a'.eval (.tmp 21) = .agg #[.slice (some ⟨b, off, none⟩) n c, .int .i64 I, .int .i64 H, .int .i64 S, .int .i64 P] := (hev 21 (by decide)).trans rfl
      have h2 : a'.tmps[21]?.getD undef = .agg #[.slice (some ⟨b, off, none⟩) n c, .int .i64 I, .int .i64 H, .int .i64 S, .int .i64 P] := by simpa [Act.eval] using h1
      have h3 : a'.eval (.tmp 28) = .agg #[.int .i64 5, .int .i64 (f (i * 4)), .int .i64 0, .int .i64 1] := (hev 28 (by decide)).trans rfl
      have h4 : a'.tmps[28]?.getD undef = .agg #[.int .i64 5, .int .i64 (f (i * 4)), .int .i64 0, .int .i64 1] := by simpa [Act.eval] using h3
      have HK := lh hK
      have HSL := lh (HSW.out.below (below_of hB hb hB.size))
      clear hev h1 h3 hK HF
      go_simp
      go_at_call 114
      refine (l25Make_rake _ n c lo hi f I H S P (f (i * 4)) 0 1 i hlt w1' HSL.out hn hnc (by simp) HFD.out (by omega)).mono ?_
      rw [HOK.out]
      rintro e w2' ⟨A', c', rfl, _, _, _, hb2⟩
      exact HK.out _ w2' ⟨_, _, _, _, _, rfl⟩ hb2
     case ndtrue =>
     rintro v w4 ⟨a0, a1, a2, a3, a4, rfl⟩ hS4 hb4
     have h6 := (hb4.block g6 (Array.getElem?_eq_some_iff.1 h63).1).trans h63
     simp only [Act.put, p1, p2, p3]
     have jd := hS4
     refine tj3 9 20 10 30 11 31 HF jd ?_
     refine wS0 13 g6 #[.slice a0 n a1, .int .i64 I, .int .i64 a2, .int .i64 a3, .int .i64 a4] 32 infoWorks h6 (fun w' hg => hS4.grown hg hS4.size (fun k hk => by cases hk; exact l6)) ?strueb
     case strueb =>
     intro w5 h5 hg5 hS5
     have jd := hS5
     refine tj 14 7 HF rfl jd ?_
     refine wpAnyH_done (by kernel_rfl) ?_ _
     clear HF h5 hg5 jd h6 l6
     have hO5 := lh (ownsRow_below HO.out hS5)
     have hB5 := below_of hB hS5 hB.size
     have hbs := hB5.size
     have z5 := kp hS5 z0
     have z6 := kp hS5 c0
     clear hS5 HO hB z0 c0
     go_wp2_with (at_builtin; refine wpList_append_int1 _ rfl _ _ 101 rfl (w.alloc (.cells #[.slice (some ⟨b, off, none⟩) n c, .int .i64 I, .int .i64 H, .int .i64 S, .int .i64 P] 32)).heap.size 3 Tryz.underlying101 infoIntP P' (f (i * 4)) _ rfl (hO5.out.alloc _) _ rfl (by simp) (by omega) (by simp; simp at hbs; omega) ?_; intro v' w6 hown6 _ hgrow6)
     go_roundw
     case rel => exact ⟨i + 1, by omega, by go_num, by rw [HPY.out HPB.out]; exact hown6, below_app (hB5.alloc hB5.size _) (hO5.out.alloc _) hgrow6⟩
     case measure => simp [intOf]; omega
    | false =>
     have HPB : Hid (rakeB f i = false) := hqi
     have HOK := lh (HKI.out.trans hqi)
     clear hqi HKI
     go_wp2_with fail
     refine wp_region_held_drew (S := fun w' => Below wr.heap.size wr w') (by kernel_rfl) ((Below.refl _ wr).drew) (fun jd => ?_)
     refine tj4 0 21 1 22 3 24 2 23 HF jd ?_
     refine tj4 4 25 5 26 6 27 7 28 HF jd ?_
     refine wpAnyH_split (fuel := 6) (i := 8) (j := 12) (di := 29) (dj := 6) (skip := [29, 6]) (Pi := (fun v w' => ∃ a0 a1 a2 a3 a4, v = .tuple #[.agg #[.slice a0 n a1, .int .i64 I, .int .i64 a2, .int .i64 a3, .int .i64 a4], .bool false])) rfl rfl rfl rfl (by kernel_rfl) ?jmfalse (Job.alloc (skip := [29, 6]) (nb := wr.heap.size) (obj := .cells #[.slice none 0 0, .int .i64 0, .int .i64 0, .int .i64 0, .int .i64 0] 32) rfl (fun _ h => h.size) (fun a' w1 => by go_simp; try rfl)) below_stays jd ?nafalse ?nbfalse
     case jmfalse =>
      intro a' w1' K hev hb hK
      have h1 : a'.eval (.tmp 21) = .agg #[.slice (some ⟨b, off, none⟩) n c, .int .i64 I, .int .i64 H, .int .i64 S, .int .i64 P] := (hev 21 (by decide)).trans rfl
      have h2 : a'.tmps[21]?.getD undef = .agg #[.slice (some ⟨b, off, none⟩) n c, .int .i64 I, .int .i64 H, .int .i64 S, .int .i64 P] := by simpa [Act.eval] using h1
      have h3 : a'.eval (.tmp 28) = .agg #[.int .i64 5, .int .i64 (f (i * 4)), .int .i64 0, .int .i64 1] := (hev 28 (by decide)).trans rfl
      have h4 : a'.tmps[28]?.getD undef = .agg #[.int .i64 5, .int .i64 (f (i * 4)), .int .i64 0, .int .i64 1] := by simpa [Act.eval] using h3
      have HK := lh hK
      have HSL := lh (HSW.out.below (below_of hB hb hB.size))
      clear hev h1 h3 hK HF
      go_simp
      go_at_call 114
      refine (l25Make_rake _ n c lo hi f I H S P (f (i * 4)) 0 1 i hlt w1' HSL.out hn hnc (by simp) HFD.out (by omega)).mono ?_
      rw [HOK.out]
      rintro e w2' ⟨A', c', rfl, _, _, _, hb2⟩
      exact HK.out _ w2' ⟨_, _, _, _, _, rfl⟩ hb2
     case nafalse =>
      rintro v w3 ⟨a0, a1, a2, a3, a4, rfl⟩ hS3 _
      simp only [Act.put, p1, p2, p3]
      have jd := hS3
      refine tj3 9 20 10 30 11 31 HF jd ?_
      refine wpAnyH_job (fuel := 2) (i := 12) (d := 6) (skip := [29, 6]) rfl rfl (by kernel_rfl) (Job.alloc (skip := [29, 6]) (nb := wr.heap.size) (obj := .cells #[.slice none 0 0, .int .i64 0, .int .i64 0, .int .i64 0, .int .i64 0] 32) rfl (fun _ h => h.size) (fun a' w1 => by go_simp; try rfl)) below_stays jd ?ncfalse
      case ncfalse =>
      rintro v w4 ⟨g6, rfl, l6, h6⟩ hS4 _
      simp only [Act.put, p1, p2, p3]
      refine wS0 13 g6 #[.slice a0 n a1, .int .i64 I, .int .i64 a2, .int .i64 a3, .int .i64 a4] 32 infoWorks h6 (fun w' hg => hS4.grown hg hS4.size (fun k hk => by cases hk; exact l6)) ?sfalsea
      case sfalsea =>
      intro w5 h5 hg5 hS5
      have jd := hS5
      refine tj 14 7 HF rfl jd ?_
      refine wpAnyH_done (by kernel_rfl) ?_ _
      clear HF h5 hg5 jd h6 l6
      have hO5 := ownsRow_below HO.out hS5
      have hB5 := below_of hB hS5 hB.size
      clear hS5 HO hB
      go_wp2
      go_roundw
      case rel => exact ⟨i + 1, by omega, by go_num, by rw [HPN.out HPB.out]; exact hO5, hB5⟩
      case measure => simp [intOf]; omega
     case nbfalse =>
     rintro v w3 ⟨g6, rfl, l6, h63⟩ hS3 _
     simp only [Act.put, p1, p2, p3]
     refine wpAnyH_job (fuel := 5) (i := 8) (d := 29) (skip := [29, 6]) (Post := (fun v w' => ∃ a0 a1 a2 a3 a4, v = .tuple #[.agg #[.slice a0 n a1, .int .i64 I, .int .i64 a2, .int .i64 a3, .int .i64 a4], .bool false])) rfl rfl (by kernel_rfl) ?jnfalse below_stays hS3 ?ndfalse
     case jnfalse =>
      intro a' w1' K hev hb hK
      have h1 : a'.eval (.tmp 21) = .agg #[.slice (some ⟨b, off, none⟩) n c, .int .i64 I, .int .i64 H, .int .i64 S, .int .i64 P] := (hev 21 (by decide)).trans rfl
      have h2 : a'.tmps[21]?.getD undef = .agg #[.slice (some ⟨b, off, none⟩) n c, .int .i64 I, .int .i64 H, .int .i64 S, .int .i64 P] := by simpa [Act.eval] using h1
      have h3 : a'.eval (.tmp 28) = .agg #[.int .i64 5, .int .i64 (f (i * 4)), .int .i64 0, .int .i64 1] := (hev 28 (by decide)).trans rfl
      have h4 : a'.tmps[28]?.getD undef = .agg #[.int .i64 5, .int .i64 (f (i * 4)), .int .i64 0, .int .i64 1] := by simpa [Act.eval] using h3
      have HK := lh hK
      have HSL := lh (HSW.out.below (below_of hB hb hB.size))
      clear hev h1 h3 hK HF
      go_simp
      go_at_call 114
      refine (l25Make_rake _ n c lo hi f I H S P (f (i * 4)) 0 1 i hlt w1' HSL.out hn hnc (by simp) HFD.out (by omega)).mono ?_
      rw [HOK.out]
      rintro e w2' ⟨A', c', rfl, _, _, _, hb2⟩
      exact HK.out _ w2' ⟨_, _, _, _, _, rfl⟩ hb2
     case ndfalse =>
     rintro v w4 ⟨a0, a1, a2, a3, a4, rfl⟩ hS4 hb4
     have h6 := (hb4.block g6 (Array.getElem?_eq_some_iff.1 h63).1).trans h63
     simp only [Act.put, p1, p2, p3]
     have jd := hS4
     refine tj3 9 20 10 30 11 31 HF jd ?_
     refine wS0 13 g6 #[.slice a0 n a1, .int .i64 I, .int .i64 a2, .int .i64 a3, .int .i64 a4] 32 infoWorks h6 (fun w' hg => hS4.grown hg hS4.size (fun k hk => by cases hk; exact l6)) ?sfalseb
     case sfalseb =>
     intro w5 h5 hg5 hS5
     have jd := hS5
     refine tj 14 7 HF rfl jd ?_
     refine wpAnyH_done (by kernel_rfl) ?_ _
     clear HF h5 hg5 jd h6 l6
     have hO5 := ownsRow_below HO.out hS5
     have hB5 := below_of hB hS5 hB.size
     clear hS5 HO hB
     go_wp2
     go_roundw
     case rel => exact ⟨i + 1, by omega, by go_num, by rw [HPN.out HPB.out]; exact hO5, hB5⟩
     case measure => simp [intOf]; omega
   ·have hni : ¬ ((i : Int) < (n : Int)) := by omega
    have hin : i = n := by omega
    subst hin
    clear HFA HKA HSW
    generalize idsP f (pickN (rakeB f) i) = P' at *
    go_wp2
    go_ret2
    exact IntsPost.mk_ (ownsRow_monoP HO.out BW.size) (BW.trans (hB.mono BW.size))
end Go.Proofs.YtpndjhelpoenpaaGreatDoor
