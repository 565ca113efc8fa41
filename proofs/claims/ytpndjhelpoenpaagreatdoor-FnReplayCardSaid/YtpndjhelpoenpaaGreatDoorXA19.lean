/-
  Texts of this claim, merged.
-/
import Derived.Test.YtpndjhelpoenpaaGreatDoorXA18
set_option linter.unusedVariables false
set_option linter.unusedSimpArgs false
set_option maxRecDepth 100000
set_option maxHeartbeats 8000000
namespace Go.Proofs.YtpndjhelpoenpaaGreatDoor
open Go.RowKit Go.Sort
attribute [local go_sem ↓] Go.wp_at_zero Go.wp_at_succ
section
variable {P : Program} {md : Region.Mode} {ops : Array Oper} {Q : Exit → Act → World → Prop} {S : World → Prop}
theorem wpAnyH_rdnew {i j di dj : Nat} {fuel : Nat} {listed : Array Bool} {a : Act} {w : World} {oi oj : Oper} {obj : Obj} {vi vj : Value}
  (hoi : ops[i]? = some oi) (hoj : ops[j]? = some oj) (hgi : oi.guard = none ∧ oi.dst = some di) (hgj : oj.guard = none ∧ oj.dst = some dj) (hij : i ≠ j) (hd : di ≠ dj)
  (r0 : Region.ready md ops listed = [i, j]) (ri : Region.ready md ops (listed.setIfInBounds i true) = [j]) (rj : Region.ready md ops (listed.setIfInBounds j true) = [i])
  (run_i : (execOp a.eval oi).run P w = .ok (.value vi) w) (run_i2 : (execOp (a.put (some dj) vj).eval oi).run P (w.alloc obj) = .ok (.value vi) (w.alloc obj))
  (run_j : (execOp a.eval oj).run P w = .ok (.value vj) (w.alloc obj)) (run_j2 : (execOp (a.put (some di) vi).eval oj).run P w = .ok (.value vj) (w.alloc obj))
  (hS : S w) (hSa : S (w.alloc obj))
  (h : wpAnyH P md ops Q S fuel ((listed.setIfInBounds i true).setIfInBounds j true) ((a.put (some di) vi).put (some dj) vj) (w.alloc obj)) :
  wpAnyH P md ops Q S (fuel + 2) listed a w := by
 refine wpAnyH_ready (fuel := fuel + 1) r0 (by simp) (AllReadyH.cons hoi (fun K hK => ?_) (AllReadyH.cons hoj (fun K hK => ?_) AllReadyH.nil))
 ·rw [if_pos (wanted_plain hgi.1)]
  refine oper_wp_value run_i ?_
  rw [hgi.2]
  refine hK.out _ _ hS (fun _ => ?_)
  refine wpAnyH_ready (fuel := fuel) ri (by simp) (AllReadyH.cons hoj (fun K2 hK2 => ?_) AllReadyH.nil)
  rw [if_pos (wanted_plain hgj.1)]
  refine oper_wp_value run_j2 ?_
  rw [hgj.2]
  exact hK2.out _ _ hSa (fun _ => h)
 ·rw [if_pos (wanted_plain hgj.1)]
  refine oper_wp_value run_j ?_
  rw [hgj.2]
  refine hK.out _ _ hSa (fun _ => ?_)
  refine wpAnyH_ready (fuel := fuel) rj (by simp) (AllReadyH.cons hoi (fun K2 hK2 => ?_) AllReadyH.nil)
  rw [if_pos (wanted_plain hgi.1)]
  refine oper_wp_value run_i2 ?_
  rw [hgi.2]
  refine hK2.out _ _ hSa (fun _ => ?_)
  rw [listed_comm _ (Ne.symm hij), put_comm _ _ _ (Ne.symm hd)]
  exact h
end
theorem sw_build (g lo n c' : Nat) (A' : Option Addr) (f : Nat → Int) (I H S P : Int) (id tt0 z : Int) (hn : n ≤ 1000) (w : World) (hg : w.heap[g]? = some (.cells (wB A' n c' I H S P) 32 (0, 0))) (hO : w.ownsRow lo 97 4 (.slice A' n c') n ((cellsL f n).map (Value.int .i64))) (hlo : lo ≤ g) (hfd : findV (pid f) id n 0 = -1) (ht0 : tt0 = 0) :
  Calls Tryz.prog 139 #[.pointer (some ⟨g, 0, none⟩), .agg (iV 1 id tt0 z)] w (fun e w' => e = .returned (.bool true) ∧ (true = true → BoxOwn w' lo g (buildL f n (placeV f id n 0) id z) (n + 1) I H S P) ∧ Below lo w w') := by
 subst ht0
 refine z230 ?_
 intro lg hnc hncI
 go_upto_region 1 with fail
 revert hg hO lg
 refine z231 ?_
 intro w1 s low lg lg1 ls1 lw1 ngs nsg hles HS0 jd w2 hg2 hs2 hO2 hB2 lw2 lgw2 lsw2 e0 e1 e2 e3 e4 ef s0 s1 s2 s3
 have hneg : ¬ ((0 : Int) ≤ -1) := by decide
 have HG2 := lh hg2
 have HO2 := lh hO2
 have HB2 := lh hB2
 have HS2 := lh hs2
 have HSL : Hid (Sl w2 lo w2.heap.size 4 A' n f) := by
  obtain ⟨A0, c0, e0, _, _, h0⟩ := own_of_row HO2.out
  cases e0
  exact (h0.congr (fun j hj => cellsL_getD _ n j hj)).sl
 clear hg2 hO2 hB2 hs2
 go_wp2_with fail
 clear e0 e1 e2 e3 e4 ef s0 s1 s2 s3
 go_loopw [6] (fun kv wr => bW w2 wr ∧ ∃ k : Nat, k ≤ n ∧ kv = .int .i64 k ∧ placeV f id n 0 = placeV f id (n - k) k) (fun kv _ => n - (intOf kv).toNat)
 case atStart => exact ⟨Below.refl _ _, 0, Nat.zero_le _, rfl, rfl⟩
 case round =>
  obtain ⟨hbel, k, hk, rfl, hpl⟩ := hrel
  have hgr := (hbel.block g lgw2).trans HG2.out
  have hsr := (hbel.block s lsw2).trans HS2.out
  obtain ⟨e0, e1, e2, e3, e4⟩ := cells5 hgr
  have ef := fz hgr
  obtain ⟨s0, s1, s2, s3⟩ := cells4 hsr
  by_cases hlt : k < n
  ·obtain ⟨b, off, eA, hbw, HC⟩ := HSL.out.open_ hbel (by omega)
   obtain ⟨c0, c1, c2, c3⟩ := cell4 HC hlt
   refine z43 ?_
   intro hk0i hkni
   have hkdi : decide ((k : Int) < (n : Int)) = true := decide_eq_true hkni
   have e1' : n - k = (n - k - 1) + 1 := by omega
   clear HC
   by_cases hid : f (k * 4) < id
   ·have hst : placeV f id n 0 = placeV f id (n - (k + 1)) (k + 1) := by
     rw [hpl, e1']
     show (if f (k * 4) < id then placeV f id (n - k - 1) (k + 1) else k) = _
     rw [if_pos hid]
     rfl
    have HST := lh hst
    have hidd : decide (f (k * 4) < id) = true := decide_eq_true hid
    clear hst hpl e1'
    rw [eA] at e0
    go_wp2_with fail
    go_quiet (fail)
    go_wp2
    go_roundw
    case rel => exact ⟨below_drewN hbel _, k + 1, by omega, by go_num, HST.out⟩
    case measure => simp [intOf]; omega
   ·have hst : placeV f id n 0 = k := by
     rw [hpl, e1']
     show (if f (k * 4) < id then placeV f id (n - k - 1) (k + 1) else k) = _
     rw [if_neg hid]
    have HST := lh hst
    have hidd : decide (f (k * 4) < id) = false := decide_eq_false hid
    clear hst hpl e1'
    have E0 := lh e0
    have EA := lh eA
    rw [eA] at e0
    clear eA
    go_wp2_with fail
    refine z243 ?_
    intro nq wq hHeldq hbq hgq hsq hOq hBq lwq lgq lsq
    have hloq : ∀ j0 : Nat, (Value.slice A' n c').ownBlock = some j0 → lo ≤ j0 ∧ j0 < wq.heap.size := fun j0 e => World.ownsRow.lt hOq j0 e
    clear hHeldq hbq e0 e1 e2 e3 e4 ef s0 s1 s2 s3 hgr hsr
    refine z244 ?_
    intro e0 e1 e2 e3 e4 ef HF
    go_wp2_with fail
    refine wp_region_held_drew (S := (fun w' => w'.heap[s]? = some (.cells (iV 1 id 0 z) 107 (0, 0)) ∧ Below lo wq w')) (by exact z12) ⟨hsq, (Below.refl lo wq).drew⟩ (fun jd => ?_)
    refine tj4 0 50 1 51 5 55 6 56 HF jd ?_
    refine tj4 8 58 7 57 9 59 10 60 HF jd ?_
    refine tj2 2 52 3 53 HF jd ?_
    refine wpAnyH_rdnew (fuel := 4) (i := 4) (j := 11) (di := 54) (dj := 61) (obj := (.cells (iV id z 0 0) 97)) (vi := .slice A' n c') (vj := .slice (some ⟨wq.drew.heap.size, 0, none⟩) 1 1) rfl rfl ⟨rfl, rfl⟩ ⟨rfl, rfl⟩ (by decide) (by decide) (by exact z12) (by exact z12) (by exact z12) (by go_simp; try rfl) (by go_simp; try rfl) (by go_simp; try rfl) (by go_simp; try rfl) jd ⟨by rw [heap_alloc_old _ _ (show s < wq.drew.heap.size from lsq)]; exact hsq, jd.2.alloc (show lo ≤ wq.drew.heap.size from lwq) _⟩ ?_
    refine z15 ?_
    have hgW : (wq.drew.alloc (.cells (iV id z 0 0) 97)).heap[g]? = some (.cells (wB A' n c' I H S P) 32 (0, 0)) := by rw [heap_alloc_old _ _ (show g < wq.drew.heap.size from lgq)]; exact hgq
    revert hgq hsq hOq e0 e1 e2 e3 e4 ef HF jd hgW
    refine z245 ?_
    intro w3 hbW hBW hzW HO3 HG3 HS3 HV3 K HK
    refine (InsertPan_any lo n k wq.heap.size 97 (.slice A' n c') (cellsL f n) [id, z, 0, 0] w3 HO3.out (by omega) hn (Nat.le_trans lwq (Nat.le_of_lt hzW)) rfl HV3.out (fun e => by have := (hloq _ e.symm).2; omega)).mono ?_
    revert hbW hBW HO3 HG3 HS3 HV3 K HK
    refine z246 ?_
    intro w4 A2 c2 ho4 h1 h2 hg4 hs4 hB4 jd HF
    refine wpAnyH_store (fuel := 0) (i := 15) rfl (by exact z12) g 0 (.slice A2 (n + 1) c2) 32 (wB A' n c' I H S P) rfl rfl infoPans hg4 (Nat.le_add_left 1 4) (by exact z143) (fun w' hg => ⟨(hg.block s (gL hs4) (by simp; omega)).trans hs4, hB4.grown hg (Nat.le_trans lwq hB4.size) (fun j0 hj0 => by cases hj0; omega)⟩) ?kba
    case kba =>
    intro w5 hh5 hg5' hS5
    refine z49 ?_
    have hg5 : w5.heap[g]? = some (.cells (wB A2 (n + 1) c2 I H S P) 32 (0, 0)) := hh5
    exact z247
  ·have hkn : k = n := by omega
   subst hkn
   have hst : placeV f id k 0 = k := by rw [hpl, Nat.sub_self]; rfl
   have HST := lh hst
   refine z177 ?_
   intro hki
   have hkdi : decide ((k : Int) < (k : Int)) = false := decide_eq_false hki
   clear hst hpl
   go_wp2_with fail
   refine z243 ?_
   intro nq wq hHeldq hbq hgq hsq hOq hBq lwq lgq lsq
   have hloq : ∀ j0 : Nat, (Value.slice A' k c').ownBlock = some j0 → lo ≤ j0 ∧ j0 < wq.heap.size := fun j0 e => World.ownsRow.lt hOq j0 e
   clear hHeldq hbq e0 e1 e2 e3 e4 ef s0 s1 s2 s3 hgr hsr
   refine z244 ?_
   intro e0 e1 e2 e3 e4 ef HF
   go_wp2_with fail
   refine wp_region_held_drew (S := (fun w' => w'.heap[s]? = some (.cells (iV 1 id 0 z) 107 (0, 0)) ∧ Below lo wq w')) (by exact z12) ⟨hsq, (Below.refl lo wq).drew⟩ (fun jd => ?_)
   refine tj4 0 50 1 51 5 55 6 56 HF jd ?_
   refine tj4 8 58 7 57 9 59 10 60 HF jd ?_
   refine tj2 2 52 3 53 HF jd ?_
   refine wpAnyH_rdnew (fuel := 4) (i := 4) (j := 11) (di := 54) (dj := 61) (obj := (.cells (iV id z 0 0) 97)) (vi := .slice A' k c') (vj := .slice (some ⟨wq.drew.heap.size, 0, none⟩) 1 1) rfl rfl ⟨rfl, rfl⟩ ⟨rfl, rfl⟩ (by decide) (by decide) (by exact z12) (by exact z12) (by exact z12) (by go_simp; try rfl) (by go_simp; try rfl) (by go_simp; try rfl) (by go_simp; try rfl) jd ⟨by rw [heap_alloc_old _ _ (show s < wq.drew.heap.size from lsq)]; exact hsq, jd.2.alloc (show lo ≤ wq.drew.heap.size from lwq) _⟩ ?_
   refine z15 ?_
   have hgW : (wq.drew.alloc (.cells (iV id z 0 0) 97)).heap[g]? = some (.cells (wB A' k c' I H S P) 32 (0, 0)) := by rw [heap_alloc_old _ _ (show g < wq.drew.heap.size from lgq)]; exact hgq
   revert hgq hsq hOq e0 e1 e2 e3 e4 ef HF jd hgW
   refine z245 ?_
   intro w3 hbW hBW hzW HO3 HG3 HS3 HV3 K HK
   refine (InsertPan_any lo k k wq.heap.size 97 (.slice A' k c') (cellsL f k) [id, z, 0, 0] w3 HO3.out (by omega) hn (Nat.le_trans lwq (Nat.le_of_lt hzW)) rfl HV3.out (fun e => by have := (hloq _ e.symm).2; omega)).mono ?_
   revert hbW hBW HO3 HG3 HS3 HV3 K HK
   refine z246 ?_
   intro w4 A2 c2 ho4 h1 h2 hg4 hs4 hB4 jd HF
   refine wpAnyH_store (fuel := 0) (i := 15) rfl (by exact z12) g 0 (.slice A2 (k + 1) c2) 32 (wB A' k c' I H S P) rfl rfl infoPans hg4 (Nat.le_add_left 1 4) (by exact z143) (fun w' hg => ⟨(hg.block s (gL hs4) (by simp; omega)).trans hs4, hB4.grown hg (Nat.le_trans lwq hB4.size) (fun j0 hj0 => by cases hj0; omega)⟩) ?kbb
   case kbb =>
   intro w5 hh5 hg5' hS5
   refine z49 ?_
   have hg5 : w5.heap[g]? = some (.cells (wB A2 (k + 1) c2 I H S P) 32 (0, 0)) := hh5
   exact z247
end Go.Proofs.YtpndjhelpoenpaaGreatDoor
namespace Go.Proofs.YtpndjhelpoenpaaGreatDoor
open Go.RowKit Go.Sort
attribute [local go_sem ↓] Go.wp_at_zero Go.wp_at_succ
def stB (f : Nat → Int) (n : Nat) (kd id tt0 z : Int) : Bool :=
 if kd ≠ 3 ∧ tt0 ≠ 0 then false
 else if kd = 1 then decide (findV (pid f) id n 0 < 0)
 else if kd = 6 then decide (id = 0) && decide (1 ≤ z)
 else if findV (pid f) id n 0 < 0 then false
 else if kd = 7 then decide (z = 0)
 else decide (1 ≤ z) && (if kd = 3 then decide (0 ≤ findV (pid f) tt0 n 0) && (decide (findV (pid f) tt0 n 0 ≠ findV (pid f) id n 0) && leadOk f (atN f n id) z)
  else if kd = 2 ∨ kd = 4 then true else if kd = 5 then mayV (f (atN f n id * 4 + 2)) (f (atN f n id * 4 + 3)) else false)
theorem placeV_le (f : Nat → Int) (id : Int) : ∀ m k, k ≤ placeV f id m k ∧ placeV f id m k ≤ k + m
 | 0, k => ⟨Nat.le_refl _, Nat.le_refl _⟩
 | m + 1, k => by
  unfold placeV
  split
  ·have := placeV_le f id m (k + 1); omega
  ·omega
theorem build_good {f : Nat → Int} {n p : Nat} {id z I H S P : Int} (hp : p ≤ n) (h : goodWorks (lf (buildL f n p id z)) (n + 1) I H S P = true) : inR id 1 99 = true ∧ inR z 1 100000 = true := by
 have hl : ((cellsL f n).take (p * 4)).length = p * 4 := by rw [List.length_take, cellsL_len]; omega
 have hget : ∀ q, q < 4 → lf (buildL f n p id z) (p * 4 + q) = [id, z, 0, 0].getD q 0 := by
  intro q hq
  simp only [lf, buildL, List.getD]
  rw [List.append_assoc, List.getElem?_append_right (by omega), hl, show p * 4 + q - p * 4 = q by omega, List.getElem?_append_left (by simpa using hq)]
 simp only [goodWorks, pansOk, Bool.and_eq_true] at h
 have ha := allTo_at (k := p) (by omega) h.1.1.1
 simp only [panStep, okPanAt, okPan, Bool.and_eq_true] at ha
 have h0 := hget 0 (by omega)
 have h1 := hget 1 (by omega)
 rw [Nat.add_zero] at h0
 rw [h0, h1] at ha
 exact ⟨ha.1.1.1.1, ha.1.1.1.2⟩
theorem stOk_eq {f : Nat → Int} {n : Nat} {I H S P : Int} (kd id tt0 z : Int) (hg : goodWorks f n I H S P = true) :
  stOk f n I H S P kd id tt0 z = (inR z 0 1000000 && (stB f n kd id tt0 z && stG f n I H S P kd id tt0 z)) := by
 cases hG : stG f n I H S P kd id tt0 z with
 | false => simp [stOk, mkOk, hG]
 | true =>
 simp only [stOk, mkOk, hg, hG, Bool.true_and, Bool.and_true]
 by_cases k1 : kd = 1
 ·subst k1
  have hpl := placeV_le f id n 0
  have hb := build_good (f := f) (n := n) (p := placeV f id n 0) (id := id) (z := z) (by omega) (by simpa [stG, stL, stN] using hG)
  have hz := hb.2
  simp only [inR, decide_eq_true_eq] at hz
  have hz1 : z ≤ 1000000 := by omega
  have hz2 : 0 ≤ z := by omega
  have hi : 1 ≤ id ∧ id ≤ 99 := by simpa [inR] using hb.1
  by_cases ht : tt0 = 0 <;> simp [stV, stB, stM, ht, inR, hz1, hz2, hi, hz]
 by_cases k6 : kd = 6
 ·subst k6
  by_cases ht : tt0 = 0 <;> by_cases hi : id = 0 <;> by_cases h1 : 1 ≤ z <;> by_cases h2 : z ≤ 1000000 <;> (have h3 : 1 ≤ z → 0 ≤ z := by omega) <;> simp [stV, stB, stM, inR, ht, hi, h1, h2, h3]
 rcases findV_cases (pid f) id n 0 with ⟨h1, _⟩ | ⟨i, _, hi, hfd, hpi⟩
 ·have e1 : stV f n kd id tt0 z = false := by
   unfold stV
   rw [if_neg k1]
   simp [h1, k6]
  have e2 : stB f n kd id tt0 z = false := by
   unfold stB
   split
   ·rfl
   ·simp [k1, k6, h1]
  rw [e1, e2]; simp
 have hi0 : ¬ ((i : Int) < 0) := by omega
 have ha : atN f n id = i := by simp [atN, hfd]
 by_cases k7 : kd = 7
 ·subst k7
  by_cases ht : tt0 = 0 <;> by_cases hz : z = 0 <;> simp [stV, stB, stM, inR, ht, hz, hfd, hi0]
 by_cases k3 : kd = 3
 ·subst k3
  rcases findV_cases (pid f) tt0 n 0 with ⟨h1, _⟩ | ⟨j, _, hj, hfk, hpj⟩
  ·simp [stV, stB, hfd, h1]
  ·have hj0 : ¬ ((j : Int) < 0) := by omega
   have hiff : (j : Int) = (i : Int) ↔ tt0 = id := by
    constructor
    ·intro h
     have : j = i := by omega
     subst this
     rw [← hpi, ← hpj]
    ·intro h
     subst h
     rw [hfd] at hfk
     exact hfk.symm
   by_cases he : tt0 = id
   ·have he2 := hiff.2 he
    simp [stV, stB, hfd, hfk, he, he2]
   ·have he2 : ¬ ((j : Int) = (i : Int)) := fun h => he (hiff.1 h)
    by_cases h1 : 1 ≤ z <;> by_cases h2 : z ≤ 1000000 <;> (have h3 : 1 ≤ z → 0 ≤ z := by omega) <;> simp [stV, stB, stM, inR, hfd, hfk, he, he2, h1, h2, h3]
 by_cases ht : tt0 = 0
 rotate_left
 ·have e1 : stV f n kd id tt0 z = false := by
   unfold stV
   rw [if_neg k1]
   split
   ·simp [ht]
   ·simp [k3, k6, k7]
  have e2 : stB f n kd id tt0 z = false := by
   unfold stB
   rw [if_pos ⟨k3, ht⟩]
  rw [e1, e2]; simp
 by_cases k2 : kd = 2 ∨ kd = 4
 ·have k245 : kd = 2 ∨ kd = 4 ∨ kd = 5 := by omega
  have k5 : ¬ kd = 5 := by omega
  by_cases h1 : 1 ≤ z <;> by_cases h2 : z ≤ 1000000 <;> (have h3 : 1 ≤ z → 0 ≤ z := by omega) <;> simp [stV, stB, stM, inR, k1, k3, k5, k6, k7, k2, k245, ht, hfd, hi0, h1, h2, h3]
 by_cases k5 : kd = 5
 ·subst k5
  by_cases h1 : 1 ≤ z <;> by_cases h2 : z ≤ 1000000 <;> (have h3 : 1 ≤ z → 0 ≤ z := by omega) <;> simp [stV, stB, stM, inR, ht, hfd, hi0, h1, h2, h3]
 ·have k245 : ¬ (kd = 2 ∨ kd = 4 ∨ kd = 5) := by omega
  simp [stV, stB, k1, k2, k3, k5, k6, k7, k245]
section
variable {lo g : Nat} {w : World} {b : Bool}
theorem sw_no {fn : Nat} {args : Array Value} {L : List Int} {m : Nat} {I H S P : Int} (hb : b = false) (h : Calls Tryz.prog fn args w (fun e w' => e = .returned (.bool false) ∧ Below lo w w')) :
  Calls Tryz.prog fn args w (fun e w' => e = .returned (.bool b) ∧ (b = true → BoxOwn w' lo g L m I H S P) ∧ Below lo w w') := by
 subst hb
 exact h.mono fun e w' ⟨he, hw⟩ => ⟨he, (fun h => by cases h), hw⟩
theorem box_no {fn : Nat} {args : Array Value} {ga n c' : Nat} {L : List Int} {I H S P : Int} (hb : b = false) (h : Calls Tryz.prog fn args w (fun e w' => e = .returned (.bool false) ∧ Below lo w w')) :
  Calls Tryz.prog fn args w (fun e w' => e = .returned (.bool b) ∧ (b = true → BoxRow w' lo g ga n c' L I H S P) ∧ Below lo w w') := by
 subst hb
 exact h.mono fun e w' ⟨he, hw⟩ => ⟨he, (fun h => by cases h), hw⟩
end
theorem stepWorks_any (g lo n c' : Nat) (A' : Option Addr) (f : Nat → Int) (I H S P : Int) (kd id tt0 z : Int) (hn : n ≤ 1000) (w : World) (hg : w.heap[g]? = some (.cells (wB A' n c' I H S P) 32 (0, 0))) (hO : w.ownsRow lo 97 4 (.slice A' n c') n ((cellsL f n).map (Value.int .i64))) (hlo : lo ≤ g) :
  Calls Tryz.prog 139 #[.pointer (some ⟨g, 0, none⟩), .agg (iV kd id tt0 z)] w (fun e w' => e = .returned (.bool (stB f n kd id tt0 z)) ∧ (stB f n kd id tt0 z = true → BoxOwn w' lo g (stL f n kd id tt0 z) (stN n kd) (stI I kd z) (stH H kd z) (stS S kd z) (stP f n P kd id)) ∧ Below lo w w') := by
 by_cases ht : kd ≠ 3 ∧ tt0 ≠ 0
 ·refine sw_no (by simp only [stB, if_pos ht]) (sw_to g lo n c' A' f I H S P kd id tt0 z hn w hg hO hlo _ rfl ht.1 ht.2)
 have hto : kd = 3 ∨ tt0 = 0 := by
  by_cases h3 : kd = 3
  ·exact Or.inl h3
  ·exact Or.inr (Classical.byContradiction fun h => ht ⟨h3, h⟩)
 by_cases k1 : kd = 1
 ·subst k1
  have h0 : tt0 = 0 := hto.resolve_left (by decide)
  rcases findV_cases (pid f) id n 0 with ⟨h1, _⟩ | ⟨i, _, hi, hfd, _⟩
  ·have hb : stB f n 1 id tt0 z = true := by simp [stB, h0, h1]
   rw [hb]
   exact sw_build g lo n c' A' f I H S P id tt0 z hn w hg hO hlo h1 h0
  ·exact sw_no (by simp [stB, h0, hfd]) (sw_there g lo n c' A' f I H S P id tt0 z hn w hg hO hlo _ hfd h0 (by omega))
 by_cases k6 : kd = 6
 ·subst k6
  have h0 : tt0 = 0 := hto.resolve_left (by decide)
  have hb : stB f n 6 id tt0 z = (decide (id = 0) && decide (1 ≤ z)) := by simp [stB, h0]
  rw [hb]
  exact sw_ship g lo n c' A' f I H S P id tt0 z hn w hg hO hlo _ rfl h0
 have k1f : (kd == 1) = false := by simp [k1]
 have k6f : (kd == 6) = false := by simp [k6]
 rcases findV_cases (pid f) id n 0 with ⟨h1, _⟩ | ⟨i, _, hi, hfd, hpi⟩
 ·exact sw_no (by simp [stB, ht, k1, k6, h1]) (sw_none g lo n c' A' f I H S P kd id tt0 z hn w hg hO hlo h1 k1f k6f hto)
 refine z207 ?_
 intro hi' ha
 have hi0 : ¬ ((i : Int) < 0) := by omega
 by_cases k7 : kd = 7
 ·subst k7
  have h0 : tt0 = 0 := hto.resolve_left (by decide)
  have hb : stB f n 7 id tt0 z = decide (z = 0) := by simp [stB, h0, hfd, hi0]
  rw [hb]
  have h := sw_shut g lo n c' A' f I H S P id tt0 z hn w hg hO hlo i hi' hfd h0
  simpa [stL, stN, stI, stH, stS, stP, ha] using h
 have k7f : (kd == 7) = false := by simp [k7]
 by_cases hz : 1 ≤ z
 rotate_left
 ·exact sw_no (by simp [stB, ht, k1, k6, k7, hfd, hi0, hz]) (sw_zero g lo n c' A' f I H S P kd id tt0 z hn w hg hO hlo i hfd k1f k6f k7f hto hz)
 have hN : stN n kd = n := by simp [stN, k1, k7]
 have hS : stS S kd z = S := by simp [stS, k6]
 have hP : stP f n P kd id = P := by simp [stP, k7]
 rw [hN, hS, hP]
 refine sw_pan g lo n c' A' f I H S P kd id tt0 z hn w hg hO hlo i hi' hfd k1f k6f k7f hto hz _ _ _ _ (lh fun w2 ga hg2 hO2 => ?_)
 by_cases k2 : kd = 2
 ·subst k2
  have h0 : tt0 = 0 := hto.resolve_left (by decide)
  have hb : stB f n 2 id tt0 z = true := by simp [stB, h0, hfd, hi0, hz]
  rw [hb]
  have h := stepPan_take g ga lo n c' f I H S P id tt0 z i hi' hn w2 hg2 hO2 hlo
  simpa [stL, stI, stH, ha] using h
 by_cases k4 : kd = 4
 ·subst k4
  have h0 : tt0 = 0 := hto.resolve_left (by decide)
  have hb : stB f n 4 id tt0 z = true := by simp [stB, h0, hfd, hi0, hz]
  rw [hb]
  have h := stepPan_dry g ga lo n c' f I H S P id tt0 z i hi' hn w2 hg2 hO2 hlo
  simpa [stL, stI, stH, ha] using h
 by_cases k5 : kd = 5
 ·subst k5
  have h0 : tt0 = 0 := hto.resolve_left (by decide)
  have hb : stB f n 5 id tt0 z = mayV (f (i * 4 + 2)) (f (i * 4 + 3)) := by simp [stB, h0, hfd, hi0, hz, ha]
  rw [hb]
  have h := stepPan_rake g ga lo n c' f I H S P id tt0 z i hi' hn w2 hg2 hO2 hlo
  simpa [stL, stI, stH, ha] using h
 by_cases k3 : kd = 3
 ·subst k3
  rcases findV_cases (pid f) tt0 n 0 with ⟨h1, _⟩ | ⟨j, _, hj, hfk, hpj⟩
  ·exact box_no (by simp [stB, hfd, hi0, h1]) (stepPan_lead_none g ga lo n c' f I H S P id tt0 z i hi' hn w2 hg2 hO2 hlo h1)
  by_cases hij : j = i
  ·subst hij
   exact box_no (by simp [stB, hfd, hi0, hfk]) (stepPan_lead_same g ga lo n c' f I H S P id tt0 z j hi' hn w2 hg2 hO2 hlo hfk)
  ·have hb : stB f n 3 id tt0 z = leadOk f i z := by
    have h1 : ¬ ((j : Int) < 0) := by omega
    have h2 : ¬ ((j : Int) = (i : Int)) := by omega
    simp [stB, hfd, hi0, hfk, hz, ha, h2]
   have hc : atN f n tt0 = j := by simp [atN, hfk]
   rw [hb]
   have h := stepPan_lead g ga lo n c' f I H S P id tt0 z i hi' hn w2 hg2 hO2 hlo j (by omega) hij (by omega) hfk
   simpa [stL, stI, stH, ha, hc] using h
 ·exact box_no (by simp [stB, k1, k2, k3, k4, k5, k6, k7]) (stepPan_other g ga lo n c' f I H S P kd id tt0 z i hi' hn w2 hg2 hO2 hlo (by simp [k2]) (by simp [k3]) (by simp [k4]) (by simp [k5]))
theorem StepWorks_any (A : Option Addr) (n c lo hi : Nat) (f : Nat → Int) (I H S P : Int) (kd id tt0 z : Int) (w : World) (hs : Sl w lo hi 4 A n f) (hn : n ≤ 1048576) (hnc : n ≤ c) (hnone : A = none → n = 0 ∧ c = 0) :
  Calls Tryz.prog 95 #[.agg (wB A n c I H S P), .agg (iV kd id tt0 z)] w (stepPost w f n I H S P kd id tt0 z (stOk f n I H S P kd id tt0 z)) := by
 revert hs
 refine z209 ?_
 intro HX HF HSW HR3
 cases hg : goodWorks f n I H S P with
 | false =>
  have ho : stOk f n I H S P kd id tt0 z = false := by simp [stOk, hg]
  rw [ho]
  go_enter Tryz.func95, Tryz.ntmps95
  go_wp2_with fail
  refine z248 ?_
  intro w1 hb1
  refine z211 ?_
  intro hr1 B1
  clear hb1
  obtain ⟨r0, r1, r2, r3, r4⟩ := cells5 hr1
  have rf := fz hr1
  have HBW := lh B1
  clear hr1
  go_wp2
  refine z212 ?_
  intro wq hwq
  revert hwq
  refine z213 ?_
  intro u0 u1 u2 u3 u4 hBq
  refine z249 ?_
  exact z216
 | true =>
 have hn6 := good_len hg
 have ho := stOk_eq kd id tt0 z hg
 rw [ho]
 cases hv : inR z 0 1000000 with
 | false =>
  rw [Bool.false_and]
  go_enter Tryz.func95, Tryz.ntmps95
  go_wp2_with fail
  refine z248 ?_
  intro w1 hb1
  obtain ⟨b0, b1, b2, b3, b4, s0, s1, s2, s3⟩ := HF.out w1 hb1
  refine z211 ?_
  intro hr1 B1
  clear hb1 b0 b1 b2 b3 b4 s0 s1 s2
  go_wp2_with fail
  refine z26 ?_
  rw [hv]
  refine z56 ?_
  clear s3
  obtain ⟨r0, r1, r2, r3, r4⟩ := cells5 hr1
  have rf := fz hr1
  have HBW := lh B1
  clear hr1
  go_wp2
  refine z212 ?_
  intro wq hwq
  revert hwq
  refine z213 ?_
  intro u0 u1 u2 u3 u4 hBq
  refine z249 ?_
  exact z216
 | true =>
 rw [Bool.true_and]
 clear ho
 go_enter Tryz.func95, Tryz.ntmps95
 go_wp2_with fail
 refine z248 ?_
 intro w1 hb1
 obtain ⟨b0, b1, b2, b3, b4, s0, s1, s2, s3⟩ := HF.out w1 hb1
 go_wp2_with fail
 refine z26 ?_
 rw [hv]
 refine z56 ?_
 go_wp2_with fail
 refine (copyWorks_any A n c lo hi f I H S P _ (HSW.out _ hb1) hn hnc hnone).mono ?_
 rintro e w3 ⟨A', c', rfl, hmc, hcm, hown, hb3⟩
 have hb13 := hb1.trans (hb3.mono hb1.size)
 have hown := ownsRow_monoP hown hb1.size
 clear b0 b1 b2 b3 b4 s0 s1 s2 s3
 obtain ⟨b0, b1, b2, b3, b4, s0, s1, s2, s3⟩ := HF.out w3 hb13
 have hr1 := (hb13.block (w.heap.size + 1 + 1) (gL HR3.out)).trans HR3.out
 go_upto_region 4 with fail
 refine z161 ?_
 intro w4 hw4
 have b34 := ba hw4
 have h6 := an hw4
 have hb14 := hb13.trans (b34.mono hb13.size)
 have hO4 := ownsRow_below hown b34
 have lX : (((w.alloc (.cells (wB A n c I H S P) 32)).alloc (.cells (iV kd id tt0 z) 107)).alloc (.cells (wB none 0 0 0 0 0 0) 32)).heap.size ≤ w3.heap.size := hb13.size
 clear hw4 hr1 hown b34 hb13 hb1 hb3 b0 b1 b2 b3 b4 s0 s1 s2 s3
 obtain ⟨b0, b1, b2, b3, b4, s0, s1, s2, s3⟩ := HF.out w4 hb14
 generalize w3.heap.size = g6 at *
 go_wp2_with fail
 refine (stepWorks_any g6 (((w.alloc (.cells (wB A n c I H S P) 32)).alloc (.cells (iV kd id tt0 z) 107)).alloc (.cells (wB none 0 0 0 0 0 0) 32)).heap.size n c' A' f I H S P kd id tt0 z (by omega) w4 h6 hO4 lX).mono ?_
 rintro e w5 ⟨rfl, hyes, hb5⟩
 have hb15 := hb14.trans hb5
 clear b0 b1 b2 b3 b4 s0 s1 s2 s3 h6 hO4
 have hr5 := (hb15.block (w.heap.size + 1 + 1) (gL HR3.out)).trans HR3.out
 have B5 := HX.out.trans (hb15.mono HX.out.size)
 cases hB : stB f n kd id tt0 z with
 | false =>
  clear hyes hb15 hb14 hb5
  obtain ⟨r0, r1, r2, r3, r4⟩ := cells5 hr5
  have rf := fz hr5
  have HBW := lh B5
  clear hr5
  go_wp2
  obtain ⟨wq, hwq⟩ : ∃ wq, wq = (((((w5.setCell ⟨w.heap.size + 1 + 1, 0, none⟩ (.slice none 0 0)).setCell ⟨w.heap.size + 1 + 1, 1, none⟩ (.int .i64 0)).setCell ⟨w.heap.size + 1 + 1, 2, none⟩ (.int .i64 0)).setCell ⟨w.heap.size + 1 + 1, 3, none⟩ (.int .i64 0)).setCell ⟨w.heap.size + 1 + 1, 4, none⟩ (.int .i64 0)) := ⟨_, rfl⟩
  revert hwq
  refine z213 ?_
  intro u0 u1 u2 u3 u4 hBq
  refine z249 ?_
  first | exact stepPost_no hBq | (rw [hB, Bool.false_and]; exact stepPost_no hBq)
 | true =>
 obtain ⟨A2, c2, h65, h1, h2, hO5⟩ := hyes hB
 clear hyes
 have hle := (hb15.size : (((w.alloc (.cells (wB A n c I H S P) 32)).alloc (.cells (iV kd id tt0 z) 107)).alloc (.cells (wB none 0 0 0 0 0 0) 32)).heap.size ≤ w5.heap.size)
 have HX5 : Hid (∀ w', bW w5 w' → bW w w') := fun w' hq => B5.trans (hq.mono B5.size)
 have HSW5 : Hid (Sl w5 (((w.alloc (.cells (wB A n c I H S P) 32)).alloc (.cells (iV kd id tt0 z) 107)).alloc (.cells (wB none 0 0 0 0 0 0) 32)).heap.size w5.heap.size 4 A2 (stN n kd) (lf (stL f n kd id tt0 z))) := by
  obtain ⟨A0, c0, e0, _, _, h0⟩ := own_of_row hO5
  cases e0
  exact h0.sl
 have hm : stN n kd ≤ 7 := by unfold stN; split <;> (try split) <;> omega
 have n1 : g6 ≠ w.heap.size + 1 + 1 := by simp only [World.size_alloc] at lX; omega
 have n2 : w.heap.size + 1 + 1 ≠ g6 := Ne.symm n1
 have lg65 : g6 < w5.heap.size := (gL h65)
 obtain ⟨e0, e1, e2, e3, e4⟩ := cells5 h65
 have HO5 := lh hO5
 have H65 := lh h65
 have HR5 := lh hr5
 have low : ∀ k : Nat, (Value.slice A2 (stN n kd) c2).ownBlock = some k → k ≠ w.heap.size + 1 + 1 := fun k e hk => by
  subst hk
  exact row_none_ne hO5 hr5 (by decide) e
 have LOW := lh low
 clear hO5 h65 hr5 low hb15 hb14 hb5 hle B5
 go_wp2_with fail
 refine (isWorks_any A2 (stN n kd) c2 _ _ (lf (stL f n kd id tt0 z)) (stI I kd z) (stH H kd z) (stS S kd z) (stP f n P kd id) w5 HSW5.out (by omega) h1).mono ?_
 rintro e w6 ⟨rfl, hb6⟩
 have hr6 := (hb6.block (w.heap.size + 1 + 1) (gL HR5.out)).trans HR5.out
 have h66 := (hb6.block g6 lg65).trans H65.out
 have hO6 := ownsRow_below HO5.out hb6
 have B6 := HX5.out w6 hb6
 clear e0 e1 e2 e3 e4 hb6 HO5 H65 HR5 HSW5 HX5
 cases hG : goodWorks (lf (stL f n kd id tt0 z)) (stN n kd) (stI I kd z) (stH H kd z) (stS S kd z) (stP f n P kd id) with
 | false =>
  have hG' : stG f n I H S P kd id tt0 z = false := hG
  have HGG := lh hG'
  clear hG hG' h66 hO6
  obtain ⟨r0, r1, r2, r3, r4⟩ := cells5 hr6
  have rf := fz hr6
  have HBW := lh B6
  clear hr6
  go_wp2
  obtain ⟨wq, hwq⟩ : ∃ wq, wq = (((((w6.setCell ⟨w.heap.size + 1 + 1, 0, none⟩ (.slice none 0 0)).setCell ⟨w.heap.size + 1 + 1, 1, none⟩ (.int .i64 0)).setCell ⟨w.heap.size + 1 + 1, 2, none⟩ (.int .i64 0)).setCell ⟨w.heap.size + 1 + 1, 3, none⟩ (.int .i64 0)).setCell ⟨w.heap.size + 1 + 1, 4, none⟩ (.int .i64 0)) := ⟨_, rfl⟩
  revert hwq
  refine z213 ?_
  intro u0 u1 u2 u3 u4 hBq
  refine z249 ?_
  first | exact stepPost_no hBq | (rw [hB, HGG.out, Bool.true_and]; exact stepPost_no hBq)
 | true =>
  have hG' : stG f n I H S P kd id tt0 z = true := hG
  have HGG := lh hG'
  clear hG hG'
  have hO6 := ownsRow_monoP hO6 HX.out.size
  obtain ⟨e0, e1, e2, e3, e4⟩ := cells5 h66
  obtain ⟨r0, r1, r2, r3, r4⟩ := cells5 hr6
  have rf := fz hr6
  have HBW := lh B6
  have HOW := lh hO6
  clear h66 hr6 B6 hO6
  go_wp2
  obtain ⟨wq, hwq⟩ : ∃ wq, wq = (((((w6.setCell ⟨w.heap.size + 1 + 1, 0, none⟩ (.slice A2 (stN n kd) c2)).setCell ⟨w.heap.size + 1 + 1, 1, none⟩ (.int .i64 (stI I kd z))).setCell ⟨w.heap.size + 1 + 1, 2, none⟩ (.int .i64 (stH H kd z))).setCell ⟨w.heap.size + 1 + 1, 3, none⟩ (.int .i64 (stS S kd z))).setCell ⟨w.heap.size + 1 + 1, 4, none⟩ (.int .i64 (stP f n P kd id))) := ⟨_, rfl⟩
  rw [← hwq]
  have u0 : cE wq (w.heap.size + 1 + 1) 0 (.slice A2 (stN n kd) c2) := by rw [hwq]; go_simp
  have u1 : cI wq (w.heap.size + 1 + 1) 1 (stI I kd z) := by rw [hwq]; go_simp
  have u2 : cI wq (w.heap.size + 1 + 1) 2 (stH H kd z) := by rw [hwq]; go_simp
  have u3 : cI wq (w.heap.size + 1 + 1) 3 (stS S kd z) := by rw [hwq]; go_simp
  have u4 : cI wq (w.heap.size + 1 + 1) 4 (stP f n P kd id) := by rw [hwq]; go_simp
  refine z214 ?_
  intro hBq
  have no : ∀ j : Nat, (Value.slice A2 (stN n kd) c2).ownBlock ≠ some (⟨w.heap.size + 1 + 1, j, none⟩ : Addr).block := fun j e => LOW.out _ e rfl
  have hOq := ownsRow_setCell_other (ownsRow_setCell_other (ownsRow_setCell_other (ownsRow_setCell_other (ownsRow_setCell_other HOW.out (no 0) (.slice A2 (stN n kd) c2)) (no 1) (.int .i64 (stI I kd z))) (no 2) (.int .i64 (stH H kd z))) (no 3) (.int .i64 (stS S kd z))) (no 4) (.int .i64 (stP f n P kd id))
  rw [← hwq] at hOq
  clear hwq HOW HBW
  refine z66 ?_
  refine z249 ?_
  rw [hB, HGG.out, Bool.true_and]
  exact stepPost_yes ⟨rfl, rfl, rfl, rfl, rfl, rfl⟩ h1 h2 hOq hBq
end Go.Proofs.YtpndjhelpoenpaaGreatDoor
