/-
  MayRake of the reference: the Ids of the pans that a step rakes.
-/
import Derived.Test.YtjkockhldaacbaaDoorPk1
import Derived.Test.YtjkockhldaacbaaDoorWorksL
namespace Go.Proofs.YtjkockhldaacbaaDoor
open Go.RowKit Go.Sort
set_option linter.unusedVariables false
set_option linter.unusedSimpArgs false
attribute [local go_sem ↓] Go.wp_at_zero Go.wp_at_succ
section
variable {P : Program} {md : Region.Mode} {ops : Array Oper} {Q : Exit → Act → World → Prop} {S : World → Prop}
/-- Two operations are ready: what is next in each case. -/
theorem wpAnyH_split {i j di dj : Nat} {fuel : Nat} {listed : Array Bool} {a : Act} {w : World} {oi oj : Oper} {skip : List Nat} {Pi Pj : Value → World → Prop}
    (hoi : ops[i]? = some oi) (hoj : ops[j]? = some oj) (hgi : oi.guard = none) (hgj : oj.guard = none)
    (r0 : Region.ready md ops listed = [i, j]) (Ji : Job P Q S oi di a skip Pi) (Jj : Job P Q S oj dj a skip Pj) (hst : ∀ w1 w2, S w1 → Below w1.heap.size w1 w2 → S w2) (hS : S w)
    (hi : ∀ v w', Pi v w' → S w' → Below w.heap.size w w' → wpAnyH P md ops Q S fuel (listed.setIfInBounds i true) (a.put (some di) v) w')
    (hj : ∀ v w', Pj v w' → S w' → Below w.heap.size w w' → wpAnyH P md ops Q S fuel (listed.setIfInBounds j true) (a.put (some dj) v) w') :
    wpAnyH P md ops Q S (fuel + 1) listed a w := by
  refine wpAnyH_ready (fuel := fuel) r0 (by simp) (AllReadyH.cons hoi (fun K hK => ?_) (AllReadyH.cons hoj (fun K hK => ?_) AllReadyH.nil))
  · rw [if_pos (wanted_plain hgi)]
    refine Ji a w K (fun _ _ => rfl) hS (fun v w2 hp hb => ?_)
    have hB := hst _ _ hS hb
    exact hK.out _ _ hB (fun _ => hi v w2 hp hB hb)
  · rw [if_pos (wanted_plain hgj)]
    refine Jj a w K (fun _ _ => rfl) hS (fun v w2 hp hb => ?_)
    have hB := hst _ _ hS hb
    exact hK.out _ _ hB (fun _ => hj v w2 hp hB hb)
end
theorem pans_up {f : Nat → Int} {n : Nat} {I H S P : Int} (hg : goodWorks f n I H S P = true) : ∀ k, k < n → ∀ j, j < k → f (j * 4) < f (k * 4) := by
  intro k
  induction k with
  | zero => intro _ j hj; omega
  | succ k ih =>
    intro hk j hj
    have hs := hg
    simp only [goodWorks, pansOk, Bool.and_eq_true] at hs
    have hp := allTo_at hk hs.1.1.1
    simp only [panStep, Bool.and_eq_true, Bool.or_eq_true, decide_eq_true_eq] at hp
    have h1 : f (k * 4) < f ((k + 1) * 4) := by
      rcases hp.2 with h0 | h0
      · omega
      · simpa using h0
    by_cases hjk : j = k
    · subst hjk; exact h1
    · exact Int.lt_trans (ih (by omega) j (by omega)) h1
theorem find_at {f : Nat → Int} {n : Nat} {I H S P : Int} (hg : goodWorks f n I H S P = true) {i : Nat} (hi : i < n) : findV (pid f) (f (i * 4)) n 0 = (i : Int) := by
  rcases findV_cases (pid f) (f (i * 4)) n 0 with ⟨_, h⟩ | ⟨j, _, hj, h, he⟩
  · exact absurd rfl (h i (by omega) (by omega))
  · rw [h]
    have hu := pans_up hg
    by_cases h1 : j < i
    · have := hu i hi j h1
      have he' : f (j * 4) = f (i * 4) := he
      omega
    · by_cases h2 : i < j
      · have := hu j (by omega) i h2
        have he' : f (j * 4) = f (i * 4) := he
        omega
      · have : j = i := by omega
        subst this; rfl
set_option maxRecDepth 100000 in
set_option maxHeartbeats 4000000 in
theorem sMayRake_any (A : Option Addr) (n c lo hi : Nat) (f : Nat → Int) (I H S P : Int) (w : World) (hs : Sl w lo hi 4 A n f) (hn : n ≤ 1048576) (hnc : n ≤ c) :
    Calls Tryd.prog 14 #[.agg #[.slice A n c, .int .i64 I, .int .i64 H, .int .i64 S, .int .i64 P]] w (IntsPost 3 w (rakeRes f n (goodWorks f n I H S P)) (goodWorks f n I H S P)) := by
  have BW : Below w.heap.size w (w.alloc (.cells #[.slice A n c, .int .i64 I, .int .i64 H, .int .i64 S, .int .i64 P] 26)) := (Below.refl _ w).alloc (Nat.le_refl _) _
  have HS : Hid (Sl ((w.alloc (.cells #[.slice A n c, .int .i64 I, .int .i64 H, .int .i64 S, .int .i64 P] 26)).alloc (.cells #[] 3)) lo hi 4 A n f) := (hs.below BW).below ((Below.refl _ _).alloc (Nat.le_refl _) _)
  have HSW : Hid (Sl (w.alloc (.cells #[.slice A n c, .int .i64 I, .int .i64 H, .int .i64 S, .int .i64 P] 26)) lo hi 4 A n f) := hs.below BW
  clear hs
  cases hg : goodWorks f n I H S P with
  | false =>
    go_enter Tryd.func14, Tryd.ntmps14
    go_wp2_with fail
    refine (l25Good_any A n c lo hi f I H S P _ HS.out hn hnc).mono ?_
    rw [hg]
    rintro e w1 ⟨rfl, hb1⟩
    have HS1 := Lib.hid (HS.out.below hb1)
    have b0 : w1.cell? ⟨w.heap.size, 0, none⟩ = some (.slice A n c) := (hb1.cell (p := ⟨w.heap.size, 0, none⟩) (by simp; omega)).trans (by go_simp)
    have b1 : w1.cell? ⟨w.heap.size, 1, none⟩ = some (.int .i64 I) := (hb1.cell (p := ⟨w.heap.size, 1, none⟩) (by simp; omega)).trans (by go_simp)
    have b2 : w1.cell? ⟨w.heap.size, 2, none⟩ = some (.int .i64 H) := (hb1.cell (p := ⟨w.heap.size, 2, none⟩) (by simp; omega)).trans (by go_simp)
    have b3 : w1.cell? ⟨w.heap.size, 3, none⟩ = some (.int .i64 S) := (hb1.cell (p := ⟨w.heap.size, 3, none⟩) (by simp; omega)).trans (by go_simp)
    have b4 : w1.cell? ⟨w.heap.size, 4, none⟩ = some (.int .i64 P) := (hb1.cell (p := ⟨w.heap.size, 4, none⟩) (by simp; omega)).trans (by go_simp)
    have hmade := World.ownsRow_made (base := (w.alloc (.cells #[.slice A n c, .int .i64 I, .int .i64 H, .int .i64 S, .int .i64 P] 26)).heap.size) (e := 3) (size := 1) (w.alloc (.cells #[.slice A n c, .int .i64 I, .int .i64 H, .int .i64 S, .int .i64 P] 26)) #[] 0 (Nat.le_refl _) (Nat.zero_le _) (by simp)
    have hval : (Value.slice (some ⟨(w.alloc (.cells #[.slice A n c, .int .i64 I, .int .i64 H, .int .i64 S, .int .i64 P] 26)).heap.size, 0, none⟩) 0 0) = .slice (some ⟨w.heap.size + 1, 0, none⟩) 0 0 := by simp
    rw [hval] at hmade
    have HROW := Lib.hid (ownsRow_below hmade hb1)
    clear hmade hval
    have hB1 : Below (w.alloc (.cells #[.slice A n c, .int .i64 I, .int .i64 H, .int .i64 S, .int .i64 P] 26)).heap.size (w.alloc (.cells #[.slice A n c, .int .i64 I, .int .i64 H, .int .i64 S, .int .i64 P] 26)) w1 := ((Below.refl _ (w.alloc (.cells #[.slice A n c, .int .i64 I, .int .i64 H, .int .i64 S, .int .i64 P] 26))).alloc (Nat.le_refl _) _).trans (hb1.mono (by simp))
    have HBF := Lib.hid (BW.trans (hB1.mono BW.size))
    clear hb1 HS
    go_wp2
    go_ret2
    exact IntsPost.mk_ (zs := []) (ownsRow_monoP HROW.out BW.size) HBF.out
  | true =>
    have h6n := good_len hg
    have HFA : Hid (∀ i, i < n → findV (pid f) (f (i * 4)) n 0 = (i : Int)) := fun i hi => find_at hg hi
    have HKA : Hid (∀ i, i < n → (mayV (f (i * 4 + 2)) (f (i * 4 + 3)) && goodWorks (setB f i (f (i * 4 + 2)) (wrap64 (f (i * 4 + 3) - 1))) n I (wrap64 (H + 1)) S P) = mayV (f (i * 4 + 2)) (f (i * 4 + 3))) := fun i hi => rake_ok hg hi
    show Calls _ _ _ _ (IntsPost 3 w (idsP f (pickN (rakeB f) n)) true)
    go_enter Tryd.func14, Tryd.ntmps14
    go_wp2_with fail
    refine (l25Good_any A n c lo hi f I H S P _ HS.out hn hnc).mono ?_
    rw [hg]
    rintro e w1 ⟨rfl, hb1⟩
    have HS1 := Lib.hid (HS.out.below hb1)
    have b0 : w1.cell? ⟨w.heap.size, 0, none⟩ = some (.slice A n c) := (hb1.cell (p := ⟨w.heap.size, 0, none⟩) (by simp; omega)).trans (by go_simp)
    have b1 : w1.cell? ⟨w.heap.size, 1, none⟩ = some (.int .i64 I) := (hb1.cell (p := ⟨w.heap.size, 1, none⟩) (by simp; omega)).trans (by go_simp)
    have b2 : w1.cell? ⟨w.heap.size, 2, none⟩ = some (.int .i64 H) := (hb1.cell (p := ⟨w.heap.size, 2, none⟩) (by simp; omega)).trans (by go_simp)
    have b3 : w1.cell? ⟨w.heap.size, 3, none⟩ = some (.int .i64 S) := (hb1.cell (p := ⟨w.heap.size, 3, none⟩) (by simp; omega)).trans (by go_simp)
    have b4 : w1.cell? ⟨w.heap.size, 4, none⟩ = some (.int .i64 P) := (hb1.cell (p := ⟨w.heap.size, 4, none⟩) (by simp; omega)).trans (by go_simp)
    have hmade := World.ownsRow_made (base := (w.alloc (.cells #[.slice A n c, .int .i64 I, .int .i64 H, .int .i64 S, .int .i64 P] 26)).heap.size) (e := 3) (size := 1) (w.alloc (.cells #[.slice A n c, .int .i64 I, .int .i64 H, .int .i64 S, .int .i64 P] 26)) #[] 0 (Nat.le_refl _) (Nat.zero_le _) (by simp)
    have hval : (Value.slice (some ⟨(w.alloc (.cells #[.slice A n c, .int .i64 I, .int .i64 H, .int .i64 S, .int .i64 P] 26)).heap.size, 0, none⟩) 0 0) = .slice (some ⟨w.heap.size + 1, 0, none⟩) 0 0 := by simp
    rw [hval] at hmade
    have HROW := Lib.hid (ownsRow_below hmade hb1)
    clear hmade hval
    have hB1 : Below (w.alloc (.cells #[.slice A n c, .int .i64 I, .int .i64 H, .int .i64 S, .int .i64 P] 26)).heap.size (w.alloc (.cells #[.slice A n c, .int .i64 I, .int .i64 H, .int .i64 S, .int .i64 P] 26)) w1 := ((Below.refl _ (w.alloc (.cells #[.slice A n c, .int .i64 I, .int .i64 H, .int .i64 S, .int .i64 P] 26))).alloc (Nat.le_refl _) _).trans (hb1.mono (by simp))
    have HBF := Lib.hid (BW.trans (hB1.mono BW.size))
    clear hb1 HS
    clear hg
    go_wp2_with fail
    clear b0 b1 b2 b3 b4
    go_loopw [4, 5] (fun v iv wr => ∃ i : Nat, i ≤ n ∧ iv = .int .i64 i ∧ wr.ownsRow (w.alloc (.cells #[.slice A n c, .int .i64 I, .int .i64 H, .int .i64 S, .int .i64 P] 26)).heap.size 3 1 v (idsP f (pickN (rakeB f) i)).length ((idsP f (pickN (rakeB f) i)).map (Value.int .i64)) ∧ Below (w.alloc (.cells #[.slice A n c, .int .i64 I, .int .i64 H, .int .i64 S, .int .i64 P] 26)).heap.size (w.alloc (.cells #[.slice A n c, .int .i64 I, .int .i64 H, .int .i64 S, .int .i64 P] 26)) wr) (fun _ iv _ => n - (intOf iv).toNat)
    case atStart => exact ⟨0, Nat.zero_le _, rfl, HROW.out, hB1⟩
    case round =>
      obtain ⟨i, hi', rfl, hown, hB⟩ := hrel
      clear HROW HBF hB1 HS1
      have HO := Lib.hid hown
      have hl : (idsP f (pickN (rakeB f) i)).length ≤ 6 := by rw [idsP, List.length_map]; have := pickN_len (rakeB f) i; omega
      have z0 : wr.cell? ⟨w.heap.size, 0, none⟩ = some (.slice A n c) := (hB.cell (p := ⟨w.heap.size, 0, none⟩) (by simp)).trans (by simp)
      have z1 : wr.cell? ⟨w.heap.size, 1, none⟩ = some (.int .i64 I) := (hB.cell (p := ⟨w.heap.size, 1, none⟩) (by simp)).trans (by simp)
      have z2 : wr.cell? ⟨w.heap.size, 2, none⟩ = some (.int .i64 H) := (hB.cell (p := ⟨w.heap.size, 2, none⟩) (by simp)).trans (by simp)
      have z3 : wr.cell? ⟨w.heap.size, 3, none⟩ = some (.int .i64 S) := (hB.cell (p := ⟨w.heap.size, 3, none⟩) (by simp)).trans (by simp)
      have z4 : wr.cell? ⟨w.heap.size, 4, none⟩ = some (.int .i64 P) := (hB.cell (p := ⟨w.heap.size, 4, none⟩) (by simp)).trans (by simp)
      clear hown
      by_cases hlt : i < n
      · obtain ⟨b, off, rfl, hbw, HC⟩ := HSW.out.open_ hB (by omega)
        obtain ⟨c0, c1, c2, c3⟩ := cell4 HC hlt
        have hi0i : (0 : Int) ≤ (i : Int) := by omega
        have hini : (i : Int) < (n : Int) := by omega
        have HFD := Lib.hid (HFA.out i hlt)
        have HKI := Lib.hid (HKA.out i hlt)
        have HPY : Hid (rakeB f i = true → idsP f (pickN (rakeB f) (i + 1)) = idsP f (pickN (rakeB f) i) ++ [f (i * 4)]) := fun h => by rw [pickN_yes h, idsP_append]; rfl
        have HPN : Hid (rakeB f i = false → idsP f (pickN (rakeB f) (i + 1)) = idsP f (pickN (rakeB f) i)) := fun h => by rw [pickN_no h]
        generalize idsP f (pickN (rakeB f) i) = P' at *
        have HF : Hid (∀ w', Below wr.heap.size wr w' → w'.cell? ⟨w.heap.size, 0, none⟩ = some (.slice (some ⟨b, off, none⟩) n c) ∧ w'.cell? ⟨w.heap.size, 1, none⟩ = some (.int .i64 I) ∧ w'.cell? ⟨w.heap.size, 2, none⟩ = some (.int .i64 H) ∧ w'.cell? ⟨w.heap.size, 3, none⟩ = some (.int .i64 S) ∧ w'.cell? ⟨w.heap.size, 4, none⟩ = some (.int .i64 P) ∧ w'.cell? ⟨b, off + i * 4, none⟩ = some (.int .i64 (f (i * 4)))) := fun w' hq => ⟨(hq.cell (p := ⟨w.heap.size, 0, none⟩) (World.block_lt_of_cell? _ _ z0)).trans z0, (hq.cell (p := ⟨w.heap.size, 1, none⟩) (World.block_lt_of_cell? _ _ z1)).trans z1, (hq.cell (p := ⟨w.heap.size, 2, none⟩) (World.block_lt_of_cell? _ _ z2)).trans z2, (hq.cell (p := ⟨w.heap.size, 3, none⟩) (World.block_lt_of_cell? _ _ z3)).trans z3, (hq.cell (p := ⟨w.heap.size, 4, none⟩) (World.block_lt_of_cell? _ _ z4)).trans z4, (hq.cell (p := ⟨b, off + i * 4, none⟩) (World.block_lt_of_cell? _ _ c0)).trans c0⟩
        clear HC HFA HKA z1 z2 z3 z4 c1 c2 c3 hbw
        cases hqi : (mayV (f (i * 4 + 2)) (f (i * 4 + 3))) with
        | true =>
          have HPB : Hid (rakeB f i = true) := hqi
          have HOK := Lib.hid (HKI.out.trans hqi)
          clear hqi HKI
          go_wp2_with fail
          refine wp_region_held_drew (S := fun w' => Below wr.heap.size wr w') (by kernel_rfl) ((Below.refl _ wr).drew) (fun hHeld => ?_)
          refine tk (v := ?_) 0 21 HF rfl ?_ hHeld ?_
          rotate_left; · (intro _ _ _; go_simp; try with_reducible rfl)
          simp only [Act.put, p1, p2, p3]
          refine tk (v := ?_) 1 22 HF rfl ?_ hHeld ?_
          rotate_left; · (intro _ _ _; go_simp; try with_reducible rfl)
          simp only [Act.put, p1, p2, p3]
          refine tk (v := ?_) 3 24 HF rfl ?_ hHeld ?_
          rotate_left; · (intro _ _ _; go_simp; try with_reducible rfl)
          simp only [Act.put, p1, p2, p3]
          refine tk (v := ?_) 2 23 HF rfl ?_ hHeld ?_
          rotate_left; · (intro _ _ _; go_simp; try with_reducible rfl)
          simp only [Act.put, p1, p2, p3]
          refine tk (v := ?_) 4 25 HF rfl ?_ hHeld ?_
          rotate_left; · (intro _ _ _; go_simp; try with_reducible rfl)
          simp only [Act.put, p1, p2, p3]
          refine tk (v := ?_) 5 26 HF rfl ?_ hHeld ?_
          rotate_left; · (intro _ _ _; go_simp; try with_reducible rfl)
          simp only [Act.put, p1, p2, p3]
          refine tk (v := ?_) 6 27 HF rfl ?_ hHeld ?_
          rotate_left; · (intro _ _ _; go_simp; try with_reducible rfl)
          simp only [Act.put, p1, p2, p3]
          refine tk (v := ?_) 7 28 HF rfl ?_ hHeld ?_
          rotate_left; · (intro _ _ _; go_simp; try with_reducible rfl)
          simp only [Act.put, p1, p2, p3]
          refine wpAnyH_split (fuel := 6) (i := 8) (j := 12) (di := 29) (dj := 6) (skip := [29, 6]) (Pi := (fun v w' => ∃ a0 a1 a2 a3 a4, v = .tuple #[.agg #[.slice a0 n a1, .int .i64 I, .int .i64 a2, .int .i64 a3, .int .i64 a4], .bool true])) rfl rfl rfl rfl (by kernel_rfl) ?jmtrue (Job.alloc (skip := [29, 6]) (nb := wr.heap.size) (obj := .cells #[.slice none 0 0, .int .i64 0, .int .i64 0, .int .i64 0, .int .i64 0] 26) rfl (fun _ h => h.size) (fun a' w1 => by go_simp; try rfl)) below_stays hHeld ?natrue ?nbtrue
          case jmtrue =>
            intro a' w1' K hev hb hK
            have h1 : a'.eval (.tmp 21) = .agg #[.slice (some ⟨b, off, none⟩) n c, .int .i64 I, .int .i64 H, .int .i64 S, .int .i64 P] := (hev 21 (by decide)).trans rfl
            have h2 : a'.tmps[21]?.getD undef = .agg #[.slice (some ⟨b, off, none⟩) n c, .int .i64 I, .int .i64 H, .int .i64 S, .int .i64 P] := by simpa [Act.eval] using h1
            have h3 : a'.eval (.tmp 28) = .agg #[.int .i64 5, .int .i64 (f (i * 4)), .int .i64 0, .int .i64 1] := (hev 28 (by decide)).trans rfl
            have h4 : a'.tmps[28]?.getD undef = .agg #[.int .i64 5, .int .i64 (f (i * 4)), .int .i64 0, .int .i64 1] := by simpa [Act.eval] using h3
            have HK := Lib.hid hK
            have HSL := Lib.hid (HSW.out.below (below_of hB hb hB.size))
            clear hev h1 h3 hK HF
            go_simp
            go_at_call 39
            refine (l25Make_rake _ n c lo hi f I H S P (f (i * 4)) 0 1 i hlt w1' HSL.out hn hnc (by simp) HFD.out (by omega)).mono ?_
            rw [HOK.out]
            rintro e w2' ⟨A', c', rfl, _, _, _, hb2⟩
            exact HK.out _ w2' ⟨_, _, _, _, _, rfl⟩ hb2
          case natrue =>
            rintro v w3 ⟨a0, a1, a2, a3, a4, rfl⟩ hS3 _
            simp only [Act.put, p1, p2, p3]
            have hHeld := hS3
            refine tk (v := ?_) 9 20 HF rfl ?_ hHeld ?_
            rotate_left; · (intro _ _ _; go_simp; try with_reducible rfl)
            simp only [Act.put, p1, p2, p3]
            refine tk (v := ?_) 10 30 HF rfl ?_ hHeld ?_
            rotate_left; · (intro _ _ _; go_simp; try with_reducible rfl)
            simp only [Act.put, p1, p2, p3]
            refine tk (v := ?_) 11 31 HF rfl ?_ hHeld ?_
            rotate_left; · (intro _ _ _; go_simp; try with_reducible rfl)
            simp only [Act.put, p1, p2, p3]
            refine wpAnyH_job (fuel := 2) (i := 12) (d := 6) (skip := [29, 6]) rfl rfl (by kernel_rfl) (Job.alloc (skip := [29, 6]) (nb := wr.heap.size) (obj := .cells #[.slice none 0 0, .int .i64 0, .int .i64 0, .int .i64 0, .int .i64 0] 26) rfl (fun _ h => h.size) (fun a' w1 => by go_simp; try rfl)) below_stays hHeld ?nctrue
            case nctrue =>
            rintro v w4 ⟨g6, rfl, l6, h6⟩ hS4 _
            simp only [Act.put, p1, p2, p3]
            refine wpAnyH_store (fuel := 1) (i := 13) rfl (by kernel_rfl) g6 0 (.agg #[.slice a0 n a1, .int .i64 I, .int .i64 a2, .int .i64 a3, .int .i64 a4]) 26 #[.slice none 0 0, .int .i64 0, .int .i64 0, .int .i64 0, .int .i64 0] rfl rfl infoWorks h6 (Nat.le_refl 5) (by simp [Value.cells, Value.oneCell']) (fun w' hg => hS4.grown hg hS4.size (fun k hk => by cases hk; exact l6)) ?struea
            case struea =>
            intro w5 h5 hg5 hS5
            have hHeld := hS5
            refine tk (v := ?_) 14 7 HF rfl ?_ hHeld ?_
            rotate_left; · (intro _ _ _; go_simp; try with_reducible rfl)
            simp only [Act.put, p1, p2, p3]
            refine wpAnyH_done (by kernel_rfl) ?_ _
            clear HF h5 hg5 hHeld h6 l6
            have hO5 := Lib.hid (ownsRow_below HO.out hS5)
            have hB5 := below_of hB hS5 hB.size
            have hbs := hB5.size
            have z5 : w5.cell? ⟨w.heap.size, 0, none⟩ = some (.slice (some ⟨b, off, none⟩) n c) := (hS5.cell (p := ⟨w.heap.size, 0, none⟩) (World.block_lt_of_cell? _ _ z0)).trans z0
            have z6 : w5.cell? ⟨b, off + i * 4, none⟩ = some (.int .i64 (f (i * 4))) := (hS5.cell (p := ⟨b, off + i * 4, none⟩) (World.block_lt_of_cell? _ _ c0)).trans c0
            clear hS5 HO hB z0 c0
            go_wp2_with (at_builtin; refine wpList_append_int1 _ rfl _ _ 36 rfl (w.alloc (.cells #[.slice (some ⟨b, off, none⟩) n c, .int .i64 I, .int .i64 H, .int .i64 S, .int .i64 P] 26)).heap.size 3 Tryd.underlying36 infoIntP P' (f (i * 4)) _ rfl (hO5.out.alloc _) _ rfl (by simp) (by omega) (by simp; simp at hbs; omega) ?_; intro v' w6 hown6 _ hgrow6)
            go_roundw
            case rel => exact ⟨i + 1, by omega, by go_num, by rw [HPY.out HPB.out]; exact hown6, below_app (hB5.alloc hB5.size _) (hO5.out.alloc _) hgrow6⟩
            case measure => simp [intOf]; omega
          case nbtrue =>
          rintro v w3 ⟨g6, rfl, l6, h63⟩ hS3 _
          simp only [Act.put, p1, p2, p3]
          refine wpAnyH_job (fuel := 5) (i := 8) (d := 29) (skip := [29, 6]) (Post := (fun v w' => ∃ a0 a1 a2 a3 a4, v = .tuple #[.agg #[.slice a0 n a1, .int .i64 I, .int .i64 a2, .int .i64 a3, .int .i64 a4], .bool true])) rfl rfl (by kernel_rfl) ?jntrue below_stays hS3 ?ndtrue
          case jntrue =>
            intro a' w1' K hev hb hK
            have h1 : a'.eval (.tmp 21) = .agg #[.slice (some ⟨b, off, none⟩) n c, .int .i64 I, .int .i64 H, .int .i64 S, .int .i64 P] := (hev 21 (by decide)).trans rfl
            have h2 : a'.tmps[21]?.getD undef = .agg #[.slice (some ⟨b, off, none⟩) n c, .int .i64 I, .int .i64 H, .int .i64 S, .int .i64 P] := by simpa [Act.eval] using h1
            have h3 : a'.eval (.tmp 28) = .agg #[.int .i64 5, .int .i64 (f (i * 4)), .int .i64 0, .int .i64 1] := (hev 28 (by decide)).trans rfl
            have h4 : a'.tmps[28]?.getD undef = .agg #[.int .i64 5, .int .i64 (f (i * 4)), .int .i64 0, .int .i64 1] := by simpa [Act.eval] using h3
            have HK := Lib.hid hK
            have HSL := Lib.hid (HSW.out.below (below_of hB hb hB.size))
            clear hev h1 h3 hK HF
            go_simp
            go_at_call 39
            refine (l25Make_rake _ n c lo hi f I H S P (f (i * 4)) 0 1 i hlt w1' HSL.out hn hnc (by simp) HFD.out (by omega)).mono ?_
            rw [HOK.out]
            rintro e w2' ⟨A', c', rfl, _, _, _, hb2⟩
            exact HK.out _ w2' ⟨_, _, _, _, _, rfl⟩ hb2
          case ndtrue =>
          rintro v w4 ⟨a0, a1, a2, a3, a4, rfl⟩ hS4 hb4
          have h6 := (hb4.block g6 (Array.getElem?_eq_some_iff.1 h63).1).trans h63
          simp only [Act.put, p1, p2, p3]
          have hHeld := hS4
          refine tk (v := ?_) 9 20 HF rfl ?_ hHeld ?_
          rotate_left; · (intro _ _ _; go_simp; try with_reducible rfl)
          simp only [Act.put, p1, p2, p3]
          refine tk (v := ?_) 10 30 HF rfl ?_ hHeld ?_
          rotate_left; · (intro _ _ _; go_simp; try with_reducible rfl)
          simp only [Act.put, p1, p2, p3]
          refine tk (v := ?_) 11 31 HF rfl ?_ hHeld ?_
          rotate_left; · (intro _ _ _; go_simp; try with_reducible rfl)
          simp only [Act.put, p1, p2, p3]
          refine wpAnyH_store (fuel := 1) (i := 13) rfl (by kernel_rfl) g6 0 (.agg #[.slice a0 n a1, .int .i64 I, .int .i64 a2, .int .i64 a3, .int .i64 a4]) 26 #[.slice none 0 0, .int .i64 0, .int .i64 0, .int .i64 0, .int .i64 0] rfl rfl infoWorks h6 (Nat.le_refl 5) (by simp [Value.cells, Value.oneCell']) (fun w' hg => hS4.grown hg hS4.size (fun k hk => by cases hk; exact l6)) ?strueb
          case strueb =>
          intro w5 h5 hg5 hS5
          have hHeld := hS5
          refine tk (v := ?_) 14 7 HF rfl ?_ hHeld ?_
          rotate_left; · (intro _ _ _; go_simp; try with_reducible rfl)
          simp only [Act.put, p1, p2, p3]
          refine wpAnyH_done (by kernel_rfl) ?_ _
          clear HF h5 hg5 hHeld h6 l6
          have hO5 := Lib.hid (ownsRow_below HO.out hS5)
          have hB5 := below_of hB hS5 hB.size
          have hbs := hB5.size
          have z5 : w5.cell? ⟨w.heap.size, 0, none⟩ = some (.slice (some ⟨b, off, none⟩) n c) := (hS5.cell (p := ⟨w.heap.size, 0, none⟩) (World.block_lt_of_cell? _ _ z0)).trans z0
          have z6 : w5.cell? ⟨b, off + i * 4, none⟩ = some (.int .i64 (f (i * 4))) := (hS5.cell (p := ⟨b, off + i * 4, none⟩) (World.block_lt_of_cell? _ _ c0)).trans c0
          clear hS5 HO hB z0 c0
          go_wp2_with (at_builtin; refine wpList_append_int1 _ rfl _ _ 36 rfl (w.alloc (.cells #[.slice (some ⟨b, off, none⟩) n c, .int .i64 I, .int .i64 H, .int .i64 S, .int .i64 P] 26)).heap.size 3 Tryd.underlying36 infoIntP P' (f (i * 4)) _ rfl (hO5.out.alloc _) _ rfl (by simp) (by omega) (by simp; simp at hbs; omega) ?_; intro v' w6 hown6 _ hgrow6)
          go_roundw
          case rel => exact ⟨i + 1, by omega, by go_num, by rw [HPY.out HPB.out]; exact hown6, below_app (hB5.alloc hB5.size _) (hO5.out.alloc _) hgrow6⟩
          case measure => simp [intOf]; omega
        | false =>
          have HPB : Hid (rakeB f i = false) := hqi
          have HOK := Lib.hid (HKI.out.trans hqi)
          clear hqi HKI
          go_wp2_with fail
          refine wp_region_held_drew (S := fun w' => Below wr.heap.size wr w') (by kernel_rfl) ((Below.refl _ wr).drew) (fun hHeld => ?_)
          refine tk (v := ?_) 0 21 HF rfl ?_ hHeld ?_
          rotate_left; · (intro _ _ _; go_simp; try with_reducible rfl)
          simp only [Act.put, p1, p2, p3]
          refine tk (v := ?_) 1 22 HF rfl ?_ hHeld ?_
          rotate_left; · (intro _ _ _; go_simp; try with_reducible rfl)
          simp only [Act.put, p1, p2, p3]
          refine tk (v := ?_) 3 24 HF rfl ?_ hHeld ?_
          rotate_left; · (intro _ _ _; go_simp; try with_reducible rfl)
          simp only [Act.put, p1, p2, p3]
          refine tk (v := ?_) 2 23 HF rfl ?_ hHeld ?_
          rotate_left; · (intro _ _ _; go_simp; try with_reducible rfl)
          simp only [Act.put, p1, p2, p3]
          refine tk (v := ?_) 4 25 HF rfl ?_ hHeld ?_
          rotate_left; · (intro _ _ _; go_simp; try with_reducible rfl)
          simp only [Act.put, p1, p2, p3]
          refine tk (v := ?_) 5 26 HF rfl ?_ hHeld ?_
          rotate_left; · (intro _ _ _; go_simp; try with_reducible rfl)
          simp only [Act.put, p1, p2, p3]
          refine tk (v := ?_) 6 27 HF rfl ?_ hHeld ?_
          rotate_left; · (intro _ _ _; go_simp; try with_reducible rfl)
          simp only [Act.put, p1, p2, p3]
          refine tk (v := ?_) 7 28 HF rfl ?_ hHeld ?_
          rotate_left; · (intro _ _ _; go_simp; try with_reducible rfl)
          simp only [Act.put, p1, p2, p3]
          refine wpAnyH_split (fuel := 6) (i := 8) (j := 12) (di := 29) (dj := 6) (skip := [29, 6]) (Pi := (fun v w' => ∃ a0 a1 a2 a3 a4, v = .tuple #[.agg #[.slice a0 n a1, .int .i64 I, .int .i64 a2, .int .i64 a3, .int .i64 a4], .bool false])) rfl rfl rfl rfl (by kernel_rfl) ?jmfalse (Job.alloc (skip := [29, 6]) (nb := wr.heap.size) (obj := .cells #[.slice none 0 0, .int .i64 0, .int .i64 0, .int .i64 0, .int .i64 0] 26) rfl (fun _ h => h.size) (fun a' w1 => by go_simp; try rfl)) below_stays hHeld ?nafalse ?nbfalse
          case jmfalse =>
            intro a' w1' K hev hb hK
            have h1 : a'.eval (.tmp 21) = .agg #[.slice (some ⟨b, off, none⟩) n c, .int .i64 I, .int .i64 H, .int .i64 S, .int .i64 P] := (hev 21 (by decide)).trans rfl
            have h2 : a'.tmps[21]?.getD undef = .agg #[.slice (some ⟨b, off, none⟩) n c, .int .i64 I, .int .i64 H, .int .i64 S, .int .i64 P] := by simpa [Act.eval] using h1
            have h3 : a'.eval (.tmp 28) = .agg #[.int .i64 5, .int .i64 (f (i * 4)), .int .i64 0, .int .i64 1] := (hev 28 (by decide)).trans rfl
            have h4 : a'.tmps[28]?.getD undef = .agg #[.int .i64 5, .int .i64 (f (i * 4)), .int .i64 0, .int .i64 1] := by simpa [Act.eval] using h3
            have HK := Lib.hid hK
            have HSL := Lib.hid (HSW.out.below (below_of hB hb hB.size))
            clear hev h1 h3 hK HF
            go_simp
            go_at_call 39
            refine (l25Make_rake _ n c lo hi f I H S P (f (i * 4)) 0 1 i hlt w1' HSL.out hn hnc (by simp) HFD.out (by omega)).mono ?_
            rw [HOK.out]
            rintro e w2' ⟨A', c', rfl, _, _, _, hb2⟩
            exact HK.out _ w2' ⟨_, _, _, _, _, rfl⟩ hb2
          case nafalse =>
            rintro v w3 ⟨a0, a1, a2, a3, a4, rfl⟩ hS3 _
            simp only [Act.put, p1, p2, p3]
            have hHeld := hS3
            refine tk (v := ?_) 9 20 HF rfl ?_ hHeld ?_
            rotate_left; · (intro _ _ _; go_simp; try with_reducible rfl)
            simp only [Act.put, p1, p2, p3]
            refine tk (v := ?_) 10 30 HF rfl ?_ hHeld ?_
            rotate_left; · (intro _ _ _; go_simp; try with_reducible rfl)
            simp only [Act.put, p1, p2, p3]
            refine tk (v := ?_) 11 31 HF rfl ?_ hHeld ?_
            rotate_left; · (intro _ _ _; go_simp; try with_reducible rfl)
            simp only [Act.put, p1, p2, p3]
            refine wpAnyH_job (fuel := 2) (i := 12) (d := 6) (skip := [29, 6]) rfl rfl (by kernel_rfl) (Job.alloc (skip := [29, 6]) (nb := wr.heap.size) (obj := .cells #[.slice none 0 0, .int .i64 0, .int .i64 0, .int .i64 0, .int .i64 0] 26) rfl (fun _ h => h.size) (fun a' w1 => by go_simp; try rfl)) below_stays hHeld ?ncfalse
            case ncfalse =>
            rintro v w4 ⟨g6, rfl, l6, h6⟩ hS4 _
            simp only [Act.put, p1, p2, p3]
            refine wpAnyH_store (fuel := 1) (i := 13) rfl (by kernel_rfl) g6 0 (.agg #[.slice a0 n a1, .int .i64 I, .int .i64 a2, .int .i64 a3, .int .i64 a4]) 26 #[.slice none 0 0, .int .i64 0, .int .i64 0, .int .i64 0, .int .i64 0] rfl rfl infoWorks h6 (Nat.le_refl 5) (by simp [Value.cells, Value.oneCell']) (fun w' hg => hS4.grown hg hS4.size (fun k hk => by cases hk; exact l6)) ?sfalsea
            case sfalsea =>
            intro w5 h5 hg5 hS5
            have hHeld := hS5
            refine tk (v := ?_) 14 7 HF rfl ?_ hHeld ?_
            rotate_left; · (intro _ _ _; go_simp; try with_reducible rfl)
            simp only [Act.put, p1, p2, p3]
            refine wpAnyH_done (by kernel_rfl) ?_ _
            clear HF h5 hg5 hHeld h6 l6
            have hO5 := ownsRow_below HO.out hS5
            have hB5 := below_of hB hS5 hB.size
            clear hS5 HO hB
            go_wp2
            go_roundw
            case rel => exact ⟨i + 1, by omega, by go_num, by rw [HPN.out HPB.out]; exact hO5, hB5⟩
            case measure => simp [intOf]; omega
          case nbfalse =>
          rintro v w3 ⟨g6, rfl, l6, h63⟩ hS3 _
          simp only [Act.put, p1, p2, p3]
          refine wpAnyH_job (fuel := 5) (i := 8) (d := 29) (skip := [29, 6]) (Post := (fun v w' => ∃ a0 a1 a2 a3 a4, v = .tuple #[.agg #[.slice a0 n a1, .int .i64 I, .int .i64 a2, .int .i64 a3, .int .i64 a4], .bool false])) rfl rfl (by kernel_rfl) ?jnfalse below_stays hS3 ?ndfalse
          case jnfalse =>
            intro a' w1' K hev hb hK
            have h1 : a'.eval (.tmp 21) = .agg #[.slice (some ⟨b, off, none⟩) n c, .int .i64 I, .int .i64 H, .int .i64 S, .int .i64 P] := (hev 21 (by decide)).trans rfl
            have h2 : a'.tmps[21]?.getD undef = .agg #[.slice (some ⟨b, off, none⟩) n c, .int .i64 I, .int .i64 H, .int .i64 S, .int .i64 P] := by simpa [Act.eval] using h1
            have h3 : a'.eval (.tmp 28) = .agg #[.int .i64 5, .int .i64 (f (i * 4)), .int .i64 0, .int .i64 1] := (hev 28 (by decide)).trans rfl
            have h4 : a'.tmps[28]?.getD undef = .agg #[.int .i64 5, .int .i64 (f (i * 4)), .int .i64 0, .int .i64 1] := by simpa [Act.eval] using h3
            have HK := Lib.hid hK
            have HSL := Lib.hid (HSW.out.below (below_of hB hb hB.size))
            clear hev h1 h3 hK HF
            go_simp
            go_at_call 39
            refine (l25Make_rake _ n c lo hi f I H S P (f (i * 4)) 0 1 i hlt w1' HSL.out hn hnc (by simp) HFD.out (by omega)).mono ?_
            rw [HOK.out]
            rintro e w2' ⟨A', c', rfl, _, _, _, hb2⟩
            exact HK.out _ w2' ⟨_, _, _, _, _, rfl⟩ hb2
          case ndfalse =>
          rintro v w4 ⟨a0, a1, a2, a3, a4, rfl⟩ hS4 hb4
          have h6 := (hb4.block g6 (Array.getElem?_eq_some_iff.1 h63).1).trans h63
          simp only [Act.put, p1, p2, p3]
          have hHeld := hS4
          refine tk (v := ?_) 9 20 HF rfl ?_ hHeld ?_
          rotate_left; · (intro _ _ _; go_simp; try with_reducible rfl)
          simp only [Act.put, p1, p2, p3]
          refine tk (v := ?_) 10 30 HF rfl ?_ hHeld ?_
          rotate_left; · (intro _ _ _; go_simp; try with_reducible rfl)
          simp only [Act.put, p1, p2, p3]
          refine tk (v := ?_) 11 31 HF rfl ?_ hHeld ?_
          rotate_left; · (intro _ _ _; go_simp; try with_reducible rfl)
          simp only [Act.put, p1, p2, p3]
          refine wpAnyH_store (fuel := 1) (i := 13) rfl (by kernel_rfl) g6 0 (.agg #[.slice a0 n a1, .int .i64 I, .int .i64 a2, .int .i64 a3, .int .i64 a4]) 26 #[.slice none 0 0, .int .i64 0, .int .i64 0, .int .i64 0, .int .i64 0] rfl rfl infoWorks h6 (Nat.le_refl 5) (by simp [Value.cells, Value.oneCell']) (fun w' hg => hS4.grown hg hS4.size (fun k hk => by cases hk; exact l6)) ?sfalseb
          case sfalseb =>
          intro w5 h5 hg5 hS5
          have hHeld := hS5
          refine tk (v := ?_) 14 7 HF rfl ?_ hHeld ?_
          rotate_left; · (intro _ _ _; go_simp; try with_reducible rfl)
          simp only [Act.put, p1, p2, p3]
          refine wpAnyH_done (by kernel_rfl) ?_ _
          clear HF h5 hg5 hHeld h6 l6
          have hO5 := ownsRow_below HO.out hS5
          have hB5 := below_of hB hS5 hB.size
          clear hS5 HO hB
          go_wp2
          go_roundw
          case rel => exact ⟨i + 1, by omega, by go_num, by rw [HPN.out HPB.out]; exact hO5, hB5⟩
          case measure => simp [intOf]; omega
      · have hni : ¬ ((i : Int) < (n : Int)) := by omega
        have hin : i = n := by omega
        subst hin
        clear HFA HKA HSW
        generalize idsP f (pickN (rakeB f) i) = P' at *
        go_wp2
        go_ret2
        exact IntsPost.mk_ (ownsRow_monoP HO.out BW.size) (BW.trans (hB.mono BW.size))
end Go.Proofs.YtjkockhldaacbaaDoor
