/-
  PathPast of the program: the nests near a path, sorted.
-/
import Derived.Test.YtcecpioiagfoiaaDoorNestM
import Derived.Test.YtcecpioiagfoiaaDoorSortS
import Derived.Test.YtcecpioiagfoiaaDoorShelf
namespace Go.Proofs.YtcecpioiagfoiaaDoor
open Go.RowKit Go.Sort
set_option linter.unusedVariables false
set_option linter.unusedSimpArgs false
attribute [local go_sem ↓] Go.wp_at_zero Go.wp_at_succ
def absV (n : Int) : Int := if n < 0 then -n else n
theorem absV_lt {n : Int} (h : inR n (-49) 49 = true) : absV n < 50 := by
  simp only [inR, decide_eq_true_eq] at h
  unfold absV; split <;> omega
theorem absV_ge {n : Int} (h : inR n (-49) 49 = false) : ¬ absV n < 50 := by
  simp only [inR, decide_eq_false_iff_not] at h
  unfold absV; split <;> omega
theorem abs_any (n : Int) (w : World) (h1 : -1000000 ≤ n) (h2 : n ≤ 1000000) : Calls Tryd.prog 38 #[.int .i64 n] w fun e w' => e = .returned (.int .i64 (absV n)) ∧ w = w' := by
  by_cases hn : n < 0
  · go_enter Tryd.func38, Tryd.ntmps38
    go_wp2
    go_ret
    exact ⟨ret_int (by unfold absV; rw [if_pos hn]), rfl⟩
  · go_enter Tryd.func38, Tryd.ntmps38
    go_wp2
    go_ret
    exact ⟨ret_int (by unfold absV; rw [if_neg (by omega)]), rfl⟩
def pastCf (f : Nat → Int) (p q : Nat) : Int := Lib.compareInt (f (p * 7 + 6)) (f (q * 7 + 6))
theorem pastCf_lt (f : Nat → Int) : (fun p q => ltOf (pastCf f) q p) = pastMv f := by
  funext p q
  rw [Bool.eq_iff_iff]
  simp only [ltOf, pastCf, Lib.compareInt, pastMv, decide_eq_true_eq]
  split
  · simp [*]
  · split <;> simp [*]
theorem pastClo_any (f : Nat → Int) (x y : Nat) (W : World) : Calls Tryd.prog 40 #[.agg #[.int .i64 (f (x * 7)), .int .i64 (f (x * 7 + 1)), .int .i64 (f (x * 7 + 2)), .int .i64 (f (x * 7 + 3)), .int .i64 (f (x * 7 + 4)), .int .i64 (f (x * 7 + 5)), .int .i64 (f (x * 7 + 6))], .agg #[.int .i64 (f (y * 7)), .int .i64 (f (y * 7 + 1)), .int .i64 (f (y * 7 + 2)), .int .i64 (f (y * 7 + 3)), .int .i64 (f (y * 7 + 4)), .int .i64 (f (y * 7 + 5)), .int .i64 (f (y * 7 + 6))]] W fun e w' => e = .returned (.int .i64 (pastCf f x y)) ∧ ∃ q os', w' = grow (W.drewN q) os' := by
  have hcon := fun W' => Tryd.cmp_Compare_int (f (x * 7 + 6)) (f (y * 7 + 6)) W'
  unfold pastCf
  generalize Lib.compareInt (f (x * 7 + 6)) (f (y * 7 + 6)) = r at hcon ⊢
  go_enter Tryd.func40, Tryd.ntmps40
  go_wp2_with (go_at_call 41; refine (hcon _).mono ?_; rintro e w' ⟨rfl, rfl⟩)
  go_ret
  exact ⟨rfl, 0, _, by rw [alloc_eq_grow, alloc_eq_grow, grow_grow]; rfl⟩
theorem info_zero7 : (Value.agg #[.int .i64 0, .int .i64 0, .int .i64 0, .int .i64 0, .int .i64 0, .int .i64 0, .int .i64 0]).cells.size = 7 := rfl
theorem form_of {w : World} {lo k : Nat} {e : TypeId} {v : Value} {n : Nat} {xs : List Value} (h : w.ownsRow lo e k v n xs) : (n = 0 ∧ ∃ A c, v = .slice A 0 c) ∨ ∃ g c, v = .slice (some ⟨g, 0, none⟩) n c := by
  rcases h.2 with ⟨rfl, rfl⟩ | ⟨g, c, cur, rfl, _⟩
  · exact Or.inl ⟨rfl, none, 0, rfl⟩
  · exact Or.inr ⟨g, c, rfl⟩

set_option maxRecDepth 100000 in
set_option maxHeartbeats 4000000 in
theorem PathPast_any (A : Option Addr) (n c lo hi : Nat) (f : Nat → Int) (x day : Int) (w : World) (hs : Sl w lo hi 7 A n f) (hn : n ≤ 1048576) (hnc : n ≤ c) :
    Calls Tryd.prog 14 #[.slice A n c, .int .i64 x, .int .i64 day] w (IntsPost 3 w (pastRes f n x day) (pastOk f n x day)) := by
  have HS : Hid (Sl w lo hi 7 A n f) := hs
  clear hs
  cases hg : goodNests f n with
  | false =>
    have hr : pastRes f n x day = [] := by simp [pastRes, pastOk, hg]
    have hk : pastOk f n x day = false := by simp [pastOk, hg]
    rw [hr, hk]
    clear hr hk
    go_enter Tryd.func14, Tryd.ntmps14
    go_wp2_with fail
    refine (NestAll_any A n c lo hi f w HS.out hn hnc).mono ?_
    rintro e w1 ⟨rfl, hb1⟩
    rw [hg]
    go_wp2
    go_ret2
    exact IntsPost.nil_ hb1
  | true =>
    have h12 := goodNests_len hg
    cases hx : inR x 0 999 with
    | false =>
      have hr : pastRes f n x day = [] := by simp [pastRes, pastOk, hx]
      have hk : pastOk f n x day = false := by simp [pastOk, hx]
      rw [hr, hk]
      clear hr hk
      go_enter Tryd.func14, Tryd.ntmps14
      go_wp2_with fail
      refine (NestAll_any A n c lo hi f w HS.out hn hnc).mono ?_
      rintro e w1 ⟨rfl, hb1⟩
      rw [hg]
      go_wp2_with fail
      refine (isPlace_any _ _).mono ?_
      rintro e w2 ⟨rfl, rfl⟩
      rw [hx]
      go_wp2
      go_ret2
      exact IntsPost.nil_ hb1
    | true =>
      cases hz : inR day 0 4000 with
      | false =>
        have hr : pastRes f n x day = [] := by simp [pastRes, pastOk, hz]
        have hk : pastOk f n x day = false := by simp [pastOk, hz]
        rw [hr, hk]
        clear hr hk
        go_enter Tryd.func14, Tryd.ntmps14
        go_wp2_with fail
        refine (NestAll_any A n c lo hi f w HS.out hn hnc).mono ?_
        rintro e w1 ⟨rfl, hb1⟩
        rw [hg]
        go_wp2_with fail
        refine (isPlace_any _ _).mono ?_
        rintro e w2 ⟨rfl, rfl⟩
        rw [hx]
        go_wp2_with fail
        refine (isDay_any _ _).mono ?_
        rintro e w2 ⟨rfl, rfl⟩
        rw [hz]
        go_wp2
        go_ret2
        exact IntsPost.nil_ hb1
      | true =>
        have hr : pastRes f n x day = idsOf f (pastL f x day n) := by simp [pastRes, pastOk, hg, hx, hz]
        have hk : pastOk f n x day = true := by simp [pastOk, hg, hx, hz]
        rw [hr, hk]
        clear hr hk
        have hxr : 0 ≤ x ∧ x ≤ 999 := by simpa [inR] using hx
        obtain ⟨hx1, hx2⟩ := hxr
        have HG := Lib.hid hg
        have eg : ∀ args w, (callFunc 40 args).run Tryd.prog w = .ok (.enter 40 args) w := enters_of Tryd.func40 (by kernel_rfl) rfl
        have EG := Lib.hid eg
        clear eg
        go_enter Tryd.func14, Tryd.ntmps14
        go_wp2_with fail
        refine (NestAll_any A n c lo hi f w HS.out hn hnc).mono ?_
        rintro e w1 ⟨rfl, hb1⟩
        rw [hg]
        go_wp2_with fail
        refine (isPlace_any _ _).mono ?_
        rintro e w2 ⟨rfl, rfl⟩
        rw [hx]
        go_wp2_with fail
        refine (isDay_any _ _).mono ?_
        rintro e w2 ⟨rfl, rfl⟩
        rw [hz]
        go_wp2_with fail
        go_loopw [8, 29] (fun v iv wr => ∃ i : Nat, i ≤ n ∧ iv = .int .i64 i ∧ wr.ownsRow w.heap.size 36 7 v (pickN (pastB f x day) i).length ((rowsOf f 7 (pickN (pastB f x day) i)).map (Value.int .i64)) ∧ Below w.heap.size w wr) (fun _ iv _ => n - (intOf iv).toNat)
        case atStart => exact ⟨0, Nat.zero_le _, rfl, World.ownsRow_nil _ _ _ _, hb1⟩
        case round =>
          obtain ⟨i, hi', rfl, hown, hB⟩ := hrel
          have HO := Lib.hid hown
          have hl : (pickN (pastB f x day) i).length ≤ 12 := by have := pickN_len (pastB f x day) i; omega
          clear hown hb1
          by_cases hlt : i < n
          · obtain ⟨b, off, rfl, hbw, HC⟩ := HS.out.open_ hB (by omega)
            obtain ⟨c0, c1, c2, c3, c4, c5, c6⟩ := cell7 HC hlt
            have hok := goodNests_row HG.out hlt
            have hX : 0 ≤ f (i * 7 + 5) ∧ f (i * 7 + 5) ≤ 999 := by
              simp only [okNestAt, okNest, decide_eq_true_eq] at hok
              omega
            obtain ⟨hX1, hX2⟩ := hX
            have hi0i : (0 : Int) ≤ (i : Int) := by omega
            have hini : (i : Int) < (n : Int) := by omega
            have HPY : Hid (pastB f x day i = true → pickN (pastB f x day) (i + 1) = (pickN (pastB f x day) i) ++ [i]) := fun h => pickN_yes h
            have HPN : Hid (pastB f x day i = false → pickN (pastB f x day) (i + 1) = (pickN (pastB f x day) i)) := fun h => pickN_no h
            generalize (pickN (pastB f x day) i) = P at *
            clear hok HC HS
            cases ht : aliveV (f (i * 7 + 3)) (f (i * 7 + 4)) day with
            | false =>
              have HPB : Hid (pastB f x day i = false) := by show _ = _; unfold pastB aliveAt; rw [ht]; rfl
              go_wp2_with fail
              refine (alive_any _ _ _ _ _ _ _ _ _).mono ?_
              rintro e w2 ⟨rfl, hb2⟩
              rw [ht]
              have hb3 : Below wr.heap.size wr w2 := ((Below.refl _ wr).alloc (Nat.le_refl _) _).trans (hb2.mono (by simp))
              have hB2 := below_of hB hb3 hB.size
              have hO2 := Lib.hid (ownsRow_below HO.out hb3)
              have hbx := heap_alloc_new wr (.cells #[.int .i64 (f (i * 7)), .int .i64 (f (i * 7 + 1)), .int .i64 (f (i * 7 + 2)), .int .i64 (f (i * 7 + 3)), .int .i64 (f (i * 7 + 4)), .int .i64 (f (i * 7 + 5)), .int .i64 (f (i * 7 + 6))] 36)
              have n0 : w2.cell? ⟨wr.heap.size, 0, none⟩ = some (.int .i64 (f (i * 7))) := (hb2.cell (p := ⟨wr.heap.size, 0, none⟩) (by simp)).trans (by rw [cell_of_row _ wr.heap.size 0 _ _ (0, 0) hbx]; rfl)
              have n1 : w2.cell? ⟨wr.heap.size, 1, none⟩ = some (.int .i64 (f (i * 7 + 1))) := (hb2.cell (p := ⟨wr.heap.size, 1, none⟩) (by simp)).trans (by rw [cell_of_row _ wr.heap.size 1 _ _ (0, 0) hbx]; rfl)
              have n2 : w2.cell? ⟨wr.heap.size, 2, none⟩ = some (.int .i64 (f (i * 7 + 2))) := (hb2.cell (p := ⟨wr.heap.size, 2, none⟩) (by simp)).trans (by rw [cell_of_row _ wr.heap.size 2 _ _ (0, 0) hbx]; rfl)
              have n3 : w2.cell? ⟨wr.heap.size, 3, none⟩ = some (.int .i64 (f (i * 7 + 3))) := (hb2.cell (p := ⟨wr.heap.size, 3, none⟩) (by simp)).trans (by rw [cell_of_row _ wr.heap.size 3 _ _ (0, 0) hbx]; rfl)
              have n4 : w2.cell? ⟨wr.heap.size, 4, none⟩ = some (.int .i64 (f (i * 7 + 4))) := (hb2.cell (p := ⟨wr.heap.size, 4, none⟩) (by simp)).trans (by rw [cell_of_row _ wr.heap.size 4 _ _ (0, 0) hbx]; rfl)
              have n5 : w2.cell? ⟨wr.heap.size, 5, none⟩ = some (.int .i64 (f (i * 7 + 5))) := (hb2.cell (p := ⟨wr.heap.size, 5, none⟩) (by simp)).trans (by rw [cell_of_row _ wr.heap.size 5 _ _ (0, 0) hbx]; rfl)
              have n6 : w2.cell? ⟨wr.heap.size, 6, none⟩ = some (.int .i64 (f (i * 7 + 6))) := (hb2.cell (p := ⟨wr.heap.size, 6, none⟩) (by simp)).trans (by rw [cell_of_row _ wr.heap.size 6 _ _ (0, 0) hbx]; rfl)
              clear hb2 hb3 HO hB c0 c1 c2 c3 c4 c5 c6 hbx
              generalize wr.heap.size = nb at *
              go_wp2
              go_roundw
              case rel => exact ⟨i + 1, by omega, by go_num, by rw [HPN.out HPB.out]; exact hO2.out, hB2⟩
              case measure => simp [intOf]; omega
            | true =>
              go_wp2_with fail
              refine (alive_any _ _ _ _ _ _ _ _ _).mono ?_
              rintro e w2 ⟨rfl, hb2⟩
              rw [ht]
              have hb3 : Below wr.heap.size wr w2 := ((Below.refl _ wr).alloc (Nat.le_refl _) _).trans (hb2.mono (by simp))
              have hB2 := below_of hB hb3 hB.size
              have hO2 := Lib.hid (ownsRow_below HO.out hb3)
              have hbx := heap_alloc_new wr (.cells #[.int .i64 (f (i * 7)), .int .i64 (f (i * 7 + 1)), .int .i64 (f (i * 7 + 2)), .int .i64 (f (i * 7 + 3)), .int .i64 (f (i * 7 + 4)), .int .i64 (f (i * 7 + 5)), .int .i64 (f (i * 7 + 6))] 36)
              have n0 : w2.cell? ⟨wr.heap.size, 0, none⟩ = some (.int .i64 (f (i * 7))) := (hb2.cell (p := ⟨wr.heap.size, 0, none⟩) (by simp)).trans (by rw [cell_of_row _ wr.heap.size 0 _ _ (0, 0) hbx]; rfl)
              have n1 : w2.cell? ⟨wr.heap.size, 1, none⟩ = some (.int .i64 (f (i * 7 + 1))) := (hb2.cell (p := ⟨wr.heap.size, 1, none⟩) (by simp)).trans (by rw [cell_of_row _ wr.heap.size 1 _ _ (0, 0) hbx]; rfl)
              have n2 : w2.cell? ⟨wr.heap.size, 2, none⟩ = some (.int .i64 (f (i * 7 + 2))) := (hb2.cell (p := ⟨wr.heap.size, 2, none⟩) (by simp)).trans (by rw [cell_of_row _ wr.heap.size 2 _ _ (0, 0) hbx]; rfl)
              have n3 : w2.cell? ⟨wr.heap.size, 3, none⟩ = some (.int .i64 (f (i * 7 + 3))) := (hb2.cell (p := ⟨wr.heap.size, 3, none⟩) (by simp)).trans (by rw [cell_of_row _ wr.heap.size 3 _ _ (0, 0) hbx]; rfl)
              have n4 : w2.cell? ⟨wr.heap.size, 4, none⟩ = some (.int .i64 (f (i * 7 + 4))) := (hb2.cell (p := ⟨wr.heap.size, 4, none⟩) (by simp)).trans (by rw [cell_of_row _ wr.heap.size 4 _ _ (0, 0) hbx]; rfl)
              have n5 : w2.cell? ⟨wr.heap.size, 5, none⟩ = some (.int .i64 (f (i * 7 + 5))) := (hb2.cell (p := ⟨wr.heap.size, 5, none⟩) (by simp)).trans (by rw [cell_of_row _ wr.heap.size 5 _ _ (0, 0) hbx]; rfl)
              have n6 : w2.cell? ⟨wr.heap.size, 6, none⟩ = some (.int .i64 (f (i * 7 + 6))) := (hb2.cell (p := ⟨wr.heap.size, 6, none⟩) (by simp)).trans (by rw [cell_of_row _ wr.heap.size 6 _ _ (0, 0) hbx]; rfl)
              clear hb2 hb3 HO hB c0 c1 c2 c3 c4 c5 c6 hbx
              generalize wr.heap.size = nb at *
              cases hq : inR (f (i * 7 + 5) - x) (-49) 49 with
              | false =>
                have HPB : Hid (pastB f x day i = false) := by show _ = _; unfold pastB; rw [hq, Bool.and_false]
                have hab := absV_ge hq
                go_wp2_with fail
                refine (abs_any _ _ (by omega) (by omega)).mono ?_
                rintro e w3 ⟨rfl, rfl⟩
                go_wp2
                go_roundw
                case rel => exact ⟨i + 1, by omega, by go_num, by rw [HPN.out HPB.out]; exact hO2.out, hB2⟩
                case measure => simp [intOf]; omega
              | true =>
                have HPB : Hid (pastB f x day i = true) := by show _ = _; unfold pastB aliveAt; rw [hq, ht]; rfl
                have hab := absV_lt hq
                go_wp2_with fail
                refine (abs_any _ _ (by omega) (by omega)).mono ?_
                rintro e w3 ⟨rfl, rfl⟩
                have hal := (Below.refl w2.heap.size w2).alloc (Nat.le_refl _) (.cells #[.int .i64 (f (i * 7)), .int .i64 (f (i * 7 + 1)), .int .i64 (f (i * 7 + 2)), .int .i64 (f (i * 7 + 3)), .int .i64 (f (i * 7 + 4)), .int .i64 (f (i * 7 + 5)), .int .i64 (f (i * 7 + 6))] 36)
                have hro := Lib.hid (ownsRow_below hO2.out hal)
                have hcn : Hid (∀ j u, ([f (i * 7), f (i * 7 + 1), f (i * 7 + 2), f (i * 7 + 3), f (i * 7 + 4), f (i * 7 + 5), f (i * 7 + 6)] : List Int)[j]? = some u → (w2.alloc (.cells #[.int .i64 (f (i * 7)), .int .i64 (f (i * 7 + 1)), .int .i64 (f (i * 7 + 2)), .int .i64 (f (i * 7 + 3)), .int .i64 (f (i * 7 + 4)), .int .i64 (f (i * 7 + 5)), .int .i64 (f (i * 7 + 6))] 36)).cell? ((⟨w2.heap.size, 0, none⟩ : Addr).add j) = some (.int .i64 u)) := by
                  intro j u hu
                  rw [Addr.add_lit, Nat.zero_add, cell_of_row _ w2.heap.size j _ 36 (0, 0) (heap_alloc_new w2 _)]
                  match j, hu with
                  | 0, hu => simp at hu; subst hu; rfl
                  | 1, hu => simp at hu; subst hu; rfl
                  | 2, hu => simp at hu; subst hu; rfl
                  | 3, hu => simp at hu; subst hu; rfl
                  | 4, hu => simp at hu; subst hu; rfl
                  | 5, hu => simp at hu; subst hu; rfl
                  | 6, hu => simp at hu; subst hu; rfl
                  | j + 7, hu => simp at hu
                have hBn := below_of hB2 hal hB2.size
                have hbs := hBn.size
                clear hal hO2 hB2
                obtain ⟨v0, hv0⟩ : ∃ v0, v0 = u8 := ⟨_, rfl⟩
                go_wp2_with (at_builtin; refine wpList_append_flat _ rfl _ _ 24 rfl w.heap.size 36 7 56 (.agg #[.int .i64 0, .int .i64 0, .int .i64 0, .int .i64 0, .int .i64 0, .int .i64 0, .int .i64 0]) Tryd.underlying24 infoNest rfl (by decide) (by decide) (rowsOf f 7 P) [f (i * 7), f (i * 7 + 1), f (i * 7 + 2), f (i * 7 + 3), f (i * 7 + 4), f (i * 7 + 5), f (i * 7 + 6)] P.length 1 1 u8 rfl hro.out ⟨w2.heap.size, 0, none⟩ rfl rfl hcn.out (by omega) hbs ?_; intro v' w3 hown3 hgrow3)
                go_roundw
                case rel =>
                  refine ⟨i + 1, by omega, by go_num, ?_, below_app hBn hro.out hgrow3⟩
                  rw [HPY.out HPB.out, rowsOf_append, row_one, List.length_append]
                  exact hown3
                case measure => simp [intOf]; omega
          · have hni : ¬ ((i : Int) < (n : Int)) := by omega
            have hin : i = n := by omega
            subst hin
            clear HS
            have HL : Hid (isortL (pastMv f) (pickN (pastB f x day) i) = pastL f x day i) := rfl
            generalize (pickN (pastB f x day) i) = P at *
            rcases form_of HO.out with ⟨h0, A', c', hv⟩ | ⟨g, gc, hv⟩
            · subst hv
              have hP0 : P = [] := List.length_eq_zero_iff.1 h0
              have hres : Hid (idsOf f (pastL f x day i) = []) := by show _ = _; rw [← HL.out, hP0]; rfl
              clear HO hl h0 hP0
              go_wp2_with fail
              refine (sortStableNone_any A' c' 40 wr).mono ?_
              rintro e w2 ⟨rfl, rfl⟩
              go_wp2_with fail
              go_loopw [11, 53] (fun v kv wr2 => v = .slice none 0 0 ∧ kv = .int .i64 0 ∧ wr2 = wr) (fun _ _ _ => 0)
              case atStart => exact ⟨rfl, rfl, rfl⟩
              case round =>
                obtain ⟨rfl, rfl, rfl⟩ := hrel
                go_wp2
                go_ret2
                rw [hres.out]
                exact IntsPost.nil_ hB
            · subst hv
              obtain ⟨l, hl2⟩ : ∃ l, l = P.length := ⟨_, rfl⟩
              have hown := HO.out
              rw [← hl2] at hown hl ⊢
              have HN := Lib.hid hl2
              have hins := ins_any f (pastCf f) w.heap.size g gc l 40 P wr hown hl2 hl EG.out (fun _ _ _ _ x y => pastClo_any f x y _)
              rw [pastCf_lt, HL.out] at hins
              have hst := sortStable_any f w.heap.size g gc l 40 _ wr hl hins
              have HNL : Hid (l = (pastL f x day i).length) := by show _ = _; rw [← HL.out, isortL_length]; exact hl2
              have HOG := Lib.hid (World.ownsRow.lt hown g rfl).1
              clear hins hown HO hl2 EG HL HN
              generalize pastL f x day i = L at *
              go_wp2_with fail
              refine hst.mono ?_
              rintro e w2 ⟨rfl, ho2, hgr⟩
              have HR : Hid (RRow f 7 36 w2 w.heap.size (.slice (some ⟨g, 0, none⟩) l gc) L) := RRow.of HNL.out ho2
              have hB2 := hB.grown hgr hB.size (fun j hj => by cases hj; exact HOG.out)
              clear ho2 hgr hst hB
              go_wp2_with fail
              go_loopw [11, 53] (fun v kv wr => ∃ k : Nat, k ≤ l ∧ kv = .int .i64 k ∧ wr.ownsRow w.heap.size 3 1 v (idsOf f (L.take k)).length ((idsOf f (L.take k)).map (Value.int .i64)) ∧ RRow f 7 36 wr w.heap.size (.slice (some ⟨g, 0, none⟩) l gc) L ∧ Below w.heap.size w wr) (fun _ kv _ => l - (intOf kv).toNat)
              case atStart => exact ⟨0, Nat.zero_le _, rfl, World.ownsRow_nil _ _ _ _, HR.out, hB2⟩
              case round =>
                obtain ⟨k, hk, rfl, hown, hro, hB⟩ := hrel
                clear HR hB2
                have hPl : (idsOf f (L.take k)).length = k := by rw [idsOf, List.length_map, List.length_take]; have := HNL.out; omega
                by_cases hkl : k < l
                · have y0 := RRow.cellR hro HNL.out k 0 hkl (by decide)
                  have y1 := RRow.cellR hro HNL.out k 1 hkl (by decide)
                  have y2 := RRow.cellR hro HNL.out k 2 hkl (by decide)
                  have y3 := RRow.cellR hro HNL.out k 3 hkl (by decide)
                  have y4 := RRow.cellR hro HNL.out k 4 hkl (by decide)
                  have y5 := RRow.cellR hro HNL.out k 5 hkl (by decide)
                  have y6 := RRow.cellR hro HNL.out k 6 hkl (by decide)
                  simp only [Nat.add_zero] at y0
                  have HPS : Hid (idsOf f (L.take (k + 1)) = idsOf f (L.take k) ++ [f (L.getD k 0 * 7)]) := by
                    show _ = _
                    have hkL : k < L.length := by rw [← HNL.out]; exact hkl
                    rw [List.take_succ_eq_append_getElem hkL, idsOf, idsOf, List.map_append, List.getD_eq_getElem?_getD, List.getElem?_eq_getElem hkL]
                    rfl
                  generalize L.getD k 0 = p at *
                  generalize f (p * 7) = z at *
                  generalize idsOf f (L.take k) = P at *
                  have HO2 := Lib.hid hown
                  have HR2 := Lib.hid hro
                  have hk0i : (0 : Int) ≤ (k : Int) := by omega
                  have hkli : (k : Int) < (l : Int) := by omega
                  have hPl2 : P.length ≤ 100000000 := by omega
                  have hsz := hB.size
                  clear hown hro
                  go_wp2_with (at_builtin; refine wpList_append_int1 _ rfl _ _ 37 rfl w.heap.size 3 Tryd.underlying37 infoIntC P z _ rfl ((HO2.out.alloc _).alloc _) _ rfl (by simp) hPl2 (by simp; omega) ?_; intro v' w3 hown3 _ hgrow3)
                  go_roundw
                  case rel => exact ⟨k + 1, by omega, by go_num, by rw [HPS.out]; exact hown3, ((HR2.out.below ((Below.refl _ _).alloc (Nat.le_refl _) _)).below ((Below.refl _ _).alloc (Nat.le_refl _) _)).grown_other ((HO2.out.alloc _).alloc _) (by decide) hgrow3, below_app ((hB.alloc hB.size _).alloc (by simp; omega) _) ((HO2.out.alloc _).alloc _) hgrow3⟩
                  case measure => simp [intOf]; omega
                · have hkl2 : k = l := by omega
                  have hfin : Hid (idsOf f (L.take k) = idsOf f L) := by show _ = _; rw [List.take_of_length_le (by rw [← HNL.out]; omega)]
                  have HO2 := Lib.hid hown
                  clear hown hro
                  have hkli : ¬ ((k : Int) < (l : Int)) := by omega
                  clear hkl2
                  generalize idsOf f (L.take k) = P at *
                  go_wp2
                  go_ret2
                  rw [← hfin.out]
                  exact IntsPost.mk_ HO2.out hB
end Go.Proofs.YtcecpioiagfoiaaDoor
