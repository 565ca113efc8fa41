/-
  PanOrder of the program: the pans with a mass, sorted by their strength.
-/
import Derived.Test.YtjkockhldaacbaaDoorWorksE
import Derived.Test.YtjkockhldaacbaaDoorPk4
import Derived.Test.YtjkockhldaacbaaDoorPk5
import Derived.Test.YtjkockhldaacbaaDoorShelf
import Derived.Shelf.SlSortCmp.QuietGrown
import Derived.Deep.Cut
namespace Go.Proofs.YtjkockhldaacbaaDoor
open Go.RowKit Go.Sort
set_option linter.unusedVariables false
set_option linter.unusedSimpArgs false
attribute [local go_sem ↓] Go.wp_at_zero Go.wp_at_succ
theorem infoPan : (Tryd.prog.info? 48).map (fun i => (i.zero, i.size, i.bytes)) = some (some (.agg #[.int .i64 0, .int .i64 0, .int .i64 0, .int .i64 0]), 4, 32) := by kernel_rfl
def massAt (f : Nat → Int) (k : Nat) : Int := massV (f (k * 4 + 2)) (f (k * 4 + 3))
def ordB (f : Nat → Int) (k : Nat) : Bool := decide (0 < massAt f k)
/-- n stands ahead of p: it is stronger. -/
def ordMv (f : Nat → Int) (p n : Nat) : Bool := decide (wrap64 (f (p * 4 + 3) * massAt f n) < wrap64 (f (n * 4 + 3) * massAt f p))
def ordL (f : Nat → Int) (k : Nat) : List Nat := isortL (ordMv f) (pickN (ordB f) k)
def idsP (f : Nat → Int) (L : List Nat) : List Int := L.map fun p => f (p * 4)
def ordRes (f : Nat → Int) (n : Nat) (b : Bool) : List Int := if b then idsP f (ordL f n) else []
theorem ordL_len (f : Nat → Int) (k : Nat) : (ordL f k).length ≤ k := by
  rw [ordL, isortL_length]; exact pickN_len _ k
theorem ordRes_len (f : Nat → Int) (n : Nat) (b : Bool) : (ordRes f n b).length ≤ n := by
  unfold ordRes
  split
  · rw [idsP, List.length_map]; exact ordL_len f n
  · simp
theorem ordL_lt (f : Nat → Int) (n : Nat) : ∀ j ∈ ordL f n, j < n := by
  intro j hj
  rw [ordL, isortL_mem] at hj
  exact (pickN_lt _ n j hj).1
theorem row_oneP (f : Nat → Int) (k : Nat) : rowsOf f 4 [k] = [f (k * 4), f (k * 4 + 1), f (k * 4 + 2), f (k * 4 + 3)] := rfl
def ordCf (f : Nat → Int) (a b : Nat) : Int := Lib.compareInt (wrap64 (f (b * 4 + 3) * massAt f a)) (wrap64 (f (a * 4 + 3) * massAt f b))
theorem ordCf_lt (f : Nat → Int) : (fun p q => ltOf (ordCf f) q p) = ordMv f := by
  funext p q
  rw [Bool.eq_iff_iff]
  simp only [ltOf, ordCf, Lib.compareInt, ordMv, decide_eq_true_eq]
  split
  · simp [*]
  · split <;> simp [*]
theorem massG_any (wt s : Int) (w : World) :
    Calls Tryd.prog 33 #[.agg #[.int .i64 wt, .int .i64 s]] w fun e w' => e = .returned (.int .i64 (massV wt s)) ∧ ∃ q os', w' = grow (w.drewN q) os' := by
  go_enter Tryd.func33, Tryd.ntmps33
  go_wp2
  go_ret
  exact ⟨rfl, 0, _, by rw [alloc_eq_grow]; rfl⟩
theorem cmpG_any (x y : Int) (w : World) : Calls Tryd.prog 36 #[.int .i64 x, .int .i64 y] w fun e w' => e = .returned (.int .i64 (Lib.compareInt x y)) ∧ ∃ q os', w' = grow (w.drewN q) os' :=
  (Tryd.cmp_Compare_int x y w).mono fun e w' ⟨he, hw⟩ => ⟨he, 0, #[], by rw [hw, grow_empty]; rfl⟩
set_option maxHeartbeats 1000000 in
theorem panClo_any (f : Nat → Int) (x y : Nat) (W : World) : Calls Tryd.prog 35 #[.agg #[.int .i64 (f (x * 4)), .int .i64 (f (x * 4 + 1)), .int .i64 (f (x * 4 + 2)), .int .i64 (f (x * 4 + 3))], .agg #[.int .i64 (f (y * 4)), .int .i64 (f (y * 4 + 1)), .int .i64 (f (y * 4 + 2)), .int .i64 (f (y * 4 + 3))]] W fun e w' => e = .returned (.int .i64 (ordCf f x y)) ∧ ∃ q os', w' = grow (W.drewN q) os' := by
  have mixed : Tryd.prog.follows .mixedOrders = true := by kernel_rfl
  have HC : Hid (Lib.compareInt (IntKind.i64.wrap (f (y * 4 + 3) * massV (f (x * 4 + 2)) (f (x * 4 + 3)))) (IntKind.i64.wrap (f (x * 4 + 3) * massV (f (y * 4 + 2)) (f (y * 4 + 3)))) = ordCf f x y) := by
    show _ = _
    rw [IntWalk.i64_left, IntWalk.i64_left]
    rfl
  go_enter Tryd.func35, Tryd.ntmps35
  go_wp2_with fail
  have hX : Hid ((W.alloc (.cells #[.int .i64 (f (x * 4)), .int .i64 (f (x * 4 + 1)), .int .i64 (f (x * 4 + 2)), .int .i64 (f (x * 4 + 3))] 48)).alloc (.cells #[.int .i64 (f (y * 4)), .int .i64 (f (y * 4 + 1)), .int .i64 (f (y * 4 + 2)), .int .i64 (f (y * 4 + 3))] 48) = grow W #[.cells #[.int .i64 (f (x * 4)), .int .i64 (f (x * 4 + 1)), .int .i64 (f (x * 4 + 2)), .int .i64 (f (x * 4 + 3))] 48, .cells #[.int .i64 (f (y * 4)), .int .i64 (f (y * 4 + 1)), .int .i64 (f (y * 4 + 2)), .int .i64 (f (y * 4 + 3))] 48]) := by show _ = _; rw [alloc_eq_grow, alloc_eq_grow, grow_grow]; rfl
  have x2 := fun n os => cell_grown (n := n) (os := os) (w := (W.alloc (.cells #[.int .i64 (f (x * 4)), .int .i64 (f (x * 4 + 1)), .int .i64 (f (x * 4 + 2)), .int .i64 (f (x * 4 + 3))] 48)).alloc (.cells #[.int .i64 (f (y * 4)), .int .i64 (f (y * 4 + 1)), .int .i64 (f (y * 4 + 2)), .int .i64 (f (y * 4 + 3))] 48)) (a := ⟨W.heap.size, 2, none⟩) (v := .int .i64 (f (x * 4 + 2))) (by simp; omega) (by go_simp)
  have x3 := fun n os => cell_grown (n := n) (os := os) (w := (W.alloc (.cells #[.int .i64 (f (x * 4)), .int .i64 (f (x * 4 + 1)), .int .i64 (f (x * 4 + 2)), .int .i64 (f (x * 4 + 3))] 48)).alloc (.cells #[.int .i64 (f (y * 4)), .int .i64 (f (y * 4 + 1)), .int .i64 (f (y * 4 + 2)), .int .i64 (f (y * 4 + 3))] 48)) (a := ⟨W.heap.size, 3, none⟩) (v := .int .i64 (f (x * 4 + 3))) (by simp; omega) (by go_simp)
  have y2 := fun n os => cell_grown (n := n) (os := os) (w := (W.alloc (.cells #[.int .i64 (f (x * 4)), .int .i64 (f (x * 4 + 1)), .int .i64 (f (x * 4 + 2)), .int .i64 (f (x * 4 + 3))] 48)).alloc (.cells #[.int .i64 (f (y * 4)), .int .i64 (f (y * 4 + 1)), .int .i64 (f (y * 4 + 2)), .int .i64 (f (y * 4 + 3))] 48)) (a := ⟨W.heap.size + 1, 2, none⟩) (v := .int .i64 (f (y * 4 + 2))) (by simp) (by go_simp)
  have y3 := fun n os => cell_grown (n := n) (os := os) (w := (W.alloc (.cells #[.int .i64 (f (x * 4)), .int .i64 (f (x * 4 + 1)), .int .i64 (f (x * 4 + 2)), .int .i64 (f (x * 4 + 3))] 48)).alloc (.cells #[.int .i64 (f (y * 4)), .int .i64 (f (y * 4 + 1)), .int .i64 (f (y * 4 + 2)), .int .i64 (f (y * 4 + 3))] 48)) (a := ⟨W.heap.size + 1, 3, none⟩) (v := .int .i64 (f (y * 4 + 3))) (by simp) (by go_simp)
  generalize (W.alloc (.cells #[.int .i64 (f (x * 4)), .int .i64 (f (x * 4 + 1)), .int .i64 (f (x * 4 + 2)), .int .i64 (f (x * 4 + 3))] 48)).alloc (.cells #[.int .i64 (f (y * 4)), .int .i64 (f (y * 4 + 1)), .int .i64 (f (y * 4 + 2)), .int .i64 (f (y * 4 + 3))] 48) = X at *
  go_quiet_grown (first | (go_at_call 33; refine Calls.grown_of (massG_any _ _ _)) | (go_at_call 36; refine Calls.grown_of (cmpG_any _ _ _)))
  go_wp2
  go_ret
  refine ⟨congrArg (fun z => Ending.returned (.int .i64 z)) HC.out, nq, #[.cells #[.int .i64 (f (x * 4)), .int .i64 (f (x * 4 + 1)), .int .i64 (f (x * 4 + 2)), .int .i64 (f (x * 4 + 3))] 48, .cells #[.int .i64 (f (y * 4)), .int .i64 (f (y * 4 + 1)), .int .i64 (f (y * 4 + 2)), .int .i64 (f (y * 4 + 3))] 48] ++ osq, ?_⟩
  rw [hX.out]
  show grow (grow (W.drewN nq) _) osq = _
  rw [grow_grow]
theorem form_ofP {w : World} {lo k : Nat} {e : TypeId} {v : Value} {n : Nat} {xs : List Value} (h : w.ownsRow lo e k v n xs) : (n = 0 ∧ ∃ A c, v = .slice A 0 c) ∨ ∃ g c, v = .slice (some ⟨g, 0, none⟩) n c := by
  rcases h.2 with ⟨rfl, rfl⟩ | ⟨g, c, cur, rfl, _⟩
  · exact Or.inl ⟨rfl, none, 0, rfl⟩
  · exact Or.inr ⟨g, c, rfl⟩
theorem good_len {f : Nat → Int} {n : Nat} {I H S P : Int} (hg : goodWorks f n I H S P = true) : n ≤ 6 := by
  simp only [goodWorks, pansOk, Bool.and_eq_true, decide_eq_true_eq] at hg
  exact hg.1.1.2
theorem ownsRow_monoP {w : World} {base base' : Nat} {e : TypeId} {size : Nat} {v : Value} {n : Nat} {xs : List Value} (h : w.ownsRow base e size v n xs) (hb : base' ≤ base) : w.ownsRow base' e size v n xs :=
  ⟨h.1, h.2.imp id fun ⟨g, cap, cur, h1, h2, h3⟩ => ⟨g, cap, cur, h1, Nat.le_trans hb h2, h3⟩⟩
theorem infoIntP : (Tryd.prog.info? 3).map (fun i => (i.zero, i.size, i.bytes)) = some (some (.int .i64 0), 1, 8) := by kernel_rfl

set_option maxRecDepth 100000 in
set_option maxHeartbeats 4000000 in
theorem PanOrder_any (A : Option Addr) (n c lo hi : Nat) (f : Nat → Int) (I H S P : Int) (w : World) (hs : Sl w lo hi 4 A n f) (hn : n ≤ 1048576) (hnc : n ≤ c) :
    Calls Tryd.prog 10 #[.agg #[.slice A n c, .int .i64 I, .int .i64 H, .int .i64 S, .int .i64 P]] w (IntsPost 3 w (ordRes f n (goodWorks f n I H S P)) (goodWorks f n I H S P)) := by
  have HS : Hid (Sl (w.alloc (.cells #[.slice A n c, .int .i64 I, .int .i64 H, .int .i64 S, .int .i64 P] 26)) lo hi 4 A n f) := hs.below ((Below.refl _ w).alloc (Nat.le_refl _) _)
  clear hs
  have BW : Below w.heap.size w (w.alloc (.cells #[.slice A n c, .int .i64 I, .int .i64 H, .int .i64 S, .int .i64 P] 26)) := (Below.refl _ w).alloc (Nat.le_refl _) _
  cases hg : goodWorks f n I H S P with
  | false =>
    go_enter Tryd.func10, Tryd.ntmps10
    go_wp2_with fail
    refine (isWorks_any A n c lo hi f I H S P _ HS.out hn hnc).mono ?_
    rw [hg]
    rintro e w2 ⟨rfl, hb2⟩
    go_wp2
    go_ret2
    exact IntsPost.nil_ (BW.trans (hb2.mono BW.size))
  | true =>
    have h6 := good_len hg
    have HG := Lib.hid hg
    have eg : ∀ args w, (callFunc 35 args).run Tryd.prog w = .ok (.enter 35 args) w := enters_of Tryd.func35 (by kernel_rfl) rfl
    have EG := Lib.hid eg
    clear eg
    show Calls _ _ _ _ (IntsPost 3 w (idsP f (ordL f n)) true)
    go_enter Tryd.func10, Tryd.ntmps10
    go_wp2_with fail
    refine (isWorks_any A n c lo hi f I H S P _ HS.out hn hnc).mono ?_
    rw [hg]
    rintro e w1 ⟨rfl, hb1⟩
    have HS1 := Lib.hid (HS.out.below hb1)
    have b0 : w1.cell? ⟨w.heap.size, 0, none⟩ = some (.slice A n c) := (hb1.cell (p := ⟨w.heap.size, 0, none⟩) (by simp)).trans (by simp)
    have b1 : w1.cell? ⟨w.heap.size, 1, none⟩ = some (.int .i64 I) := (hb1.cell (p := ⟨w.heap.size, 1, none⟩) (by simp)).trans (by simp)
    have b2 : w1.cell? ⟨w.heap.size, 2, none⟩ = some (.int .i64 H) := (hb1.cell (p := ⟨w.heap.size, 2, none⟩) (by simp)).trans (by simp)
    have b3 : w1.cell? ⟨w.heap.size, 3, none⟩ = some (.int .i64 S) := (hb1.cell (p := ⟨w.heap.size, 3, none⟩) (by simp)).trans (by simp)
    have b4 : w1.cell? ⟨w.heap.size, 4, none⟩ = some (.int .i64 P) := (hb1.cell (p := ⟨w.heap.size, 4, none⟩) (by simp)).trans (by simp)
    have hB1 : Below w.heap.size w w1 := BW.trans (hb1.mono BW.size)
    clear hb1 HS hg
    go_wp2_with fail
    clear b0 b1 b2 b3 b4
    go_loopw [4, 16] (fun v iv wr => ∃ i : Nat, i ≤ n ∧ iv = .int .i64 i ∧ wr.ownsRow w1.heap.size 48 4 v (pickN (ordB f) i).length ((rowsOf f 4 (pickN (ordB f) i)).map (Value.int .i64)) ∧ Below w1.heap.size w1 wr) (fun _ iv _ => n - (intOf iv).toNat)
    case atStart => exact ⟨0, Nat.zero_le _, rfl, World.ownsRow_nil _ _ _ _, Below.refl _ _⟩
    case round =>
      obtain ⟨i, hi', rfl, hown, hB⟩ := hrel
      have HO := Lib.hid hown
      have hl : (pickN (ordB f) i).length ≤ 6 := by have := pickN_len (ordB f) i; omega
      clear hown
      by_cases hlt : i < n
      · obtain ⟨b, off, rfl, hbw, HC⟩ := HS1.out.open_ hB (by omega)
        obtain ⟨c0, c1, c2, c3⟩ := cell4 HC hlt
        have hi0i : (0 : Int) ≤ (i : Int) := by omega
        have hini : (i : Int) < (n : Int) := by omega
        have HPY : Hid (ordB f i = true → pickN (ordB f) (i + 1) = (pickN (ordB f) i) ++ [i]) := fun h => pickN_yes h
        have HPN : Hid (ordB f i = false → pickN (ordB f) (i + 1) = (pickN (ordB f) i)) := fun h => pickN_no h
        generalize (pickN (ordB f) i) = P at *
        clear HC HS1
        cases hq : decide (0 < massV (f (i * 4 + 2)) (f (i * 4 + 3))) with
        | false =>
          have HPB : Hid (ordB f i = false) := hq
          have hqi : ¬ (0 < massV (f (i * 4 + 2)) (f (i * 4 + 3))) := by simpa using hq
          go_wp2_with fail
          refine (mass_any _ _ _).mono ?_
          rintro e w2 ⟨rfl, hb2⟩
          have hb3 : Below wr.heap.size wr w2 := ((Below.refl _ wr).alloc (Nat.le_refl _) _).trans (hb2.mono (by simp))
          have hB2 := below_of hB hb3 hB.size
          have hO2 := Lib.hid (ownsRow_below HO.out hb3)
          have hbx := heap_alloc_new wr (.cells #[.int .i64 (f (i * 4)), .int .i64 (f (i * 4 + 1)), .int .i64 (f (i * 4 + 2)), .int .i64 (f (i * 4 + 3))] 48)
          have n0 : w2.cell? ⟨wr.heap.size, 0, none⟩ = some (.int .i64 (f (i * 4))) := (hb2.cell (p := ⟨wr.heap.size, 0, none⟩) (by simp)).trans (by rw [cell_of_row _ wr.heap.size 0 _ _ (0, 0) hbx]; rfl)
          have n1 : w2.cell? ⟨wr.heap.size, 1, none⟩ = some (.int .i64 (f (i * 4 + 1))) := (hb2.cell (p := ⟨wr.heap.size, 1, none⟩) (by simp)).trans (by rw [cell_of_row _ wr.heap.size 1 _ _ (0, 0) hbx]; rfl)
          have n2 : w2.cell? ⟨wr.heap.size, 2, none⟩ = some (.int .i64 (f (i * 4 + 2))) := (hb2.cell (p := ⟨wr.heap.size, 2, none⟩) (by simp)).trans (by rw [cell_of_row _ wr.heap.size 2 _ _ (0, 0) hbx]; rfl)
          have n3 : w2.cell? ⟨wr.heap.size, 3, none⟩ = some (.int .i64 (f (i * 4 + 3))) := (hb2.cell (p := ⟨wr.heap.size, 3, none⟩) (by simp)).trans (by rw [cell_of_row _ wr.heap.size 3 _ _ (0, 0) hbx]; rfl)
          clear hb2 hb3 HO hB c0 c1 c2 c3 hbx
          generalize wr.heap.size = nb at *
          go_wp2
          go_roundw
          case rel => exact ⟨i + 1, by omega, by go_num, by rw [HPN.out HPB.out]; exact hO2.out, hB2⟩
          case measure => simp [intOf]; omega
        | true =>
          have HPB : Hid (ordB f i = true) := hq
          have hqi : 0 < massV (f (i * 4 + 2)) (f (i * 4 + 3)) := by simpa using hq
          go_wp2_with fail
          refine (mass_any _ _ _).mono ?_
          rintro e w2 ⟨rfl, hb2⟩
          have hb3 : Below wr.heap.size wr w2 := ((Below.refl _ wr).alloc (Nat.le_refl _) _).trans (hb2.mono (by simp))
          have hB2 := below_of hB hb3 hB.size
          have hO2 := Lib.hid (ownsRow_below HO.out hb3)
          have hbx := heap_alloc_new wr (.cells #[.int .i64 (f (i * 4)), .int .i64 (f (i * 4 + 1)), .int .i64 (f (i * 4 + 2)), .int .i64 (f (i * 4 + 3))] 48)
          have n0 : w2.cell? ⟨wr.heap.size, 0, none⟩ = some (.int .i64 (f (i * 4))) := (hb2.cell (p := ⟨wr.heap.size, 0, none⟩) (by simp)).trans (by rw [cell_of_row _ wr.heap.size 0 _ _ (0, 0) hbx]; rfl)
          have n1 : w2.cell? ⟨wr.heap.size, 1, none⟩ = some (.int .i64 (f (i * 4 + 1))) := (hb2.cell (p := ⟨wr.heap.size, 1, none⟩) (by simp)).trans (by rw [cell_of_row _ wr.heap.size 1 _ _ (0, 0) hbx]; rfl)
          have n2 : w2.cell? ⟨wr.heap.size, 2, none⟩ = some (.int .i64 (f (i * 4 + 2))) := (hb2.cell (p := ⟨wr.heap.size, 2, none⟩) (by simp)).trans (by rw [cell_of_row _ wr.heap.size 2 _ _ (0, 0) hbx]; rfl)
          have n3 : w2.cell? ⟨wr.heap.size, 3, none⟩ = some (.int .i64 (f (i * 4 + 3))) := (hb2.cell (p := ⟨wr.heap.size, 3, none⟩) (by simp)).trans (by rw [cell_of_row _ wr.heap.size 3 _ _ (0, 0) hbx]; rfl)
          clear hb2 hb3 HO hB c0 c1 c2 c3 hbx
          generalize wr.heap.size = nb at *
          have hal := (Below.refl w2.heap.size w2).alloc (Nat.le_refl _) (.cells #[.int .i64 (f (i * 4)), .int .i64 (f (i * 4 + 1)), .int .i64 (f (i * 4 + 2)), .int .i64 (f (i * 4 + 3))] 48)
          have hro := Lib.hid (ownsRow_below hO2.out hal)
          have hcn : Hid (∀ j u, ([f (i * 4), f (i * 4 + 1), f (i * 4 + 2), f (i * 4 + 3)] : List Int)[j]? = some u → (w2.alloc (.cells #[.int .i64 (f (i * 4)), .int .i64 (f (i * 4 + 1)), .int .i64 (f (i * 4 + 2)), .int .i64 (f (i * 4 + 3))] 48)).cell? ((⟨w2.heap.size, 0, none⟩ : Addr).add j) = some (.int .i64 u)) := by
            intro j u hu
            rw [Addr.add_lit, Nat.zero_add, cell_of_row _ w2.heap.size j _ 48 (0, 0) (heap_alloc_new w2 _)]
            match j, hu with
            | 0, hu => simp at hu; subst hu; rfl
            | 1, hu => simp at hu; subst hu; rfl
            | 2, hu => simp at hu; subst hu; rfl
            | 3, hu => simp at hu; subst hu; rfl
            | j + 4, hu => simp at hu
          have hBn := below_of hB2 hal hB2.size
          have hbs := hBn.size
          clear hal hO2 hB2
          go_wp2_with (at_builtin; refine wpList_append_flat _ rfl _ _ 24 rfl w1.heap.size 48 4 32 (.agg #[.int .i64 0, .int .i64 0, .int .i64 0, .int .i64 0]) Tryd.underlying24 infoPan rfl (by decide) (by decide) (rowsOf f 4 P) [f (i * 4), f (i * 4 + 1), f (i * 4 + 2), f (i * 4 + 3)] P.length 1 1 u4 rfl hro.out ⟨w2.heap.size, 0, none⟩ rfl rfl hcn.out (by omega) hbs ?_; intro v' w3 hown3 hgrow3)
          go_roundw
          case rel =>
            refine ⟨i + 1, by omega, by go_num, ?_, below_app hBn hro.out hgrow3⟩
            rw [HPY.out HPB.out, rowsOf_append, row_oneP, List.length_append]
            exact hown3
          case measure => simp [intOf]; omega
      · have hni : ¬ ((i : Int) < (n : Int)) := by omega
        have hin : i = n := by omega
        subst hin
        clear HS1
        have HL : Hid (isortL (ordMv f) (pickN (ordB f) i) = ordL f i) := rfl
        generalize (pickN (ordB f) i) = P at *
        rcases form_ofP HO.out with ⟨h0, A', c', hv⟩ | ⟨g, gc, hv⟩
        · subst hv
          have hP0 : P = [] := List.length_eq_zero_iff.1 h0
          have hres : Hid (idsP f (ordL f i) = []) := by show _ = _; rw [← HL.out, hP0]; rfl
          clear HO hl h0 hP0
          go_wp2_with fail
          refine (sortStableNone_any A' c' 35 wr).mono ?_
          rintro e w2 ⟨rfl, rfl⟩
          go_wp2_with fail
          go_loopw [7, 33] (fun v kv wr2 => v = .slice none 0 0 ∧ kv = .int .i64 0 ∧ wr2 = wr) (fun _ _ _ => 0)
          case atStart => exact ⟨rfl, rfl, rfl⟩
          case round =>
            obtain ⟨rfl, rfl, rfl⟩ := hrel
            go_wp2
            go_ret2
            rw [hres.out]
            exact IntsPost.nil_ (below_of hB1 hB hB1.size)
        · subst hv
          obtain ⟨l, hl2⟩ : ∃ l, l = P.length := ⟨_, rfl⟩
          have hown := HO.out
          rw [← hl2] at hown hl ⊢
          have hins := ins_any f (ordCf f) w1.heap.size g gc l 35 P wr hown hl2 (by omega) EG.out (fun _ _ _ _ x y => panClo_any f x y _)
          rw [ordCf_lt, HL.out] at hins
          have hst := sortStable_any f w1.heap.size g gc l 35 _ wr (by omega) hins
          have HNL : Hid (l = (ordL f i).length) := by show _ = _; rw [← HL.out, isortL_length]; exact hl2
          have HOG := Lib.hid (World.ownsRow.lt hown g rfl).1
          clear hins hown HO hl2 EG HL
          generalize ordL f i = L at *
          go_wp2_with fail
          refine hst.mono ?_
          rintro e w2 ⟨rfl, ho2, hgr⟩
          have HR : Hid (RRow f 4 48 w2 w1.heap.size (.slice (some ⟨g, 0, none⟩) l gc) L) := RRow.of HNL.out ho2
          have hB2 := hB.grown hgr hB.size (fun j hj => by cases hj; exact HOG.out)
          clear ho2 hgr hst hB
          go_wp2_with fail
          go_loopw [7, 33] (fun v kv wr => ∃ k : Nat, k ≤ l ∧ kv = .int .i64 k ∧ wr.ownsRow w1.heap.size 3 1 v (idsP f (L.take k)).length ((idsP f (L.take k)).map (Value.int .i64)) ∧ RRow f 4 48 wr w1.heap.size (.slice (some ⟨g, 0, none⟩) l gc) L ∧ Below w1.heap.size w1 wr) (fun _ kv _ => l - (intOf kv).toNat)
          case atStart => exact ⟨0, Nat.zero_le _, rfl, World.ownsRow_nil _ _ _ _, HR.out, hB2⟩
          case round =>
            obtain ⟨k, hk, rfl, hown, hro, hB⟩ := hrel
            clear HR hB2
            have hPl : (idsP f (L.take k)).length = k := by rw [idsP, List.length_map, List.length_take]; have := HNL.out; omega
            by_cases hkl : k < l
            · have y0 := RRow.cellR hro HNL.out k 0 hkl (by decide)
              have y1 := RRow.cellR hro HNL.out k 1 hkl (by decide)
              have y2 := RRow.cellR hro HNL.out k 2 hkl (by decide)
              have y3 := RRow.cellR hro HNL.out k 3 hkl (by decide)
              simp only [Nat.add_zero] at y0
              have HPS : Hid (idsP f (L.take (k + 1)) = idsP f (L.take k) ++ [f (L.getD k 0 * 4)]) := by
                show _ = _
                have hkL : k < L.length := by rw [← HNL.out]; exact hkl
                rw [List.take_succ_eq_append_getElem hkL, idsP, idsP, List.map_append, List.getD_eq_getElem?_getD, List.getElem?_eq_getElem hkL]
                rfl
              generalize L.getD k 0 = p at *
              generalize f (p * 4) = z at *
              generalize idsP f (L.take k) = P at *
              have HO2 := Lib.hid hown
              have HR2 := Lib.hid hro
              have hk0i : (0 : Int) ≤ (k : Int) := by omega
              have hkli : (k : Int) < (l : Int) := by omega
              have hPl2 : P.length ≤ 100000000 := by omega
              have hsz := hB.size
              clear hown hro
              go_wp2_with (at_builtin; refine wpList_append_int1 _ rfl _ _ 36 rfl w1.heap.size 3 Tryd.underlying36 infoIntP P z _ rfl ((HO2.out.alloc _).alloc _) _ rfl (by simp) hPl2 (by simp; omega) ?_; intro v' w3 hown3 _ hgrow3)
              go_roundw
              case rel => exact ⟨k + 1, by omega, by go_num, by rw [HPS.out]; exact hown3, ((HR2.out.below ((Below.refl _ _).alloc (Nat.le_refl _) _)).below ((Below.refl _ _).alloc (Nat.le_refl _) _)).grown_other ((HO2.out.alloc _).alloc _) (by decide) hgrow3, below_app ((hB.alloc hB.size _).alloc (by simp; omega) _) ((HO2.out.alloc _).alloc _) hgrow3⟩
              case measure => simp [intOf]; omega
            · have hkl2 : k = l := by omega
              have hfin : Hid (idsP f (L.take k) = idsP f L) := by show _ = _; rw [List.take_of_length_le (by rw [← HNL.out]; omega)]
              have HO2 := Lib.hid hown
              clear hown hro
              have hkli : ¬ ((k : Int) < (l : Int)) := by omega
              clear hkl2
              generalize idsP f (L.take k) = P at *
              go_wp2
              go_ret2
              rw [← hfin.out]
              exact IntsPost.mk_ (ownsRow_monoP HO2.out hB1.size) (below_of hB1 hB hB1.size)
end Go.Proofs.YtjkockhldaacbaaDoor
