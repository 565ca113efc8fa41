/-
  Several short texts in one: WorksQ, StoreW.
-/
import Derived.Test.YtjkockhldaacbaaDoorWorksP
import Derived.Test.YtjkockhldaacbaaDoorApp3
import Derived.Deep.WholeRow
import Derived.Laws.CopyRow
/-
  MayRake of the program: the Ids of the pans that may be raked.
-/

namespace Go.Proofs.YtjkockhldaacbaaDoor
open Go.RowKit Go.Sort
set_option linter.unusedVariables false
set_option linter.unusedSimpArgs false
attribute [local go_sem ↓] Go.wp_at_zero Go.wp_at_succ
def rakeB (f : Nat → Int) (k : Nat) : Bool := mayV (f (k * 4 + 2)) (f (k * 4 + 3))
def rakeRes (f : Nat → Int) (n : Nat) (b : Bool) : List Int := if b then idsP f (pickN (rakeB f) n) else []
theorem rakeRes_len (f : Nat → Int) (n : Nat) (b : Bool) : (rakeRes f n b).length ≤ n := by
  unfold rakeRes
  split
  · rw [idsP, List.length_map]; exact pickN_len _ n
  · simp
theorem idsP_append (f : Nat → Int) (L M : List Nat) : idsP f (L ++ M) = idsP f L ++ idsP f M := by simp [idsP]
set_option maxRecDepth 100000 in
set_option maxHeartbeats 2000000 in
theorem MayRake_any (A : Option Addr) (n c lo hi : Nat) (f : Nat → Int) (I H S P : Int) (w : World) (hs : Sl w lo hi 4 A n f) (hn : n ≤ 1048576) (hnc : n ≤ c) :
    Calls Tryd.prog 13 #[.agg #[.slice A n c, .int .i64 I, .int .i64 H, .int .i64 S, .int .i64 P]] w (IntsPost 3 w (rakeRes f n (goodWorks f n I H S P)) (goodWorks f n I H S P)) := by
  have HS : Hid (Sl (w.alloc (.cells #[.slice A n c, .int .i64 I, .int .i64 H, .int .i64 S, .int .i64 P] 26)) lo hi 4 A n f) := hs.below ((Below.refl _ w).alloc (Nat.le_refl _) _)
  clear hs
  have BW : Below w.heap.size w (w.alloc (.cells #[.slice A n c, .int .i64 I, .int .i64 H, .int .i64 S, .int .i64 P] 26)) := (Below.refl _ w).alloc (Nat.le_refl _) _
  cases hg : goodWorks f n I H S P with
  | false =>
    go_enter Tryd.func13, Tryd.ntmps13
    go_wp2_with fail
    refine (isWorks_any A n c lo hi f I H S P _ HS.out hn hnc).mono ?_
    rw [hg]
    rintro e w2 ⟨rfl, hb2⟩
    go_wp2
    go_ret2
    exact IntsPost.nil_ (BW.trans (hb2.mono BW.size))
  | true =>
    have h6 := good_len hg
    show Calls _ _ _ _ (IntsPost 3 w (idsP f (pickN (rakeB f) n)) true)
    go_enter Tryd.func13, Tryd.ntmps13
    go_wp2_with fail
    refine (isWorks_any A n c lo hi f I H S P _ HS.out hn hnc).mono ?_
    rw [hg]
    rintro e w1 ⟨rfl, hb1⟩
    have HS1 := Lib.hid (HS.out.below hb1)
    have b0 : w1.cell? ⟨w.heap.size, 0, none⟩ = some (.slice A n c) := (hb1.cell (p := ⟨w.heap.size, 0, none⟩) (by simp)).trans (by simp)
    have b1 : w1.cell? ⟨w.heap.size, 1, none⟩ = some (.int .i64 I) := (hb1.cell (p := ⟨w.heap.size, 1, none⟩) (by simp)).trans (by simp)
    have b2 : w1.cell? ⟨w.heap.size, 2, none⟩ = some (.int .i64 H) := (hb1.cell (p := ⟨w.heap.size, 2, none⟩) (by simp)).trans (by simp)
    have b3 : w1.cell? ⟨w.heap.size, 3, none⟩ = some (.int .i64 S) := (hb1.cell (p := ⟨w.heap.size, 3, none⟩) (by simp)).trans (by simp)
    have b4 : w1.cell? ⟨w.heap.size, 4, none⟩ = some (.int .i64 P) := (hb1.cell (p := ⟨w.heap.size, 4, none⟩) (by simp)).trans (by simp)
    have hB1 : Below w.heap.size w w1 := BW.trans (hb1.mono BW.size)
    clear hb1 HS hg
    go_wp2_with fail
    clear b0 b1 b2 b3 b4
    go_loopw [4, 13] (fun v iv wr => ∃ i : Nat, i ≤ n ∧ iv = .int .i64 i ∧ wr.ownsRow w1.heap.size 3 1 v (idsP f (pickN (rakeB f) i)).length ((idsP f (pickN (rakeB f) i)).map (Value.int .i64)) ∧ Below w1.heap.size w1 wr) (fun _ iv _ => n - (intOf iv).toNat)
    case atStart => exact ⟨0, Nat.zero_le _, rfl, World.ownsRow_nil _ _ _ _, Below.refl _ _⟩
    case round =>
      obtain ⟨i, hi', rfl, hown, hB⟩ := hrel
      have HO := Lib.hid hown
      have hl : (idsP f (pickN (rakeB f) i)).length ≤ 6 := by rw [idsP, List.length_map]; have := pickN_len (rakeB f) i; omega
      clear hown
      by_cases hlt : i < n
      · obtain ⟨b, off, rfl, hbw, HC⟩ := HS1.out.open_ hB (by omega)
        obtain ⟨c0, c1, c2, c3⟩ := cell4 HC hlt
        have hi0i : (0 : Int) ≤ (i : Int) := by omega
        have hini : (i : Int) < (n : Int) := by omega
        have HPY : Hid (rakeB f i = true → idsP f (pickN (rakeB f) (i + 1)) = idsP f (pickN (rakeB f) i) ++ [f (i * 4)]) := fun h => by rw [pickN_yes h, idsP_append]; rfl
        have HPN : Hid (rakeB f i = false → idsP f (pickN (rakeB f) (i + 1)) = idsP f (pickN (rakeB f) i)) := fun h => by rw [pickN_no h]
        generalize idsP f (pickN (rakeB f) i) = P at *
        clear HC HS1
        cases hqi : mayV (f (i * 4 + 2)) (f (i * 4 + 3)) with
        | false =>
          have HPB : Hid (rakeB f i = false) := hqi
          go_wp2_with fail
          refine (mayRake_any _ _ _).mono ?_
          rw [hqi]
          rintro e w2 ⟨rfl, hb2⟩
          have hb3 : Below wr.heap.size wr w2 := ((Below.refl _ wr).alloc (Nat.le_refl _) _).trans (hb2.mono (by simp))
          have hB2 := below_of hB hb3 hB.size
          have hO2 := Lib.hid (ownsRow_below HO.out hb3)
          have hbx := heap_alloc_new wr (.cells #[.int .i64 (f (i * 4)), .int .i64 (f (i * 4 + 1)), .int .i64 (f (i * 4 + 2)), .int .i64 (f (i * 4 + 3))] 48)
          have n0 : w2.cell? ⟨wr.heap.size, 0, none⟩ = some (.int .i64 (f (i * 4))) := (hb2.cell (p := ⟨wr.heap.size, 0, none⟩) (by simp)).trans (by rw [cell_of_row _ wr.heap.size 0 _ _ (0, 0) hbx]; rfl)
          have n1 : w2.cell? ⟨wr.heap.size, 1, none⟩ = some (.int .i64 (f (i * 4 + 1))) := (hb2.cell (p := ⟨wr.heap.size, 1, none⟩) (by simp)).trans (by rw [cell_of_row _ wr.heap.size 1 _ _ (0, 0) hbx]; rfl)
          have n2 : w2.cell? ⟨wr.heap.size, 2, none⟩ = some (.int .i64 (f (i * 4 + 2))) := (hb2.cell (p := ⟨wr.heap.size, 2, none⟩) (by simp)).trans (by rw [cell_of_row _ wr.heap.size 2 _ _ (0, 0) hbx]; rfl)
          have n3 : w2.cell? ⟨wr.heap.size, 3, none⟩ = some (.int .i64 (f (i * 4 + 3))) := (hb2.cell (p := ⟨wr.heap.size, 3, none⟩) (by simp)).trans (by rw [cell_of_row _ wr.heap.size 3 _ _ (0, 0) hbx]; rfl)
          clear hb2 hb3 HO hB c0 c1 c2 c3 hbx
          generalize wr.heap.size = nb at *
          clear hqi
          go_wp2
          go_roundw
          case rel => exact ⟨i + 1, by omega, by go_num, by rw [HPN.out HPB.out]; exact hO2.out, hB2⟩
          case measure => simp [intOf]; omega
        | true =>
          have HPB : Hid (rakeB f i = true) := hqi
          go_wp2_with fail
          refine (mayRake_any _ _ _).mono ?_
          rw [hqi]
          rintro e w2 ⟨rfl, hb2⟩
          have hb3 : Below wr.heap.size wr w2 := ((Below.refl _ wr).alloc (Nat.le_refl _) _).trans (hb2.mono (by simp))
          have hB2 := below_of hB hb3 hB.size
          have hO2 := Lib.hid (ownsRow_below HO.out hb3)
          have hbx := heap_alloc_new wr (.cells #[.int .i64 (f (i * 4)), .int .i64 (f (i * 4 + 1)), .int .i64 (f (i * 4 + 2)), .int .i64 (f (i * 4 + 3))] 48)
          have n0 : w2.cell? ⟨wr.heap.size, 0, none⟩ = some (.int .i64 (f (i * 4))) := (hb2.cell (p := ⟨wr.heap.size, 0, none⟩) (by simp)).trans (by rw [cell_of_row _ wr.heap.size 0 _ _ (0, 0) hbx]; rfl)
          have n1 : w2.cell? ⟨wr.heap.size, 1, none⟩ = some (.int .i64 (f (i * 4 + 1))) := (hb2.cell (p := ⟨wr.heap.size, 1, none⟩) (by simp)).trans (by rw [cell_of_row _ wr.heap.size 1 _ _ (0, 0) hbx]; rfl)
          have n2 : w2.cell? ⟨wr.heap.size, 2, none⟩ = some (.int .i64 (f (i * 4 + 2))) := (hb2.cell (p := ⟨wr.heap.size, 2, none⟩) (by simp)).trans (by rw [cell_of_row _ wr.heap.size 2 _ _ (0, 0) hbx]; rfl)
          have n3 : w2.cell? ⟨wr.heap.size, 3, none⟩ = some (.int .i64 (f (i * 4 + 3))) := (hb2.cell (p := ⟨wr.heap.size, 3, none⟩) (by simp)).trans (by rw [cell_of_row _ wr.heap.size 3 _ _ (0, 0) hbx]; rfl)
          clear hb2 hb3 HO hB c0 c1 c2 c3 hbx
          generalize wr.heap.size = nb at *
          have hbs := hB2.size
          have hPl2 : P.length ≤ 100000000 := by omega
          clear hqi
          go_wp2_with (at_builtin; refine wpList_append_int1 _ rfl _ _ 36 rfl w1.heap.size 3 Tryd.underlying36 infoIntP P (f (i * 4)) _ rfl (hO2.out.alloc _) _ rfl (by simp) hPl2 (by simp; omega) ?_; intro v' w3 hown3 _ hgrow3)
          go_roundw
          case rel => exact ⟨i + 1, by omega, by go_num, by rw [HPY.out HPB.out]; exact hown3, below_app (hB2.alloc hB2.size _) (hO2.out.alloc _) hgrow3⟩
          case measure => simp [intOf]; omega
      · have hni : ¬ ((i : Int) < (n : Int)) := by omega
        have hin : i = n := by omega
        subst hin
        clear HS1
        generalize idsP f (pickN (rakeB f) i) = P at *
        go_wp2
        go_ret2
        exact IntsPost.mk_ (ownsRow_monoP HO.out hB1.size) (below_of hB1 hB hB1.size)
end Go.Proofs.YtjkockhldaacbaaDoor
/-
  A store of a whole value into cells of a known block, the only operation ready in a region whose order is drawn.
-/

namespace Go.Proofs.YtjkockhldaacbaaDoor
open Go.RowKit
set_option linter.unusedVariables false
set_option linter.unusedSimpArgs false
/-- What stands in a block's cells behind the store. -/
def putRow (cur : Array Value) (o : Nat) (cs : Array Value) : Array Value := (cur.toList.take o ++ cs.toList ++ cur.toList.drop (o + cs.size)).toArray
theorem run_storeAt_at {P : Program} (w : World) (t : TypeId) (g o : Nat) (v : Value) (T : TypeId) (cur : Array Value) (hi : (P.info? t).map (·.size) = some v.cells.size)
    (hg : w.heap[g]? = some (.cells cur T (0, 0))) (hfit : o + v.cells.size ≤ cur.size) (h1 : v.cells.all (·.oneCell') = true) :
    (Instr.storeAt t (.pointer (some ⟨g, o, none⟩)) v).run P w = .ok () (w.setRow g (putRow cur o v.cells)) := by
  have h1' : ∀ u ∈ v.cells.toList, u.oneCell' = true := by
    intro u hu
    rw [Array.all_eq_true] at h1
    obtain ⟨j, hj, rfl⟩ := List.getElem_of_mem hu
    have := h1 j (by simpa using hj)
    simpa using this
  have h := run_storeCells_at (P := P) g o T v.cells.toList 0 cur w hg (by simpa using hfit) h1'
  cases hq : P.info? t with
  | none => simp [hq] at hi
  | some i =>
    have hs : v.cells.size = i.size := by simp [hq] at hi; omega
    simp only [Instr.storeAt, Instr.sureAddr, Sem.run_bind, Sem.run_pure, Result.andThen]
    simp only [Nat.add_zero, Array.length_toList] at h
    simpa [storeVar, sizeOf, typeInfo, hq, hs, putRow] using (by simpa [hs] using h)
theorem grown_setRow (w : World) (g : Nat) (cs : Array Value) : w.grownBy (w.setRow g cs) (some g) :=
  ⟨rfl, rfl, rfl, by simp [World.setRow], fun k _ hk => by
    unfold World.setRow
    simp only [Array.getElem?_modify]
    rw [if_neg (fun e => hk (by rw [e]))]⟩
section
variable {P : Program} {md : Region.Mode} {ops : Array Oper} {Q : Exit → Act → World → Prop} {S : World → Prop}
theorem wpAnyH_store {i : Nat} {fuel : Nat} {listed : Array Bool} {a : Act} {w : World} {t ty : TypeId} {pos : String} {af : Array Edge} {p x : Operand}
    (ho : ops[i]? = some ⟨none, .store t p x, ty, pos, af, none⟩) (hr : Region.ready md ops listed = [i])
    (g o : Nat) (v : Value) (T : TypeId) (cur : Array Value) (hp : a.eval p = .pointer (some ⟨g, o, none⟩)) (hx : a.eval x = v) (hi : (P.info? t).map (·.size) = some v.cells.size)
    (hg : w.heap[g]? = some (.cells cur T (0, 0))) (hfit : o + v.cells.size ≤ cur.size) (h1 : v.cells.all (·.oneCell') = true)
    (hS : ∀ w', w.grownBy w' (some g) → S w')
    (h : ∀ w', w'.heap[g]? = some (.cells (putRow cur o v.cells) T (0, 0)) → w.grownBy w' (some g) → S w' →
      wpAnyH P md ops Q S fuel (listed.setIfInBounds i true) a w') :
    wpAnyH P md ops Q S (fuel + 1) listed a w := by
  have hrun := run_storeAt_at (P := P) w t g o v T cur hi hg hfit h1
  have hgr := grown_setRow w g (putRow cur o v.cells)
  have hB := hS _ hgr
  refine wpAnyH_ready hr (by simp) (AllReadyH.cons ho (fun K hK => ?_) AllReadyH.nil)
  rw [if_pos (wanted_plain rfl)]
  unfold Oper.wp execOp
  simp only [hp, hx, Sem.run_bind, hrun, Result.andThen_ok, Sem.run_pure]
  exact hK.out _ _ hB (fun _ => h _ (setRow_heap w g cur _ T _ hg) hgr hB)
end
end Go.Proofs.YtjkockhldaacbaaDoor
