/-
  Several short texts in one: ShelfI, SortS.
-/
import Derived.Shelf.SlGeneric
import Derived.Shelf.SlSortCmp.InsertionK
import Derived.Ground.SlsfProg
import Derived.Test.YtjkockhldaacbaaDoorProg
import Derived.Test.YtjkockhldaacbaaDoorPk4
import Derived.Lib.OwnBridge
import Derived.BigGuardPart
/-
  DERIVED: THE SHELF's CONTRACTS AT THIS DUMP, IN PLAIN WORDS (tools/lay-plain.mjs out of 'TrydShelfI.lean', which tools/lay-shelf.mjs wrote): THE SAME DECLARATIONS UNDER THE SAME NAMES: 'import', 'namespace', 'open', 'def', 'theorem' AND NOTHING ELSE: no command of the shelf's: FOR A HAND-IN. Each laying: the table of numbers ('.._ren') and one theorem, a field a fact of the dump's own or the kernel's comparison; each contract: ONE APPLICATION.
-/

namespace Go.Proofs
open Go.Shelf
def Tryd.insS_ren : Go.Shelf.Ren := ⟨fun | 20 => 78 | n => n, fun | 24 => 48 | 22 => 24 | 3 => 3 | 25 => 58 | 4 => 4 | 0 => 0 | n => n, fun | n => n⟩
theorem Tryd.insS : Go.Proofs.SlLaysF0.n20 Tryd.prog Tryd.insS_ren := {
  mixed := by kernel_rfl
  f20 := ⟨Tryd.f78.name, by decide, Tryd.func78.trans (congrArg some (by kernel_rfl))⟩
  t0 := Tryd.underlying0
  a0 := Tryd.isAgg0
  z0 := Tryd.sizeOf0
  v0 := Tryd.zeroValue0
  t3 := Tryd.underlying3
  a3 := Tryd.isAgg3
  z3 := Tryd.sizeOf3
  v3 := Tryd.zeroValue3
  t4 := Tryd.underlying4
  a4 := Tryd.isAgg4
  z4 := Tryd.sizeOf4
  v4 := Tryd.zeroValue4
  t22 := Tryd.underlying24
  a22 := Tryd.isAgg24
  z22 := Tryd.sizeOf24
  v22 := Tryd.zeroValue24
  t25 := Tryd.underlying58
  a25 := Tryd.isAgg58
  z25 := Tryd.sizeOf58
  v25 := Tryd.zeroValue58 }
end Go.Proofs
/-
  slices.SortStableFunc at a row of structs that the call owns, of at most twelve: what an insertion sort lays.
-/

namespace Go.Proofs.YtjkockhldaacbaaDoor
open Go.RowKit Go.Sort
set_option linter.unusedVariables false
set_option linter.unusedSimpArgs false

def encS (f : Nat → Int) (i : Nat) : List Value := [.int .i64 (f (i * 4)), .int .i64 (f (i * 4 + 1)), .int .i64 (f (i * 4 + 2)), .int .i64 (f (i * 4 + 3))]
theorem encS_get (f : Nat → Int) (i j : Nat) (hj : j < 4) : (encS f i)[j]! = .int .i64 (f (i * 4 + j)) := by
  match j, hj with
  | 0, _ => rfl
  | 1, _ => rfl
  | 2, _ => rfl
  | 3, _ => rfl
theorem flatK_get (f : Nat → Int) (L : List Nat) (t : Nat) (ht : t < L.length * 4) : (flatK (encS f) 4 L.toArray)[t]! = .int .i64 (f (L.getD (t / 4) 0 * 4 + t % 4)) := by
  have h1 : t / 4 < L.length := by omega
  rw [get_flatK _ _ _ _ (by simpa using ht), encS_get _ _ _ (Nat.mod_lt _ (by decide))]
  simp [List.getD_eq_getElem?_getD, h1]
theorem flatK_rows (f : Nat → Int) (L : List Nat) : (flatK (encS f) 4 L.toArray).toList = (rowsOf f 4 L).map (Value.int .i64) := by
  apply List.ext_getElem?
  intro t
  by_cases ht : t < L.length * 4
  · have hs : t < (flatK (encS f) 4 L.toArray).size := by rw [size_flatK]; simpa using ht
    have hr := rowsOf_at f 4 L (t / 4) (t % 4) (by omega) (Nat.mod_lt _ (by decide))
    rw [show t / 4 * 4 + t % 4 = t by omega] at hr
    rw [List.getElem?_map, hr, Array.getElem?_toList, Array.getElem?_eq_getElem hs, ← getElem!_pos, flatK_get f L t ht]
    rfl
  · rw [List.getElem?_eq_none (by rw [Array.length_toList, size_flatK]; simpa using ht), List.getElem?_eq_none (by rw [List.length_map, rowsOf_length]; omega)]
theorem holdsK_of_row {f : Nat → Int} {w : World} {lo g c n : Nat} {L : List Nat} (h : w.ownsRow lo 48 4 (.slice (some ⟨g, 0, none⟩) n c) n ((rowsOf f 4 L).map (Value.int .i64))) (hn : n = L.length) : HoldsK (encS f) 4 w g 0 L.toArray := by
  intro t ht
  rw [size_flatK] at ht
  have ht' : t < L.length * 4 := by simpa using ht
  have hc := RRow.cellAt h hn (t / 4) (t % 4) (by omega) (Nat.mod_lt _ (by decide))
  rw [show t / 4 * 4 + t % 4 = t by omega] at hc
  refine ⟨by rw [Nat.zero_add, hc, flatK_get f L t ht']; rfl, by rw [Nat.zero_add]; exact World.ownsRow.frozenAt h t⟩
theorem row_of_sortK {f : Nat → Int} {w : World} {lo g c n m : Nat} {os : Array Obj} {L L' : List Nat} (h : w.ownsRow lo 48 4 (.slice (some ⟨g, 0, none⟩) n c) n ((rowsOf f 4 L).map (Value.int .i64))) (hn : n = L'.length) :
    (sortWorldK (encS f) 4 w g 0 m L'.toArray os).ownsRow lo 48 4 (.slice (some ⟨g, 0, none⟩) n c) n ((rowsOf f 4 L').map (Value.int .i64)) := by
  have hlt := (World.ownsRow.lt h g rfl).2
  rcases h.2 with ⟨h0, _⟩ | ⟨g', cap, cur, hv, hb, hg, hnc, hcm, hcs, htake⟩
  · cases h0
  cases hv
  refine ⟨by rw [List.length_map, rowsOf_length, hn], .inr ⟨g, c, putCells id 0 (flatK (encS f) 4 L'.toArray) cur, rfl, hb, ?_, hnc, hcm, by simpa [putCells] using hcs, ?_⟩⟩
  · unfold sortWorldK putRowK
    rw [heap_grow_old _ _ (by simpa [putRow, mapBlock, Sort.ahead] using hlt)]
    simp [putRow, mapBlock, Sort.ahead, Array.getElem?_modify, hg, onCells]
  · rw [← flatK_rows]
    apply List.ext_getElem?
    intro t
    rw [List.getElem?_take, Array.getElem?_toList, Array.getElem?_toList]
    by_cases ht : t < n * 4
    · have hs : t < (flatK (encS f) 4 L'.toArray).size := by rw [size_flatK]; simpa [← hn] using ht
      have htc : t < cur.size := by rw [hcs]; exact Nat.lt_of_lt_of_le ht (Nat.mul_le_mul_right _ hnc)
      rw [if_pos ht, putCells, Array.getElem?_mapIdx, Array.getElem?_eq_getElem htc, Option.map_some, if_pos ⟨Nat.zero_le _, by omega⟩, Nat.sub_zero, getElem!_pos _ t hs, Array.getElem?_eq_getElem hs]
      rfl
    · rw [if_neg ht, Array.getElem?_eq_none (by rw [size_flatK]; simpa [← hn] using ht)]
theorem grownBy_sortK {f : Nat → Int} {w : World} {g m : Nat} {os : Array Obj} (d : Array Nat) : w.grownBy (sortWorldK (encS f) 4 w g 0 m d os) (some g) := by
  unfold sortWorldK putRowK
  refine ⟨rfl, rfl, rfl, by simp [putRow, mapBlock, Sort.ahead], fun j hj hne => ?_⟩
  rw [heap_grow_old _ _ (by simpa [putRow, mapBlock, Sort.ahead] using hj)]
  have : g ≠ j := fun e => hne (by rw [e])
  simp [putRow, mapBlock, Sort.ahead, Array.getElem?_modify, this]
theorem insNone_any (A : Option Addr) (c clo : Nat) (w : World) :
    Calls Tryd.prog 78 #[.slice A 0 c, .int .i64 0, .int .i64 0, .func (.func clo) #[] #[]] w fun e w' => e = .returned (.tuple #[]) ∧ w = w' := by
  go_enter Tryd.func78, Tryd.ntmps78
  go_wp2_with fail
  go_loop [8] (fun i => i = .int .i64 1) (fun _ => 0)
  case atStart => rfl
  case round =>
    subst hrel
    go_wp2
    go_end0
    exact ⟨rfl, rfl⟩
theorem stableNone_any (A : Option Addr) (c clo : Nat) (w : World) :
    Calls Tryd.prog 60 #[.slice A 0 c, .int .i64 0, .func (.func clo) #[] #[]] w fun e w' => e = .returned (.tuple #[]) ∧ w = w' := by
  go_enter Tryd.func60, Tryd.ntmps60
  go_wp2_with fail
  go_loop [7, 8] (fun a b => a = .int .i64 0 ∧ b = .int .i64 20) (fun _ _ => 0)
  case atStart => exact ⟨rfl, rfl⟩
  case round =>
    obtain ⟨rfl, rfl⟩ := hrel
    go_wp2_with fail
    refine (insNone_any A c clo w).mono ?_
    rintro e w1 ⟨rfl, rfl⟩
    go_wp2_with fail
    go_loop [6, 7, 8, 9] (fun s a b m => s = .int .i64 20) (fun _ _ _ _ => 0)
    case atStart => rfl
    case round =>
      subst hrel
      go_wp2
      go_end0
      exact ⟨rfl, rfl⟩
theorem sortStableNone_any (A : Option Addr) (c clo : Nat) (w : World) :
    Calls Tryd.prog 34 #[.slice A 0 c, .func (.func clo) #[] #[]] w fun e w' => e = .returned (.tuple #[]) ∧ w = w' := by
  go_enter Tryd.func34, Tryd.ntmps34
  go_wp2_with fail
  refine (stableNone_any A c clo w).mono ?_
  rintro e w1 ⟨rfl, rfl⟩
  go_wp2
  go_end0
  exact ⟨rfl, rfl⟩
def SPost (f : Nat → Int) (lo g c n : Nat) (L : List Nat) (w : World) (e : Ending) (w' : World) : Prop :=
  e = .returned (.tuple #[]) ∧ w'.ownsRow lo 48 4 (.slice (some ⟨g, 0, none⟩) n c) n ((rowsOf f 4 L).map (Value.int .i64)) ∧ w.grownBy w' (some g)
theorem ins_any (f : Nat → Int) (cf : Nat → Nat → Int) (lo g c n clo : Nat) (L : List Nat) (w : World) (hown : w.ownsRow lo 48 4 (.slice (some ⟨g, 0, none⟩) n c) n ((rowsOf f 4 L).map (Value.int .i64))) (hn : n = L.length) (hn12 : n ≤ 12)
    (eg : ∀ args w, (callFunc clo args).run Tryd.prog w = .ok (.enter clo args) w) (hcmp : CmpLays Tryd.prog clo #[] (encS f) 4 cf g 0 n w) :
    Calls Tryd.prog 78 #[.slice (some ⟨g, 0, none⟩) n c, .int .i64 0, .int .i64 n, .func (.func clo) #[] #[]] w (SPost f lo g c n (isortL (fun p q => ltOf cf q p) L) w) := by
  have hs : L.toArray.size = n := by simp [hn]
  have h := AnyQ.insertionSortCmpFunc Tryd.insS 4 Tryd.isAgg48 Tryd.sizeOf48 (encS f) (fun _ => rfl) (fun x v hv => by simp [encS] at hv; rcases hv with rfl | rfl | rfl | rfl <;> rfl) cf clo #[] g 0 c 0 n L.toArray w eg (by rw [hs]; exact hcmp) (holdsK_of_row hown hn) (World.ownsRow.lt hown g rfl).2 (Nat.zero_le _) (by omega) (by rw [hs]; omega)
  rw [hs] at h
  refine h.mono ?_
  rintro e w' ⟨rfl, m, os, rfl⟩
  have e1 : Sort.insertionSort (ltOf cf) L.toArray 0 n = (isortL (fun p q => ltOf cf q p) L).toArray := by
    have := sort_list (ltOf cf) L.toArray
    rw [hs] at this
    rw [← this]
  rw [e1]
  exact ⟨rfl, row_of_sortK hown (by rw [isortL_length]; exact hn), grownBy_sortK _⟩
theorem stable_any (f : Nat → Int) (lo g c n clo : Nat) (L' : List Nat) (w : World) (hn12 : n ≤ 12)
    (hins : Calls Tryd.prog 78 #[.slice (some ⟨g, 0, none⟩) n c, .int .i64 0, .int .i64 n, .func (.func clo) #[] #[]] w (SPost f lo g c n L' w)) :
    Calls Tryd.prog 60 #[.slice (some ⟨g, 0, none⟩) n c, .int .i64 n, .func (.func clo) #[] #[]] w (SPost f lo g c n L' w) := by
  have h20 : ¬ ((20 : Int) ≤ (n : Int)) := by omega
  have h21 : ¬ ((20 : Int) < (n : Int)) := by omega
  go_enter Tryd.func60, Tryd.ntmps60
  go_wp2_with fail
  go_loop [7, 8] (fun a b => a = .int .i64 0 ∧ b = .int .i64 20) (fun _ _ => 0)
  case atStart => exact ⟨rfl, rfl⟩
  case round =>
    obtain ⟨rfl, rfl⟩ := hrel
    go_wp2_with fail
    refine hins.mono ?_
    rintro e w1 ⟨rfl, ho, hg⟩
    have HO := Lib.hid ho
    have HG := Lib.hid hg
    clear ho hg
    go_wp2_with fail
    go_loop [6, 7, 8, 9] (fun s a b m => s = .int .i64 20) (fun _ _ _ _ => 0)
    case atStart => rfl
    case round =>
      subst hrel
      go_wp2
      go_end0
      exact ⟨rfl, HO.out, HG.out⟩
theorem sortStable_any (f : Nat → Int) (lo g c n clo : Nat) (L' : List Nat) (w : World) (hn12 : n ≤ 12)
    (hins : Calls Tryd.prog 78 #[.slice (some ⟨g, 0, none⟩) n c, .int .i64 0, .int .i64 n, .func (.func clo) #[] #[]] w (SPost f lo g c n L' w)) :
    Calls Tryd.prog 34 #[.slice (some ⟨g, 0, none⟩) n c, .func (.func clo) #[] #[]] w (SPost f lo g c n L' w) := by
  have hst := stable_any f lo g c n clo L' w hn12 hins
  go_enter Tryd.func34, Tryd.ntmps34
  go_wp2_with fail
  refine hst.mono ?_
  rintro e w1 ⟨rfl, ho, hg⟩
  have HO := Lib.hid ho
  have HG := Lib.hid hg
  clear ho hg
  go_wp2
  go_end0
  exact ⟨rfl, HO.out, HG.out⟩
end Go.Proofs.YtjkockhldaacbaaDoor
