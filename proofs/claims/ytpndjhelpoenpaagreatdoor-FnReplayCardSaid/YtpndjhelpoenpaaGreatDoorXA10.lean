/-
  Texts of this claim, merged.
-/
import Derived.Test.YtpndjhelpoenpaaGreatDoorXA8
import Derived.Test.YtpndjhelpoenpaaGreatDoorXA9
import Derived.Shelf.SlGeneric
import Derived.Shelf.SlSortCmp.InsertionK
import Derived.Ground.SlsfProg
set_option linter.unusedVariables false
set_option linter.unusedSimpArgs false
set_option maxRecDepth 100000
set_option maxHeartbeats 8000000
namespace Go.Proofs.YtpndjhelpoenpaaGreatDoor
open Go.RowKit
theorem rowsOf_drop (f : Nat → Int) (k : Nat) (L : List Nat) (m : Nat) (hm : m ≤ L.length) (j : Nat) : (rowsOf f k (L.drop m))[j]? = (rowsOf f k L)[m * k + j]? := by
 have h : rowsOf f k L = rowsOf f k (L.take m) ++ rowsOf f k (L.drop m) := by rw [← rowsOf_append, List.take_append_drop]
 have hl : (rowsOf f k (L.take m)).length = m * k := by rw [rowsOf_length, List.length_take, Nat.min_eq_left hm]
 rw [h, List.getElem?_append_right (by rw [hl]; omega), hl, Nat.add_sub_cancel_left]
theorem rowsOf_take (f : Nat → Int) (k : Nat) (L : List Nat) (m : Nat) (hm : m ≤ L.length) (j : Nat) (u : Int) (hu : (rowsOf f k (L.take m))[j]? = some u) : (rowsOf f k L)[j]? = some u := by
 have h : rowsOf f k L = rowsOf f k (L.take m) ++ rowsOf f k (L.drop m) := by rw [← rowsOf_append, List.take_append_drop]
 rw [h, List.getElem?_append_left (List.getElem?_eq_some_iff.1 hu).1]
 exact hu
theorem rowsOf_at (f : Nat → Int) (k : Nat) (L : List Nat) (i j : Nat) (hi : i < L.length) (hj : j < k) : (rowsOf f k L)[i * k + j]? = some (f (L.getD i 0 * k + j)) := by
 have hlt : i * k + j < (rowsOf f k L).length := by
  rw [rowsOf_length]
  have : (i + 1) * k ≤ L.length * k := Nat.mul_le_mul_right k hi
  rw [Nat.succ_mul] at this
  omega
 have h := rowsOf_get f k L i j hi hj
 rw [List.getD_eq_getElem?_getD, List.getElem?_eq_getElem hlt] at h
 rw [List.getElem?_eq_getElem hlt]
 simpa using h
def RRow (f : Nat → Int) (k : Nat) (e : TypeId) (w : World) (lo : Nat) (v : Value) (L : List Nat) : Prop :=
 (∃ g c, v = .slice (some ⟨g, 0, none⟩) L.length c ∧ L.length ≤ c ∧ c ≤ maxLen ∧ g < w.heap.size ∧ lo ≤ g) ∧ w.ownsRow lo e k v L.length ((rowsOf f k L).map (Value.int .i64))
section
variable {f : Nat → Int} {k : Nat} {e : TypeId}
theorem RRow.below {w w' : World} {lo : Nat} {v : Value} {L : List Nat} (h : RRow f k e w lo v L) (hb : bW w w') : RRow f k e w' lo v L := by
 obtain ⟨⟨g, c, e1, h1, h2, h3, h5⟩, h4⟩ := h
 exact ⟨⟨g, c, e1, h1, h2, Nat.lt_of_lt_of_le h3 hb.size, h5⟩, ownsRow_below h4 hb⟩
theorem RRow.of {w : World} {lo g c : Nat} {L : List Nat} {n : Nat} (hn : n = L.length) (h : w.ownsRow lo e k (.slice (some ⟨g, 0, none⟩) n c) n ((rowsOf f k L).map (Value.int .i64))) : RRow f k e w lo (.slice (some ⟨g, 0, none⟩) n c) L := by
 subst hn
 refine ⟨?_, h⟩
 have hlt := World.ownsRow.lt h g rfl
 rcases h.2 with ⟨h0, _⟩ | ⟨g', cap, cur, hv, hb, hg, hnc, hcm, _⟩
 ·cases h0
 ·cases hv
  exact ⟨g, c, rfl, hnc, hcm, hlt.2, hb⟩
theorem RRow.cellAt {w : World} {lo g c : Nat} {L : List Nat} {n : Nat} (h : w.ownsRow lo e k (.slice (some ⟨g, 0, none⟩) n c) n ((rowsOf f k L).map (Value.int .i64))) (hn : n = L.length) (i j : Nat) (hi : i < n) (hj : j < k) :
  cI w g (i * k + j) (f (L.getD i 0 * k + j)) := by
 subst hn
 rw [World.ownsRow.cellAt h (i * k + j) (by
  have : (i + 1) * k ≤ L.length * k := Nat.mul_le_mul_right k hi
  rw [Nat.succ_mul] at this
  omega), List.getElem?_map, rowsOf_at f k L i j hi hj]
 rfl
theorem RRow.cellR {w : World} {lo g c : Nat} {L : List Nat} {n : Nat} (h : RRow f k e w lo (.slice (some ⟨g, 0, none⟩) n c) L) (hn : n = L.length) (i j : Nat) (hi : i < n) (hj : j < k) :
  cI w g (i * k + j) (f (L.getD i 0 * k + j)) := by
 subst hn
 exact RRow.cellAt h.2 rfl i j hi hj
theorem RRow.srcTake {w : World} {lo g c : Nat} {L : List Nat} {n : Nat} (h : w.ownsRow lo e k (.slice (some ⟨g, 0, none⟩) n c) n ((rowsOf f k L).map (Value.int .i64))) (hn : n = L.length) (m c' : Nat) (hm : m ≤ n) :
  Src w k (some ⟨g, 0, none⟩) m c' (rowsOf f k (L.take m)) := by
 subst hn
 refine ⟨by rw [rowsOf_length, List.length_take, Nat.min_eq_left hm], (by intro h; cases h), fun ad had j u hu => ?_⟩
 cases had
 have hl := (List.getElem?_eq_some_iff.1 hu).1
 rw [rowsOf_length, List.length_take, Nat.min_eq_left hm] at hl
 rw [Addr.add_lit, Nat.zero_add, World.ownsRow.cellAt h j (Nat.lt_of_lt_of_le hl (Nat.mul_le_mul_right k hm)), List.getElem?_map, rowsOf_take f k L m hm j u hu]
 rfl
theorem RRow.srcDrop {w : World} {lo g c : Nat} {L : List Nat} {n : Nat} (h : w.ownsRow lo e k (.slice (some ⟨g, 0, none⟩) n c) n ((rowsOf f k L).map (Value.int .i64))) (hn : n = L.length) (m c' : Nat) (hm : m ≤ n) :
  Src w k (some ⟨g, m * k, none⟩) (n - m) c' (rowsOf f k (L.drop m)) := by
 subst hn
 refine ⟨by rw [rowsOf_length, List.length_drop], (by intro h; cases h), fun ad had j u hu => ?_⟩
 cases had
 have hl := (List.getElem?_eq_some_iff.1 hu).1
 rw [rowsOf_length, List.length_drop, Nat.sub_mul] at hl
 have hmk : m * k ≤ L.length * k := Nat.mul_le_mul_right k hm
 rw [rowsOf_drop f k L m hm] at hu
 rw [Addr.add_lit, World.ownsRow.cellAt h (m * k + j) (by omega), List.getElem?_map, hu]
 rfl
theorem RRow.grown_other {w w' : World} {lo lo' : Nat} {ov v : Value} {L : List Nat} {e' : TypeId} {k' n : Nat} {xs : List Value} (h : RRow f k e w lo ov L) (hown : w.ownsRow lo' e' k' v n xs) (hne : e ≠ e') (hg : w.grownBy w' v.ownBlock) : RRow f k e w' lo ov L := by
 obtain ⟨⟨g, c, rfl, h1, h2, h3, h5⟩, h4⟩ := h
 refine ⟨⟨g, c, rfl, h1, h2, Nat.lt_of_lt_of_le h3 hg.size, h5⟩, World.ownsRow.kept h4 hg (Or.inr ?_)⟩
 intro he
 rcases hown.2 with ⟨rfl, _⟩ | ⟨g', c', cur, rfl, _, hG, _⟩
 ·simp [Value.ownBlock] at he
 ·simp [Value.ownBlock] at he
  subst he
  rcases h4.2 with ⟨h0, _⟩ | ⟨g2, c2, cur2, hv, _, hG2, _⟩
  ·cases h0
  ·cases hv
   rw [hG] at hG2
   simp at hG2
   exact hne hG2.2.symm
theorem Src.none_of {w : World} {A : Option Addr} {c : Nat} {zs : List Int} (hz : zs = []) (hA : A ≠ none) : Src w k A 0 c zs := by
 subst hz
 exact ⟨by simp, fun h => absurd h hA, fun ad had j u hu => by simp at hu⟩
end
def pickN (t : Nat → Bool) : Nat → List Nat
 | 0 => []
 | k + 1 => if t k then pickN t k ++ [k] else pickN t k
theorem pickN_yes {t : Nat → Bool} {k : Nat} (h : t k = true) : pickN t (k + 1) = pickN t k ++ [k] := by simp [pickN, h]
theorem pickN_no {t : Nat → Bool} {k : Nat} (h : t k = false) : pickN t (k + 1) = pickN t k := by simp [pickN, h]
theorem pickN_len (t : Nat → Bool) : ∀ k, (pickN t k).length ≤ k
 | 0 => Nat.le_refl _
 | k + 1 => by
  have := pickN_len t k
  unfold pickN
  split <;> simp <;> omega
theorem pickN_lt (t : Nat → Bool) : ∀ k, ∀ j ∈ pickN t k, j < k ∧ t j = true
 | 0 => by simp [pickN]
 | k + 1 => by
  intro j hj
  unfold pickN at hj
  split at hj
  ·rename_i ht
   rcases List.mem_append.1 hj with h | h
   ·have := pickN_lt t k j h; exact ⟨by omega, this.2⟩
   ·simp at h; subst h; exact ⟨by omega, ht⟩
  ·have := pickN_lt t k j hj; exact ⟨by omega, this.2⟩
theorem isortL_snoc {α : Type} [Inhabited α] (mv : α → α → Bool) (L : List α) (x : α) : isortL mv (L ++ [x]) = insI mv (isortL mv L) x := by simp [isortL, List.foldl_append]
theorem stop_step {mv : Nat → Nat → Bool} {L : List Nat} {n k : Nat} (h : mv (L.getD k 0) n = true) : stopI mv L n (k + 1) = stopI mv L n k := by
 show (if mv (L[k]?.getD default) n then stopI mv L n k else k + 1) = _
 rw [if_pos (by simpa [List.getD_eq_getElem?_getD] using h)]
theorem stop_here {mv : Nat → Nat → Bool} {L : List Nat} {n k : Nat} (h : mv (L.getD k 0) n = false) : stopI mv L n (k + 1) = k + 1 := by
 show (if mv (L[k]?.getD default) n then stopI mv L n k else k + 1) = _
 rw [if_neg (by simpa [List.getD_eq_getElem?_getD] using h)]
end Go.Proofs.YtpndjhelpoenpaaGreatDoor
namespace Go.Proofs
open Go.Shelf
def Tryz.insS_ren : Go.Shelf.Ren := ⟨fun | 20 => 217 | n => n, fun | 24 => 97 | 22 => 30 | 3 => 3 | 25 => 187 | 4 => 4 | 0 => 0 | n => n, fun | n => n⟩
theorem Tryz.insS : Go.Proofs.SlLaysF0.n20 Tryz.prog Tryz.insS_ren := {
  mixed := by kernel_rfl
  f20 := ⟨Tryz.f217.name, by decide, Tryz.func217.trans (congrArg some (by kernel_rfl))⟩
  t0 := Tryz.underlying0
  a0 := Tryz.isAgg0
  z0 := Tryz.sizeOf0
  v0 := Tryz.zeroValue0
  t3 := Tryz.underlying3
  a3 := Tryz.isAgg3
  z3 := Tryz.sizeOf3
  v3 := Tryz.zeroValue3
  t4 := Tryz.underlying4
  a4 := Tryz.isAgg4
  z4 := Tryz.sizeOf4
  v4 := Tryz.zeroValue4
  t22 := Tryz.underlying30
  a22 := Tryz.isAgg30
  z22 := Tryz.sizeOf30
  v22 := Tryz.zeroValue30
  t25 := Tryz.underlying187
  a25 := Tryz.isAgg187
  z25 := Tryz.sizeOf187
  v25 := Tryz.zeroValue187 }
end Go.Proofs
namespace Go.Proofs.YtpndjhelpoenpaaGreatDoor
open Go.RowKit Go.Sort
def encS (f : Nat → Int) (i : Nat) : List Value := [.int .i64 (f (i * 4)), .int .i64 (f (i * 4 + 1)), .int .i64 (f (i * 4 + 2)), .int .i64 (f (i * 4 + 3))]
theorem encS_get (f : Nat → Int) (i j : Nat) (hj : j < 4) : (encS f i)[j]! = .int .i64 (f (i * 4 + j)) := by
 match j, hj with
 | 0, _ => rfl
 | 1, _ => rfl
 | 2, _ => rfl
 | 3, _ => rfl
theorem flatK_get (f : Nat → Int) (L : List Nat) (t : Nat) (ht : t < L.length * 4) : (flatK (encS f) 4 L.toArray)[t]! = .int .i64 (f (L.getD (t / 4) 0 * 4 + t % 4)) := by
 have h1 : t / 4 < L.length := by omega
 rw [get_flatK _ _ _ _ (by simpa using ht), encS_get _ _ _ (Nat.mod_lt _ (by decide))]
 simp [List.getD_eq_getElem?_getD, h1]
theorem flatK_rows (f : Nat → Int) (L : List Nat) : (flatK (encS f) 4 L.toArray).toList = (rowsOf f 4 L).map (Value.int .i64) := by
 apply List.ext_getElem?
 intro t
 by_cases ht : t < L.length * 4
 ·have hs : t < (flatK (encS f) 4 L.toArray).size := by rw [size_flatK]; simpa using ht
  have hr := rowsOf_at f 4 L (t / 4) (t % 4) (by omega) (Nat.mod_lt _ (by decide))
  rw [show t / 4 * 4 + t % 4 = t by omega] at hr
  rw [List.getElem?_map, hr, Array.getElem?_toList, Array.getElem?_eq_getElem hs, ← getElem!_pos, flatK_get f L t ht]
  rfl
 ·rw [List.getElem?_eq_none (by rw [Array.length_toList, size_flatK]; simpa using ht), List.getElem?_eq_none (by rw [List.length_map, rowsOf_length]; omega)]
theorem holdsK_of_row {f : Nat → Int} {w : World} {lo g c n : Nat} {L : List Nat} (h : w.ownsRow lo 97 4 (.slice (some ⟨g, 0, none⟩) n c) n ((rowsOf f 4 L).map (Value.int .i64))) (hn : n = L.length) : HoldsK (encS f) 4 w g 0 L.toArray := by
 intro t ht
 rw [size_flatK] at ht
 have ht' : t < L.length * 4 := by simpa using ht
 have hc := RRow.cellAt h hn (t / 4) (t % 4) (by omega) (Nat.mod_lt _ (by decide))
 rw [show t / 4 * 4 + t % 4 = t by omega] at hc
 refine ⟨by rw [Nat.zero_add, hc, flatK_get f L t ht']; rfl, by rw [Nat.zero_add]; exact World.ownsRow.frozenAt h t⟩
theorem row_of_sortK {f : Nat → Int} {w : World} {lo g c n m : Nat} {os : Array Obj} {L L' : List Nat} (h : w.ownsRow lo 97 4 (.slice (some ⟨g, 0, none⟩) n c) n ((rowsOf f 4 L).map (Value.int .i64))) (hn : n = L'.length) :
  (sortWorldK (encS f) 4 w g 0 m L'.toArray os).ownsRow lo 97 4 (.slice (some ⟨g, 0, none⟩) n c) n ((rowsOf f 4 L').map (Value.int .i64)) := by
 have hlt := (World.ownsRow.lt h g rfl).2
 rcases h.2 with ⟨h0, _⟩ | ⟨g', cap, cur, hv, hb, hg, hnc, hcm, hcs, htake⟩
 ·cases h0
 cases hv
 refine ⟨by rw [List.length_map, rowsOf_length, hn], .inr ⟨g, c, putCells id 0 (flatK (encS f) 4 L'.toArray) cur, rfl, hb, ?_, hnc, hcm, by simpa [putCells] using hcs, ?_⟩⟩
 ·unfold sortWorldK putRowK
  rw [heap_grow_old _ _ (by simpa [Go.Sort.putRow, mapBlock, Sort.ahead] using hlt)]
  simp [Go.Sort.putRow, mapBlock, Sort.ahead, Array.getElem?_modify, hg, onCells]
 ·rw [← flatK_rows]
  apply List.ext_getElem?
  intro t
  rw [List.getElem?_take, Array.getElem?_toList, Array.getElem?_toList]
  by_cases ht : t < n * 4
  ·have hs : t < (flatK (encS f) 4 L'.toArray).size := by rw [size_flatK]; simpa [← hn] using ht
   have htc : t < cur.size := by rw [hcs]; exact Nat.lt_of_lt_of_le ht (Nat.mul_le_mul_right _ hnc)
   rw [if_pos ht, putCells, Array.getElem?_mapIdx, Array.getElem?_eq_getElem htc, Option.map_some, if_pos ⟨Nat.zero_le _, by omega⟩, Nat.sub_zero, getElem!_pos _ t hs, Array.getElem?_eq_getElem hs]
   rfl
  ·rw [if_neg ht, Array.getElem?_eq_none (by rw [size_flatK]; simpa [← hn] using ht)]
theorem grownBy_sortK {f : Nat → Int} {w : World} {g m : Nat} {os : Array Obj} (d : Array Nat) : w.grownBy (sortWorldK (encS f) 4 w g 0 m d os) (some g) := by
 unfold sortWorldK putRowK
 refine ⟨rfl, rfl, rfl, by simp [Go.Sort.putRow, mapBlock, Sort.ahead], fun j hj hne => ?_⟩
 rw [heap_grow_old _ _ (by simpa [Go.Sort.putRow, mapBlock, Sort.ahead] using hj)]
 have : g ≠ j := fun e => hne (by rw [e])
 simp [Go.Sort.putRow, mapBlock, Sort.ahead, Array.getElem?_modify, this]
theorem insNone_any (A : Option Addr) (c clo : Nat) (w : World) :
  Calls Tryz.prog 217 #[.slice A 0 c, .int .i64 0, .int .i64 0, .func (.func clo) #[] #[]] w fun e w' => e = .returned (.tuple #[]) ∧ w = w' := by
 go_enter Tryz.func217, Tryz.ntmps217
 go_wp2_with fail
 go_loop [8] (fun i => i = .int .i64 1) (fun _ => 0)
 case atStart => rfl
 case round =>
  subst hrel
  go_wp2
  go_end0
  exact z10
theorem stableNone_any (A : Option Addr) (c clo : Nat) (w : World) :
  Calls Tryz.prog 201 #[.slice A 0 c, .int .i64 0, .func (.func clo) #[] #[]] w fun e w' => e = .returned (.tuple #[]) ∧ w = w' := by
 go_enter Tryz.func201, Tryz.ntmps201
 go_wp2_with fail
 go_loop [7, 8] (fun a b => a = .int .i64 0 ∧ b = .int .i64 20) (fun _ _ => 0)
 case atStart => exact z10
 case round =>
  obtain ⟨rfl, rfl⟩ := hrel
  go_wp2_with fail
  refine (insNone_any A c clo w).mono ?_
  rintro e w1 ⟨rfl, rfl⟩
  go_wp2_with fail
  go_loop [6, 7, 8, 9] (fun s a b m => s = .int .i64 20) (fun _ _ _ _ => 0)
  case atStart => rfl
  case round =>
   subst hrel
   go_wp2
   go_end0
   exact z10
theorem sortStableNone_any (A : Option Addr) (c clo : Nat) (w : World) :
  Calls Tryz.prog 172 #[.slice A 0 c, .func (.func clo) #[] #[]] w fun e w' => e = .returned (.tuple #[]) ∧ w = w' := by
 go_enter Tryz.func172, Tryz.ntmps172
 go_wp2_with fail
 refine (stableNone_any A c clo w).mono ?_
 rintro e w1 ⟨rfl, rfl⟩
 go_wp2
 go_end0
 exact z10
def SPost (f : Nat → Int) (lo g c n : Nat) (L : List Nat) (w : World) (e : Ending) (w' : World) : Prop :=
 e = .returned (.tuple #[]) ∧ w'.ownsRow lo 97 4 (.slice (some ⟨g, 0, none⟩) n c) n ((rowsOf f 4 L).map (Value.int .i64)) ∧ w.grownBy w' (some g)
theorem ins_any (f : Nat → Int) (cf : Nat → Nat → Int) (lo g c n clo : Nat) (L : List Nat) (w : World) (hown : w.ownsRow lo 97 4 (.slice (some ⟨g, 0, none⟩) n c) n ((rowsOf f 4 L).map (Value.int .i64))) (hn : n = L.length) (hn12 : n ≤ 12)
  (eg : ∀ args w, (callFunc clo args).run Tryz.prog w = .ok (.enter clo args) w) (hcmp : CmpLays Tryz.prog clo #[] (encS f) 4 cf g 0 n w) :
  Calls Tryz.prog 217 #[.slice (some ⟨g, 0, none⟩) n c, .int .i64 0, .int .i64 n, .func (.func clo) #[] #[]] w (SPost f lo g c n (isortL (fun p q => ltOf cf q p) L) w) := by
 have hs : L.toArray.size = n := by simp [hn]
 have h := AnyQ.insertionSortCmpFunc Tryz.insS 4 Tryz.isAgg97 Tryz.sizeOf97 (encS f) (fun _ => rfl) (fun x v hv => by simp [encS] at hv; rcases hv with rfl | rfl | rfl | rfl <;> rfl) cf clo #[] g 0 c 0 n L.toArray w eg (by rw [hs]; exact hcmp) (holdsK_of_row hown hn) (World.ownsRow.lt hown g rfl).2 (Nat.zero_le _) (by omega) (by rw [hs]; omega)
 rw [hs] at h
 refine h.mono ?_
 rintro e w' ⟨rfl, m, os, rfl⟩
 have e1 : Sort.insertionSort (ltOf cf) L.toArray 0 n = (isortL (fun p q => ltOf cf q p) L).toArray := by
  have := sort_list (ltOf cf) L.toArray
  rw [hs] at this
  rw [← this]
 rw [e1]
 exact ⟨rfl, row_of_sortK hown (by rw [isortL_length]; exact hn), grownBy_sortK _⟩
theorem stable_any (f : Nat → Int) (lo g c n clo : Nat) (L' : List Nat) (w : World) (hn12 : n ≤ 12)
  (hins : Calls Tryz.prog 217 #[.slice (some ⟨g, 0, none⟩) n c, .int .i64 0, .int .i64 n, .func (.func clo) #[] #[]] w (SPost f lo g c n L' w)) :
  Calls Tryz.prog 201 #[.slice (some ⟨g, 0, none⟩) n c, .int .i64 n, .func (.func clo) #[] #[]] w (SPost f lo g c n L' w) := by
 have h20 : ¬ ((20 : Int) ≤ (n : Int)) := by omega
 have h21 : ¬ ((20 : Int) < (n : Int)) := by omega
 go_enter Tryz.func201, Tryz.ntmps201
 go_wp2_with fail
 go_loop [7, 8] (fun a b => a = .int .i64 0 ∧ b = .int .i64 20) (fun _ _ => 0)
 case atStart => exact z10
 case round =>
  obtain ⟨rfl, rfl⟩ := hrel
  go_wp2_with fail
  refine hins.mono ?_
  rintro e w1 ⟨rfl, ho, hg⟩
  have HO := lh ho
  have HG := lh hg
  clear ho hg
  go_wp2_with fail
  go_loop [6, 7, 8, 9] (fun s a b m => s = .int .i64 20) (fun _ _ _ _ => 0)
  case atStart => rfl
  case round =>
   subst hrel
   go_wp2
   go_end0
   exact ⟨rfl, HO.out, HG.out⟩
theorem sortStable_any (f : Nat → Int) (lo g c n clo : Nat) (L' : List Nat) (w : World) (hn12 : n ≤ 12)
  (hins : Calls Tryz.prog 217 #[.slice (some ⟨g, 0, none⟩) n c, .int .i64 0, .int .i64 n, .func (.func clo) #[] #[]] w (SPost f lo g c n L' w)) :
  Calls Tryz.prog 172 #[.slice (some ⟨g, 0, none⟩) n c, .func (.func clo) #[] #[]] w (SPost f lo g c n L' w) := by
 have hst := stable_any f lo g c n clo L' w hn12 hins
 go_enter Tryz.func172, Tryz.ntmps172
 go_wp2_with fail
 refine hst.mono ?_
 rintro e w1 ⟨rfl, ho, hg⟩
 have HO := lh ho
 have HG := lh hg
 clear ho hg
 go_wp2
 go_end0
 exact ⟨rfl, HO.out, HG.out⟩
end Go.Proofs.YtpndjhelpoenpaaGreatDoor
namespace Go.Proofs.YtpndjhelpoenpaaGreatDoor
open Go.RowKit Go.Sort
attribute [local go_sem ↓] Go.wp_at_zero Go.wp_at_succ
theorem infoPan : (Tryz.prog.info? 97).map (fun i => (i.zero, i.size, i.bytes)) = some (some (.agg (iV 0 0 0 0)), 4, 32) := by exact z12
def massAt (f : Nat → Int) (k : Nat) : Int := massV (f (k * 4 + 2)) (f (k * 4 + 3))
def ordB (f : Nat → Int) (k : Nat) : Bool := decide (0 < massAt f k)
def ordMv (f : Nat → Int) (p n : Nat) : Bool := decide (wrap64 (f (p * 4 + 3) * massAt f n) < wrap64 (f (n * 4 + 3) * massAt f p))
def ordL (f : Nat → Int) (k : Nat) : List Nat := isortL (ordMv f) (pickN (ordB f) k)
def idsP (f : Nat → Int) (L : List Nat) : List Int := L.map fun p => f (p * 4)
def ordRes (f : Nat → Int) (n : Nat) (b : Bool) : List Int := if b then idsP f (ordL f n) else []
theorem ordL_len (f : Nat → Int) (k : Nat) : (ordL f k).length ≤ k := by
 rw [ordL, isortL_length]; exact pickN_len _ k
theorem ordRes_len (f : Nat → Int) (n : Nat) (b : Bool) : (ordRes f n b).length ≤ n := by
 unfold ordRes
 split
 ·rw [idsP, List.length_map]; exact ordL_len f n
 ·simp
theorem ordL_lt (f : Nat → Int) (n : Nat) : ∀ j ∈ ordL f n, j < n := by
 intro j hj
 rw [ordL, isortL_mem] at hj
 exact (pickN_lt _ n j hj).1
theorem row_oneP (f : Nat → Int) (k : Nat) : rowsOf f 4 [k] = [f (k * 4), f (k * 4 + 1), f (k * 4 + 2), f (k * 4 + 3)] := rfl
def ordCf (f : Nat → Int) (a b : Nat) : Int := Lib.compareInt (wrap64 (f (b * 4 + 3) * massAt f a)) (wrap64 (f (a * 4 + 3) * massAt f b))
theorem ordCf_lt (f : Nat → Int) : (fun p q => ltOf (ordCf f) q p) = ordMv f := by
 funext p q
 rw [Bool.eq_iff_iff]
 simp only [ltOf, ordCf, Lib.compareInt, ordMv, decide_eq_true_eq]
 split
 ·simp [*]
 ·split <;> simp [*]
theorem massG_any (wt s : Int) (w : World) :
  Calls Tryz.prog 121 #[.agg (jV wt s)] w fun e w' => e = .returned (.int .i64 (massV wt s)) ∧ ∃ q os', w' = grow (w.drewN q) os' := by
 go_enter Tryz.func121, Tryz.ntmps121
 go_wp2
 go_ret
 exact ⟨rfl, 0, _, by rw [alloc_eq_grow]; rfl⟩
theorem cmpG_any (x y : Int) (w : World) : Calls Tryz.prog 174 (jV x y) w fun e w' => e = .returned (.int .i64 (Lib.compareInt x y)) ∧ ∃ q os', w' = grow (w.drewN q) os' :=
 (Tryz.cmp_Compare_int x y w).mono fun e w' ⟨he, hw⟩ => ⟨he, 0, #[], by rw [hw, grow_empty]; rfl⟩
theorem panClo_any (f : Nat → Int) (x y : Nat) (W : World) : Calls Tryz.prog 173 #[.agg (iV (f (x * 4)) (f (x * 4 + 1)) (f (x * 4 + 2)) (f (x * 4 + 3))), .agg (iV (f (y * 4)) (f (y * 4 + 1)) (f (y * 4 + 2)) (f (y * 4 + 3)))] W fun e w' => e = .returned (.int .i64 (ordCf f x y)) ∧ ∃ q os', w' = grow (W.drewN q) os' := by
 have mixed : Tryz.prog.follows .mixedOrders = true := by kernel_rfl
 have HC : Hid (Lib.compareInt (IntKind.i64.wrap (f (y * 4 + 3) * massV (f (x * 4 + 2)) (f (x * 4 + 3)))) (IntKind.i64.wrap (f (x * 4 + 3) * massV (f (y * 4 + 2)) (f (y * 4 + 3)))) = ordCf f x y) := by
  show _ = _
  rw [IntWalk.i64_left, IntWalk.i64_left]
  rfl
 go_enter Tryz.func173, Tryz.ntmps173
 go_wp2_with fail
 have hX : Hid ((W.alloc (.cells (iV (f (x * 4)) (f (x * 4 + 1)) (f (x * 4 + 2)) (f (x * 4 + 3))) 97)).alloc (.cells (iV (f (y * 4)) (f (y * 4 + 1)) (f (y * 4 + 2)) (f (y * 4 + 3))) 97) = grow W #[.cells (iV (f (x * 4)) (f (x * 4 + 1)) (f (x * 4 + 2)) (f (x * 4 + 3))) 97, .cells (iV (f (y * 4)) (f (y * 4 + 1)) (f (y * 4 + 2)) (f (y * 4 + 3))) 97]) := by show _ = _; rw [alloc_eq_grow, alloc_eq_grow, grow_grow]; rfl
 have x2 := fun n os => cell_grown (n := n) (os := os) (w := (W.alloc (.cells (iV (f (x * 4)) (f (x * 4 + 1)) (f (x * 4 + 2)) (f (x * 4 + 3))) 97)).alloc (.cells (iV (f (y * 4)) (f (y * 4 + 1)) (f (y * 4 + 2)) (f (y * 4 + 3))) 97)) (a := ⟨W.heap.size, 2, none⟩) (v := .int .i64 (f (x * 4 + 2))) (by simp; omega) (by go_simp)
 have x3 := fun n os => cell_grown (n := n) (os := os) (w := (W.alloc (.cells (iV (f (x * 4)) (f (x * 4 + 1)) (f (x * 4 + 2)) (f (x * 4 + 3))) 97)).alloc (.cells (iV (f (y * 4)) (f (y * 4 + 1)) (f (y * 4 + 2)) (f (y * 4 + 3))) 97)) (a := ⟨W.heap.size, 3, none⟩) (v := .int .i64 (f (x * 4 + 3))) (by simp; omega) (by go_simp)
 have y2 := fun n os => cell_grown (n := n) (os := os) (w := (W.alloc (.cells (iV (f (x * 4)) (f (x * 4 + 1)) (f (x * 4 + 2)) (f (x * 4 + 3))) 97)).alloc (.cells (iV (f (y * 4)) (f (y * 4 + 1)) (f (y * 4 + 2)) (f (y * 4 + 3))) 97)) (a := ⟨W.heap.size + 1, 2, none⟩) (v := .int .i64 (f (y * 4 + 2))) (by simp) (by go_simp)
 have y3 := fun n os => cell_grown (n := n) (os := os) (w := (W.alloc (.cells (iV (f (x * 4)) (f (x * 4 + 1)) (f (x * 4 + 2)) (f (x * 4 + 3))) 97)).alloc (.cells (iV (f (y * 4)) (f (y * 4 + 1)) (f (y * 4 + 2)) (f (y * 4 + 3))) 97)) (a := ⟨W.heap.size + 1, 3, none⟩) (v := .int .i64 (f (y * 4 + 3))) (by simp) (by go_simp)
 generalize (W.alloc (.cells (iV (f (x * 4)) (f (x * 4 + 1)) (f (x * 4 + 2)) (f (x * 4 + 3))) 97)).alloc (.cells (iV (f (y * 4)) (f (y * 4 + 1)) (f (y * 4 + 2)) (f (y * 4 + 3))) 97) = X at *
 go_quiet_grown (first | (go_at_call 121; refine Calls.grown_of (massG_any _ _ _)) | (go_at_call 174; refine Calls.grown_of (cmpG_any _ _ _)))
 go_wp2
 go_ret
 refine ⟨congrArg (fun z => Ending.returned (.int .i64 z)) HC.out, nq, #[.cells (iV (f (x * 4)) (f (x * 4 + 1)) (f (x * 4 + 2)) (f (x * 4 + 3))) 97, .cells (iV (f (y * 4)) (f (y * 4 + 1)) (f (y * 4 + 2)) (f (y * 4 + 3))) 97] ++ osq, ?_⟩
 rw [hX.out]
 show grow (grow (W.drewN nq) _) osq = _
 rw [grow_grow]
theorem form_ofP {w : World} {lo k : Nat} {e : TypeId} {v : Value} {n : Nat} {xs : List Value} (h : w.ownsRow lo e k v n xs) : (n = 0 ∧ ∃ A c, v = .slice A 0 c) ∨ ∃ g c, v = .slice (some ⟨g, 0, none⟩) n c := by
 rcases h.2 with ⟨rfl, rfl⟩ | ⟨g, c, cur, rfl, _⟩
 ·exact Or.inl ⟨rfl, none, 0, rfl⟩
 ·exact Or.inr ⟨g, c, rfl⟩
theorem good_len {f : Nat → Int} {n : Nat} {I H S P : Int} (hg : goodWorks f n I H S P = true) : n ≤ 6 := by
 simp only [goodWorks, pansOk, Bool.and_eq_true, decide_eq_true_eq] at hg
 exact hg.1.1.2
theorem ownsRow_monoP {w : World} {base base' : Nat} {e : TypeId} {size : Nat} {v : Value} {n : Nat} {xs : List Value} (h : w.ownsRow base e size v n xs) (hb : base' ≤ base) : w.ownsRow base' e size v n xs :=
 ⟨h.1, h.2.imp id fun ⟨g, cap, cur, h1, h2, h3⟩ => ⟨g, cap, cur, h1, Nat.le_trans hb h2, h3⟩⟩
theorem infoIntP : (Tryz.prog.info? 3).map (fun i => (i.zero, i.size, i.bytes)) = some (some (.int .i64 0), 1, 8) := by exact z12
theorem PanOrder_any (A : Option Addr) (n c lo hi : Nat) (f : Nat → Int) (I H S P : Int) (w : World) (hs : Sl w lo hi 4 A n f) (hn : n ≤ 1048576) (hnc : n ≤ c) :
  Calls Tryz.prog 142 #[.agg (wB A n c I H S P)] w (IntsPost 3 w (ordRes f n (goodWorks f n I H S P)) (goodWorks f n I H S P)) := by
 refine z38 ?_
 intro HS
 clear hs
 refine z124 ?_
 intro BW
 cases hg : goodWorks f n I H S P with
 | false =>
  go_enter Tryz.func142, Tryz.ntmps142
  exact z125
 | true =>
  have h6 := good_len hg
  have HG := lh hg
  have eg : ∀ args w, (callFunc 173 args).run Tryz.prog w = .ok (.enter 173 args) w := enters_of Tryz.func173 (by exact z12) rfl
  have EG := lh eg
  clear eg
  show Calls _ _ _ _ (IntsPost 3 w (idsP f (ordL f n)) true)
  go_enter Tryz.func142, Tryz.ntmps142
  go_wp2_with fail
  refine z126 ?_
  intro w1 hb1 HS1 b0 b1 b2 b3 b4 hB1
  clear hb1 HS hg
  go_wp2_with fail
  clear b0 b1 b2 b3 b4
  go_loopw [4, 16] (fun v iv wr => ∃ i : Nat, i ≤ n ∧ iv = .int .i64 i ∧ wr.ownsRow w1.heap.size 97 4 v (pickN (ordB f) i).length ((rowsOf f 4 (pickN (ordB f) i)).map (Value.int .i64)) ∧ bW w1 wr) (fun _ iv _ => n - (intOf iv).toNat)
  case atStart => exact ⟨0, Nat.zero_le _, rfl, World.ownsRow_nil _ _ _ _, Below.refl _ _⟩
  case round =>
   obtain ⟨i, hi', rfl, hown, hB⟩ := hrel
   have HO := lh hown
   have hl : (pickN (ordB f) i).length ≤ 6 := by have := pickN_len (ordB f) i; omega
   clear hown
   by_cases hlt : i < n
   ·obtain ⟨b, off, rfl, hbw, HC⟩ := HS1.out.open_ hB (by omega)
    obtain ⟨c0, c1, c2, c3⟩ := cell4 HC hlt
    refine z127 ?_
    intro hi0i hini
    have HPY : Hid (ordB f i = true → pickN (ordB f) (i + 1) = (pickN (ordB f) i) ++ [i]) := fun h => pickN_yes h
    have HPN : Hid (ordB f i = false → pickN (ordB f) (i + 1) = (pickN (ordB f) i)) := fun h => pickN_no h
    generalize (pickN (ordB f) i) = P at *
    clear HC HS1
    cases hq : decide (0 < massV (f (i * 4 + 2)) (f (i * 4 + 3))) with
    | false =>
     have HPB : Hid (ordB f i = false) := hq
     have hqi : ¬ (0 < massV (f (i * 4 + 2)) (f (i * 4 + 3))) := by simpa using hq
     go_wp2_with fail
     refine (mass_any _ _ _).mono ?_
     revert hB hbw c0 c1 c2 c3 HO
     refine z128 ?_
     intro w2 hB2 hO2 nb hbw n0 n1 n2 n3
     exact z129
    | true =>
     have HPB : Hid (ordB f i = true) := hq
     have hqi : 0 < massV (f (i * 4 + 2)) (f (i * 4 + 3)) := by simpa using hq
     go_wp2_with fail
     refine (mass_any _ _ _).mono ?_
     revert hB hbw c0 c1 c2 c3 HO
     refine z128 ?_
     intro w2 hB2 hO2 nb hbw n0 n1 n2 n3
     have hal := (Below.refl w2.heap.size w2).alloc nL (.cells (iV (f (i * 4)) (f (i * 4 + 1)) (f (i * 4 + 2)) (f (i * 4 + 3))) 97)
     have hro := lh (ownsRow_below hO2.out hal)
     have hcn : Hid (∀ j u, ([f (i * 4), f (i * 4 + 1), f (i * 4 + 2), f (i * 4 + 3)] : List Int)[j]? = some u → (w2.alloc (.cells (iV (f (i * 4)) (f (i * 4 + 1)) (f (i * 4 + 2)) (f (i * 4 + 3))) 97)).cell? ((⟨w2.heap.size, 0, none⟩ : Addr).add j) = some (.int .i64 u)) := by
      intro j u hu
      rw [Addr.add_lit, Nat.zero_add, cell_of_row _ w2.heap.size j _ 97 (0, 0) (heap_alloc_new w2 _)]
      match j, hu with
      | 0, hu => simp at hu; subst hu; rfl
      | 1, hu => simp at hu; subst hu; rfl
      | 2, hu => simp at hu; subst hu; rfl
      | 3, hu => simp at hu; subst hu; rfl
      | j + 4, hu => simp at hu
     have hBn := below_of hB2 hal hB2.size
     have hbs := hBn.size
     clear hal hO2 hB2
     go_wp2_with (at_builtin; refine wpList_append_flat _ rfl _ _ 30 rfl w1.heap.size 97 4 32 (.agg (iV 0 0 0 0)) Tryz.underlying30 infoPan rfl (by decide) (by decide) (rowsOf f 4 P) [f (i * 4), f (i * 4 + 1), f (i * 4 + 2), f (i * 4 + 3)] P.length 1 1 u4 rfl hro.out ⟨w2.heap.size, 0, none⟩ rfl rfl hcn.out (by omega) hbs ?_; intro v' w3 hown3 hgrow3)
     go_roundw
     case rel =>
      refine ⟨i + 1, by omega, by go_num, ?_, below_app hBn hro.out hgrow3⟩
      rw [HPY.out HPB.out, rowsOf_append, row_oneP, List.length_append]
      exact hown3
     case measure => simp [intOf]; omega
   ·have hni : ¬ ((i : Int) < (n : Int)) := by omega
    have hin : i = n := by omega
    subst hin
    clear HS1
    have HL : Hid (isortL (ordMv f) (pickN (ordB f) i) = ordL f i) := rfl
    generalize (pickN (ordB f) i) = P at *
    rcases form_ofP HO.out with ⟨h0, A', c', hv⟩ | ⟨g, gc, hv⟩
    ·subst hv
     have hP0 : P = [] := List.length_eq_zero_iff.1 h0
     have hres : Hid (idsP f (ordL f i) = []) := by show _ = _; rw [← HL.out, hP0]; rfl
     clear HO hl h0 hP0
     go_wp2_with fail
     refine (sortStableNone_any A' c' 173 wr).mono ?_
     refine z56 ?_
     go_wp2_with fail
     go_loopw [7, 33] (fun v kv wr2 => v = .slice none 0 0 ∧ kv = .int .i64 0 ∧ wr2 = wr) (fun _ _ _ => 0)
     case atStart => exact ⟨rfl, rfl, rfl⟩
     case round =>
      obtain ⟨rfl, rfl, rfl⟩ := hrel
      go_wp2
      go_ret2
      rw [hres.out]
      exact IntsPost.nil_ (below_of hB1 hB hB1.size)
    ·subst hv
     obtain ⟨l, hl2⟩ : ∃ l, l = P.length := ⟨_, rfl⟩
     have hown := HO.out
     rw [← hl2] at hown hl ⊢
     have hins := ins_any f (ordCf f) w1.heap.size g gc l 173 P wr hown hl2 (by omega) EG.out (fun _ _ _ _ x y => panClo_any f x y _)
     rw [ordCf_lt, HL.out] at hins
     have hst := sortStable_any f w1.heap.size g gc l 173 _ wr (by omega) hins
     have HNL : Hid (l = (ordL f i).length) := by show _ = _; rw [← HL.out, isortL_length]; exact hl2
     have HOG := lh (World.ownsRow.lt hown g rfl).1
     clear hins hown HO hl2 EG HL
     generalize ordL f i = L at *
     go_wp2_with fail
     refine hst.mono ?_
     rintro e w2 ⟨rfl, ho2, hgr⟩
     have HR : Hid (RRow f 4 97 w2 w1.heap.size (.slice (some ⟨g, 0, none⟩) l gc) L) := RRow.of HNL.out ho2
     have hB2 := hB.grown hgr hB.size (fun j hj => by cases hj; exact HOG.out)
     clear ho2 hgr hst hB
     go_wp2_with fail
     go_loopw [7, 33] (fun v kv wr => ∃ k : Nat, k ≤ l ∧ kv = .int .i64 k ∧ wr.ownsRow w1.heap.size 3 1 v (idsP f (L.take k)).length ((idsP f (L.take k)).map (Value.int .i64)) ∧ RRow f 4 97 wr w1.heap.size (.slice (some ⟨g, 0, none⟩) l gc) L ∧ bW w1 wr) (fun _ kv _ => l - (intOf kv).toNat)
     case atStart => exact ⟨0, Nat.zero_le _, rfl, World.ownsRow_nil _ _ _ _, HR.out, hB2⟩
     case round =>
      obtain ⟨k, hk, rfl, hown, hro, hB⟩ := hrel
      clear HR hB2
      have hPl : (idsP f (L.take k)).length = k := by rw [idsP, List.length_map, List.length_take]; have := HNL.out; omega
      by_cases hkl : k < l
      ·have y0 := RRow.cellR hro HNL.out k 0 hkl (by decide)
       have y1 := RRow.cellR hro HNL.out k 1 hkl (by decide)
       have y2 := RRow.cellR hro HNL.out k 2 hkl (by decide)
       have y3 := RRow.cellR hro HNL.out k 3 hkl (by decide)
       simp only [Nat.add_zero] at y0
       have HPS : Hid (idsP f (L.take (k + 1)) = idsP f (L.take k) ++ [f (L.getD k 0 * 4)]) := by
        show _ = _
        have hkL : k < L.length := by rw [← HNL.out]; exact hkl
        rw [List.take_succ_eq_append_getElem hkL, idsP, idsP, List.map_append, List.getD_eq_getElem?_getD, List.getElem?_eq_getElem hkL]
        rfl
       generalize L.getD k 0 = p at *
       generalize f (p * 4) = z at *
       generalize idsP f (L.take k) = P at *
       have HO2 := lh hown
       have HR2 := lh hro
       have hk0i : (0 : Int) ≤ (k : Int) := by omega
       have hkli : (k : Int) < (l : Int) := by omega
       have hPl2 : P.length ≤ 100000000 := by omega
       have hsz := hB.size
       clear hown hro
       go_wp2_with (at_builtin; refine wpList_append_int1 _ rfl _ _ 101 rfl w1.heap.size 3 Tryz.underlying101 infoIntP P z _ rfl ((HO2.out.alloc _).alloc _) _ rfl (by simp) hPl2 (by simp; omega) ?_; intro v' w3 hown3 _ hgrow3)
       go_roundw
       case rel => exact ⟨k + 1, by omega, by go_num, by rw [HPS.out]; exact hown3, ((HR2.out.below ((Below.refl _ _).alloc nL _)).below ((Below.refl _ _).alloc nL _)).grown_other ((HO2.out.alloc _).alloc _) (by decide) hgrow3, below_app ((hB.alloc hB.size _).alloc (by simp; omega) _) ((HO2.out.alloc _).alloc _) hgrow3⟩
       case measure => simp [intOf]; omega
      ·have hkl2 : k = l := by omega
       have hfin : Hid (idsP f (L.take k) = idsP f L) := by show _ = _; rw [List.take_of_length_le (by rw [← HNL.out]; omega)]
       have HO2 := lh hown
       clear hown hro
       have hkli : ¬ ((k : Int) < (l : Int)) := by omega
       clear hkl2
       generalize idsP f (L.take k) = P at *
       go_wp2
       go_ret2
       rw [← hfin.out]
       exact IntsPost.mk_ (ownsRow_monoP HO2.out hB1.size) (below_of hB1 hB hB1.size)
end Go.Proofs.YtpndjhelpoenpaaGreatDoor
namespace Go.Proofs.YtpndjhelpoenpaaGreatDoor
open Go.RowKit
section
variable {P : Program} {md : Region.Mode} {ops : Array Oper} {Q : Exit → Act → World → Prop} {X : World}
theorem wpAnyH_own_append2 {iC iB i2 i3 dC dB d2 d3 j3 : Nat} {fuel : Nat} {listed : Array Bool} {a : Act} {w : World} {t : TypeId} {oC oB : Oper} {ty2 ty3 : TypeId} {p2 p3 : String} {af2 af3 : Array Edge}
  (hoC : ops[iC]? = some oC) (hoB : ops[iB]? = some oB)
  (ho2 : ops[i2]? = some ⟨some d2, .call { callee := .builtin .append, args := #[.tmp dC, .tmp dB], argTypes := #[t, t] }, ty2, p2, af2, none⟩)
  (ho3 : ops[i3]? = some ⟨some d3, .call { callee := .builtin .append, args := #[.tmp d2, .tmp j3], argTypes := #[t, t] }, ty3, p3, af3, none⟩)
  (hgC : oC.guard = none ∧ oC.dst = some dC) (hgB : oB.guard = none ∧ oB.dst = some dB)
  (r0 : Region.ready md ops listed = [iC, iB]) (r1 : Region.ready md ops (listed.setIfInBounds iC true) = [iB]) (r2 : Region.ready md ops (listed.setIfInBounds iB true) = [iC])
  (r5 : Region.ready md ops ((listed.setIfInBounds iC true).setIfInBounds iB true) = [i2])
  (r6 : Region.ready md ops (((listed.setIfInBounds iC true).setIfInBounds iB true).setIfInBounds i2 true) = [i3])
  (hij : iC ≠ iB) (hd : dC ≠ dB ∧ dC ≠ j3 ∧ dB ≠ j3 ∧ d2 ≠ j3) (hsz : dC < a.tmps.size ∧ dB < a.tmps.size ∧ d2 < a.tmps.size)
  (e : TypeId) (k bytes : Nat) (z : Value) (ht : P.underlying t = some (.slice e))
  (hinfo : (P.info? e).map (fun i => (i.zero, i.size, i.bytes)) = some (some z, k, bytes)) (hzk : z.cells.size = k) (hk : 0 < k) (hkb : bytes ≤ 1000)
  (row : List Int) (hrow : row.length = k) (zs1 zs3 : List Int) (n1 n3 c3 : Nat) (A3 : Option Addr)
  (runC : ∀ (a' : Act) (w1 : World) (K : Act → World → Prop), (∀ j, j ≠ dB → Act.eval a' (.tmp j) = a.eval (.tmp j)) → bW X w1 →
   (∀ v1 w2, w2.ownsRow w1.heap.size e k v1 n1 (zs1.map (Value.int .i64)) → bW w1 w2 → K (a'.put (some dC) v1) w2) → oC.wp P a' w1 K Q)
  (runB : ∀ a' w, (∀ j, j ≠ dC → Act.eval a' (.tmp j) = a.eval (.tmp j)) → (execOp (Act.eval a') oB).run P w = .ok (.value (.slice (some ⟨w.heap.size, 0, none⟩) 1 1)) (w.alloc (.cells (row.map (Value.int .i64)).toArray e)))
  (e3 : a.eval (.tmp j3) = .slice A3 n3 c3)
  (hS : bW X w) (hs3 : ∀ w', bW X w' → Src w' k A3 n3 c3 zs3) (hlen : n1 + 1 + n3 ≤ 100000000)
  (h : ∀ u0 uB u2 g c' w', n1 + 1 + n3 ≤ c' → c' ≤ maxLen → X.heap.size ≤ g → w'.ownsRow X.heap.size e k (.slice (some ⟨g, 0, none⟩) (n1 + 1 + n3) c') (n1 + 1 + n3) ((zs1 ++ row ++ zs3).map (Value.int .i64)) → bW X w' →
   wpAnyH P md ops Q (fun w' => bW X w') fuel ((((listed.setIfInBounds iC true).setIfInBounds iB true).setIfInBounds i2 true).setIfInBounds i3 true)
    ((((a.put (some dC) u0).put (some dB) uB).put (some d2) u2).put (some d3) (.slice (some ⟨g, 0, none⟩) (n1 + 1 + n3) c')) w') :
  wpAnyH P md ops Q (fun w' => bW X w') (fuel + 4) listed a w := by
 obtain ⟨hgC, hdC⟩ := hgC
 obtain ⟨hgB, hdB⟩ := hgB
 obtain ⟨qCB, qC3, qB3, q23⟩ := hd
 obtain ⟨zC, zB, z2⟩ := hsz
 have mono : ∀ {w2 : World} {b : Nat} {v1 : Value}, X.heap.size ≤ b → w2.ownsRow b e k v1 n1 (zs1.map (Value.int .i64)) → w2.ownsRow X.heap.size e k v1 n1 (zs1.map (Value.int .i64)) :=
  fun hb h => ⟨h.1, h.2.imp id fun ⟨g, cap, cur, h1, h2, h3⟩ => ⟨g, cap, cur, h1, Nat.le_trans hb h2, h3⟩⟩
 have last : ∀ u1 uB w1, bW X w1 → w1.ownsRow X.heap.size e k u1 n1 (zs1.map (Value.int .i64)) → (∃ b, uB = .slice (some ⟨b, 0, none⟩) 1 1 ∧ ∀ j u, row[j]? = some u → w1.cell? ((⟨b, 0, none⟩ : Addr).add j) = some (.int .i64 u)) →
   wpAnyH P md ops Q (fun w' => bW X w') (fuel + 2) ((listed.setIfInBounds iC true).setIfInBounds iB true) ((a.put (some dC) u1).put (some dB) uB) w1 := by
  intro u1 uB w1 hB1 hown1 ⟨b, hub, hcell⟩
  refine wpAnyH_app (fuel := fuel + 1) ho2 r5 e k bytes z ht hinfo hzk hk hkb zs1 row n1 1 1 u1 (some ⟨b, 0, none⟩) ?_ ?_ hB1 hown1 ⟨by rw [hrow, Nat.one_mul], (by intro h; cases h), fun ad had => by cases had; exact hcell⟩ (by omega) ?_
  ·rw [eval_put_ne _ _ _ _ (Ne.symm qCB), eval_put_eq _ _ _ zC]
  ·rw [eval_put_eq _ _ _ (by rw [size_put]; exact zB), hub]
  ·intro v2 w2 hown2 hB2 _
   refine wpAnyH_app (fuel := fuel) ho3 r6 e k bytes z ht hinfo hzk hk hkb (zs1 ++ row) zs3 (n1 + 1) n3 c3 v2 A3 ?_ ?_ hB2 hown2 (hs3 w2 hB2) hlen ?_
   ·rw [eval_put_eq _ _ _ (by simp only [size_put]; exact z2)]
   ·rw [eval_put_ne _ _ _ _ q23, eval_put_ne _ _ _ _ qB3, eval_put_ne _ _ _ _ qC3, e3]
   ·intro v3 w3 hown3 hB3 _
    have hf := hown3
    rcases hf.2 with ⟨_, h0⟩ | ⟨g, cap, cur, hv, hb, _, hnc, hcm, _⟩
    ·omega
    subst hv
    exact h u1 uB v2 g cap w3 hnc hcm hb hown3 hB3
 refine z98 ?_
 intro row_cells
 refine wpAnyH_ready (fuel := fuel + 3) r0 (by simp) (AllReadyH.cons hoC (fun K hK => ?_) (AllReadyH.cons hoB (fun K hK => ?_) AllReadyH.nil))
 ·rw [if_pos (wanted_plain hgC)]
  refine runC a w K (fun _ _ => rfl) hS (fun v1 w2 hown hb => ?_)
  have hB1 := hS.trans (hb.mono hS.size)
  refine hK.out _ _ hB1 (fun _ => ?_)
  clear hK K
  refine wpAnyH_ready (fuel := fuel + 2) r1 (by simp) (AllReadyH.cons hoB (fun K hK => ?_) AllReadyH.nil)
  rw [if_pos (wanted_plain hgB)]
  refine oper_wp_value (runB _ w2 (fun j hj => eval_put_ne _ _ _ _ (Ne.symm hj))) ?_
  rw [hdB]
  have hBb := hB1.alloc hB1.size (.cells (row.map (Value.int .i64)).toArray e)
  refine hK.out _ _ hBb (fun _ => ?_)
  exact last _ _ _ hBb ((mono hS.size hown).alloc _) ⟨_, rfl, row_cells w2⟩
 ·rw [if_pos (wanted_plain hgB)]
  refine oper_wp_value (runB _ _ (fun j hj => rfl)) ?_
  rw [hdB]
  have hBa := hS.alloc hS.size (.cells (row.map (Value.int .i64)).toArray e)
  refine hK.out _ _ hBa (fun _ => ?_)
  clear hK K
  refine wpAnyH_ready (fuel := fuel + 2) r2 (by simp) (AllReadyH.cons hoC (fun K hK => ?_) AllReadyH.nil)
  rw [if_pos (wanted_plain hgC)]
  refine runC _ _ K (fun j hj => eval_put_ne _ _ _ _ (Ne.symm hj)) hBa (fun v1 w2 hown hb => ?_)
  have hB1 := hBa.trans (hb.mono hBa.size)
  refine hK.out _ _ hB1 (fun _ => ?_)
  rw [put_comm _ _ _ (Ne.symm qCB), listed_comm _ (Ne.symm hij)]
  refine last _ _ _ hB1 (mono hBa.size hown) ⟨_, rfl, fun j u hu => ?_⟩
  have hq := row_cells w j u hu
  rw [Addr.add_lit] at hq ⊢
  rw [hb.cell (p := ⟨w.heap.size, 0 + j, none⟩) (by simp)]
  exact hq
end
end Go.Proofs.YtpndjhelpoenpaaGreatDoor
