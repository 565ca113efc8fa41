/-
  Texts of this claim, merged.
-/
import Derived.WalkKit
import Derived.ProofKit
import Derived.OpenShut
import Derived.ShutString
import Derived.ChangeOld
import Derived.Below
import Derived.Carry
import Derived.Deep.Slices
import Derived.Deep.Draws
import Derived.RegionTactic
import Derived.Deep.RegionWith
import Derived.Deep.RegionHeld3
import Derived.Deep.Quiet
set_option linter.unusedVariables false
set_option linter.unusedSimpArgs false
set_option maxRecDepth 100000
set_option maxHeartbeats 8000000
namespace Go.Proofs.YtpndjhelpoenpaaGreatDoor
open Go.RowKit Go.ChangeShapes Go.WideShapes Go.Deep

/-- A 64-bit integer's range, as inequalities. -/
def I64 (z : Int) : Prop := -9223372036854775808 ≤ z ∧ z ≤ 9223372036854775807
theorem I64.of_wf {z : Int} (h : (Lit.int .i64 z).wf = true) : I64 z := by
  simp [Lit.wf, IntKind.min, IntKind.max, IntKind.signed, IntKind.bits] at h
  exact ⟨by omega, by omega⟩

/-- Type t is an int, or a struct whose cells are all of such types. -/
def flatTy (P : Program) : Nat → TypeId → Bool
  | 0, _ => false
  | m + 1, t => match P.underlying t with
    | some (.int k) => k == .i64
    | some (.struct fs) => (List.range (P.cellsOf t)).all fun j => fs.toList.any fun f => decide (f.offset ≤ j) && decide (j < f.offset + P.cellsOf f.type) && flatTy P m f.type
    | _ => false

section
variable {H : Type} {enc : TypeId × Value → H} {P : Program} {w : World} {base : Nat} {spare : Nat → Bool} {held : Bool}

theorem flat_cells (m : Nat) : ∀ (t : TypeId) (fuel : Nat) (cs : List Value) (x : DataW H × List MemPlace), flatTy P m t = true →
    DataW.trod enc P w base spare held fuel t cs = some x → ∀ (j : Nat) (c : Value), cs[j]? = some c → ∃ z : Int, c = Value.int .i64 z ∧ I64 z := by
  induction m with
  | zero => intro t fuel cs x h; simp [flatTy] at h
  | succ m ih =>
    intro t fuel cs x h hx j c hj
    unfold flatTy at h
    split at h
    · rename_i k hk
      obtain ⟨n, rfl, _, hwf⟩ := DataW.trod_int hk hx
      have hk' : k = .i64 := by simpa using h
      subst hk'
      cases j with
      | zero => simp at hj; exact ⟨n, hj.symm, I64.of_wf hwf⟩
      | succ j => simp at hj
    · rename_i fs hs
      obtain ⟨xs, n, _, _, hlen, hfl, hg⟩ := DataW.trod_struct hs hx
      have hjl : j < cs.length := (List.getElem?_eq_some_iff.1 hj).1
      rw [hlen] at hjl
      have hj2 := (List.all_eq_true.1 h) j (List.mem_range.2 hjl)
      obtain ⟨f, hf, hp⟩ := List.any_eq_true.1 hj2
      simp only [Bool.and_eq_true, decide_eq_true_eq] at hp
      obtain ⟨⟨h1, h2⟩, h3⟩ := hp
      obtain ⟨i, hi, hfi⟩ := List.getElem_of_mem hf
      have hfi' : fs[i]? = some f := by
        rw [← Array.getElem?_toList]
        rw [List.getElem?_eq_getElem hi, hfi]
      have hgi := hg i f hfi'
      have hxl : i < xs.length := by rw [hfl]; simpa using hi
      rw [List.getElem?_eq_getElem hxl] at hgi
      refine ih f.type n _ _ h3 hgi (j - f.offset) c ?_
      rw [List.getElem?_take, if_pos (by omega), List.getElem?_drop, show f.offset + (j - f.offset) = j by omega]
      exact hj
    · cases h

/-- From w to w' only blocks g with lo ≤ g < hi, and new ones, may have been written. -/
structure Fr (lo hi : Nat) (w w' : World) : Prop where
  os : w'.os = w.os
  tape : w'.tape = w.tape
  output : w'.output = w.output
  size : w.heap.size ≤ w'.heap.size
  block : ∀ k, k < w.heap.size → (k < lo ∨ hi ≤ k) → w'.heap[k]? = w.heap[k]?

theorem Fr.refl (lo hi : Nat) (w : World) : Fr lo hi w w := ⟨rfl, rfl, rfl, Nat.le_refl _, fun _ _ _ => rfl⟩
theorem Fr.of_below {w w' : World} (lo hi : Nat) (h : Below w.heap.size w w') : Fr lo hi w w' := ⟨h.os, h.tape, h.output, h.size, fun k hk _ => h.block k hk⟩
theorem Fr.below {lo hi B : Nat} {w w' : World} (h : Fr lo hi w w') (hB : B ≤ lo) (hw : B ≤ w.heap.size) : Below B w w' := ⟨h.os, h.tape, h.output, h.size, fun k hk => h.block k (by omega) (Or.inl (by omega))⟩
theorem Fr.trans {lo hi : Nat} {a b c : World} (h : Fr lo hi a b) (k : Fr lo hi b c) : Fr lo hi a c :=
  ⟨k.os.trans h.os, k.tape.trans h.tape, k.output.trans h.output, Nat.le_trans h.size k.size, fun i hi' hx => (k.block i (Nat.lt_of_lt_of_le hi' h.size) hx).trans (h.block i hi' hx)⟩
theorem Fr.setCell {lo hi : Nat} {a w : World} (h : Fr lo hi a w) {p : Addr} (h1 : lo ≤ p.block) (h2 : p.block < hi) (u : Value) : Fr lo hi a (w.setCell p u) :=
  h.trans ⟨rfl, rfl, rfl, by simp [World.setCell], fun k _ hx => Below.heap_setCell _ _ _ _ (by omega)⟩
theorem below_of {B : Nat} {a b c : World} (h : Below B a b) (k : Below b.heap.size b c) (hB : B ≤ b.heap.size) : Below B a c := h.trans (k.mono hB)
theorem below_drewN {B : Nat} {a w : World} (h : Below B a w) (n : Nat) : Below B a (w.drewN n) := ⟨h.os, h.tape, h.output, h.size, h.block⟩

/-- The slice (A, n), elements of 'size' int cells each, reads as the numbers f (cell by cell); its block g has lo ≤ g < hi. -/
structure Sl (w : World) (lo hi size : Nat) (A : Option Addr) (n : Nat) (f : Nat → Int) : Prop where
  hi_le : hi ≤ w.heap.size
  here : 0 < n → ∃ b off, A = some ⟨b, off, none⟩ ∧ lo ≤ b ∧ b < hi ∧ ∀ j, j < n * size → w.cell? ⟨b, off + j, none⟩ = some (.int .i64 (f j))

theorem Sl.below {w w' : World} {lo hi size n : Nat} {A : Option Addr} {f : Nat → Int} (h : Sl w lo hi size A n f) (hb : Below w.heap.size w w') : Sl w' lo hi size A n f :=
  ⟨Nat.le_trans h.hi_le hb.size, fun hn => by
    obtain ⟨b, off, e, h1, h2, h3⟩ := h.here hn
    exact ⟨b, off, e, h1, h2, fun j hj => (hb.cell (p := ⟨b, off + j, none⟩) (Nat.lt_of_lt_of_le h2 h.hi_le)).trans (h3 j hj)⟩⟩
theorem Sl.fr {w w' : World} {lo hi size n lo' hi' : Nat} {A : Option Addr} {f : Nat → Int} (h : Sl w lo hi size A n f) (hb : Fr lo' hi' w w') (hd : hi ≤ lo' ∨ hi' ≤ lo) : Sl w' lo hi size A n f :=
  ⟨Nat.le_trans h.hi_le hb.size, fun hn => by
    obtain ⟨b, off, e, h1, h2, h3⟩ := h.here hn
    have := h.hi_le
    exact ⟨b, off, e, h1, h2, fun j hj => (World.cell?_of_block (a := ⟨b, off + j, none⟩) (hb.block b (by omega) (by omega))).trans (h3 j hj)⟩⟩
theorem Sl.congr {w : World} {lo hi size n : Nat} {A : Option Addr} {f g : Nat → Int} (h : Sl w lo hi size A n f) (e : ∀ j, j < n * size → f j = g j) : Sl w lo hi size A n g :=
  ⟨h.hi_le, fun hn => by
    obtain ⟨b, off, e1, h1, h2, h3⟩ := h.here hn
    exact ⟨b, off, e1, h1, h2, fun j hj => by rw [h3 j hj, e j hj]⟩⟩
/-- In a round: the block, and every cell in the round's world. -/
theorem Sl.open_ {w wr : World} {lo hi size n : Nat} {A : Option Addr} {f : Nat → Int} (h : Sl w lo hi size A n f) (hb : Below w.heap.size w wr) (hn : 0 < n) :
    ∃ b off, A = some ⟨b, off, none⟩ ∧ b < wr.heap.size ∧ Hid (∀ j, j < n * size → wr.cell? ⟨b, off + j, none⟩ = some (.int .i64 (f j))) := by
  obtain ⟨b, off, e, h1, h2, h3⟩ := (h.below hb).here hn
  exact ⟨b, off, e, Nat.lt_of_lt_of_le h2 (h.below hb).hi_le, h3⟩

theorem Sl.open_at {w wr : World} {lo hi size n b off : Nat} {f : Nat → Int} (h : Sl w lo hi size (some ⟨b, off, none⟩) n f) (hb : Below w.heap.size w wr) (hn : 0 < n) :
    b < wr.heap.size ∧ Hid (∀ j, j < n * size → wr.cell? ⟨b, off + j, none⟩ = some (.int .i64 (f j))) := by
  obtain ⟨b', off', e, h1, h2⟩ := h.open_ hb hn
  simp only [Option.some.injEq, Addr.mk.injEq, and_true] at e
  obtain ⟨rfl, rfl⟩ := e
  exact ⟨h1, h2⟩

/-- An own row: block g from lo on, below hi, element type e, offset 0, not frozen, whose first n * size cells are the numbers f. -/
structure Own (w : World) (lo hi : Nat) (e : TypeId) (size : Nat) (A : Option Addr) (n : Nat) (f : Nat → Int) : Prop where
  hi_le : hi ≤ w.heap.size
  here : 0 < n → ∃ g cur, A = some ⟨g, 0, none⟩ ∧ lo ≤ g ∧ g < hi ∧ w.heap[g]? = some (.cells cur e (0, 0)) ∧ n * size ≤ cur.size ∧ ∀ j, j < n * size → cur[j]? = some (.int .i64 (f j))

theorem Own.sl {w : World} {lo hi size n : Nat} {e : TypeId} {A : Option Addr} {f : Nat → Int} (h : Own w lo hi e size A n f) : Sl w lo hi size A n f :=
  ⟨h.hi_le, fun hn => by
    obtain ⟨g, cur, e1, h1, h2, h3, h4, h5⟩ := h.here hn
    exact ⟨g, 0, e1, h1, h2, fun j hj => by rw [Nat.zero_add, cell_of_row w g j cur e (0, 0) h3]; exact h5 j hj⟩⟩
theorem Own.below {w w' : World} {lo hi size n : Nat} {e : TypeId} {A : Option Addr} {f : Nat → Int} (h : Own w lo hi e size A n f) (hb : Below w.heap.size w w') : Own w' lo hi e size A n f :=
  ⟨Nat.le_trans h.hi_le hb.size, fun hn => by
    obtain ⟨g, cur, e1, h1, h2, h3, h4⟩ := h.here hn
    exact ⟨g, cur, e1, h1, h2, (hb.block g (Nat.lt_of_lt_of_le h2 h.hi_le)).trans h3, h4⟩⟩
theorem Own.fr {w w' : World} {lo hi size n lo' hi' : Nat} {e : TypeId} {A : Option Addr} {f : Nat → Int} (h : Own w lo hi e size A n f) (hb : Fr lo' hi' w w') (hd : hi ≤ lo' ∨ hi' ≤ lo) : Own w' lo hi e size A n f :=
  ⟨Nat.le_trans h.hi_le hb.size, fun hn => by
    obtain ⟨g, cur, e1, h1, h2, h3, h4⟩ := h.here hn
    have := h.hi_le
    exact ⟨g, cur, e1, h1, h2, (hb.block g (by omega) (by omega)).trans h3, h4⟩⟩
theorem Own.congr {w : World} {lo hi size n : Nat} {e : TypeId} {A : Option Addr} {f g : Nat → Int} (h : Own w lo hi e size A n f) (he : ∀ j, j < n * size → f j = g j) : Own w lo hi e size A n g :=
  ⟨h.hi_le, fun hn => by
    obtain ⟨b, cur, e1, h1, h2, h3, h4, h5⟩ := h.here hn
    exact ⟨b, cur, e1, h1, h2, h3, h4, fun j hj => by rw [h5 j hj, he j hj]⟩⟩
theorem Own.none_ {w : World} {lo hi size : Nat} {e : TypeId} {A : Option Addr} {f : Nat → Int} (h : hi ≤ w.heap.size) : Own w lo hi e size A 0 f := ⟨h, fun hn => absurd hn (by omega)⟩
def upd (f : Nat → Int) (i : Nat) (z : Int) : Nat → Int := fun j => if j = i then z else f j
theorem Own.set_ {w : World} {lo hi size n : Nat} {e : TypeId} {g : Nat} {f : Nat → Int} (h : Own w lo hi e size (some ⟨g, 0, none⟩) n f) {i : Nat} (hi' : i < n * size) (z : Int) :
    Own (w.setCell ⟨g, i, none⟩ (.int .i64 z)) lo hi e size (some ⟨g, 0, none⟩) n (upd f i z) := by
  refine ⟨by simpa [World.setCell] using h.hi_le, fun hn => ?_⟩
  obtain ⟨g', cur, e1, h1, h2, h3, h4, h5⟩ := h.here hn
  simp only [Option.some.injEq, Addr.mk.injEq, and_true] at e1
  subst e1
  refine ⟨g, cur.setIfInBounds i (.int .i64 z), rfl, h1, h2, ?_, by simpa using h4, fun j hj => ?_⟩
  · simp [World.setCell, Array.getElem?_modify, h3]
  · rw [Array.getElem?_setIfInBounds]
    unfold upd
    by_cases hij : i = j
    · subst hij
      simp; omega
    · rw [if_neg hij, if_neg (by omega)]
      exact h5 j hj
/-- What a store into cell i of the row wants: it is there, and not frozen. -/
theorem Own.cell_ {w : World} {lo hi size n : Nat} {e : TypeId} {g : Nat} {f : Nat → Int} (h : Own w lo hi e size (some ⟨g, 0, none⟩) n f) {i : Nat} (hi' : i < n * size) :
    w.cell? ⟨g, i, none⟩ = some (.int .i64 (f i)) ∧ w.frozen? ⟨g, i, none⟩ = false ∧ lo ≤ g ∧ g < hi := by
  have hn : 0 < n := by rcases Nat.eq_zero_or_pos n with h0 | h0; · subst h0; simp at hi'
                        · exact h0
  obtain ⟨g', cur, e1, h1, h2, h3, h4, h5⟩ := h.here hn
  simp only [Option.some.injEq, Addr.mk.injEq, and_true] at e1
  subst e1
  exact ⟨by rw [cell_of_row w g i cur e (0, 0) h3]; exact h5 i hi', by simp [World.frozen?, h3], h1, h2⟩
theorem Own.addr {w : World} {lo hi size n : Nat} {e : TypeId} {A : Option Addr} {f : Nat → Int} (h : Own w lo hi e size A n f) (hn : 0 < n) : ∃ g, A = some ⟨g, 0, none⟩ := by
  obtain ⟨g, cur, e1, _⟩ := h.here hn
  exact ⟨g, e1⟩

def marked (k0 : Int) (p : Nat) (f : Nat → Int) : Nat → Int := fun j => if j < p then k0 + j else f j
/-- A row that the call owns (the kit's word), as a slice value and Own. -/
theorem own_of_row {w : World} {base : Nat} {e : TypeId} {size : Nat} {v : Value} {n : Nat} {zs : List Int} (h : w.ownsRow base e size v n (zs.map (Value.int .i64))) :
    ∃ A c, v = .slice A n c ∧ n ≤ c ∧ c ≤ maxLen ∧ Own w base w.heap.size e size A n (fun j => zs.getD j 0) := by
  obtain ⟨hl, hr⟩ := h
  have hl' : zs.length = n * size := by simpa using hl
  rcases hr with ⟨rfl, rfl⟩ | ⟨g, cap, cur, rfl, hb, hg, hnc, hcm, hcs, htake⟩
  · exact ⟨none, 0, rfl, Nat.le_refl _, by unfold maxLen; omega, Own.none_ (Nat.le_refl _)⟩
  · refine ⟨_, cap, rfl, hnc, hcm, Nat.le_refl _, fun hn => ⟨g, cur, rfl, hb, (Array.getElem?_eq_some_iff.1 hg).1, hg, by rw [hcs]; exact Nat.mul_le_mul_right _ hnc, fun j hj => ?_⟩⟩
    have h1 : (zs.map (Value.int .i64))[j]? = some (.int .i64 (zs.getD j 0)) := by
      rw [List.getElem?_map, List.getElem?_eq_getElem (by omega)]
      simp [List.getD, show j < zs.length by omega]
    rw [← htake, List.getElem?_take, if_pos hj] at h1
    simpa using h1

/-- A block that is being filled: its first p cells are the numbers f, it has m cells. -/
def Fill (w : World) (g : Nat) (e : TypeId) (m p : Nat) (f : Nat → Int) : Prop :=
  ∃ cur : Array Value, w.heap[g]? = some (.cells cur e (0, 0)) ∧ cur.size = m ∧ ∀ j, j < p → cur[j]? = some (.int .i64 (f j))
theorem fill_of_row {w : World} {base size g n : Nat} {e : TypeId} {xs : List Value} {f : Nat → Int} (h : w.ownsRow base e size (.slice (some ⟨g, 0, none⟩) n n) n xs) : Fill w g e (n * size) 0 f := by
  rcases h.2 with ⟨h1, _⟩ | ⟨g', cap, cur, hv, _, hh, _, _, hcs, _⟩
  · cases h1
  · simp only [Value.slice.injEq, Option.some.injEq, Addr.mk.injEq, and_true, true_and] at hv
    obtain ⟨rfl, rfl⟩ := hv
    exact ⟨cur, hh, hcs, fun j hj => absurd hj (by omega)⟩
theorem Fill.lt {w : World} {g m p : Nat} {e : TypeId} {f : Nat → Int} (h : Fill w g e m p f) : g < w.heap.size := by
  obtain ⟨cur, h1, _⟩ := h
  exact (Array.getElem?_eq_some_iff.1 h1).1
theorem Fill.cell_ {w : World} {g m p : Nat} {e : TypeId} {f : Nat → Int} (h : Fill w g e m p f) {i : Nat} (hi : i < m) : (∃ v, w.cell? ⟨g, i, none⟩ = some v) ∧ w.frozen? ⟨g, i, none⟩ = false := by
  obtain ⟨cur, h1, h2, _⟩ := h
  exact ⟨⟨cur[i]'(by omega), by rw [cell_of_row w g i cur e (0, 0) h1]; exact Array.getElem?_eq_getElem (by omega)⟩, by simp [World.frozen?, h1]⟩
theorem Fill.below {w w' : World} {g m p B : Nat} {e : TypeId} {f : Nat → Int} (h : Fill w g e m p f) (hb : Below B w w') (hg : g < B) : Fill w' g e m p f := by
  obtain ⟨cur, h1, h2⟩ := h
  exact ⟨cur, (hb.block g hg).trans h1, h2⟩
theorem Fill.push {w : World} {g m p : Nat} {e : TypeId} {f : Nat → Int} (h : Fill w g e m p f) (hp : p < m) {z : Int} (hz : z = f p) : Fill (w.setCell ⟨g, p, none⟩ (.int .i64 z)) g e m (p + 1) f := by
  obtain ⟨cur, h1, h2, h3⟩ := h
  subst hz
  refine ⟨cur.setIfInBounds p (.int .i64 (f p)), by simp [World.setCell, Array.getElem?_modify, h1], by simpa using h2, fun j hj => ?_⟩
  rw [Array.getElem?_setIfInBounds]
  by_cases hpj : p = j
  · subst hpj; simp; omega
  · rw [if_neg hpj]; exact h3 j (by omega)
theorem Fill.own {w : World} {g n size : Nat} {e : TypeId} {f : Nat → Int} (h : Fill w g e (n * size) (n * size) f) : Own w g (g + 1) e size (some ⟨g, 0, none⟩) n f := by
  have hlt := h.lt
  obtain ⟨cur, h1, h2, h3⟩ := h
  exact ⟨by omega, fun _ => ⟨g, cur, rfl, Nat.le_refl _, by omega, h1, by omega, h3⟩⟩

theorem cell4 {wr : World} {b off n : Nat} {f : Nat → Int} (H : Hid (∀ j, j < n * 4 → wr.cell? ⟨b, off + j, none⟩ = some (.int .i64 (f j)))) {k : Nat} (hk : k < n) :
    wr.cell? ⟨b, off + k * 4, none⟩ = some (.int .i64 (f (k * 4))) ∧ wr.cell? ⟨b, off + k * 4 + 1, none⟩ = some (.int .i64 (f (k * 4 + 1))) ∧ wr.cell? ⟨b, off + k * 4 + 2, none⟩ = some (.int .i64 (f (k * 4 + 2))) ∧ wr.cell? ⟨b, off + k * 4 + 3, none⟩ = some (.int .i64 (f (k * 4 + 3))) := by
  simp only [Nat.add_assoc]
  exact ⟨H.out _ (by omega), H.out _ (by omega), H.out _ (by omega), H.out _ (by omega)⟩
end
end Go.Proofs.YtpndjhelpoenpaaGreatDoor
namespace Go.Proofs.YtpndjhelpoenpaaGreatDoor
open Go.RowKit
theorem p1 {α : Type} {xs : List α} {i : Nat} {x : α} : xs.toArray.setIfInBounds i x = (xs.set i x).toArray := List.setIfInBounds_toArray ..
theorem p2 {α : Type} {x : α} {xs : List α} {a : α} : (x :: xs).set 0 a = a :: xs := List.set_cons_zero
theorem p3 {α : Type} {x : α} {xs : List α} {i : Nat} {a : α} : (x :: xs).set (i + 1) a = x :: xs.set i a := List.set_cons_succ
theorem tk {P : Program} {md : Region.Mode} {ops : Array Oper} {Q : Exit → Act → World → Prop} {S F : World → Prop} (i d : Nat) {op : Op} {ty : TypeId} {pos : String} {af : Array Edge} {gd : Option (Nat × Bool)} {v : Value} {fuel : Nat} {listed : Array Bool} {a : Act} {w : World}
    (HF : Hid (∀ w, S w → F w)) (hi : ops[i]? = some ⟨some d, op, ty, pos, af, gd⟩) (hy : ∀ w, S w → F w → (execOp a.eval ⟨some d, op, ty, pos, af, gd⟩).run P w = .ok (.value v) w) (hS : S w)
    (h : wpAnyH P md ops Q S fuel (listed.setIfInBounds i true) (a.put (some d) v) w) (hs : Region.noSelect ops = true := by kernel_rfl) (hf : Region.free md ops listed i = true := by kernel_rfl) (hr : (Region.ready md ops listed).contains i = true := by kernel_rfl)
    (hQ : ∀ c a w, Q (.panic c) (a.put (some d) v) w → Q (.panic c) a w := by exact fun _ _ _ h => h) (hwant : Region.wanted ⟨some d, op, ty, pos, af, gd⟩ (yielded ops a.tmps) = true := by rfl) : wpAnyH P md ops Q S (fuel + 1) listed a w :=
  wpAnyH_take hi hs hf hr hQ (Or.inl ⟨hwant, fun w hw => hy w hw (HF.out w hw)⟩) hS h
theorem tq {P : Program} {ops : Array Oper} {C F : World → Prop} {Q : Act → Prop} (d : Nat) {op : Op} {ty : TypeId} {pos : String} {af : Array Edge} {gd : Option (Nat × Bool)} {v : Value} {a : Act} {rest : List Oper}
    (HF : Hid (∀ w, C w → F w)) (hy : ∀ w, C w → F w → (execOp a.eval ⟨some d, op, ty, pos, af, gd⟩).run P w = .ok (.value v) w) (h : wpQuiet P ops C Q rest (a.put (some d) v))
    (hw : Region.wanted ⟨some d, op, ty, pos, af, gd⟩ (yielded ops a.tmps) = true := by rfl) : wpQuiet P ops C Q (⟨some d, op, ty, pos, af, gd⟩ :: rest) a := by
  refine wpQuiet_step fun K hK => ?_
  rw [if_pos hw]
  refine ⟨v, fun w hC => ?_, hK _ h⟩
  unfold Oper.quietAt
  rw [hy w hC (HF.out w hC)]
  exact ⟨rfl, rfl⟩
theorem cells2 {w : World} {g : Nat} {a b : Value} {T : TypeId} (h : w.heap[g]? = some (.cells #[a, b] T (0, 0))) : w.cell? ⟨g, 0, none⟩ = some a ∧ w.cell? ⟨g, 1, none⟩ = some b :=
  ⟨by rw [cell_of_row w g 0 _ _ (0, 0) h]; rfl, by rw [cell_of_row w g 1 _ _ (0, 0) h]; rfl⟩
theorem cells3 {w : World} {g : Nat} {a b c : Value} {T : TypeId} (h : w.heap[g]? = some (.cells #[a, b, c] T (0, 0))) : w.cell? ⟨g, 0, none⟩ = some a ∧ w.cell? ⟨g, 1, none⟩ = some b ∧ w.cell? ⟨g, 2, none⟩ = some c :=
  ⟨by rw [cell_of_row w g 0 _ _ (0, 0) h]; rfl, by rw [cell_of_row w g 1 _ _ (0, 0) h]; rfl, by rw [cell_of_row w g 2 _ _ (0, 0) h]; rfl⟩
theorem cells4 {w : World} {g : Nat} {a b c d : Value} {T : TypeId} (h : w.heap[g]? = some (.cells #[a, b, c, d] T (0, 0))) : w.cell? ⟨g, 0, none⟩ = some a ∧ w.cell? ⟨g, 1, none⟩ = some b ∧ w.cell? ⟨g, 2, none⟩ = some c ∧ w.cell? ⟨g, 3, none⟩ = some d :=
  ⟨by rw [cell_of_row w g 0 _ _ (0, 0) h]; rfl, by rw [cell_of_row w g 1 _ _ (0, 0) h]; rfl, by rw [cell_of_row w g 2 _ _ (0, 0) h]; rfl, by rw [cell_of_row w g 3 _ _ (0, 0) h]; rfl⟩
theorem cells5 {w : World} {g : Nat} {a b c d e : Value} {T : TypeId} (h : w.heap[g]? = some (.cells #[a, b, c, d, e] T (0, 0))) : w.cell? ⟨g, 0, none⟩ = some a ∧ w.cell? ⟨g, 1, none⟩ = some b ∧ w.cell? ⟨g, 2, none⟩ = some c ∧ w.cell? ⟨g, 3, none⟩ = some d ∧ w.cell? ⟨g, 4, none⟩ = some e :=
  ⟨by rw [cell_of_row w g 0 _ _ (0, 0) h]; rfl, by rw [cell_of_row w g 1 _ _ (0, 0) h]; rfl, by rw [cell_of_row w g 2 _ _ (0, 0) h]; rfl, by rw [cell_of_row w g 3 _ _ (0, 0) h]; rfl, by rw [cell_of_row w g 4 _ _ (0, 0) h]; rfl⟩
theorem tj {P : Program} {md : Region.Mode} {ops : Array Oper} {Q : Exit → Act → World → Prop} {S F : World → Prop} (i d : Nat) {op : Op} {ty : TypeId} {pos : String} {af : Array Edge} {gd : Option (Nat × Bool)} {v : Value} {fuel : Nat} {listed : Array Bool} {a b : Act} {w : World}
    (HF : Hid (∀ w, S w → F w)) (hi : ops[i]? = some ⟨some d, op, ty, pos, af, gd⟩) (hS : S w)
    (h : wpAnyH P md ops Q S fuel (listed.setIfInBounds i true) b w) (hy : ∀ w, S w → F w → (execOp a.eval ⟨some d, op, ty, pos, af, gd⟩).run P w = .ok (.value v) w := by intro _ _ _; go_simp; try with_reducible rfl) (hp : a.put (some d) v = b := by simp only [Act.put, p1, p2, p3]; try rfl) (hs : Region.noSelect ops = true := by kernel_rfl) (hf : Region.free md ops listed i = true := by kernel_rfl) (hr : (Region.ready md ops listed).contains i = true := by kernel_rfl)
    (hQ : ∀ c a w, Q (.panic c) (a.put (some d) v) w → Q (.panic c) a w := by exact fun _ _ _ h => h) (hwant : Region.wanted ⟨some d, op, ty, pos, af, gd⟩ (yielded ops a.tmps) = true := by rfl) : wpAnyH P md ops Q S (fuel + 1) listed a w :=
  wpAnyH_take hi hs hf hr hQ (Or.inl ⟨hwant, fun w hw => hy w hw (HF.out w hw)⟩) hS (hp ▸ h)
theorem tr {P : Program} {ops : Array Oper} {C F : World → Prop} {Q : Act → Prop} (d : Nat) {op : Op} {ty : TypeId} {pos : String} {af : Array Edge} {gd : Option (Nat × Bool)} {v : Value} {a b : Act} {rest : List Oper}
    (HF : Hid (∀ w, C w → F w)) (h : wpQuiet P ops C Q rest b) (hy : ∀ w, C w → F w → (execOp a.eval ⟨some d, op, ty, pos, af, gd⟩).run P w = .ok (.value v) w := by intro _ _ _; go_simp; try with_reducible rfl) (hp : a.put (some d) v = b := by simp only [Act.put, p1, p2, p3]; try rfl)
    (hw : Region.wanted ⟨some d, op, ty, pos, af, gd⟩ (yielded ops a.tmps) = true := by rfl) : wpQuiet P ops C Q (⟨some d, op, ty, pos, af, gd⟩ :: rest) a := by
  subst hp
  refine wpQuiet_step fun K hK => ?_
  rw [if_pos hw]
  refine ⟨v, fun w hC => ?_, hK _ h⟩
  unfold Oper.quietAt
  rw [hy w hC (HF.out w hC)]
  exact ⟨rfl, rfl⟩
theorem tj2 {P : Program} {md : Region.Mode} {ops : Array Oper} {Q : Exit → Act → World → Prop} {S F : World → Prop} (i0 d0 i1 d1 : Nat) {o0 o1 : Op} {t0 t1 : TypeId} {s0 s1 : String} {f0 f1 : Array Edge} {g0 g1 : Option (Nat × Bool)} {v0 v1 : Value} {fuel : Nat} {listed : Array Bool} {a b0 b1 : Act} {w : World} (HF : Hid (∀ w, S w → F w)) (hS : S w) (h : wpAnyH P md ops Q S fuel ((listed.setIfInBounds i0 true).setIfInBounds i1 true) b1 w)
 (hi0 : ops[i0]? = some ⟨some d0, o0, t0, s0, f0, g0⟩ := by rfl) (hy0 : ∀ w, S w → F w → (execOp a.eval ⟨some d0, o0, t0, s0, f0, g0⟩).run P w = .ok (.value v0) w := by intro _ _ _; go_simp; try with_reducible rfl) (hp0 : a.put (some d0) v0 = b0 := by simp only [Act.put, p1, p2, p3]; try rfl)
 (hi1 : ops[i1]? = some ⟨some d1, o1, t1, s1, f1, g1⟩ := by rfl) (hy1 : ∀ w, S w → F w → (execOp b0.eval ⟨some d1, o1, t1, s1, f1, g1⟩).run P w = .ok (.value v1) w := by intro _ _ _; go_simp; try with_reducible rfl) (hp1 : b0.put (some d1) v1 = b1 := by simp only [Act.put, p1, p2, p3]; try rfl)
 (hs : Region.noSelect ops = true := by kernel_rfl) (hf0 : Region.free md ops listed i0 = true := by kernel_rfl) (hr0 : (Region.ready md ops listed).contains i0 = true := by kernel_rfl) (hQ0 : ∀ c x w, Q (.panic c) (x.put (some d0) v0) w → Q (.panic c) x w := by exact fun _ _ _ h => h) (hw0 : Region.wanted ⟨some d0, o0, t0, s0, f0, g0⟩ (yielded ops a.tmps) = true := by rfl) (hf1 : Region.free md ops (listed.setIfInBounds i0 true) i1 = true := by kernel_rfl) (hr1 : (Region.ready md ops (listed.setIfInBounds i0 true)).contains i1 = true := by kernel_rfl) (hQ1 : ∀ c x w, Q (.panic c) (x.put (some d1) v1) w → Q (.panic c) x w := by exact fun _ _ _ h => h) (hw1 : Region.wanted ⟨some d1, o1, t1, s1, f1, g1⟩ (yielded ops b0.tmps) = true := by rfl) : wpAnyH P md ops Q S (fuel + 1 + 1) listed a w :=
 tj i0 d0 HF hi0 hS (tj i1 d1 HF hi1 hS h hy1 hp1 hs hf1 hr1 hQ1 hw1) hy0 hp0 hs hf0 hr0 hQ0 hw0
theorem tj3 {P : Program} {md : Region.Mode} {ops : Array Oper} {Q : Exit → Act → World → Prop} {S F : World → Prop} (i0 d0 i1 d1 i2 d2 : Nat) {o0 o1 o2 : Op} {t0 t1 t2 : TypeId} {s0 s1 s2 : String} {f0 f1 f2 : Array Edge} {g0 g1 g2 : Option (Nat × Bool)} {v0 v1 v2 : Value} {fuel : Nat} {listed : Array Bool} {a b0 b1 b2 : Act} {w : World} (HF : Hid (∀ w, S w → F w)) (hS : S w) (h : wpAnyH P md ops Q S fuel (((listed.setIfInBounds i0 true).setIfInBounds i1 true).setIfInBounds i2 true) b2 w)
 (hi0 : ops[i0]? = some ⟨some d0, o0, t0, s0, f0, g0⟩ := by rfl) (hy0 : ∀ w, S w → F w → (execOp a.eval ⟨some d0, o0, t0, s0, f0, g0⟩).run P w = .ok (.value v0) w := by intro _ _ _; go_simp; try with_reducible rfl) (hp0 : a.put (some d0) v0 = b0 := by simp only [Act.put, p1, p2, p3]; try rfl)
 (hi1 : ops[i1]? = some ⟨some d1, o1, t1, s1, f1, g1⟩ := by rfl) (hy1 : ∀ w, S w → F w → (execOp b0.eval ⟨some d1, o1, t1, s1, f1, g1⟩).run P w = .ok (.value v1) w := by intro _ _ _; go_simp; try with_reducible rfl) (hp1 : b0.put (some d1) v1 = b1 := by simp only [Act.put, p1, p2, p3]; try rfl)
 (hi2 : ops[i2]? = some ⟨some d2, o2, t2, s2, f2, g2⟩ := by rfl) (hy2 : ∀ w, S w → F w → (execOp b1.eval ⟨some d2, o2, t2, s2, f2, g2⟩).run P w = .ok (.value v2) w := by intro _ _ _; go_simp; try with_reducible rfl) (hp2 : b1.put (some d2) v2 = b2 := by simp only [Act.put, p1, p2, p3]; try rfl)
 (hs : Region.noSelect ops = true := by kernel_rfl) (hf0 : Region.free md ops listed i0 = true := by kernel_rfl) (hr0 : (Region.ready md ops listed).contains i0 = true := by kernel_rfl) (hQ0 : ∀ c x w, Q (.panic c) (x.put (some d0) v0) w → Q (.panic c) x w := by exact fun _ _ _ h => h) (hw0 : Region.wanted ⟨some d0, o0, t0, s0, f0, g0⟩ (yielded ops a.tmps) = true := by rfl) (hf1 : Region.free md ops (listed.setIfInBounds i0 true) i1 = true := by kernel_rfl) (hr1 : (Region.ready md ops (listed.setIfInBounds i0 true)).contains i1 = true := by kernel_rfl) (hQ1 : ∀ c x w, Q (.panic c) (x.put (some d1) v1) w → Q (.panic c) x w := by exact fun _ _ _ h => h) (hw1 : Region.wanted ⟨some d1, o1, t1, s1, f1, g1⟩ (yielded ops b0.tmps) = true := by rfl) (hf2 : Region.free md ops ((listed.setIfInBounds i0 true).setIfInBounds i1 true) i2 = true := by kernel_rfl) (hr2 : (Region.ready md ops ((listed.setIfInBounds i0 true).setIfInBounds i1 true)).contains i2 = true := by kernel_rfl) (hQ2 : ∀ c x w, Q (.panic c) (x.put (some d2) v2) w → Q (.panic c) x w := by exact fun _ _ _ h => h) (hw2 : Region.wanted ⟨some d2, o2, t2, s2, f2, g2⟩ (yielded ops b1.tmps) = true := by rfl) : wpAnyH P md ops Q S (fuel + 1 + 1 + 1) listed a w :=
 tj i0 d0 HF hi0 hS (tj i1 d1 HF hi1 hS (tj i2 d2 HF hi2 hS h hy2 hp2 hs hf2 hr2 hQ2 hw2) hy1 hp1 hs hf1 hr1 hQ1 hw1) hy0 hp0 hs hf0 hr0 hQ0 hw0
theorem tj4 {P : Program} {md : Region.Mode} {ops : Array Oper} {Q : Exit → Act → World → Prop} {S F : World → Prop} (i0 d0 i1 d1 i2 d2 i3 d3 : Nat) {o0 o1 o2 o3 : Op} {t0 t1 t2 t3 : TypeId} {s0 s1 s2 s3 : String} {f0 f1 f2 f3 : Array Edge} {g0 g1 g2 g3 : Option (Nat × Bool)} {v0 v1 v2 v3 : Value} {fuel : Nat} {listed : Array Bool} {a b0 b1 b2 b3 : Act} {w : World} (HF : Hid (∀ w, S w → F w)) (hS : S w) (h : wpAnyH P md ops Q S fuel ((((listed.setIfInBounds i0 true).setIfInBounds i1 true).setIfInBounds i2 true).setIfInBounds i3 true) b3 w)
 (hi0 : ops[i0]? = some ⟨some d0, o0, t0, s0, f0, g0⟩ := by rfl) (hy0 : ∀ w, S w → F w → (execOp a.eval ⟨some d0, o0, t0, s0, f0, g0⟩).run P w = .ok (.value v0) w := by intro _ _ _; go_simp; try with_reducible rfl) (hp0 : a.put (some d0) v0 = b0 := by simp only [Act.put, p1, p2, p3]; try rfl)
 (hi1 : ops[i1]? = some ⟨some d1, o1, t1, s1, f1, g1⟩ := by rfl) (hy1 : ∀ w, S w → F w → (execOp b0.eval ⟨some d1, o1, t1, s1, f1, g1⟩).run P w = .ok (.value v1) w := by intro _ _ _; go_simp; try with_reducible rfl) (hp1 : b0.put (some d1) v1 = b1 := by simp only [Act.put, p1, p2, p3]; try rfl)
 (hi2 : ops[i2]? = some ⟨some d2, o2, t2, s2, f2, g2⟩ := by rfl) (hy2 : ∀ w, S w → F w → (execOp b1.eval ⟨some d2, o2, t2, s2, f2, g2⟩).run P w = .ok (.value v2) w := by intro _ _ _; go_simp; try with_reducible rfl) (hp2 : b1.put (some d2) v2 = b2 := by simp only [Act.put, p1, p2, p3]; try rfl)
 (hi3 : ops[i3]? = some ⟨some d3, o3, t3, s3, f3, g3⟩ := by rfl) (hy3 : ∀ w, S w → F w → (execOp b2.eval ⟨some d3, o3, t3, s3, f3, g3⟩).run P w = .ok (.value v3) w := by intro _ _ _; go_simp; try with_reducible rfl) (hp3 : b2.put (some d3) v3 = b3 := by simp only [Act.put, p1, p2, p3]; try rfl)
 (hs : Region.noSelect ops = true := by kernel_rfl) (hf0 : Region.free md ops listed i0 = true := by kernel_rfl) (hr0 : (Region.ready md ops listed).contains i0 = true := by kernel_rfl) (hQ0 : ∀ c x w, Q (.panic c) (x.put (some d0) v0) w → Q (.panic c) x w := by exact fun _ _ _ h => h) (hw0 : Region.wanted ⟨some d0, o0, t0, s0, f0, g0⟩ (yielded ops a.tmps) = true := by rfl) (hf1 : Region.free md ops (listed.setIfInBounds i0 true) i1 = true := by kernel_rfl) (hr1 : (Region.ready md ops (listed.setIfInBounds i0 true)).contains i1 = true := by kernel_rfl) (hQ1 : ∀ c x w, Q (.panic c) (x.put (some d1) v1) w → Q (.panic c) x w := by exact fun _ _ _ h => h) (hw1 : Region.wanted ⟨some d1, o1, t1, s1, f1, g1⟩ (yielded ops b0.tmps) = true := by rfl) (hf2 : Region.free md ops ((listed.setIfInBounds i0 true).setIfInBounds i1 true) i2 = true := by kernel_rfl) (hr2 : (Region.ready md ops ((listed.setIfInBounds i0 true).setIfInBounds i1 true)).contains i2 = true := by kernel_rfl) (hQ2 : ∀ c x w, Q (.panic c) (x.put (some d2) v2) w → Q (.panic c) x w := by exact fun _ _ _ h => h) (hw2 : Region.wanted ⟨some d2, o2, t2, s2, f2, g2⟩ (yielded ops b1.tmps) = true := by rfl) (hf3 : Region.free md ops (((listed.setIfInBounds i0 true).setIfInBounds i1 true).setIfInBounds i2 true) i3 = true := by kernel_rfl) (hr3 : (Region.ready md ops (((listed.setIfInBounds i0 true).setIfInBounds i1 true).setIfInBounds i2 true)).contains i3 = true := by kernel_rfl) (hQ3 : ∀ c x w, Q (.panic c) (x.put (some d3) v3) w → Q (.panic c) x w := by exact fun _ _ _ h => h) (hw3 : Region.wanted ⟨some d3, o3, t3, s3, f3, g3⟩ (yielded ops b2.tmps) = true := by rfl) : wpAnyH P md ops Q S (fuel + 1 + 1 + 1 + 1) listed a w :=
 tj i0 d0 HF hi0 hS (tj i1 d1 HF hi1 hS (tj i2 d2 HF hi2 hS (tj i3 d3 HF hi3 hS h hy3 hp3 hs hf3 hr3 hQ3 hw3) hy2 hp2 hs hf2 hr2 hQ2 hw2) hy1 hp1 hs hf1 hr1 hQ1 hw1) hy0 hp0 hs hf0 hr0 hQ0 hw0
theorem cells6 {w : World} {g : Nat} {a b c d e f : Value} {T : TypeId} (h : w.heap[g]? = some (.cells #[a, b, c, d, e, f] T (0, 0))) : w.cell? ⟨g, 0, none⟩ = some a ∧ w.cell? ⟨g, 1, none⟩ = some b ∧ w.cell? ⟨g, 2, none⟩ = some c ∧ w.cell? ⟨g, 3, none⟩ = some d ∧ w.cell? ⟨g, 4, none⟩ = some e ∧ w.cell? ⟨g, 5, none⟩ = some f :=
  ⟨by rw [cell_of_row w g 0 _ _ (0, 0) h]; rfl, by rw [cell_of_row w g 1 _ _ (0, 0) h]; rfl, by rw [cell_of_row w g 2 _ _ (0, 0) h]; rfl, by rw [cell_of_row w g 3 _ _ (0, 0) h]; rfl, by rw [cell_of_row w g 4 _ _ (0, 0) h]; rfl, by rw [cell_of_row w g 5 _ _ (0, 0) h]; rfl⟩
theorem cells7 {w : World} {g : Nat} {a b c d e f g1 : Value} {T : TypeId} (h : w.heap[g]? = some (.cells #[a, b, c, d, e, f, g1] T (0, 0))) : w.cell? ⟨g, 0, none⟩ = some a ∧ w.cell? ⟨g, 1, none⟩ = some b ∧ w.cell? ⟨g, 2, none⟩ = some c ∧ w.cell? ⟨g, 3, none⟩ = some d ∧ w.cell? ⟨g, 4, none⟩ = some e ∧ w.cell? ⟨g, 5, none⟩ = some f ∧ w.cell? ⟨g, 6, none⟩ = some g1 :=
  ⟨by rw [cell_of_row w g 0 _ _ (0, 0) h]; rfl, by rw [cell_of_row w g 1 _ _ (0, 0) h]; rfl, by rw [cell_of_row w g 2 _ _ (0, 0) h]; rfl, by rw [cell_of_row w g 3 _ _ (0, 0) h]; rfl, by rw [cell_of_row w g 4 _ _ (0, 0) h]; rfl, by rw [cell_of_row w g 5 _ _ (0, 0) h]; rfl, by rw [cell_of_row w g 6 _ _ (0, 0) h]; rfl⟩
theorem cells8 {w : World} {g : Nat} {a b c d e f g1 h1 : Value} {T : TypeId} (h : w.heap[g]? = some (.cells #[a, b, c, d, e, f, g1, h1] T (0, 0))) : w.cell? ⟨g, 0, none⟩ = some a ∧ w.cell? ⟨g, 1, none⟩ = some b ∧ w.cell? ⟨g, 2, none⟩ = some c ∧ w.cell? ⟨g, 3, none⟩ = some d ∧ w.cell? ⟨g, 4, none⟩ = some e ∧ w.cell? ⟨g, 5, none⟩ = some f ∧ w.cell? ⟨g, 6, none⟩ = some g1 ∧ w.cell? ⟨g, 7, none⟩ = some h1 :=
  ⟨by rw [cell_of_row w g 0 _ _ (0, 0) h]; rfl, by rw [cell_of_row w g 1 _ _ (0, 0) h]; rfl, by rw [cell_of_row w g 2 _ _ (0, 0) h]; rfl, by rw [cell_of_row w g 3 _ _ (0, 0) h]; rfl, by rw [cell_of_row w g 4 _ _ (0, 0) h]; rfl, by rw [cell_of_row w g 5 _ _ (0, 0) h]; rfl, by rw [cell_of_row w g 6 _ _ (0, 0) h]; rfl, by rw [cell_of_row w g 7 _ _ (0, 0) h]; rfl⟩
theorem lh {p : Prop} (h : p) : Hid p := h
theorem ret_bool {a b : Bool} (h : a = b) : Ending.returned (.bool a) = Ending.returned (.bool b) := by rw [h]
theorem ret_int {k : IntKind} {a b : Int} (h : a = b) : Ending.returned (.int k a) = Ending.returned (.int k b) := by rw [h]
def allTo (p : Nat → Bool) : Nat → Bool
  | 0 => true
  | k + 1 => allTo p k && p k
theorem allTo_false {p : Nat → Bool} {k n : Nat} (hk : k < n) (h : p k = false) : allTo p n = false := by
  induction n with
  | zero => omega
  | succ n ih =>
    unfold allTo
    by_cases e : k = n
    · subst e; simp [h]
    · rw [ih (by omega)]; rfl
theorem allTo_at {p : Nat → Bool} {k n : Nat} (hk : k < n) (h : allTo p n = true) : p k = true := by
  cases hp : p k with
  | true => rfl
  | false => rw [allTo_false hk hp] at h; cases h
theorem allTo_succ {p : Nat → Bool} {k : Nat} (h : allTo p k = true) (hp : p k = true) : allTo p (k + 1) = true := by simp [allTo, h, hp]
/-- The first of the greatest among the first k, by the test 'lt'. -/
def bestBy (lt : Nat → Nat → Bool) : Nat → Nat
  | 0 => 0
  | k + 1 => if lt (bestBy lt k) k then k else bestBy lt k
def inR (n lo hi : Int) : Bool := decide (lo ≤ n ∧ n ≤ hi)
/-- Of the first k, those that t takes, each as g has it. -/
def pick (t : Nat → Bool) (g : Nat → Int) : Nat → List Int
  | 0 => []
  | k + 1 => if t k then pick t g k ++ [g k] else pick t g k
end Go.Proofs.YtpndjhelpoenpaaGreatDoor
namespace Go.Proofs.YtpndjhelpoenpaaGreatDoor
/-! A region whose own operations only read: one walk in the text's order, from every world of a class (the kit's Deep/Quiet), step by step. -/
theorem wp_region_class {P : Program} {id : Nat} {Q : Exit → Act → World → Prop} {a : Act} {w : World} {l : List Oper} {C : World → Prop} (hm : P.follows .mixedOrders = true) (hB : Region.lexB .any l.toArray = true) (hC : C w.drew)
  (h : wpQuiet P l.toArray C (fun a' => ∀ w', C w' → Q .normal a' w') l a) : (Code.region id l.toArray true).wp P Q a w :=
 wp_region_quiet (C := C) hm hB hC (by simpa using h)
section
variable {P : Program} {ops : Array Oper} {C : World → Prop} {Q : Act → Prop} {d : Nat} {op : Op} {ty : TypeId} {pos : String} {af : Array Edge} {gd : Option (Nat × Bool)} {v : Value} {a : Act} {rest : List Oper}
theorem wpQuiet_take (hw : Region.wanted ⟨some d, op, ty, pos, af, gd⟩ (yielded ops a.tmps) = true)
  (hy : ∀ w, C w → (execOp a.eval ⟨some d, op, ty, pos, af, gd⟩).run P w = .ok (.value v) w) (h : wpQuiet P ops C Q rest (a.put (some d) v)) : wpQuiet P ops C Q (⟨some d, op, ty, pos, af, gd⟩ :: rest) a := by
 refine wpQuiet_step fun K hK => ?_
 rw [if_pos hw]
 refine ⟨v, fun w hC => ?_, hK _ h⟩
 unfold Oper.quietAt
 rw [hy w hC]
 exact ⟨rfl, rfl⟩
theorem wpQuiet_meet (f : FuncId) (args : Array Value) (hw : Region.wanted ⟨some d, op, ty, pos, af, gd⟩ (yielded ops a.tmps) = true)
  (he : ∀ w, C w → (execOp a.eval ⟨some d, op, ty, pos, af, gd⟩).run P w = .ok (.enter f args) w) (hy : ∀ w, C w → Calls P f args w fun e w' => e = .returned v ∧ C w')
  (h : wpQuiet P ops C Q rest (a.put (some d) v)) : wpQuiet P ops C Q (⟨some d, op, ty, pos, af, gd⟩ :: rest) a := by
 refine wpQuiet_step fun K hK => ?_
 rw [if_pos hw]
 refine ⟨v, fun w hC => ?_, hK _ h⟩
 unfold Oper.quietAt
 rw [he w hC]
 exact ⟨rfl, hy w hC⟩
end
end Go.Proofs.YtpndjhelpoenpaaGreatDoor
