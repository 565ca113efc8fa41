/-
  Plain lemmas about memory: how a slice of flat structs of ints is read; opened from an argument's reading. No program in sight.
-/
import Derived.WalkKit
import Derived.ProofKit
import Derived.OpenShut
import Derived.ShutString
import Derived.ChangeOld
import Derived.Below
import Derived.Carry
import Derived.Deep.Slices
import Derived.Deep.Draws
namespace Go.Proofs.YtjkockhldaacbaaDoor
open Go.RowKit Go.ChangeShapes Go.WideShapes Go.Deep
set_option linter.unusedVariables false
set_option linter.unusedSimpArgs false

/-- A 64-bit integer's range, as inequalities. -/
def I64 (z : Int) : Prop := -9223372036854775808 ≤ z ∧ z ≤ 9223372036854775807
theorem I64.of_wf {z : Int} (h : (Lit.int .i64 z).wf = true) : I64 z := by
  simp [Lit.wf, IntKind.min, IntKind.max, IntKind.signed, IntKind.bits] at h
  exact ⟨by omega, by omega⟩

/-- Type t is an int, or a struct whose cells are all of such types. -/
def flatTy (P : Program) : Nat → TypeId → Bool
  | 0, _ => false
  | m + 1, t => match P.underlying t with
    | some (.int k) => k == .i64
    | some (.struct fs) => (List.range (P.cellsOf t)).all fun j => fs.toList.any fun f => decide (f.offset ≤ j) && decide (j < f.offset + P.cellsOf f.type) && flatTy P m f.type
    | _ => false

section
variable {H : Type} {enc : TypeId × Value → H} {P : Program} {w : World} {base : Nat} {spare : Nat → Bool} {held : Bool}

theorem flat_cells (m : Nat) : ∀ (t : TypeId) (fuel : Nat) (cs : List Value) (x : DataW H × List MemPlace), flatTy P m t = true →
    DataW.trod enc P w base spare held fuel t cs = some x → ∀ (j : Nat) (c : Value), cs[j]? = some c → ∃ z : Int, c = Value.int .i64 z ∧ I64 z := by
  induction m with
  | zero => intro t fuel cs x h; simp [flatTy] at h
  | succ m ih =>
    intro t fuel cs x h hx j c hj
    unfold flatTy at h
    split at h
    · rename_i k hk
      obtain ⟨n, rfl, _, hwf⟩ := DataW.trod_int hk hx
      have hk' : k = .i64 := by simpa using h
      subst hk'
      cases j with
      | zero => simp at hj; exact ⟨n, hj.symm, I64.of_wf hwf⟩
      | succ j => simp at hj
    · rename_i fs hs
      obtain ⟨xs, n, _, _, hlen, hfl, hg⟩ := DataW.trod_struct hs hx
      have hjl : j < cs.length := (List.getElem?_eq_some_iff.1 hj).1
      rw [hlen] at hjl
      have hj2 := (List.all_eq_true.1 h) j (List.mem_range.2 hjl)
      obtain ⟨f, hf, hp⟩ := List.any_eq_true.1 hj2
      simp only [Bool.and_eq_true, decide_eq_true_eq] at hp
      obtain ⟨⟨h1, h2⟩, h3⟩ := hp
      obtain ⟨i, hi, hfi⟩ := List.getElem_of_mem hf
      have hfi' : fs[i]? = some f := by
        rw [← Array.getElem?_toList]
        rw [List.getElem?_eq_getElem hi, hfi]
      have hgi := hg i f hfi'
      have hxl : i < xs.length := by rw [hfl]; simpa using hi
      rw [List.getElem?_eq_getElem hxl] at hgi
      refine ih f.type n _ _ h3 hgi (j - f.offset) c ?_
      rw [List.getElem?_take, if_pos (by omega), List.getElem?_drop, show f.offset + (j - f.offset) = j by omega]
      exact hj
    · cases h

/-- From w to w' only blocks g with lo ≤ g < hi, and new ones, may have been written. -/
structure Fr (lo hi : Nat) (w w' : World) : Prop where
  os : w'.os = w.os
  tape : w'.tape = w.tape
  output : w'.output = w.output
  size : w.heap.size ≤ w'.heap.size
  block : ∀ k, k < w.heap.size → (k < lo ∨ hi ≤ k) → w'.heap[k]? = w.heap[k]?

theorem Fr.refl (lo hi : Nat) (w : World) : Fr lo hi w w := ⟨rfl, rfl, rfl, Nat.le_refl _, fun _ _ _ => rfl⟩
theorem Fr.of_below {w w' : World} (lo hi : Nat) (h : Below w.heap.size w w') : Fr lo hi w w' := ⟨h.os, h.tape, h.output, h.size, fun k hk _ => h.block k hk⟩
theorem Fr.below {lo hi B : Nat} {w w' : World} (h : Fr lo hi w w') (hB : B ≤ lo) (hw : B ≤ w.heap.size) : Below B w w' := ⟨h.os, h.tape, h.output, h.size, fun k hk => h.block k (by omega) (Or.inl (by omega))⟩
theorem Fr.trans {lo hi : Nat} {a b c : World} (h : Fr lo hi a b) (k : Fr lo hi b c) : Fr lo hi a c :=
  ⟨k.os.trans h.os, k.tape.trans h.tape, k.output.trans h.output, Nat.le_trans h.size k.size, fun i hi' hx => (k.block i (Nat.lt_of_lt_of_le hi' h.size) hx).trans (h.block i hi' hx)⟩
theorem Fr.setCell {lo hi : Nat} {a w : World} (h : Fr lo hi a w) {p : Addr} (h1 : lo ≤ p.block) (h2 : p.block < hi) (u : Value) : Fr lo hi a (w.setCell p u) :=
  h.trans ⟨rfl, rfl, rfl, by simp [World.setCell], fun k _ hx => Below.heap_setCell _ _ _ _ (by omega)⟩
theorem below_of {B : Nat} {a b c : World} (h : Below B a b) (k : Below b.heap.size b c) (hB : B ≤ b.heap.size) : Below B a c := h.trans (k.mono hB)
theorem below_drewN {B : Nat} {a w : World} (h : Below B a w) (n : Nat) : Below B a (w.drewN n) := ⟨h.os, h.tape, h.output, h.size, h.block⟩

/-- The slice (A, n), elements of 'size' int cells each, reads as the numbers f (cell by cell); its block g has lo ≤ g < hi. -/
structure Sl (w : World) (lo hi size : Nat) (A : Option Addr) (n : Nat) (f : Nat → Int) : Prop where
  hi_le : hi ≤ w.heap.size
  here : 0 < n → ∃ b off, A = some ⟨b, off, none⟩ ∧ lo ≤ b ∧ b < hi ∧ ∀ j, j < n * size → w.cell? ⟨b, off + j, none⟩ = some (.int .i64 (f j))

theorem Sl.below {w w' : World} {lo hi size n : Nat} {A : Option Addr} {f : Nat → Int} (h : Sl w lo hi size A n f) (hb : Below w.heap.size w w') : Sl w' lo hi size A n f :=
  ⟨Nat.le_trans h.hi_le hb.size, fun hn => by
    obtain ⟨b, off, e, h1, h2, h3⟩ := h.here hn
    exact ⟨b, off, e, h1, h2, fun j hj => (hb.cell (p := ⟨b, off + j, none⟩) (Nat.lt_of_lt_of_le h2 h.hi_le)).trans (h3 j hj)⟩⟩
theorem Sl.fr {w w' : World} {lo hi size n lo' hi' : Nat} {A : Option Addr} {f : Nat → Int} (h : Sl w lo hi size A n f) (hb : Fr lo' hi' w w') (hd : hi ≤ lo' ∨ hi' ≤ lo) : Sl w' lo hi size A n f :=
  ⟨Nat.le_trans h.hi_le hb.size, fun hn => by
    obtain ⟨b, off, e, h1, h2, h3⟩ := h.here hn
    have := h.hi_le
    exact ⟨b, off, e, h1, h2, fun j hj => (World.cell?_of_block (a := ⟨b, off + j, none⟩) (hb.block b (by omega) (by omega))).trans (h3 j hj)⟩⟩
theorem Sl.congr {w : World} {lo hi size n : Nat} {A : Option Addr} {f g : Nat → Int} (h : Sl w lo hi size A n f) (e : ∀ j, j < n * size → f j = g j) : Sl w lo hi size A n g :=
  ⟨h.hi_le, fun hn => by
    obtain ⟨b, off, e1, h1, h2, h3⟩ := h.here hn
    exact ⟨b, off, e1, h1, h2, fun j hj => by rw [h3 j hj, e j hj]⟩⟩
/-- In a round: the block, and every cell in the round's world. -/
theorem Sl.open_ {w wr : World} {lo hi size n : Nat} {A : Option Addr} {f : Nat → Int} (h : Sl w lo hi size A n f) (hb : Below w.heap.size w wr) (hn : 0 < n) :
    ∃ b off, A = some ⟨b, off, none⟩ ∧ b < wr.heap.size ∧ Hid (∀ j, j < n * size → wr.cell? ⟨b, off + j, none⟩ = some (.int .i64 (f j))) := by
  obtain ⟨b, off, e, h1, h2, h3⟩ := (h.below hb).here hn
  exact ⟨b, off, e, Nat.lt_of_lt_of_le h2 (h.below hb).hi_le, h3⟩

theorem Sl.open_at {w wr : World} {lo hi size n b off : Nat} {f : Nat → Int} (h : Sl w lo hi size (some ⟨b, off, none⟩) n f) (hb : Below w.heap.size w wr) (hn : 0 < n) :
    b < wr.heap.size ∧ Hid (∀ j, j < n * size → wr.cell? ⟨b, off + j, none⟩ = some (.int .i64 (f j))) := by
  obtain ⟨b', off', e, h1, h2⟩ := h.open_ hb hn
  simp only [Option.some.injEq, Addr.mk.injEq, and_true] at e
  obtain ⟨rfl, rfl⟩ := e
  exact ⟨h1, h2⟩

/-- An own row: block g from lo on, below hi, element type e, offset 0, not frozen, whose first n * size cells are the numbers f. -/
structure Own (w : World) (lo hi : Nat) (e : TypeId) (size : Nat) (A : Option Addr) (n : Nat) (f : Nat → Int) : Prop where
  hi_le : hi ≤ w.heap.size
  here : 0 < n → ∃ g cur, A = some ⟨g, 0, none⟩ ∧ lo ≤ g ∧ g < hi ∧ w.heap[g]? = some (.cells cur e (0, 0)) ∧ n * size ≤ cur.size ∧ ∀ j, j < n * size → cur[j]? = some (.int .i64 (f j))

theorem Own.sl {w : World} {lo hi size n : Nat} {e : TypeId} {A : Option Addr} {f : Nat → Int} (h : Own w lo hi e size A n f) : Sl w lo hi size A n f :=
  ⟨h.hi_le, fun hn => by
    obtain ⟨g, cur, e1, h1, h2, h3, h4, h5⟩ := h.here hn
    exact ⟨g, 0, e1, h1, h2, fun j hj => by rw [Nat.zero_add, cell_of_row w g j cur e (0, 0) h3]; exact h5 j hj⟩⟩
theorem Own.below {w w' : World} {lo hi size n : Nat} {e : TypeId} {A : Option Addr} {f : Nat → Int} (h : Own w lo hi e size A n f) (hb : Below w.heap.size w w') : Own w' lo hi e size A n f :=
  ⟨Nat.le_trans h.hi_le hb.size, fun hn => by
    obtain ⟨g, cur, e1, h1, h2, h3, h4⟩ := h.here hn
    exact ⟨g, cur, e1, h1, h2, (hb.block g (Nat.lt_of_lt_of_le h2 h.hi_le)).trans h3, h4⟩⟩
theorem Own.fr {w w' : World} {lo hi size n lo' hi' : Nat} {e : TypeId} {A : Option Addr} {f : Nat → Int} (h : Own w lo hi e size A n f) (hb : Fr lo' hi' w w') (hd : hi ≤ lo' ∨ hi' ≤ lo) : Own w' lo hi e size A n f :=
  ⟨Nat.le_trans h.hi_le hb.size, fun hn => by
    obtain ⟨g, cur, e1, h1, h2, h3, h4⟩ := h.here hn
    have := h.hi_le
    exact ⟨g, cur, e1, h1, h2, (hb.block g (by omega) (by omega)).trans h3, h4⟩⟩
theorem Own.congr {w : World} {lo hi size n : Nat} {e : TypeId} {A : Option Addr} {f g : Nat → Int} (h : Own w lo hi e size A n f) (he : ∀ j, j < n * size → f j = g j) : Own w lo hi e size A n g :=
  ⟨h.hi_le, fun hn => by
    obtain ⟨b, cur, e1, h1, h2, h3, h4, h5⟩ := h.here hn
    exact ⟨b, cur, e1, h1, h2, h3, h4, fun j hj => by rw [h5 j hj, he j hj]⟩⟩
theorem Own.none_ {w : World} {lo hi size : Nat} {e : TypeId} {A : Option Addr} {f : Nat → Int} (h : hi ≤ w.heap.size) : Own w lo hi e size A 0 f := ⟨h, fun hn => absurd hn (by omega)⟩
theorem Own.lo_le {w : World} {lo lo' hi size n : Nat} {e : TypeId} {A : Option Addr} {f : Nat → Int} (h : Own w lo hi e size A n f) (hl : lo' ≤ lo) : Own w lo' hi e size A n f :=
  ⟨h.hi_le, fun hn => by
    obtain ⟨g, cur, e1, h1, h2, h3⟩ := h.here hn
    exact ⟨g, cur, e1, by omega, h2, h3⟩⟩
def upd (f : Nat → Int) (i : Nat) (z : Int) : Nat → Int := fun j => if j = i then z else f j
theorem Own.set_ {w : World} {lo hi size n : Nat} {e : TypeId} {g : Nat} {f : Nat → Int} (h : Own w lo hi e size (some ⟨g, 0, none⟩) n f) {i : Nat} (hi' : i < n * size) (z : Int) :
    Own (w.setCell ⟨g, i, none⟩ (.int .i64 z)) lo hi e size (some ⟨g, 0, none⟩) n (upd f i z) := by
  refine ⟨by simpa [World.setCell] using h.hi_le, fun hn => ?_⟩
  obtain ⟨g', cur, e1, h1, h2, h3, h4, h5⟩ := h.here hn
  simp only [Option.some.injEq, Addr.mk.injEq, and_true] at e1
  subst e1
  refine ⟨g, cur.setIfInBounds i (.int .i64 z), rfl, h1, h2, ?_, by simpa using h4, fun j hj => ?_⟩
  · simp [World.setCell, Array.getElem?_modify, h3]
  · rw [Array.getElem?_setIfInBounds]
    unfold upd
    by_cases hij : i = j
    · subst hij
      simp; omega
    · rw [if_neg hij, if_neg (by omega)]
      exact h5 j hj
/-- What a store into cell i of the row wants: it is there, and not frozen. -/
theorem Own.cell_ {w : World} {lo hi size n : Nat} {e : TypeId} {g : Nat} {f : Nat → Int} (h : Own w lo hi e size (some ⟨g, 0, none⟩) n f) {i : Nat} (hi' : i < n * size) :
    w.cell? ⟨g, i, none⟩ = some (.int .i64 (f i)) ∧ w.frozen? ⟨g, i, none⟩ = false ∧ lo ≤ g ∧ g < hi := by
  have hn : 0 < n := by rcases Nat.eq_zero_or_pos n with h0 | h0; · subst h0; simp at hi'
                        · exact h0
  obtain ⟨g', cur, e1, h1, h2, h3, h4, h5⟩ := h.here hn
  simp only [Option.some.injEq, Addr.mk.injEq, and_true] at e1
  subst e1
  exact ⟨by rw [cell_of_row w g i cur e (0, 0) h3]; exact h5 i hi', by simp [World.frozen?, h3], h1, h2⟩
theorem Own.addr {w : World} {lo hi size n : Nat} {e : TypeId} {A : Option Addr} {f : Nat → Int} (h : Own w lo hi e size A n f) (hn : 0 < n) : ∃ g, A = some ⟨g, 0, none⟩ := by
  obtain ⟨g, cur, e1, _⟩ := h.here hn
  exact ⟨g, e1⟩

def marked (k0 : Int) (p : Nat) (f : Nat → Int) : Nat → Int := fun j => if j < p then k0 + j else f j
/-- A row that the call owns (the kit's word), as a slice value and Own. -/
theorem own_of_row {w : World} {base : Nat} {e : TypeId} {size : Nat} {v : Value} {n : Nat} {zs : List Int} (h : w.ownsRow base e size v n (zs.map (Value.int .i64))) :
    ∃ A c, v = .slice A n c ∧ n ≤ c ∧ c ≤ maxLen ∧ Own w base w.heap.size e size A n (fun j => zs.getD j 0) := by
  obtain ⟨hl, hr⟩ := h
  have hl' : zs.length = n * size := by simpa using hl
  rcases hr with ⟨rfl, rfl⟩ | ⟨g, cap, cur, rfl, hb, hg, hnc, hcm, hcs, htake⟩
  · exact ⟨none, 0, rfl, Nat.le_refl _, by unfold maxLen; omega, Own.none_ (Nat.le_refl _)⟩
  · refine ⟨_, cap, rfl, hnc, hcm, Nat.le_refl _, fun hn => ⟨g, cur, rfl, hb, (Array.getElem?_eq_some_iff.1 hg).1, hg, by rw [hcs]; exact Nat.mul_le_mul_right _ hnc, fun j hj => ?_⟩⟩
    have h1 : (zs.map (Value.int .i64))[j]? = some (.int .i64 (zs.getD j 0)) := by
      rw [List.getElem?_map, List.getElem?_eq_getElem (by omega)]
      simp [List.getD, show j < zs.length by omega]
    rw [← htake, List.getElem?_take, if_pos hj] at h1
    simpa using h1

/-- A block that is being filled: its first p cells are the numbers f, it has m cells. -/
def Fill (w : World) (g : Nat) (e : TypeId) (m p : Nat) (f : Nat → Int) : Prop :=
  ∃ cur : Array Value, w.heap[g]? = some (.cells cur e (0, 0)) ∧ cur.size = m ∧ ∀ j, j < p → cur[j]? = some (.int .i64 (f j))
theorem fill_of_row {w : World} {base size g n : Nat} {e : TypeId} {xs : List Value} {f : Nat → Int} (h : w.ownsRow base e size (.slice (some ⟨g, 0, none⟩) n n) n xs) : Fill w g e (n * size) 0 f := by
  rcases h.2 with ⟨h1, _⟩ | ⟨g', cap, cur, hv, _, hh, _, _, hcs, _⟩
  · cases h1
  · simp only [Value.slice.injEq, Option.some.injEq, Addr.mk.injEq, and_true, true_and] at hv
    obtain ⟨rfl, rfl⟩ := hv
    exact ⟨cur, hh, hcs, fun j hj => absurd hj (by omega)⟩
theorem Fill.lt {w : World} {g m p : Nat} {e : TypeId} {f : Nat → Int} (h : Fill w g e m p f) : g < w.heap.size := by
  obtain ⟨cur, h1, _⟩ := h
  exact (Array.getElem?_eq_some_iff.1 h1).1
theorem Fill.cell_ {w : World} {g m p : Nat} {e : TypeId} {f : Nat → Int} (h : Fill w g e m p f) {i : Nat} (hi : i < m) : (∃ v, w.cell? ⟨g, i, none⟩ = some v) ∧ w.frozen? ⟨g, i, none⟩ = false := by
  obtain ⟨cur, h1, h2, _⟩ := h
  exact ⟨⟨cur[i]'(by omega), by rw [cell_of_row w g i cur e (0, 0) h1]; exact Array.getElem?_eq_getElem (by omega)⟩, by simp [World.frozen?, h1]⟩
theorem Fill.below {w w' : World} {g m p B : Nat} {e : TypeId} {f : Nat → Int} (h : Fill w g e m p f) (hb : Below B w w') (hg : g < B) : Fill w' g e m p f := by
  obtain ⟨cur, h1, h2⟩ := h
  exact ⟨cur, (hb.block g hg).trans h1, h2⟩
theorem Fill.push {w : World} {g m p : Nat} {e : TypeId} {f : Nat → Int} (h : Fill w g e m p f) (hp : p < m) {z : Int} (hz : z = f p) : Fill (w.setCell ⟨g, p, none⟩ (.int .i64 z)) g e m (p + 1) f := by
  obtain ⟨cur, h1, h2, h3⟩ := h
  subst hz
  refine ⟨cur.setIfInBounds p (.int .i64 (f p)), by simp [World.setCell, Array.getElem?_modify, h1], by simpa using h2, fun j hj => ?_⟩
  rw [Array.getElem?_setIfInBounds]
  by_cases hpj : p = j
  · subst hpj; simp; omega
  · rw [if_neg hpj]; exact h3 j (by omega)
theorem Fill.own {w : World} {g n size : Nat} {e : TypeId} {f : Nat → Int} (h : Fill w g e (n * size) (n * size) f) : Own w g (g + 1) e size (some ⟨g, 0, none⟩) n f := by
  have hlt := h.lt
  obtain ⟨cur, h1, h2, h3⟩ := h
  exact ⟨by omega, fun _ => ⟨g, cur, rfl, Nat.le_refl _, by omega, h1, by omega, h3⟩⟩

theorem cell4 {wr : World} {b off n : Nat} {f : Nat → Int} (H : Hid (∀ j, j < n * 4 → wr.cell? ⟨b, off + j, none⟩ = some (.int .i64 (f j)))) {k : Nat} (hk : k < n) :
    wr.cell? ⟨b, off + k * 4, none⟩ = some (.int .i64 (f (k * 4))) ∧ wr.cell? ⟨b, off + k * 4 + 1, none⟩ = some (.int .i64 (f (k * 4 + 1))) ∧ wr.cell? ⟨b, off + k * 4 + 2, none⟩ = some (.int .i64 (f (k * 4 + 2))) ∧ wr.cell? ⟨b, off + k * 4 + 3, none⟩ = some (.int .i64 (f (k * 4 + 3))) := by
  simp only [Nat.add_assoc]
  exact ⟨H.out _ (by omega), H.out _ (by omega), H.out _ (by omega), H.out _ (by omega)⟩
theorem cell5 {wr : World} {b off n : Nat} {f : Nat → Int} (H : Hid (∀ j, j < n * 5 → wr.cell? ⟨b, off + j, none⟩ = some (.int .i64 (f j)))) {k : Nat} (hk : k < n) :
    wr.cell? ⟨b, off + k * 5, none⟩ = some (.int .i64 (f (k * 5))) ∧ wr.cell? ⟨b, off + k * 5 + 1, none⟩ = some (.int .i64 (f (k * 5 + 1))) ∧ wr.cell? ⟨b, off + k * 5 + 2, none⟩ = some (.int .i64 (f (k * 5 + 2))) ∧ wr.cell? ⟨b, off + k * 5 + 3, none⟩ = some (.int .i64 (f (k * 5 + 3))) ∧ wr.cell? ⟨b, off + k * 5 + 4, none⟩ = some (.int .i64 (f (k * 5 + 4))) := by
  simp only [Nat.add_assoc]
  exact ⟨H.out _ (by omega), H.out _ (by omega), H.out _ (by omega), H.out _ (by omega), H.out _ (by omega)⟩
theorem cell7 {wr : World} {b off n : Nat} {f : Nat → Int} (H : Hid (∀ j, j < n * 7 → wr.cell? ⟨b, off + j, none⟩ = some (.int .i64 (f j)))) {k : Nat} (hk : k < n) :
    wr.cell? ⟨b, off + k * 7, none⟩ = some (.int .i64 (f (k * 7))) ∧ wr.cell? ⟨b, off + k * 7 + 1, none⟩ = some (.int .i64 (f (k * 7 + 1))) ∧ wr.cell? ⟨b, off + k * 7 + 2, none⟩ = some (.int .i64 (f (k * 7 + 2))) ∧ wr.cell? ⟨b, off + k * 7 + 3, none⟩ = some (.int .i64 (f (k * 7 + 3))) ∧ wr.cell? ⟨b, off + k * 7 + 4, none⟩ = some (.int .i64 (f (k * 7 + 4))) ∧ wr.cell? ⟨b, off + k * 7 + 5, none⟩ = some (.int .i64 (f (k * 7 + 5))) ∧ wr.cell? ⟨b, off + k * 7 + 6, none⟩ = some (.int .i64 (f (k * 7 + 6))) := by
  simp only [Nat.add_assoc]
  exact ⟨H.out _ (by omega), H.out _ (by omega), H.out _ (by omega), H.out _ (by omega), H.out _ (by omega), H.out _ (by omega), H.out _ (by omega)⟩
/-- A struct of ints by value, as an argument. -/
theorem open_flat_agg {r : Reach} {b0 : Nat} {t : TypeId} {fs : Array Field} {v : Value} {d : DataW H} {ps : List MemPlace} (m size : Nat) (ht : P.underlying t = some (.struct fs)) (hfl : flatTy P m t = true) (hC : P.cellsOf t = size)
    (hval : Value.okWide P w r b0 t v) (hd : DataW.Trod enc P w base spare held t v d ps) :
    ∃ f : Nat → Int, v = .agg ((List.range size).map fun j => Value.int .i64 (f j)).toArray ∧ ∀ j, j < size → I64 (f j) := by
  obtain ⟨cs, rfl, hsz⟩ := okWide_struct ht hval
  obtain ⟨fuel, hf⟩ := hd
  rw [hC] at hsz
  have key : ∀ j, j < size → ∃ z : Int, cs[j]? = some (.int .i64 z) ∧ I64 z := by
    intro j hj
    obtain ⟨z, hz, hw⟩ := flat_cells m t fuel cs.toList _ hfl (by simpa [Value.cells] using hf) j (cs[j]'(by omega)) (by rw [Array.getElem?_toList]; exact Array.getElem?_eq_getElem (by omega))
    exact ⟨z, by rw [Array.getElem?_eq_getElem (by omega), hz], hw⟩
  refine ⟨fun j => match cs[j]? with | some (.int _ z) => z | _ => 0, ?_, fun j hj => ?_⟩
  · congr 1
    apply Array.ext_getElem?
    intro j
    by_cases hj : j < size
    · obtain ⟨z, hz, _⟩ := key j hj
      simp [hz, hj]
    · rw [Array.getElem?_eq_none (by omega)]
      simp [hj]
  · obtain ⟨z, hz, hw⟩ := key j hj
    simp only [hz]
    exact hw

/-- An argument that is a slice of flat structs. -/
theorem open_flat_slice {r : Reach} {b0 : Nat} {t e : TypeId} {v : Value} {d : DataW H} {ps : List MemPlace} (m size : Nat) (ht : P.underlying t = some (.slice e)) (hfl : flatTy P m e = true) (hC : P.cellsOf e = size)
    (hval : Value.okWide P w r b0 t v) (hd : DataW.Trod enc P w base spare held t v d ps) (hsz : 0 < size) :
    ∃ A len cap f, v = .slice A len cap ∧ len ≤ cap ∧ cap ≤ maxLen ∧ Sl w base w.heap.size size A len f ∧ (∀ j, j < len * size → I64 (f j)) := by
  obtain ⟨a0, len0, cap0, rfl⟩ := okWide_slice ht hval
  obtain ⟨fuel, hf⟩ := hd
  rcases open_slice ht hf with ⟨hcs, _⟩ | ⟨a, len, cap, m', n, D, Pl, hcs, hbase, hl, hm, hmm, hx, hi⟩
  · simp [Value.cells] at hcs
    obtain ⟨rfl, rfl, rfl⟩ := hcs
    exact ⟨none, 0, 0, fun _ => 0, rfl, Nat.le_refl _, Nat.zero_le _, ⟨Nat.le_refl _, fun h => absurd h (by omega)⟩, fun j hj => absurd hj (by omega)⟩
  · simp [Value.cells] at hcs
    obtain ⟨rfl, rfl, rfl⟩ := hcs
    have hlm : len0 ≤ m' := by rw [hmm]; split <;> omega
    have key : ∀ j, j < len0 * size → ∃ z, w.cell? (a.add j) = some (.int .i64 z) ∧ I64 z := by
      intro j hj
      have hq : j / size < len0 := by rw [Nat.div_lt_iff_lt_mul hsz]; exact hj
      obtain ⟨cs', hc, ht'⟩ := hi (j / size) (by omega)
      obtain ⟨_, hcl, hat⟩ := World.cells?_some hc
      have hr : j % size < P.cellsOf e := by rw [hC]; exact Nat.mod_lt _ hsz
      have hcell := hat (j % size) hr
      rw [Go.Deep.add_add, hC, Nat.div_add_mod' j size] at hcell
      have hv : cs'[j % size]? = some (cs'[j % size]'(by omega)) := List.getElem?_eq_getElem (by omega)
      obtain ⟨z, hz, hw⟩ := flat_cells m e n cs' _ hfl ht' (j % size) _ hv
      exact ⟨z, by rw [hcell, hv, hz], hw⟩
    refine ⟨some a, len0, cap0, fun j => match w.cell? (a.add j) with | some (.int _ z) => z | _ => 0, rfl, hl, hm, ⟨Nat.le_refl _, ?_⟩, ?_⟩
    · intro hn
      obtain ⟨z0, h0, _⟩ := key 0 (Nat.mul_pos hn hsz)
      have hspot : a.spot = none := by
        have := World.cell?_spot h0
        simpa [Addr.add] using this
      obtain ⟨b, off, spot⟩ := a
      simp only at hspot
      subst hspot
      refine ⟨b, off, rfl, hbase, ?_, ?_⟩
      · have := World.block_lt_of_cell? w _ h0
        simpa [Addr.add] using this
      · intro j hj
        obtain ⟨z, hz, _⟩ := key j hj
        show _ = some (Value.int .i64 (match w.cell? (Addr.add ⟨b, off, none⟩ j) with | some (.int _ z) => z | _ => 0))
        rw [hz, ← hz, Addr.add_lit]
    · intro j hj
      obtain ⟨z, hz, hw⟩ := key j hj
      simp only [hz]
      exact hw
end
end Go.Proofs.YtjkockhldaacbaaDoor
