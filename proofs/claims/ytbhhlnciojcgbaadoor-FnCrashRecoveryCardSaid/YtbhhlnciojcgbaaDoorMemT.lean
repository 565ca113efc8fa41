/-
  Rows of texts: how a slice of structs of texts is read and owned.
-/
import Derived.Test.YtbhhlnciojcgbaaDoorMem
namespace Go.Proofs.YtbhhlnciojcgbaaDoor
open Go.RowKit Go.ChangeShapes Go.WideShapes Go.Deep
set_option linter.unusedVariables false
set_option linter.unusedSimpArgs false
/-- The slice (A, n), elements of 'size' int cells each, reads as the numbers f (cell by cell); its block g has lo ≤ g < hi. -/
structure SlT (w : World) (lo hi size : Nat) (A : Option Addr) (n : Nat) (f : Nat → ByteArray) : Prop where
  hi_le : hi ≤ w.heap.size
  here : 0 < n → ∃ b off, A = some ⟨b, off, none⟩ ∧ lo ≤ b ∧ b < hi ∧ ∀ j, j < n * size → w.cell? ⟨b, off + j, none⟩ = some (.string (f j))

theorem SlT.below {w w' : World} {lo hi size n : Nat} {A : Option Addr} {f : Nat → ByteArray} (h : SlT w lo hi size A n f) (hb : Below w.heap.size w w') : SlT w' lo hi size A n f :=
  ⟨Nat.le_trans h.hi_le hb.size, fun hn => by
    obtain ⟨b, off, e, h1, h2, h3⟩ := h.here hn
    exact ⟨b, off, e, h1, h2, fun j hj => (hb.cell (p := ⟨b, off + j, none⟩) (Nat.lt_of_lt_of_le h2 h.hi_le)).trans (h3 j hj)⟩⟩
theorem SlT.fr {w w' : World} {lo hi size n lo' hi' : Nat} {A : Option Addr} {f : Nat → ByteArray} (h : SlT w lo hi size A n f) (hb : Fr lo' hi' w w') (hd : hi ≤ lo' ∨ hi' ≤ lo) : SlT w' lo hi size A n f :=
  ⟨Nat.le_trans h.hi_le hb.size, fun hn => by
    obtain ⟨b, off, e, h1, h2, h3⟩ := h.here hn
    have := h.hi_le
    exact ⟨b, off, e, h1, h2, fun j hj => (World.cell?_of_block (a := ⟨b, off + j, none⟩) (hb.block b (by omega) (by omega))).trans (h3 j hj)⟩⟩
theorem SlT.congr {w : World} {lo hi size n : Nat} {A : Option Addr} {f g : Nat → ByteArray} (h : SlT w lo hi size A n f) (e : ∀ j, j < n * size → f j = g j) : SlT w lo hi size A n g :=
  ⟨h.hi_le, fun hn => by
    obtain ⟨b, off, e1, h1, h2, h3⟩ := h.here hn
    exact ⟨b, off, e1, h1, h2, fun j hj => by rw [h3 j hj, e j hj]⟩⟩
/-- In a round: the block, and every cell in the round's world. -/
theorem SlT.open_ {w wr : World} {lo hi size n : Nat} {A : Option Addr} {f : Nat → ByteArray} (h : SlT w lo hi size A n f) (hb : Below w.heap.size w wr) (hn : 0 < n) :
    ∃ b off, A = some ⟨b, off, none⟩ ∧ b < wr.heap.size ∧ Hid (∀ j, j < n * size → wr.cell? ⟨b, off + j, none⟩ = some (.string (f j))) := by
  obtain ⟨b, off, e, h1, h2, h3⟩ := (h.below hb).here hn
  exact ⟨b, off, e, Nat.lt_of_lt_of_le h2 (h.below hb).hi_le, h3⟩

theorem SlT.open_at {w wr : World} {lo hi size n b off : Nat} {f : Nat → ByteArray} (h : SlT w lo hi size (some ⟨b, off, none⟩) n f) (hb : Below w.heap.size w wr) (hn : 0 < n) :
    b < wr.heap.size ∧ Hid (∀ j, j < n * size → wr.cell? ⟨b, off + j, none⟩ = some (.string (f j))) := by
  obtain ⟨b', off', e, h1, h2⟩ := h.open_ hb hn
  simp only [Option.some.injEq, Addr.mk.injEq, and_true] at e
  obtain ⟨rfl, rfl⟩ := e
  exact ⟨h1, h2⟩

/-- An own row: block g from lo on, below hi, element type e, offset 0, not frozen, whose first n * size cells are the numbers f. -/
structure OwnT (w : World) (lo hi : Nat) (e : TypeId) (size : Nat) (A : Option Addr) (n : Nat) (f : Nat → ByteArray) : Prop where
  hi_le : hi ≤ w.heap.size
  here : 0 < n → ∃ g cur, A = some ⟨g, 0, none⟩ ∧ lo ≤ g ∧ g < hi ∧ w.heap[g]? = some (.cells cur e (0, 0)) ∧ n * size ≤ cur.size ∧ ∀ j, j < n * size → cur[j]? = some (.string (f j))

theorem OwnT.sl {w : World} {lo hi size n : Nat} {e : TypeId} {A : Option Addr} {f : Nat → ByteArray} (h : OwnT w lo hi e size A n f) : SlT w lo hi size A n f :=
  ⟨h.hi_le, fun hn => by
    obtain ⟨g, cur, e1, h1, h2, h3, h4, h5⟩ := h.here hn
    exact ⟨g, 0, e1, h1, h2, fun j hj => by rw [Nat.zero_add, cell_of_row w g j cur e (0, 0) h3]; exact h5 j hj⟩⟩
theorem OwnT.below {w w' : World} {lo hi size n : Nat} {e : TypeId} {A : Option Addr} {f : Nat → ByteArray} (h : OwnT w lo hi e size A n f) (hb : Below w.heap.size w w') : OwnT w' lo hi e size A n f :=
  ⟨Nat.le_trans h.hi_le hb.size, fun hn => by
    obtain ⟨g, cur, e1, h1, h2, h3, h4⟩ := h.here hn
    exact ⟨g, cur, e1, h1, h2, (hb.block g (Nat.lt_of_lt_of_le h2 h.hi_le)).trans h3, h4⟩⟩
theorem OwnT.fr {w w' : World} {lo hi size n lo' hi' : Nat} {e : TypeId} {A : Option Addr} {f : Nat → ByteArray} (h : OwnT w lo hi e size A n f) (hb : Fr lo' hi' w w') (hd : hi ≤ lo' ∨ hi' ≤ lo) : OwnT w' lo hi e size A n f :=
  ⟨Nat.le_trans h.hi_le hb.size, fun hn => by
    obtain ⟨g, cur, e1, h1, h2, h3, h4⟩ := h.here hn
    have := h.hi_le
    exact ⟨g, cur, e1, h1, h2, (hb.block g (by omega) (by omega)).trans h3, h4⟩⟩
theorem OwnT.congr {w : World} {lo hi size n : Nat} {e : TypeId} {A : Option Addr} {f g : Nat → ByteArray} (h : OwnT w lo hi e size A n f) (he : ∀ j, j < n * size → f j = g j) : OwnT w lo hi e size A n g :=
  ⟨h.hi_le, fun hn => by
    obtain ⟨b, cur, e1, h1, h2, h3, h4, h5⟩ := h.here hn
    exact ⟨b, cur, e1, h1, h2, h3, h4, fun j hj => by rw [h5 j hj, he j hj]⟩⟩
theorem OwnT.none_ {w : World} {lo hi size : Nat} {e : TypeId} {A : Option Addr} {f : Nat → ByteArray} (h : hi ≤ w.heap.size) : OwnT w lo hi e size A 0 f := ⟨h, fun hn => absurd hn (by omega)⟩
theorem OwnT.lo_le {w : World} {lo lo' hi size n : Nat} {e : TypeId} {A : Option Addr} {f : Nat → ByteArray} (h : OwnT w lo hi e size A n f) (hl : lo' ≤ lo) : OwnT w lo' hi e size A n f :=
  ⟨h.hi_le, fun hn => by
    obtain ⟨g, cur, e1, h1, h2, h3⟩ := h.here hn
    exact ⟨g, cur, e1, by omega, h2, h3⟩⟩
def updT (f : Nat → ByteArray) (i : Nat) (z : ByteArray) : Nat → ByteArray := fun j => if j = i then z else f j
theorem OwnT.set_ {w : World} {lo hi size n : Nat} {e : TypeId} {g : Nat} {f : Nat → ByteArray} (h : OwnT w lo hi e size (some ⟨g, 0, none⟩) n f) {i : Nat} (hi' : i < n * size) (z : ByteArray) :
    OwnT (w.setCell ⟨g, i, none⟩ (.string z)) lo hi e size (some ⟨g, 0, none⟩) n (updT f i z) := by
  refine ⟨by simpa [World.setCell] using h.hi_le, fun hn => ?_⟩
  obtain ⟨g', cur, e1, h1, h2, h3, h4, h5⟩ := h.here hn
  simp only [Option.some.injEq, Addr.mk.injEq, and_true] at e1
  subst e1
  refine ⟨g, cur.setIfInBounds i (.string z), rfl, h1, h2, ?_, by simpa using h4, fun j hj => ?_⟩
  · simp [World.setCell, Array.getElem?_modify, h3]
  · rw [Array.getElem?_setIfInBounds]
    unfold updT
    by_cases hij : i = j
    · subst hij
      simp; omega
    · rw [if_neg hij, if_neg (by omega)]
      exact h5 j hj
/-- What a store into cell i of the row wants: it is there, and not frozen. -/
theorem OwnT.cell_ {w : World} {lo hi size n : Nat} {e : TypeId} {g : Nat} {f : Nat → ByteArray} (h : OwnT w lo hi e size (some ⟨g, 0, none⟩) n f) {i : Nat} (hi' : i < n * size) :
    w.cell? ⟨g, i, none⟩ = some (.string (f i)) ∧ w.frozen? ⟨g, i, none⟩ = false ∧ lo ≤ g ∧ g < hi := by
  have hn : 0 < n := by rcases Nat.eq_zero_or_pos n with h0 | h0; · subst h0; simp at hi'
                        · exact h0
  obtain ⟨g', cur, e1, h1, h2, h3, h4, h5⟩ := h.here hn
  simp only [Option.some.injEq, Addr.mk.injEq, and_true] at e1
  subst e1
  exact ⟨by rw [cell_of_row w g i cur e (0, 0) h3]; exact h5 i hi', by simp [World.frozen?, h3], h1, h2⟩
theorem OwnT.addr {w : World} {lo hi size n : Nat} {e : TypeId} {A : Option Addr} {f : Nat → ByteArray} (h : OwnT w lo hi e size A n f) (hn : 0 < n) : ∃ g, A = some ⟨g, 0, none⟩ := by
  obtain ⟨g, cur, e1, _⟩ := h.here hn
  exact ⟨g, e1⟩

/-- A row that the call owns (the kit's word), as a slice value and OwnT. -/
theorem ownT_of_row {w : World} {base : Nat} {e : TypeId} {size : Nat} {v : Value} {n : Nat} {zs : List ByteArray} (h : w.ownsRow base e size v n (zs.map Value.string)) :
    ∃ A c, v = .slice A n c ∧ n ≤ c ∧ c ≤ maxLen ∧ OwnT w base w.heap.size e size A n (fun j => zs.getD j ⟨#[]⟩) := by
  obtain ⟨hl, hr⟩ := h
  have hl' : zs.length = n * size := by simpa using hl
  rcases hr with ⟨rfl, rfl⟩ | ⟨g, cap, cur, rfl, hb, hg, hnc, hcm, hcs, htake⟩
  · exact ⟨none, 0, rfl, Nat.le_refl _, by unfold maxLen; omega, OwnT.none_ (Nat.le_refl _)⟩
  · refine ⟨_, cap, rfl, hnc, hcm, Nat.le_refl _, fun hn => ⟨g, cur, rfl, hb, (Array.getElem?_eq_some_iff.1 hg).1, hg, by rw [hcs]; exact Nat.mul_le_mul_right _ hnc, fun j hj => ?_⟩⟩
    have h1 : (zs.map Value.string)[j]? = some (.string (zs.getD j ⟨#[]⟩)) := by
      rw [List.getElem?_map, List.getElem?_eq_getElem (by omega)]
      simp [List.getD, show j < zs.length by omega]
    rw [← htake, List.getElem?_take, if_pos hj] at h1
    simpa using h1


theorem cellT2 {wr : World} {b off n : Nat} {f : Nat → ByteArray} (H : Hid (∀ j, j < n * 2 → wr.cell? ⟨b, off + j, none⟩ = some (.string (f j)))) {k : Nat} (hk : k < n) :
    wr.cell? ⟨b, off + k * 2, none⟩ = some (.string (f (k * 2))) ∧ wr.cell? ⟨b, off + k * 2 + 1, none⟩ = some (.string (f (k * 2 + 1))) := by
  simp only [Nat.add_assoc]
  exact ⟨H.out _ (by omega), H.out _ (by omega)⟩
end Go.Proofs.YtbhhlnciojcgbaaDoor
