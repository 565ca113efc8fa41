/-
  Plain lemmas about the cursor of the draws: a block of three cells (the code, the place, the seed), and a literal row of ints. No program in sight.
-/
import Derived.Test.YtjkockhldaacbaaDoorMem
import Derived.IntWalk
namespace Go.Proofs.YtjkockhldaacbaaDoor
open Go.RowKit
set_option linter.unusedVariables false
set_option linter.unusedSimpArgs false

/-- The cursor in block g: the code (A, n, c), at a place not behind p, some seed; the code's bytes lie in an earlier block. -/
structure Cur (w : World) (g : Nat) (A : Option Addr) (n c p : Nat) : Prop where
  lt : g < w.heap.size
  c0 : w.cell? ⟨g, 0, none⟩ = some (.slice A n c)
  c1 : ∃ q : Nat, q ≤ p ∧ w.cell? ⟨g, 1, none⟩ = some (.int .i64 q)
  c2 : ∃ s : Int, w.cell? ⟨g, 2, none⟩ = some (.int .u64 s)
  fz : ∀ j : Nat, j < 3 → w.frozen? ⟨g, j, none⟩ = false
  code : 0 < n → ∃ b off, A = some ⟨b, off, none⟩ ∧ b < g ∧ ∀ j, j < n → ∃ z : Nat, z < 256 ∧ w.cell? ⟨b, off + j, none⟩ = some (.int .u8 z)

theorem Cur.weaken {w : World} {g n c p q : Nat} {A : Option Addr} (h : Cur w g A n c p) (hpq : p ≤ q) : Cur w g A n c q :=
  ⟨h.lt, h.c0, by obtain ⟨x, h1, h2⟩ := h.c1; exact ⟨x, by omega, h2⟩, h.c2, h.fz, h.code⟩
theorem frozen_of_block {w w' : World} {a : Addr} (h : w'.heap[a.block]? = w.heap[a.block]?) : w'.frozen? a = w.frozen? a := by
  unfold World.frozen?; rw [h]
theorem Cur.below {w w' : World} {g n c p : Nat} {A : Option Addr} (h : Cur w g A n c p) (hb : Below w.heap.size w w') : Cur w' g A n c p := by
  have hg := h.lt
  refine ⟨Nat.lt_of_lt_of_le hg hb.size, (hb.cell (p := ⟨g, 0, none⟩) hg).trans h.c0, ?_, ?_, ?_, ?_⟩
  · obtain ⟨x, h1, h2⟩ := h.c1; exact ⟨x, h1, (hb.cell (p := ⟨g, 1, none⟩) hg).trans h2⟩
  · obtain ⟨x, h2⟩ := h.c2; exact ⟨x, (hb.cell (p := ⟨g, 2, none⟩) hg).trans h2⟩
  · intro j hj; rw [frozen_of_block (a := ⟨g, j, none⟩) (hb.block g hg)]; exact h.fz j hj
  · intro hn
    obtain ⟨b, off, e, h1, h2⟩ := h.code hn
    refine ⟨b, off, e, h1, fun j hj => ?_⟩
    obtain ⟨z, hz, hc⟩ := h2 j hj
    exact ⟨z, hz, (hb.cell (p := ⟨b, off + j, none⟩) (by show b < _; omega)).trans hc⟩
/-- Behind writes into other blocks, all of them later than the cursor's. -/
theorem Cur.fr {w w' : World} {g n c p lo hi : Nat} {A : Option Addr} (h : Cur w g A n c p) (hb : Fr lo hi w w') (hd : g < lo) : Cur w' g A n c p := by
  have hg := h.lt
  refine ⟨Nat.lt_of_lt_of_le hg hb.size, (World.cell?_of_block (a := ⟨g, 0, none⟩) (hb.block g hg (Or.inl hd))).trans h.c0, ?_, ?_, ?_, ?_⟩
  · obtain ⟨x, h1, h2⟩ := h.c1; exact ⟨x, h1, (World.cell?_of_block (a := ⟨g, 1, none⟩) (hb.block g hg (Or.inl hd))).trans h2⟩
  · obtain ⟨x, h2⟩ := h.c2; exact ⟨x, (World.cell?_of_block (a := ⟨g, 2, none⟩) (hb.block g hg (Or.inl hd))).trans h2⟩
  · intro j hj; rw [frozen_of_block (a := ⟨g, j, none⟩) (hb.block g hg (Or.inl hd))]; exact h.fz j hj
  · intro hn
    obtain ⟨b, off, e, h1, h2⟩ := h.code hn
    refine ⟨b, off, e, h1, fun j hj => ?_⟩
    obtain ⟨z, hz, hc⟩ := h2 j hj
    exact ⟨z, hz, (World.cell?_of_block (a := ⟨b, off + j, none⟩) (hb.block b (by omega) (Or.inl (by omega)))).trans hc⟩
/-- Where no block up to the cursor's has changed. -/
theorem Cur.keep {w w' : World} {g n c p : Nat} {A : Option Addr} (h : Cur w g A n c p) (hs : w.heap.size ≤ w'.heap.size) (hb : ∀ k, k ≤ g → w'.heap[k]? = w.heap[k]?) : Cur w' g A n c p := by
  have hg := hb g (Nat.le_refl _)
  refine ⟨Nat.lt_of_lt_of_le h.lt hs, (World.cell?_of_block (a := ⟨g, 0, none⟩) hg).trans h.c0, ?_, ?_, ?_, ?_⟩
  · obtain ⟨x, h1, h2⟩ := h.c1; exact ⟨x, h1, (World.cell?_of_block (a := ⟨g, 1, none⟩) hg).trans h2⟩
  · obtain ⟨x, h2⟩ := h.c2; exact ⟨x, (World.cell?_of_block (a := ⟨g, 2, none⟩) hg).trans h2⟩
  · intro j hj; rw [frozen_of_block (a := ⟨g, j, none⟩) hg]; exact h.fz j hj
  · intro hn
    obtain ⟨b, off, e, h1, h2⟩ := h.code hn
    refine ⟨b, off, e, h1, fun j hj => ?_⟩
    obtain ⟨z, hz, hc⟩ := h2 j hj
    exact ⟨z, hz, (World.cell?_of_block (a := ⟨b, off + j, none⟩) (hb b (by omega))).trans hc⟩
/-- Behind an append onto a row of the call's own. -/
theorem Cur.app {w w' : World} {base g n c p size m : Nat} {e : TypeId} {v : Value} {xs : List Value} {A : Option Addr} (h : Cur w g A n c p) (hg : g < base) (hown : w.ownsRow base e size v m xs) (hgr : w.grownBy w' v.ownBlock) : Cur w' g A n c p :=
  h.keep hgr.size (fun k hk => hgr.block k (Nat.lt_of_le_of_lt hk h.lt) (fun e => by have := (hown.lt k e.symm).1; omega))
theorem Fr.app {W w w' : World} {g size m : Nat} {e : TypeId} {v : Value} {xs : List Value} (h : Fr g (g + 1) W w) (hown : w.ownsRow W.heap.size e size v m xs) (hgr : w.grownBy w' v.ownBlock) : Fr g (g + 1) W w' :=
  ⟨hgr.os.trans h.os, hgr.tape.trans h.tape, hgr.output.trans h.output, Nat.le_trans h.size hgr.size, fun k hk hx =>
    (hgr.block k (Nat.lt_of_lt_of_le hk h.size) (fun e => by have := (hown.lt k e.symm).1; omega)).trans (h.block k hk hx)⟩
/-- A row of the call's own behind a step of the cursor. -/
theorem own_step {w w' : World} {base g size m : Nat} {e : TypeId} {v : Value} {xs : List Value} (hown : w.ownsRow base e size v m xs) (hg : g < base) (hf : Fr g (g + 1) w w') : w'.ownsRow base e size v m xs :=
  hown.kept (row := some g) ⟨hf.os, hf.tape, hf.output, hf.size, fun k hk hx => hf.block k hk (by
    have : k ≠ g := fun e => hx (by rw [e])
    omega)⟩ (by
    cases hv : v.ownBlock with
    | none => exact Or.inl rfl
    | some b =>
      refine Or.inr (fun e => ?_)
      have := (hown.lt b hv).1
      have := Option.some.inj e
      omega)
theorem Fr.setOwn {g j : Nat} {W w : World} (h : Fr g (g + 1) W w) {p : Addr} (hp : W.heap.size ≤ p.block) (u : Value) : Fr g (g + 1) W (w.setCell p u) :=
  ⟨h.os, h.tape, h.output, by simpa [World.setCell] using h.size, fun k hk hx => (Below.heap_setCell _ _ _ _ (by omega)).trans (h.block k hk hx)⟩
theorem Cur.setOwn {w : World} {g n c p : Nat} {A : Option Addr} (h : Cur w g A n c p) {q : Addr} (hq : g < q.block) (u : Value) : Cur (w.setCell q u) g A n c p :=
  h.keep (by simp [World.setCell]) (fun k hk => Below.heap_setCell _ _ _ _ (by omega))
theorem Cur.alloc {w : World} {g n c p : Nat} {A : Option Addr} (h : Cur w g A n c p) (o : Obj) : Cur (w.alloc o) g A n c p := h.below ((Below.refl _ w).alloc (Nat.le_refl _) o)
theorem Fr.alloc' {lo hi : Nat} {a w : World} (h : Fr lo hi a w) (o : Obj) : Fr lo hi a (w.alloc o) := h.trans (Fr.of_below lo hi ((Below.refl _ w).alloc (Nat.le_refl _) o))
/-- A block that holds the ints L. -/
def Blk (w : World) (r : Nat) (T : TypeId) (L : List Int) : Prop := w.heap[r]? = some (.cells (L.map (Value.int .i64)).toArray T (0, 0))
theorem Blk.lt {w : World} {r : Nat} {T : TypeId} {L : List Int} (h : Blk w r T L) : r < w.heap.size := (Array.getElem?_eq_some_iff.1 h).1
theorem Blk.fr {w w' : World} {r g : Nat} {T : TypeId} {L : List Int} (h : Blk w r T L) (hf : Fr g (g + 1) w w') (hg : g < r) : Blk w' r T L := (hf.block r h.lt (Or.inr hg)).trans h
theorem Blk.alloc {w : World} {r : Nat} {T : TypeId} {L : List Int} (h : Blk w r T L) (o : Obj) : Blk (w.alloc o) r T L := ((Below.refl _ w).alloc (Nat.le_refl _) o).block r h.lt |>.trans h
theorem Blk.cell {w : World} {r : Nat} {T : TypeId} {L : List Int} (h : Blk w r T L) {j : Nat} (hj : j < L.length) : w.cell? ⟨r, j, none⟩ = some (.int .i64 (L.getD j 0)) := by
  rw [cell_of_row w r j _ _ (0, 0) h]
  simp [hj, List.getD]
theorem Blk.fz {w : World} {r : Nat} {T : TypeId} {L : List Int} (h : Blk w r T L) (j : Nat) : w.frozen? ⟨r, j, none⟩ = false := by
  unfold Blk at h; simp [World.frozen?, h]
theorem Blk.set {w : World} {r : Nat} {T : TypeId} {L : List Int} (h : Blk w r T L) (j : Nat) (z : Int) : Blk (w.setCell ⟨r, j, none⟩ (.int .i64 z)) r T (L.set j z) := by
  unfold Blk at h ⊢
  simp [World.setCell, Array.getElem?_modify, h, List.map_set]
theorem Blk.new {w : World} {T : TypeId} (L : List Int) {cs : Array Value} (hcs : cs = (L.map (Value.int .i64)).toArray) : Blk (w.alloc (.cells cs T)) w.heap.size T L := by
  subst hcs; exact heap_alloc_new w _
theorem Blk.other {w : World} {r : Nat} {T : TypeId} {L : List Int} (h : Blk w r T L) {q : Addr} (hq : r ≠ q.block) (u : Value) : Blk (w.setCell q u) r T L := (Below.heap_setCell _ _ _ _ hq).trans h
/-- The two stores of a step: the place and the seed. -/
theorem Cur.step {w : World} {g n c p q p' : Nat} {A : Option Addr} (h : Cur w g A n c p) (hq : q ≤ p') (s : Int) :
    Cur ((w.setCell ⟨g, 1, none⟩ (.int .i64 q)).setCell ⟨g, 2, none⟩ (.int .u64 s)) g A n c p' := by
  obtain ⟨x1, _, h1⟩ := h.c1
  obtain ⟨x2, h2⟩ := h.c2
  refine ⟨by simpa [World.setCell] using h.lt, ?_, ⟨q, hq, ?_⟩, ⟨s, ?_⟩, ?_, ?_⟩
  · rw [World.cell?_setCell_other _ _ _ _ (by simp), World.cell?_setCell_other _ _ _ _ (by simp)]; exact h.c0
  · rw [World.cell?_setCell_other _ _ _ _ (by simp)]; exact World.cell?_setCell_same _ _ _ h1
  · refine World.cell?_setCell_same (u := .int .u64 x2) _ _ _ ?_
    rw [World.cell?_setCell_other _ _ _ _ (by simp)]; exact h2
  · intro j hj; simp only [World.frozen?_setCell]; exact h.fz j hj
  · intro hn
    obtain ⟨b, off, e, h1, h2⟩ := h.code hn
    refine ⟨b, off, e, h1, fun j hj => ?_⟩
    obtain ⟨z, hz, hc⟩ := h2 j hj
    refine ⟨z, hz, ?_⟩
    rw [World.cell?_setCell_other _ _ _ _ (by intro e; have := congrArg Addr.block e; simp at this; omega), World.cell?_setCell_other _ _ _ _ (by intro e; have := congrArg Addr.block e; simp at this; omega)]
    exact hc
theorem fr_step {w : World} (g : Nat) (u v : Value) : Fr g (g + 1) w ((w.setCell ⟨g, 1, none⟩ u).setCell ⟨g, 2, none⟩ v) :=
  ((Fr.refl g (g + 1) w).setCell (p := ⟨g, 1, none⟩) (Nat.le_refl _) (by show g < g + 1; omega) u).setCell (p := ⟨g, 2, none⟩) (Nat.le_refl _) (by show g < g + 1; omega) v
theorem Cur.drewN {w : World} {g n c p : Nat} {A : Option Addr} (h : Cur w g A n c p) (k : Nat) : Cur (w.drewN k) g A n c p := ⟨h.lt, h.c0, h.c1, h.c2, h.fz, h.code⟩
theorem Cur.done {w : World} {g n c p p' q : Nat} {A : Option Addr} (h : Cur w g A n c p) {z : Int} (hz : z = q) (hq : q ≤ p') (s : Int) (a b : Nat) :
    Cur ((((w.drewN a).setCell ⟨g, 1, none⟩ (.int .i64 z)).setCell ⟨g, 2, none⟩ (.int .u64 s)).drewN b) g A n c p' := by
  subst hz
  exact ((h.drewN a).step hq s).drewN b
theorem Fr.done {w : World} (g : Nat) (u v : Value) (a b : Nat) : Fr g (g + 1) w ((((w.drewN a).setCell ⟨g, 1, none⟩ u).setCell ⟨g, 2, none⟩ v).drewN b) :=
  have h := fr_step (w := w.drewN a) g u v
  ⟨h.os, h.tape, h.output, h.size, h.block⟩
theorem and_byte (x : Int) : ∃ z : Nat, z < 256 ∧ wrap64 (bits .and .u64 x 255) = (z : Int) := by
  have h : (BitVec.ofInt 64 x &&& BitVec.ofInt 64 255).toNat < 256 := by
    rw [BitVec.toNat_and]; exact Nat.lt_of_le_of_lt Nat.and_le_right (by decide)
  refine ⟨_, h, ?_⟩
  show wrap64 (IntKind.u64.wrap ((BitVec.ofInt 64 x &&& BitVec.ofInt 64 255).toNat : Int)) = _
  generalize (BitVec.ofInt 64 x &&& BitVec.ofInt 64 255).toNat = m at h
  have h1 : IntKind.u64.wrap (m : Int) = m := by
    simp [IntKind.wrap, IntKind.signed, IntKind.bits]; omega
  rw [h1]
  exact IntWalk.wrap64_in (m : Int) ⟨by omega, by omega⟩
/-- Fr's frame over blocks that are new against an earlier world. -/
theorem Fr.below' {lo hi : Nat} {a w w' : World} (h : Fr lo hi w w') (hb : Below a.heap.size a w) (hl : a.heap.size ≤ lo) : Below a.heap.size a w' := hb.trans (h.below hl hb.size)
/-- A row of the literal ints L in a block of its own. -/
theorem sl_lit (L : List Int) {cs : Array Value} {w : World} {T : TypeId} (hcs : cs = (L.map (Value.int .i64)).toArray) :
    Sl (w.alloc (.cells cs T)) w.heap.size (w.heap.size + 1) 1 (some ⟨w.heap.size, 0, none⟩) L.length (fun j => L.getD j 0) := by
  refine ⟨by simp, fun hn => ⟨w.heap.size, 0, rfl, Nat.le_refl _, by omega, fun j hj => ?_⟩⟩
  subst hcs
  have hj' : j < L.length := by omega
  simp [hj', List.getD]
/-- A slice of bytes, as it came in. -/
def Code (w : World) (A : Option Addr) (n : Nat) : Prop := 0 < n → ∃ b off, A = some ⟨b, off, none⟩ ∧ b < w.heap.size ∧ ∀ j, j < n → ∃ z : Nat, z < 256 ∧ w.cell? ⟨b, off + j, none⟩ = some (.int .u8 z)
theorem Code.below {w w' : World} {A : Option Addr} {n : Nat} (h : Code w A n) (hb : Below w.heap.size w w') : Code w' A n := fun hn => by
  obtain ⟨b, off, e, h1, h2⟩ := h hn
  refine ⟨b, off, e, Nat.lt_of_lt_of_le h1 hb.size, fun j hj => ?_⟩
  obtain ⟨z, hz, hc⟩ := h2 j hj
  exact ⟨z, hz, (hb.cell (p := ⟨b, off + j, none⟩) h1).trans hc⟩
/-- A new cursor. -/
theorem Code.cur {w : World} {A : Option Addr} {n c : Nat} {T : TypeId} (h : Code w A n) : Cur (w.alloc (.cells #[.slice A n c, .int .i64 0, .int .u64 0] T)) w.heap.size A n c 0 := by
  refine ⟨by simp, by simp, ⟨0, Nat.le_refl _, by simp⟩, ⟨0, by simp⟩, fun j hj => by rw [World.frozen?, heap_alloc_new]; simp, fun hn => ?_⟩
  obtain ⟨b, off, e, h1, h2⟩ := h hn
  refine ⟨b, off, e, h1, fun j hj => ?_⟩
  obtain ⟨z, hz, hc⟩ := h2 j hj
  exact ⟨z, hz, (World.cell?_alloc_lt _ _ _ (by exact h1)).trans hc⟩
section
open Go.RowKit Go.ChangeShapes Go.WideShapes Go.Deep
variable {H : Type} {enc : TypeId × Value → H} {P : Program} {w : World} {base : Nat} {spare : Nat → Bool} {held : Bool}
/-- An argument that is a slice of bytes. -/
theorem open_code {r : Reach} {b0 : Nat} {t e : TypeId} {v : Value} {d : DataW H} {ps : List MemPlace} (ht : P.underlying t = some (.slice e)) (he : P.underlying e = some (.int .u8)) (hC : P.cellsOf e = 1)
    (hval : Value.okWide P w r b0 t v) (hd : DataW.Trod enc P w base spare held t v d ps) :
    ∃ A len cap, v = .slice A len cap ∧ len ≤ cap ∧ cap ≤ maxLen ∧ Code w A len := by
  obtain ⟨a0, len0, cap0, rfl⟩ := okWide_slice ht hval
  obtain ⟨fuel, hf⟩ := hd
  rcases open_slice ht hf with ⟨hcs, _⟩ | ⟨a, len, cap, m', n, D, Pl, hcs, hbase, hl, hm, hmm, hx, hi⟩
  · simp [Value.cells] at hcs
    obtain ⟨rfl, rfl, rfl⟩ := hcs
    exact ⟨none, 0, 0, rfl, Nat.le_refl _, Nat.zero_le _, fun h => absurd h (by omega)⟩
  · simp [Value.cells] at hcs
    obtain ⟨rfl, rfl, rfl⟩ := hcs
    have hlm : len0 ≤ m' := by rw [hmm]; split <;> omega
    have key : ∀ j, j < len0 → ∃ z : Nat, z < 256 ∧ w.cell? (a.add j) = some (.int .u8 z) := by
      intro j hj
      obtain ⟨cs', hc, ht'⟩ := hi j (by omega)
      obtain ⟨_, hcl, hat⟩ := World.cells?_some hc
      have hcell := hat 0 (by omega)
      rw [Go.Deep.add_add, hC, Nat.mul_one, Nat.add_zero] at hcell
      obtain ⟨z, rfl, _, hwf⟩ := DataW.trod_int he ht'
      have hb : 0 ≤ z ∧ z ≤ 255 := by
        simp [Lit.wf, IntKind.min, IntKind.max, IntKind.signed, IntKind.bits] at hwf
        omega
      exact ⟨z.toNat, by omega, by rw [hcell]; simp; omega⟩
    refine ⟨some a, len0, cap0, rfl, hl, hm, fun hn => ?_⟩
    obtain ⟨z0, _, h0⟩ := key 0 hn
    have hspot : a.spot = none := by
      have := World.cell?_spot h0
      simpa [Addr.add] using this
    obtain ⟨b, off, spot⟩ := a
    simp only at hspot
    subst hspot
    refine ⟨b, off, rfl, ?_, fun j hj => ?_⟩
    · have := World.block_lt_of_cell? w _ h0
      simpa [Addr.add] using this
    · obtain ⟨z, hz, hc⟩ := key j hj
      exact ⟨z, hz, by rw [← hc, Addr.add_lit]⟩
end
end Go.Proofs.YtjkockhldaacbaaDoor
