/-
  What a draw of rows leaves, in plain words. No program in sight.
-/
import Derived.Test.YtjhgpebppcbleaaDrawM
import Derived.Test.YtjhgpebppcbleaaPk3
namespace Go.Proofs.Ytjhgpebppcbleaa
open Go.RowKit
set_option linter.unusedVariables false
/-- A row of the call's own of m elements of k ints, as a slice. -/
structure Drawn (w : World) (lo : Nat) (e : TypeId) (k : Nat) (A : Option Addr) (m c : Nat) (f : Nat → Int) : Prop where
  le : m ≤ c
  max : c ≤ maxLen
  nil : A = none → m = 0 ∧ c = 0
  form : ∀ ad, A = some ad → ∃ b off, ad = ⟨b, off, none⟩
  own : Own w lo w.heap.size e k A m f
theorem drawnRow_of {w : World} {base lo : Nat} {e : TypeId} (k : Nat) {v : Value} {m : Nat} {L : List Int} (h : w.ownsRow base e k v m (L.map (Value.int .i64))) (hl : lo ≤ base) :
    ∃ A c, v = .slice A m c ∧ Drawn w lo e k A m c (fun j => L.getD j 0) := by
  obtain ⟨A, c, rfl, h1, h2, h3⟩ := own_of_row h
  refine ⟨A, c, rfl, h1, h2, fun ha => ?_, fun ad ha => ?_, h3.lo_le hl⟩
  · subst ha
    rcases h.2 with ⟨e1, e2⟩ | ⟨g, cap, cur, e1, _⟩
    · cases e1; exact ⟨rfl, rfl⟩
    · cases e1
  · subst ha
    rcases h.2 with ⟨e1, e2⟩ | ⟨g, cap, cur, e1, _⟩
    · cases e1
    · cases e1; exact ⟨_, _, rfl⟩
theorem Drawn.below {w w' : World} {lo : Nat} {e : TypeId} {k m c : Nat} {A : Option Addr} {f : Nat → Int} (h : Drawn w lo e k A m c f) (hb : Below w.heap.size w w') : Drawn w' lo e k A m c f :=
  ⟨h.le, h.max, h.nil, h.form, by
    have := h.own.below hb
    exact ⟨Nat.le_refl _, fun hn => by
      obtain ⟨g, cur, e1, h1, h2, h3⟩ := this.here hn
      exact ⟨g, cur, e1, h1, Nat.lt_of_lt_of_le h2 hb.size, h3⟩⟩⟩
theorem Drawn.lo_le {w : World} {lo lo' : Nat} {e : TypeId} {k m c : Nat} {A : Option Addr} {f : Nat → Int} (h : Drawn w lo e k A m c f) (hl : lo' ≤ lo) : Drawn w lo' e k A m c f :=
  ⟨h.le, h.max, h.nil, h.form, h.own.lo_le hl⟩
/-- Behind a step of the cursor, whose block lies ahead of the row. -/
theorem Drawn.step {w w' : World} {lo g : Nat} {e : TypeId} {k m c : Nat} {A : Option Addr} {f : Nat → Int} (h : Drawn w lo e k A m c f) (hf : Fr g (g + 1) w w') (hg : g < lo) : Drawn w' lo e k A m c f :=
  ⟨h.le, h.max, h.nil, h.form, by
    have := h.own.fr hf (Or.inr hg)
    exact ⟨Nat.le_refl _, fun hn => by
      obtain ⟨g, cur, e1, h1, h2, h3⟩ := this.here hn
      exact ⟨g, cur, e1, h1, Nat.lt_of_lt_of_le h2 hf.size, h3⟩⟩⟩
/-- A shorter slice of the same row. -/
theorem Sl.shorter {w : World} {lo hi size n m : Nat} {A : Option Addr} {f : Nat → Int} (h : Sl w lo hi size A n f) (hm : m ≤ n) : Sl w lo hi size A m f :=
  ⟨h.hi_le, fun hn => by
    obtain ⟨b, off, e, h1, h2, h3⟩ := h.here (by omega)
    exact ⟨b, off, e, h1, h2, fun j hj => h3 j (Nat.lt_of_lt_of_le hj (Nat.mul_le_mul_right _ hm))⟩⟩
theorem nameC {P : Program} {g : FuncId} {args : Array Value} {Q : Ending → World → Prop} {W : World} (h : ∀ w2, w2 = W → Calls P g args w2 Q) : Calls P g args W Q := h W rfl
end Go.Proofs.Ytjhgpebppcbleaa
