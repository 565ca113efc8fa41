/-
  IsValidConsole: the same on both sides; the laws' helpers for consoles.
-/
import Derived.Test.YtegklcapfjigaaaDoorWorksB
import Derived.Test.YtegklcapfjigaaaDoorWorksH
import Derived.Test.YtegklcapfjigaaaDoorLogG
import Derived.Deep.Cut
namespace Go.Proofs.YtegklcapfjigaaaDoor
open Go.RowKit
set_option linter.unusedVariables false
set_option linter.unusedSimpArgs false
theorem name_wp {P : Program} {c : Code} {Q : Exit → Act → World → Prop} {a : Act} {W : World} (h : ∀ w2, w2 = W → c.wp P Q a w2) : c.wp P Q a W := h W rfl
theorem frS {a w : World} {b : Nat} (h : Fr b (b + 1) a w) (j : Nat) (v : Value) : Fr b (b + 1) a (w.setCell ⟨b, j, none⟩ v) := h.setCell (Nat.le_refl _) (Nat.lt_succ_self _) v
theorem rowC {X w' : World} {g : Nat} {o : Obj} (hX : X.heap[g]? = some o) (h : Below X.heap.size X w') : w'.heap[g]? = some o :=
  (h.block g (Array.getElem?_eq_some_iff.1 hX).1).trans hX
theorem rowG {w w' : World} {lo hi g : Nat} {o : Obj} (h : w.heap[g]? = some o) (hf : Fr lo hi w w') (hd : g < lo ∨ hi ≤ g) : w'.heap[g]? = some o := (hf.block g (Array.getElem?_eq_some_iff.1 h).1 hd).trans h
end Go.Proofs.YtegklcapfjigaaaDoor
