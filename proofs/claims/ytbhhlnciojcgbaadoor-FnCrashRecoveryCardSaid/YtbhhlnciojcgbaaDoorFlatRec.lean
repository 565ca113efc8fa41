/-
  The helpers of the laws for slices of log records: equality, marks.
-/
import Derived.Test.YtbhhlnciojcgbaaDoorLogJ
import Derived.Test.YtbhhlnciojcgbaaDoorMemT
import Derived.Deep.RegionHeld3
import Derived.Deep.RegionWith
import Derived.Handy
namespace Go.Proofs.YtbhhlnciojcgbaaDoor
open Go.RowKit
set_option linter.unusedVariables false
set_option linter.unusedSimpArgs false
attribute [local go_sem ↓] Go.wp_at_zero Go.wp_at_succ
def mkGo : Nat → Nat → BA → BA
  | 0, _, o => o
  | m + 1, k, o => if k = 0 then o else mkGo m (k / 10) ((⟨#[UInt8.ofNat (48 + k % 10)]⟩ : BA) ++ o)
def mkT (k : Int) : BA := (⟨#[109]⟩ : BA) ++ mkGo 20 k.toNat ⟨#[]⟩
theorem mkGo_zero (m : Nat) (o : BA) : mkGo m 0 o = o := by cases m <;> simp [mkGo]
def markedT (p : Nat) (F : Nat → BA) : Nat → BA := fun j => if j < p then mkT (1 + (j : Int)) else F j
end Go.Proofs.YtbhhlnciojcgbaaDoor
