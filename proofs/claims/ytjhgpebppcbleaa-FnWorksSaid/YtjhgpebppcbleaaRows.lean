/-
  No cell of these rows narrows 'for every input' (looked for: loops, veiled, ifaces, maps, wideKeys, modest, calm, conditions, laid).
  DERIVED. THE GIVEN ROWS OF THIS SEAT. 4 by the template 'for every input the law returns true; each argument reads behind the call as it read before'; 0 by the template 'total and deterministic' (their statements: YtjhgpebppcbleaaTotals.lean).
  GIVEN WITH THE SEED: the statements are not yours to turn. If you find one false, say at which input.
  Laid BY PROGRAM, IN A SANDBOX (cutbox-rows.mjs): the forced cells as the released guide's own fill.sh prints them over the translation e9366491c305d752… (all of the seat's roots in one cut). By AI agents, Wed Nov 11 2026. No macro, syntax, notation, axiom, sorry.
-/
import Derived.Test.YtjhgpebppcbleaaChecked
import GoSem.Claim
import GoSem.ClaimJoined
import GoSem.ClaimMapViews
import Derived.JoinedTies
import Derived.KernelRfl
namespace Go.Proofs.Ytjhgpebppcbleaa
/- THE CELL 'sum', in the pinned program and in every row, IS THE sha256 OF THE DUMP (.gsa) THAT YtjhgpebppcbleaaProg.lean LOADS. Nothing in Lean hashes anything: it is a label: what it is worth is what the hold of that sum in a sandbox is worth. -/
noncomputable def Try.pinned : Pinned := { name := "ytjhgpebppcbleaa", sum := "e9366491c305d752b1a17246db4e84e0425626542e46b23541675301d547a629", checked := Try.checked }
namespace Rows
def none {H : Type} : Left H := { results := [], args := [] }

/-- 'laws.FnWorks': WHATEVER THE INPUT: true; the input reads as it did. -/
def fnWorksSpec : ChangeSpec := { name := "fnWorks", fn := fun _ => fun
  | [d] => { results := [.lit (.bool true)], args := [d] }
  | _ => none }
def fnWorksRow : OpenClaim := { program := "ytjhgpebppcbleaa", sum := "e9366491c305d752b1a17246db4e84e0425626542e46b23541675301d547a629", func := "loop.example/g01019/laws.FnWorks", spec := "fnWorks", inPlace := ["slices.overlaps[loop.example/g01019/impl.Pan]"], unfollowed := true, recurses := true, apart := false }
def FnWorksSaid : Prop := fnWorksRow.holds Try.pinned (OpenSpec.ofChange fnWorksSpec)

/-- ITS FALSE NEIGHBOUR: 'it returns false'. Refute it at one input. -/
def fnWorksWrong : ChangeSpec := { name := "fnWorks", fn := fun _ => fun
  | [d] => { results := [.lit (.bool false)], args := [d] }
  | _ => none }
def FnWorksWrongFalsely : Prop := fnWorksRow.holds Try.pinned (OpenSpec.ofChange fnWorksWrong)

/-- 'laws.FnExactStepWorks': WHATEVER THE INPUT: true; the input reads as it did. -/
def fnExactStepWorksSpec : ChangeSpec := { name := "fnExactStepWorks", fn := fun _ => fun
  | [d1, d2] => { results := [.lit (.bool true)], args := [d1, d2] }
  | _ => none }
def fnExactStepWorksRow : OpenClaim := { program := "ytjhgpebppcbleaa", sum := "e9366491c305d752b1a17246db4e84e0425626542e46b23541675301d547a629", func := "loop.example/g01019/laws.FnExactStepWorks", spec := "fnExactStepWorks", inPlace := ["slices.overlaps[loop.example/g01019/impl.Pan]"], unfollowed := true, recurses := true, apart := false }
def FnExactStepWorksSaid : Prop := fnExactStepWorksRow.holds Try.pinned (OpenSpec.ofChange fnExactStepWorksSpec)

/-- ITS FALSE NEIGHBOUR: 'it returns false'. Refute it at one input. -/
def fnExactStepWorksWrong : ChangeSpec := { name := "fnExactStepWorks", fn := fun _ => fun
  | [d1, d2] => { results := [.lit (.bool false)], args := [d1, d2] }
  | _ => none }
def FnExactStepWorksWrongFalsely : Prop := fnExactStepWorksRow.holds Try.pinned (OpenSpec.ofChange fnExactStepWorksWrong)

/-- 'laws.FnExactRunWorks': WHATEVER THE INPUT: true; the input reads as it did. -/
def fnExactRunWorksSpec : ChangeSpec := { name := "fnExactRunWorks", fn := fun _ => fun
  | [d1, d2] => { results := [.lit (.bool true)], args := [d1, d2] }
  | _ => none }
def fnExactRunWorksRow : OpenClaim := { program := "ytjhgpebppcbleaa", sum := "e9366491c305d752b1a17246db4e84e0425626542e46b23541675301d547a629", func := "loop.example/g01019/laws.FnExactRunWorks", spec := "fnExactRunWorks", inPlace := ["slices.overlaps[loop.example/g01019/impl.Pan]"], unfollowed := true, recurses := true, apart := false }
def FnExactRunWorksSaid : Prop := fnExactRunWorksRow.holds Try.pinned (OpenSpec.ofChange fnExactRunWorksSpec)

/-- ITS FALSE NEIGHBOUR: 'it returns false'. Refute it at one input. -/
def fnExactRunWorksWrong : ChangeSpec := { name := "fnExactRunWorks", fn := fun _ => fun
  | [d1, d2] => { results := [.lit (.bool false)], args := [d1, d2] }
  | _ => none }
def FnExactRunWorksWrongFalsely : Prop := fnExactRunWorksRow.holds Try.pinned (OpenSpec.ofChange fnExactRunWorksWrong)

/-- 'laws.FnExactNewConsole': WHATEVER THE INPUT: true; the input reads as it did. -/
def fnExactNewConsoleSpec : ChangeSpec := { name := "fnExactNewConsole", fn := fun _ => fun
  | [d] => { results := [.lit (.bool true)], args := [d] }
  | _ => none }
def fnExactNewConsoleRow : OpenClaim := { program := "ytjhgpebppcbleaa", sum := "e9366491c305d752b1a17246db4e84e0425626542e46b23541675301d547a629", func := "loop.example/g01019/laws.FnExactNewConsole", spec := "fnExactNewConsole", apart := false }
def FnExactNewConsoleSaid : Prop := fnExactNewConsoleRow.holds Try.pinned (OpenSpec.ofChange fnExactNewConsoleSpec)

/-- ITS FALSE NEIGHBOUR: 'it returns false'. Refute it at one input. -/
def fnExactNewConsoleWrong : ChangeSpec := { name := "fnExactNewConsole", fn := fun _ => fun
  | [d] => { results := [.lit (.bool false)], args := [d] }
  | _ => none }
def FnExactNewConsoleWrongFalsely : Prop := fnExactNewConsoleRow.holds Try.pinned (OpenSpec.ofChange fnExactNewConsoleWrong)

/- THE SECOND FORM. 'bulk': how many values and letters a reading holds, each counted each time it is reached (what is shared counts as often as it is met; a slice's spare places count too). A statement '..UptoSaid' is the law's where the arguments, and the package variables that the reading takes, are together of bulk at most 1048576: NARROWER than '..Said'. Prove '..Said' where nothing that the law and all that it calls make is longer than what came in: it says more and counts as full. Else prove '..UptoSaid'. A law counts once. -/
mutual
def uptoBulk {H : Type} : DataW H → Nat
  | .lit (.string bytes) => bytes.length + 1
  | .lit _ => 1
  | .nil => 1
  | .ptr d => uptoBulk d + 1
  | .slice elems spare => uptoBulkAll elems + uptoBulkAll spare + 1
  | .agg parts => uptoBulkAll parts + 1
  | .iface _ d => uptoBulk d + 1
  | .map entries => uptoBulkEntries entries + 1
  | .held _ => 1
def uptoBulkAll {H : Type} : List (DataW H) → Nat
  | [] => 0
  | d :: r => uptoBulk d + uptoBulkAll r
def uptoBulkEntries {H : Type} : List (Lit × DataW H) → Nat
  | [] => 0
  | x :: r => uptoBulkEntry x + uptoBulkEntries r
def uptoBulkEntry {H : Type} : Lit × DataW H → Nat
  | (.string bytes, d) => bytes.length + uptoBulk d + 1
  | (_, d) => uptoBulk d + 1
 end
def uptoSmall : (H : Type) → List (DataW H) → Bool := fun _ ds => decide (uptoBulkAll ds ≤ 1048576)
def OpenSpec.upto (s : _root_.Go.ChangeSpec) : _root_.Go.OpenSpec := { _root_.Go.OpenSpec.ofChange s with cond := some uptoSmall }

/-- 'laws.FnWorks', WHERE WHAT IT READS IS OF BULK AT MOST 1048576: true; the input reads as it did. -/
def fnWorksUptoRow : OpenClaim := { program := "ytjhgpebppcbleaa", sum := "e9366491c305d752b1a17246db4e84e0425626542e46b23541675301d547a629", func := "loop.example/g01019/laws.FnWorks", spec := "fnWorks", inPlace := ["slices.overlaps[loop.example/g01019/impl.Pan]"], unfollowed := true, recurses := true, apart := false, narrowed := true }
def FnWorksUptoSaid : Prop := fnWorksUptoRow.holds Try.pinned (OpenSpec.upto fnWorksSpec)

/-- 'laws.FnExactStepWorks', WHERE WHAT IT READS IS OF BULK AT MOST 1048576: true; the input reads as it did. -/
def fnExactStepWorksUptoRow : OpenClaim := { program := "ytjhgpebppcbleaa", sum := "e9366491c305d752b1a17246db4e84e0425626542e46b23541675301d547a629", func := "loop.example/g01019/laws.FnExactStepWorks", spec := "fnExactStepWorks", inPlace := ["slices.overlaps[loop.example/g01019/impl.Pan]"], unfollowed := true, recurses := true, apart := false, narrowed := true }
def FnExactStepWorksUptoSaid : Prop := fnExactStepWorksUptoRow.holds Try.pinned (OpenSpec.upto fnExactStepWorksSpec)

/-- 'laws.FnExactRunWorks', WHERE WHAT IT READS IS OF BULK AT MOST 1048576: true; the input reads as it did. -/
def fnExactRunWorksUptoRow : OpenClaim := { program := "ytjhgpebppcbleaa", sum := "e9366491c305d752b1a17246db4e84e0425626542e46b23541675301d547a629", func := "loop.example/g01019/laws.FnExactRunWorks", spec := "fnExactRunWorks", inPlace := ["slices.overlaps[loop.example/g01019/impl.Pan]"], unfollowed := true, recurses := true, apart := false, narrowed := true }
def FnExactRunWorksUptoSaid : Prop := fnExactRunWorksUptoRow.holds Try.pinned (OpenSpec.upto fnExactRunWorksSpec)

/-- 'laws.FnExactNewConsole', WHERE WHAT IT READS IS OF BULK AT MOST 1048576: true; the input reads as it did. -/
def fnExactNewConsoleUptoRow : OpenClaim := { program := "ytjhgpebppcbleaa", sum := "e9366491c305d752b1a17246db4e84e0425626542e46b23541675301d547a629", func := "loop.example/g01019/laws.FnExactNewConsole", spec := "fnExactNewConsole", apart := false, narrowed := true }
def FnExactNewConsoleUptoSaid : Prop := fnExactNewConsoleUptoRow.holds Try.pinned (OpenSpec.upto fnExactNewConsoleSpec)

end Rows
end Go.Proofs.Ytjhgpebppcbleaa
