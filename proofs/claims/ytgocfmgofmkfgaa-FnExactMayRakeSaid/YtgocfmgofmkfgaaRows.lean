/-
  No cell of these rows narrows 'for every input' (looked for: loops, veiled, ifaces, maps, wideKeys, modest, calm, conditions, laid).
  DERIVED. THE GIVEN ROWS OF THIS SEAT. 9 by the template 'for every input the law returns true; each argument reads behind the call as it read before'; 0 by the template 'total and deterministic' (their statements: YtgocfmgofmkfgaaTotals.lean).
  GIVEN WITH THE SEED: the statements are not yours to turn. If you find one false, say at which input.
  Laid BY PROGRAM, IN A SANDBOX (cutbox-rows.mjs): the forced cells as the released guide's own fill.sh prints them over the translation b71c43bc6a7579f1… (all of the seat's roots in one cut). By AI agents, Wed Nov 11 2026. No macro, syntax, notation, axiom, sorry.
-/
import Derived.Test.YtgocfmgofmkfgaaChecked
import GoSem.Claim
import GoSem.ClaimJoined
import GoSem.ClaimMapViews
import Derived.JoinedTies
import Derived.KernelRfl
namespace Go.Proofs.Ytgocfmgofmkfgaa
/- THE CELL 'sum', in the pinned program and in every row, IS THE sha256 OF THE DUMP (.gsa) THAT YtgocfmgofmkfgaaProg.lean LOADS. Nothing in Lean hashes anything: it is a label: what it is worth is what the hold of that sum in a sandbox is worth. -/
noncomputable def Try.pinned : Pinned := { name := "ytgocfmgofmkfgaa", sum := "b71c43bc6a7579f1f785ded8efeca728aba3f5ca7e1d1327b6c247fe85b24f96", checked := Try.checked }
namespace Rows
def none {H : Type} : Left H := { results := [], args := [] }

/-- 'laws.FnExactIsWorks': WHATEVER THE INPUT: true; the input reads as it did. -/
def fnExactIsWorksSpec : ChangeSpec := { name := "fnExactIsWorks", fn := fun _ => fun
  | [d] => { results := [.lit (.bool true)], args := [d] }
  | _ => none }
def fnExactIsWorksRow : OpenClaim := { program := "ytgocfmgofmkfgaa", sum := "b71c43bc6a7579f1f785ded8efeca728aba3f5ca7e1d1327b6c247fe85b24f96", func := "loop.example/g01019/laws.FnExactIsWorks", spec := "fnExactIsWorks", apart := false }
def FnExactIsWorksSaid : Prop := fnExactIsWorksRow.holds Try.pinned (OpenSpec.ofChange fnExactIsWorksSpec)

/-- ITS FALSE NEIGHBOUR: 'it returns false'. Refute it at one input. -/
def fnExactIsWorksWrong : ChangeSpec := { name := "fnExactIsWorks", fn := fun _ => fun
  | [d] => { results := [.lit (.bool false)], args := [d] }
  | _ => none }
def FnExactIsWorksWrongFalsely : Prop := fnExactIsWorksRow.holds Try.pinned (OpenSpec.ofChange fnExactIsWorksWrong)

/-- 'laws.FnExactSaltInPans': WHATEVER THE INPUT: true; the input reads as it did. -/
def fnExactSaltInPansSpec : ChangeSpec := { name := "fnExactSaltInPans", fn := fun _ => fun
  | [d] => { results := [.lit (.bool true)], args := [d] }
  | _ => none }
def fnExactSaltInPansRow : OpenClaim := { program := "ytgocfmgofmkfgaa", sum := "b71c43bc6a7579f1f785ded8efeca728aba3f5ca7e1d1327b6c247fe85b24f96", func := "loop.example/g01019/laws.FnExactSaltInPans", spec := "fnExactSaltInPans", apart := false }
def FnExactSaltInPansSaid : Prop := fnExactSaltInPansRow.holds Try.pinned (OpenSpec.ofChange fnExactSaltInPansSpec)

/-- ITS FALSE NEIGHBOUR: 'it returns false'. Refute it at one input. -/
def fnExactSaltInPansWrong : ChangeSpec := { name := "fnExactSaltInPans", fn := fun _ => fun
  | [d] => { results := [.lit (.bool false)], args := [d] }
  | _ => none }
def FnExactSaltInPansWrongFalsely : Prop := fnExactSaltInPansRow.holds Try.pinned (OpenSpec.ofChange fnExactSaltInPansWrong)

/-- 'laws.FnExactRoomInPan': WHATEVER THE INPUT: true; the input reads as it did. -/
def fnExactRoomInPanSpec : ChangeSpec := { name := "fnExactRoomInPan", fn := fun _ => fun
  | [d1, d2] => { results := [.lit (.bool true)], args := [d1, d2] }
  | _ => none }
def fnExactRoomInPanRow : OpenClaim := { program := "ytgocfmgofmkfgaa", sum := "b71c43bc6a7579f1f785ded8efeca728aba3f5ca7e1d1327b6c247fe85b24f96", func := "loop.example/g01019/laws.FnExactRoomInPan", spec := "fnExactRoomInPan", unfollowed := true, recurses := true, apart := false }
def FnExactRoomInPanSaid : Prop := fnExactRoomInPanRow.holds Try.pinned (OpenSpec.ofChange fnExactRoomInPanSpec)

/-- ITS FALSE NEIGHBOUR: 'it returns false'. Refute it at one input. -/
def fnExactRoomInPanWrong : ChangeSpec := { name := "fnExactRoomInPan", fn := fun _ => fun
  | [d1, d2] => { results := [.lit (.bool false)], args := [d1, d2] }
  | _ => none }
def FnExactRoomInPanWrongFalsely : Prop := fnExactRoomInPanRow.holds Try.pinned (OpenSpec.ofChange fnExactRoomInPanWrong)

/-- 'laws.FnExactDryToRake': WHATEVER THE INPUT: true; the input reads as it did. -/
def fnExactDryToRakeSpec : ChangeSpec := { name := "fnExactDryToRake", fn := fun _ => fun
  | [d1, d2] => { results := [.lit (.bool true)], args := [d1, d2] }
  | _ => none }
def fnExactDryToRakeRow : OpenClaim := { program := "ytgocfmgofmkfgaa", sum := "b71c43bc6a7579f1f785ded8efeca728aba3f5ca7e1d1327b6c247fe85b24f96", func := "loop.example/g01019/laws.FnExactDryToRake", spec := "fnExactDryToRake", unfollowed := true, recurses := true, apart := false }
def FnExactDryToRakeSaid : Prop := fnExactDryToRakeRow.holds Try.pinned (OpenSpec.ofChange fnExactDryToRakeSpec)

/-- ITS FALSE NEIGHBOUR: 'it returns false'. Refute it at one input. -/
def fnExactDryToRakeWrong : ChangeSpec := { name := "fnExactDryToRake", fn := fun _ => fun
  | [d1, d2] => { results := [.lit (.bool false)], args := [d1, d2] }
  | _ => none }
def FnExactDryToRakeWrongFalsely : Prop := fnExactDryToRakeRow.holds Try.pinned (OpenSpec.ofChange fnExactDryToRakeWrong)

/-- 'laws.FnExactMayRake': WHATEVER THE INPUT: true; the input reads as it did. -/
def fnExactMayRakeSpec : ChangeSpec := { name := "fnExactMayRake", fn := fun _ => fun
  | [d] => { results := [.lit (.bool true)], args := [d] }
  | _ => none }
def fnExactMayRakeRow : OpenClaim := { program := "ytgocfmgofmkfgaa", sum := "b71c43bc6a7579f1f785ded8efeca728aba3f5ca7e1d1327b6c247fe85b24f96", func := "loop.example/g01019/laws.FnExactMayRake", spec := "fnExactMayRake", apart := false }
def FnExactMayRakeSaid : Prop := fnExactMayRakeRow.holds Try.pinned (OpenSpec.ofChange fnExactMayRakeSpec)

/-- ITS FALSE NEIGHBOUR: 'it returns false'. Refute it at one input. -/
def fnExactMayRakeWrong : ChangeSpec := { name := "fnExactMayRake", fn := fun _ => fun
  | [d] => { results := [.lit (.bool false)], args := [d] }
  | _ => none }
def FnExactMayRakeWrongFalsely : Prop := fnExactMayRakeRow.holds Try.pinned (OpenSpec.ofChange fnExactMayRakeWrong)

/-- 'laws.FnExactPanOrder': WHATEVER THE INPUT: true; the input reads as it did. -/
def fnExactPanOrderSpec : ChangeSpec := { name := "fnExactPanOrder", fn := fun _ => fun
  | [d] => { results := [.lit (.bool true)], args := [d] }
  | _ => none }
def fnExactPanOrderRow : OpenClaim := { program := "ytgocfmgofmkfgaa", sum := "b71c43bc6a7579f1f785ded8efeca728aba3f5ca7e1d1327b6c247fe85b24f96", func := "loop.example/g01019/laws.FnExactPanOrder", spec := "fnExactPanOrder", unfollowed := true, recurses := true, apart := false }
def FnExactPanOrderSaid : Prop := fnExactPanOrderRow.holds Try.pinned (OpenSpec.ofChange fnExactPanOrderSpec)

/-- ITS FALSE NEIGHBOUR: 'it returns false'. Refute it at one input. -/
def fnExactPanOrderWrong : ChangeSpec := { name := "fnExactPanOrder", fn := fun _ => fun
  | [d] => { results := [.lit (.bool false)], args := [d] }
  | _ => none }
def FnExactPanOrderWrongFalsely : Prop := fnExactPanOrderRow.holds Try.pinned (OpenSpec.ofChange fnExactPanOrderWrong)

/-- 'laws.FnExactStepWorks': WHATEVER THE INPUT: true; the input reads as it did. -/
def fnExactStepWorksSpec : ChangeSpec := { name := "fnExactStepWorks", fn := fun _ => fun
  | [d1, d2] => { results := [.lit (.bool true)], args := [d1, d2] }
  | _ => none }
def fnExactStepWorksRow : OpenClaim := { program := "ytgocfmgofmkfgaa", sum := "b71c43bc6a7579f1f785ded8efeca728aba3f5ca7e1d1327b6c247fe85b24f96", func := "loop.example/g01019/laws.FnExactStepWorks", spec := "fnExactStepWorks", inPlace := ["slices.overlaps[loop.example/g01019/impl.Pan]"], unfollowed := true, recurses := true, apart := false }
def FnExactStepWorksSaid : Prop := fnExactStepWorksRow.holds Try.pinned (OpenSpec.ofChange fnExactStepWorksSpec)

/-- ITS FALSE NEIGHBOUR: 'it returns false'. Refute it at one input. -/
def fnExactStepWorksWrong : ChangeSpec := { name := "fnExactStepWorks", fn := fun _ => fun
  | [d1, d2] => { results := [.lit (.bool false)], args := [d1, d2] }
  | _ => none }
def FnExactStepWorksWrongFalsely : Prop := fnExactStepWorksRow.holds Try.pinned (OpenSpec.ofChange fnExactStepWorksWrong)

/-- 'laws.FnExactRunWorks': WHATEVER THE INPUT: true; the input reads as it did. -/
def fnExactRunWorksSpec : ChangeSpec := { name := "fnExactRunWorks", fn := fun _ => fun
  | [d1, d2] => { results := [.lit (.bool true)], args := [d1, d2] }
  | _ => none }
def fnExactRunWorksRow : OpenClaim := { program := "ytgocfmgofmkfgaa", sum := "b71c43bc6a7579f1f785ded8efeca728aba3f5ca7e1d1327b6c247fe85b24f96", func := "loop.example/g01019/laws.FnExactRunWorks", spec := "fnExactRunWorks", inPlace := ["slices.overlaps[loop.example/g01019/impl.Pan]"], unfollowed := true, recurses := true, apart := false }
def FnExactRunWorksSaid : Prop := fnExactRunWorksRow.holds Try.pinned (OpenSpec.ofChange fnExactRunWorksSpec)

/-- ITS FALSE NEIGHBOUR: 'it returns false'. Refute it at one input. -/
def fnExactRunWorksWrong : ChangeSpec := { name := "fnExactRunWorks", fn := fun _ => fun
  | [d1, d2] => { results := [.lit (.bool false)], args := [d1, d2] }
  | _ => none }
def FnExactRunWorksWrongFalsely : Prop := fnExactRunWorksRow.holds Try.pinned (OpenSpec.ofChange fnExactRunWorksWrong)

/-- 'laws.FnExactNewConsole': WHATEVER THE INPUT: true; the input reads as it did. -/
def fnExactNewConsoleSpec : ChangeSpec := { name := "fnExactNewConsole", fn := fun _ => fun
  | [d] => { results := [.lit (.bool true)], args := [d] }
  | _ => none }
def fnExactNewConsoleRow : OpenClaim := { program := "ytgocfmgofmkfgaa", sum := "b71c43bc6a7579f1f785ded8efeca728aba3f5ca7e1d1327b6c247fe85b24f96", func := "loop.example/g01019/laws.FnExactNewConsole", spec := "fnExactNewConsole", apart := false }
def FnExactNewConsoleSaid : Prop := fnExactNewConsoleRow.holds Try.pinned (OpenSpec.ofChange fnExactNewConsoleSpec)

/-- ITS FALSE NEIGHBOUR: 'it returns false'. Refute it at one input. -/
def fnExactNewConsoleWrong : ChangeSpec := { name := "fnExactNewConsole", fn := fun _ => fun
  | [d] => { results := [.lit (.bool false)], args := [d] }
  | _ => none }
def FnExactNewConsoleWrongFalsely : Prop := fnExactNewConsoleRow.holds Try.pinned (OpenSpec.ofChange fnExactNewConsoleWrong)

/- THE SECOND FORM. 'bulk': how many values and letters a reading holds, each counted each time it is reached (what is shared counts as often as it is met; a slice's spare places count too). A statement '..UptoSaid' is the law's where the arguments, and the package variables that the reading takes, are together of bulk at most 1048576: NARROWER than '..Said'. Prove '..Said' where nothing that the law and all that it calls make is longer than what came in: it says more and counts as full. Else prove '..UptoSaid'. A law counts once. -/
mutual
def uptoBulk {H : Type} : DataW H → Nat
  | .lit (.string bytes) => bytes.length + 1
  | .lit _ => 1
  | .nil => 1
  | .ptr d => uptoBulk d + 1
  | .slice elems spare => uptoBulkAll elems + uptoBulkAll spare + 1
  | .agg parts => uptoBulkAll parts + 1
  | .iface _ d => uptoBulk d + 1
  | .map entries => uptoBulkEntries entries + 1
  | .held _ => 1
def uptoBulkAll {H : Type} : List (DataW H) → Nat
  | [] => 0
  | d :: r => uptoBulk d + uptoBulkAll r
def uptoBulkEntries {H : Type} : List (Lit × DataW H) → Nat
  | [] => 0
  | x :: r => uptoBulkEntry x + uptoBulkEntries r
def uptoBulkEntry {H : Type} : Lit × DataW H → Nat
  | (.string bytes, d) => bytes.length + uptoBulk d + 1
  | (_, d) => uptoBulk d + 1
 end
def uptoSmall : (H : Type) → List (DataW H) → Bool := fun _ ds => decide (uptoBulkAll ds ≤ 1048576)
def OpenSpec.upto (s : _root_.Go.ChangeSpec) : _root_.Go.OpenSpec := { _root_.Go.OpenSpec.ofChange s with cond := some uptoSmall }

/-- 'laws.FnExactIsWorks', WHERE WHAT IT READS IS OF BULK AT MOST 1048576: true; the input reads as it did. -/
def fnExactIsWorksUptoRow : OpenClaim := { program := "ytgocfmgofmkfgaa", sum := "b71c43bc6a7579f1f785ded8efeca728aba3f5ca7e1d1327b6c247fe85b24f96", func := "loop.example/g01019/laws.FnExactIsWorks", spec := "fnExactIsWorks", apart := false, narrowed := true }
def FnExactIsWorksUptoSaid : Prop := fnExactIsWorksUptoRow.holds Try.pinned (OpenSpec.upto fnExactIsWorksSpec)

/-- 'laws.FnExactSaltInPans', WHERE WHAT IT READS IS OF BULK AT MOST 1048576: true; the input reads as it did. -/
def fnExactSaltInPansUptoRow : OpenClaim := { program := "ytgocfmgofmkfgaa", sum := "b71c43bc6a7579f1f785ded8efeca728aba3f5ca7e1d1327b6c247fe85b24f96", func := "loop.example/g01019/laws.FnExactSaltInPans", spec := "fnExactSaltInPans", apart := false, narrowed := true }
def FnExactSaltInPansUptoSaid : Prop := fnExactSaltInPansUptoRow.holds Try.pinned (OpenSpec.upto fnExactSaltInPansSpec)

/-- 'laws.FnExactRoomInPan', WHERE WHAT IT READS IS OF BULK AT MOST 1048576: true; the input reads as it did. -/
def fnExactRoomInPanUptoRow : OpenClaim := { program := "ytgocfmgofmkfgaa", sum := "b71c43bc6a7579f1f785ded8efeca728aba3f5ca7e1d1327b6c247fe85b24f96", func := "loop.example/g01019/laws.FnExactRoomInPan", spec := "fnExactRoomInPan", unfollowed := true, recurses := true, apart := false, narrowed := true }
def FnExactRoomInPanUptoSaid : Prop := fnExactRoomInPanUptoRow.holds Try.pinned (OpenSpec.upto fnExactRoomInPanSpec)

/-- 'laws.FnExactDryToRake', WHERE WHAT IT READS IS OF BULK AT MOST 1048576: true; the input reads as it did. -/
def fnExactDryToRakeUptoRow : OpenClaim := { program := "ytgocfmgofmkfgaa", sum := "b71c43bc6a7579f1f785ded8efeca728aba3f5ca7e1d1327b6c247fe85b24f96", func := "loop.example/g01019/laws.FnExactDryToRake", spec := "fnExactDryToRake", unfollowed := true, recurses := true, apart := false, narrowed := true }
def FnExactDryToRakeUptoSaid : Prop := fnExactDryToRakeUptoRow.holds Try.pinned (OpenSpec.upto fnExactDryToRakeSpec)

/-- 'laws.FnExactMayRake', WHERE WHAT IT READS IS OF BULK AT MOST 1048576: true; the input reads as it did. -/
def fnExactMayRakeUptoRow : OpenClaim := { program := "ytgocfmgofmkfgaa", sum := "b71c43bc6a7579f1f785ded8efeca728aba3f5ca7e1d1327b6c247fe85b24f96", func := "loop.example/g01019/laws.FnExactMayRake", spec := "fnExactMayRake", apart := false, narrowed := true }
def FnExactMayRakeUptoSaid : Prop := fnExactMayRakeUptoRow.holds Try.pinned (OpenSpec.upto fnExactMayRakeSpec)

/-- 'laws.FnExactPanOrder', WHERE WHAT IT READS IS OF BULK AT MOST 1048576: true; the input reads as it did. -/
def fnExactPanOrderUptoRow : OpenClaim := { program := "ytgocfmgofmkfgaa", sum := "b71c43bc6a7579f1f785ded8efeca728aba3f5ca7e1d1327b6c247fe85b24f96", func := "loop.example/g01019/laws.FnExactPanOrder", spec := "fnExactPanOrder", unfollowed := true, recurses := true, apart := false, narrowed := true }
def FnExactPanOrderUptoSaid : Prop := fnExactPanOrderUptoRow.holds Try.pinned (OpenSpec.upto fnExactPanOrderSpec)

/-- 'laws.FnExactStepWorks', WHERE WHAT IT READS IS OF BULK AT MOST 1048576: true; the input reads as it did. -/
def fnExactStepWorksUptoRow : OpenClaim := { program := "ytgocfmgofmkfgaa", sum := "b71c43bc6a7579f1f785ded8efeca728aba3f5ca7e1d1327b6c247fe85b24f96", func := "loop.example/g01019/laws.FnExactStepWorks", spec := "fnExactStepWorks", inPlace := ["slices.overlaps[loop.example/g01019/impl.Pan]"], unfollowed := true, recurses := true, apart := false, narrowed := true }
def FnExactStepWorksUptoSaid : Prop := fnExactStepWorksUptoRow.holds Try.pinned (OpenSpec.upto fnExactStepWorksSpec)

/-- 'laws.FnExactRunWorks', WHERE WHAT IT READS IS OF BULK AT MOST 1048576: true; the input reads as it did. -/
def fnExactRunWorksUptoRow : OpenClaim := { program := "ytgocfmgofmkfgaa", sum := "b71c43bc6a7579f1f785ded8efeca728aba3f5ca7e1d1327b6c247fe85b24f96", func := "loop.example/g01019/laws.FnExactRunWorks", spec := "fnExactRunWorks", inPlace := ["slices.overlaps[loop.example/g01019/impl.Pan]"], unfollowed := true, recurses := true, apart := false, narrowed := true }
def FnExactRunWorksUptoSaid : Prop := fnExactRunWorksUptoRow.holds Try.pinned (OpenSpec.upto fnExactRunWorksSpec)

/-- 'laws.FnExactNewConsole', WHERE WHAT IT READS IS OF BULK AT MOST 1048576: true; the input reads as it did. -/
def fnExactNewConsoleUptoRow : OpenClaim := { program := "ytgocfmgofmkfgaa", sum := "b71c43bc6a7579f1f785ded8efeca728aba3f5ca7e1d1327b6c247fe85b24f96", func := "loop.example/g01019/laws.FnExactNewConsole", spec := "fnExactNewConsole", apart := false, narrowed := true }
def FnExactNewConsoleUptoSaid : Prop := fnExactNewConsoleUptoRow.holds Try.pinned (OpenSpec.upto fnExactNewConsoleSpec)

end Rows
end Go.Proofs.Ytgocfmgofmkfgaa
