/-
  No cell of these rows narrows 'for every input' (looked for: loops, veiled, ifaces, maps, wideKeys, modest, calm, conditions, laid).
  DERIVED. THE GIVEN ROWS OF THIS SEAT. 8 by the template 'for every input the law returns true; each argument reads behind the call as it read before'; 0 by the template 'total and deterministic' (their statements: YtcecaoooepemiaaTotals.lean).
  GIVEN WITH THE SEED: the statements are not yours to turn. If you find one false, say at which input.
  Laid BY PROGRAM, IN A SANDBOX (cutbox-rows.mjs): the forced cells as the released guide's own fill.sh prints them over the translation 52e29e309e572c03… (all of the seat's roots in one cut). By AI agents, Wed Nov 11 2026. No macro, syntax, notation, axiom, sorry.
-/
import Derived.Test.YtcecaoooepemiaaChecked
import GoSem.Claim
import GoSem.ClaimJoined
import GoSem.ClaimMapViews
import Derived.JoinedTies
import Derived.KernelRfl
namespace Go.Proofs.Ytcecaoooepemiaa
/- THE CELL 'sum', in the pinned program and in every row, IS THE sha256 OF THE DUMP (.gsa) THAT YtcecaoooepemiaaProg.lean LOADS. Nothing in Lean hashes anything: it is a label: what it is worth is what the hold of that sum in a sandbox is worth. -/
noncomputable def Try.pinned : Pinned := { name := "ytcecaoooepemiaa", sum := "52e29e309e572c03cc5cb6e49ae2d838e8e52d9dc01056fd0af42097d3632129", checked := Try.checked }
namespace Rows
def none {H : Type} : Left H := { results := [], args := [] }

/-- 'laws.FnExactNearestNest': WHATEVER THE INPUT: true; the input reads as it did. -/
def fnExactNearestNestSpec : ChangeSpec := { name := "fnExactNearestNest", fn := fun _ => fun
  | [d1, d2, d3] => { results := [.lit (.bool true)], args := [d1, d2, d3] }
  | _ => none }
def fnExactNearestNestRow : OpenClaim := { program := "ytcecaoooepemiaa", sum := "52e29e309e572c03cc5cb6e49ae2d838e8e52d9dc01056fd0af42097d3632129", func := "loop.example/g01019/laws.FnExactNearestNest", spec := "fnExactNearestNest", apart := false }
def FnExactNearestNestSaid : Prop := fnExactNearestNestRow.holds Try.pinned (OpenSpec.ofChange fnExactNearestNestSpec)

/-- ITS FALSE NEIGHBOUR: 'it returns false'. Refute it at one input. -/
def fnExactNearestNestWrong : ChangeSpec := { name := "fnExactNearestNest", fn := fun _ => fun
  | [d1, d2, d3] => { results := [.lit (.bool false)], args := [d1, d2, d3] }
  | _ => none }
def FnExactNearestNestWrongFalsely : Prop := fnExactNearestNestRow.holds Try.pinned (OpenSpec.ofChange fnExactNearestNestWrong)

/-- 'laws.FnExactWorkDays': WHATEVER THE INPUT: true; the input reads as it did. -/
def fnExactWorkDaysSpec : ChangeSpec := { name := "fnExactWorkDays", fn := fun _ => fun
  | [d1, d2, d3, d4] => { results := [.lit (.bool true)], args := [d1, d2, d3, d4] }
  | _ => none }
def fnExactWorkDaysRow : OpenClaim := { program := "ytcecaoooepemiaa", sum := "52e29e309e572c03cc5cb6e49ae2d838e8e52d9dc01056fd0af42097d3632129", func := "loop.example/g01019/laws.FnExactWorkDays", spec := "fnExactWorkDays", unfollowed := true, recurses := true, apart := false }
def FnExactWorkDaysSaid : Prop := fnExactWorkDaysRow.holds Try.pinned (OpenSpec.ofChange fnExactWorkDaysSpec)

/-- ITS FALSE NEIGHBOUR: 'it returns false'. Refute it at one input. -/
def fnExactWorkDaysWrong : ChangeSpec := { name := "fnExactWorkDays", fn := fun _ => fun
  | [d1, d2, d3, d4] => { results := [.lit (.bool false)], args := [d1, d2, d3, d4] }
  | _ => none }
def FnExactWorkDaysWrongFalsely : Prop := fnExactWorkDaysRow.holds Try.pinned (OpenSpec.ofChange fnExactWorkDaysWrong)

/-- 'laws.FnExactAliveOn': WHATEVER THE INPUT: true; the input reads as it did. -/
def fnExactAliveOnSpec : ChangeSpec := { name := "fnExactAliveOn", fn := fun _ => fun
  | [d1, d2] => { results := [.lit (.bool true)], args := [d1, d2] }
  | _ => none }
def fnExactAliveOnRow : OpenClaim := { program := "ytcecaoooepemiaa", sum := "52e29e309e572c03cc5cb6e49ae2d838e8e52d9dc01056fd0af42097d3632129", func := "loop.example/g01019/laws.FnExactAliveOn", spec := "fnExactAliveOn", apart := false }
def FnExactAliveOnSaid : Prop := fnExactAliveOnRow.holds Try.pinned (OpenSpec.ofChange fnExactAliveOnSpec)

/-- ITS FALSE NEIGHBOUR: 'it returns false'. Refute it at one input. -/
def fnExactAliveOnWrong : ChangeSpec := { name := "fnExactAliveOn", fn := fun _ => fun
  | [d1, d2] => { results := [.lit (.bool false)], args := [d1, d2] }
  | _ => none }
def FnExactAliveOnWrongFalsely : Prop := fnExactAliveOnRow.holds Try.pinned (OpenSpec.ofChange fnExactAliveOnWrong)

/-- 'laws.FnExactLongestWork': WHATEVER THE INPUT: true; the input reads as it did. -/
def fnExactLongestWorkSpec : ChangeSpec := { name := "fnExactLongestWork", fn := fun _ => fun
  | [d1, d2, d3, d4] => { results := [.lit (.bool true)], args := [d1, d2, d3, d4] }
  | _ => none }
def fnExactLongestWorkRow : OpenClaim := { program := "ytcecaoooepemiaa", sum := "52e29e309e572c03cc5cb6e49ae2d838e8e52d9dc01056fd0af42097d3632129", func := "loop.example/g01019/laws.FnExactLongestWork", spec := "fnExactLongestWork", unfollowed := true, recurses := true, apart := false }
def FnExactLongestWorkSaid : Prop := fnExactLongestWorkRow.holds Try.pinned (OpenSpec.ofChange fnExactLongestWorkSpec)

/-- ITS FALSE NEIGHBOUR: 'it returns false'. Refute it at one input. -/
def fnExactLongestWorkWrong : ChangeSpec := { name := "fnExactLongestWork", fn := fun _ => fun
  | [d1, d2, d3, d4] => { results := [.lit (.bool false)], args := [d1, d2, d3, d4] }
  | _ => none }
def FnExactLongestWorkWrongFalsely : Prop := fnExactLongestWorkRow.holds Try.pinned (OpenSpec.ofChange fnExactLongestWorkWrong)

/-- 'laws.FnExactNearPairs': WHATEVER THE INPUT: true; the input reads as it did. -/
def fnExactNearPairsSpec : ChangeSpec := { name := "fnExactNearPairs", fn := fun _ => fun
  | [d] => { results := [.lit (.bool true)], args := [d] }
  | _ => none }
def fnExactNearPairsRow : OpenClaim := { program := "ytcecaoooepemiaa", sum := "52e29e309e572c03cc5cb6e49ae2d838e8e52d9dc01056fd0af42097d3632129", func := "loop.example/g01019/laws.FnExactNearPairs", spec := "fnExactNearPairs", apart := false }
def FnExactNearPairsSaid : Prop := fnExactNearPairsRow.holds Try.pinned (OpenSpec.ofChange fnExactNearPairsSpec)

/-- ITS FALSE NEIGHBOUR: 'it returns false'. Refute it at one input. -/
def fnExactNearPairsWrong : ChangeSpec := { name := "fnExactNearPairs", fn := fun _ => fun
  | [d] => { results := [.lit (.bool false)], args := [d] }
  | _ => none }
def FnExactNearPairsWrongFalsely : Prop := fnExactNearPairsRow.holds Try.pinned (OpenSpec.ofChange fnExactNearPairsWrong)

/-- 'laws.FnExactPathPast': WHATEVER THE INPUT: true; the input reads as it did. -/
def fnExactPathPastSpec : ChangeSpec := { name := "fnExactPathPast", fn := fun _ => fun
  | [d1, d2, d3] => { results := [.lit (.bool true)], args := [d1, d2, d3] }
  | _ => none }
def fnExactPathPastRow : OpenClaim := { program := "ytcecaoooepemiaa", sum := "52e29e309e572c03cc5cb6e49ae2d838e8e52d9dc01056fd0af42097d3632129", func := "loop.example/g01019/laws.FnExactPathPast", spec := "fnExactPathPast", unfollowed := true, recurses := true, apart := false }
def FnExactPathPastSaid : Prop := fnExactPathPastRow.holds Try.pinned (OpenSpec.ofChange fnExactPathPastSpec)

/-- ITS FALSE NEIGHBOUR: 'it returns false'. Refute it at one input. -/
def fnExactPathPastWrong : ChangeSpec := { name := "fnExactPathPast", fn := fun _ => fun
  | [d1, d2, d3] => { results := [.lit (.bool false)], args := [d1, d2, d3] }
  | _ => none }
def FnExactPathPastWrongFalsely : Prop := fnExactPathPastRow.holds Try.pinned (OpenSpec.ofChange fnExactPathPastWrong)

/-- 'laws.FnExactKindsAt': WHATEVER THE INPUT: true; the input reads as it did. -/
def fnExactKindsAtSpec : ChangeSpec := { name := "fnExactKindsAt", fn := fun _ => fun
  | [d1, d2] => { results := [.lit (.bool true)], args := [d1, d2] }
  | _ => none }
def fnExactKindsAtRow : OpenClaim := { program := "ytcecaoooepemiaa", sum := "52e29e309e572c03cc5cb6e49ae2d838e8e52d9dc01056fd0af42097d3632129", func := "loop.example/g01019/laws.FnExactKindsAt", spec := "fnExactKindsAt", recurses := true, apart := false }
def FnExactKindsAtSaid : Prop := fnExactKindsAtRow.holds Try.pinned (OpenSpec.ofChange fnExactKindsAtSpec)

/-- ITS FALSE NEIGHBOUR: 'it returns false'. Refute it at one input. -/
def fnExactKindsAtWrong : ChangeSpec := { name := "fnExactKindsAt", fn := fun _ => fun
  | [d1, d2] => { results := [.lit (.bool false)], args := [d1, d2] }
  | _ => none }
def FnExactKindsAtWrongFalsely : Prop := fnExactKindsAtRow.holds Try.pinned (OpenSpec.ofChange fnExactKindsAtWrong)

/-- 'laws.FnExactQuietPonds': WHATEVER THE INPUT: true; the input reads as it did. -/
def fnExactQuietPondsSpec : ChangeSpec := { name := "fnExactQuietPonds", fn := fun _ => fun
  | [d1, d2] => { results := [.lit (.bool true)], args := [d1, d2] }
  | _ => none }
def fnExactQuietPondsRow : OpenClaim := { program := "ytcecaoooepemiaa", sum := "52e29e309e572c03cc5cb6e49ae2d838e8e52d9dc01056fd0af42097d3632129", func := "loop.example/g01019/laws.FnExactQuietPonds", spec := "fnExactQuietPonds", recurses := true, apart := false }
def FnExactQuietPondsSaid : Prop := fnExactQuietPondsRow.holds Try.pinned (OpenSpec.ofChange fnExactQuietPondsSpec)

/-- ITS FALSE NEIGHBOUR: 'it returns false'. Refute it at one input. -/
def fnExactQuietPondsWrong : ChangeSpec := { name := "fnExactQuietPonds", fn := fun _ => fun
  | [d1, d2] => { results := [.lit (.bool false)], args := [d1, d2] }
  | _ => none }
def FnExactQuietPondsWrongFalsely : Prop := fnExactQuietPondsRow.holds Try.pinned (OpenSpec.ofChange fnExactQuietPondsWrong)

/- THE SECOND FORM. 'bulk': how many values and letters a reading holds, each counted each time it is reached (what is shared counts as often as it is met; a slice's spare places count too). A statement '..UptoSaid' is the law's where the arguments, and the package variables that the reading takes, are together of bulk at most 1048576: NARROWER than '..Said'. Prove '..Said' where nothing that the law and all that it calls make is longer than what came in: it says more and counts as full. Else prove '..UptoSaid'. A law counts once. -/
mutual
def uptoBulk {H : Type} : DataW H → Nat
  | .lit (.string bytes) => bytes.length + 1
  | .lit _ => 1
  | .nil => 1
  | .ptr d => uptoBulk d + 1
  | .slice elems spare => uptoBulkAll elems + uptoBulkAll spare + 1
  | .agg parts => uptoBulkAll parts + 1
  | .iface _ d => uptoBulk d + 1
  | .map entries => uptoBulkEntries entries + 1
  | .held _ => 1
def uptoBulkAll {H : Type} : List (DataW H) → Nat
  | [] => 0
  | d :: r => uptoBulk d + uptoBulkAll r
def uptoBulkEntries {H : Type} : List (Lit × DataW H) → Nat
  | [] => 0
  | x :: r => uptoBulkEntry x + uptoBulkEntries r
def uptoBulkEntry {H : Type} : Lit × DataW H → Nat
  | (.string bytes, d) => bytes.length + uptoBulk d + 1
  | (_, d) => uptoBulk d + 1
 end
def uptoSmall : (H : Type) → List (DataW H) → Bool := fun _ ds => decide (uptoBulkAll ds ≤ 1048576)
def OpenSpec.upto (s : _root_.Go.ChangeSpec) : _root_.Go.OpenSpec := { _root_.Go.OpenSpec.ofChange s with cond := some uptoSmall }

/-- 'laws.FnExactNearestNest', WHERE WHAT IT READS IS OF BULK AT MOST 1048576: true; the input reads as it did. -/
def fnExactNearestNestUptoRow : OpenClaim := { program := "ytcecaoooepemiaa", sum := "52e29e309e572c03cc5cb6e49ae2d838e8e52d9dc01056fd0af42097d3632129", func := "loop.example/g01019/laws.FnExactNearestNest", spec := "fnExactNearestNest", apart := false, narrowed := true }
def FnExactNearestNestUptoSaid : Prop := fnExactNearestNestUptoRow.holds Try.pinned (OpenSpec.upto fnExactNearestNestSpec)

/-- 'laws.FnExactWorkDays', WHERE WHAT IT READS IS OF BULK AT MOST 1048576: true; the input reads as it did. -/
def fnExactWorkDaysUptoRow : OpenClaim := { program := "ytcecaoooepemiaa", sum := "52e29e309e572c03cc5cb6e49ae2d838e8e52d9dc01056fd0af42097d3632129", func := "loop.example/g01019/laws.FnExactWorkDays", spec := "fnExactWorkDays", unfollowed := true, recurses := true, apart := false, narrowed := true }
def FnExactWorkDaysUptoSaid : Prop := fnExactWorkDaysUptoRow.holds Try.pinned (OpenSpec.upto fnExactWorkDaysSpec)

/-- 'laws.FnExactAliveOn', WHERE WHAT IT READS IS OF BULK AT MOST 1048576: true; the input reads as it did. -/
def fnExactAliveOnUptoRow : OpenClaim := { program := "ytcecaoooepemiaa", sum := "52e29e309e572c03cc5cb6e49ae2d838e8e52d9dc01056fd0af42097d3632129", func := "loop.example/g01019/laws.FnExactAliveOn", spec := "fnExactAliveOn", apart := false, narrowed := true }
def FnExactAliveOnUptoSaid : Prop := fnExactAliveOnUptoRow.holds Try.pinned (OpenSpec.upto fnExactAliveOnSpec)

/-- 'laws.FnExactLongestWork', WHERE WHAT IT READS IS OF BULK AT MOST 1048576: true; the input reads as it did. -/
def fnExactLongestWorkUptoRow : OpenClaim := { program := "ytcecaoooepemiaa", sum := "52e29e309e572c03cc5cb6e49ae2d838e8e52d9dc01056fd0af42097d3632129", func := "loop.example/g01019/laws.FnExactLongestWork", spec := "fnExactLongestWork", unfollowed := true, recurses := true, apart := false, narrowed := true }
def FnExactLongestWorkUptoSaid : Prop := fnExactLongestWorkUptoRow.holds Try.pinned (OpenSpec.upto fnExactLongestWorkSpec)

/-- 'laws.FnExactNearPairs', WHERE WHAT IT READS IS OF BULK AT MOST 1048576: true; the input reads as it did. -/
def fnExactNearPairsUptoRow : OpenClaim := { program := "ytcecaoooepemiaa", sum := "52e29e309e572c03cc5cb6e49ae2d838e8e52d9dc01056fd0af42097d3632129", func := "loop.example/g01019/laws.FnExactNearPairs", spec := "fnExactNearPairs", apart := false, narrowed := true }
def FnExactNearPairsUptoSaid : Prop := fnExactNearPairsUptoRow.holds Try.pinned (OpenSpec.upto fnExactNearPairsSpec)

/-- 'laws.FnExactPathPast', WHERE WHAT IT READS IS OF BULK AT MOST 1048576: true; the input reads as it did. -/
def fnExactPathPastUptoRow : OpenClaim := { program := "ytcecaoooepemiaa", sum := "52e29e309e572c03cc5cb6e49ae2d838e8e52d9dc01056fd0af42097d3632129", func := "loop.example/g01019/laws.FnExactPathPast", spec := "fnExactPathPast", unfollowed := true, recurses := true, apart := false, narrowed := true }
def FnExactPathPastUptoSaid : Prop := fnExactPathPastUptoRow.holds Try.pinned (OpenSpec.upto fnExactPathPastSpec)

/-- 'laws.FnExactKindsAt', WHERE WHAT IT READS IS OF BULK AT MOST 1048576: true; the input reads as it did. -/
def fnExactKindsAtUptoRow : OpenClaim := { program := "ytcecaoooepemiaa", sum := "52e29e309e572c03cc5cb6e49ae2d838e8e52d9dc01056fd0af42097d3632129", func := "loop.example/g01019/laws.FnExactKindsAt", spec := "fnExactKindsAt", recurses := true, apart := false, narrowed := true }
def FnExactKindsAtUptoSaid : Prop := fnExactKindsAtUptoRow.holds Try.pinned (OpenSpec.upto fnExactKindsAtSpec)

/-- 'laws.FnExactQuietPonds', WHERE WHAT IT READS IS OF BULK AT MOST 1048576: true; the input reads as it did. -/
def fnExactQuietPondsUptoRow : OpenClaim := { program := "ytcecaoooepemiaa", sum := "52e29e309e572c03cc5cb6e49ae2d838e8e52d9dc01056fd0af42097d3632129", func := "loop.example/g01019/laws.FnExactQuietPonds", spec := "fnExactQuietPonds", recurses := true, apart := false, narrowed := true }
def FnExactQuietPondsUptoSaid : Prop := fnExactQuietPondsUptoRow.holds Try.pinned (OpenSpec.upto fnExactQuietPondsSpec)

end Rows
end Go.Proofs.Ytcecaoooepemiaa
