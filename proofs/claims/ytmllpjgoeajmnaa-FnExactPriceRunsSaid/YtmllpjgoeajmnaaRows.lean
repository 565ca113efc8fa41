/-
  No cell of these rows narrows 'for every input' (looked for: loops, veiled, ifaces, maps, wideKeys, modest, calm, conditions, laid).
  DERIVED. THE GIVEN ROWS OF THIS SEAT. 9 by the template 'for every input the law returns true; each argument reads behind the call as it read before'; 0 by the template 'total and deterministic' (their statements: YtmllpjgoeajmnaaTotals.lean).
  GIVEN WITH THE SEED: the statements are not yours to turn. If you find one false, say at which input.
  Laid BY PROGRAM, IN A SANDBOX (cutbox-rows.mjs): the forced cells as the released guide's own fill.sh prints them over the translation 629d6c45ef8a1697… (all of the seat's roots in one cut). By AI agents, Wed Nov 11 2026. No macro, syntax, notation, axiom, sorry.
-/
import Derived.Test.YtmllpjgoeajmnaaChecked
import GoSem.Claim
import GoSem.ClaimJoined
import GoSem.ClaimMapViews
import Derived.JoinedTies
import Derived.KernelRfl
namespace Go.Proofs.Ytmllpjgoeajmnaa
/- THE CELL 'sum', in the pinned program and in every row, IS THE sha256 OF THE DUMP (.gsa) THAT YtmllpjgoeajmnaaProg.lean LOADS. Nothing in Lean hashes anything: it is a label: what it is worth is what the hold of that sum in a sandbox is worth. -/
noncomputable def Try.pinned : Pinned := { name := "ytmllpjgoeajmnaa", sum := "629d6c45ef8a1697a5d18c161e9811912bf4d396cc89aaeee5c60f92be230040", checked := Try.checked }
namespace Rows
def none {H : Type} : Left H := { results := [], args := [] }

/-- 'laws.FnExactIsCropRow': WHATEVER THE INPUT: true; the input reads as it did. -/
def fnExactIsCropRowSpec : ChangeSpec := { name := "fnExactIsCropRow", fn := fun _ => fun
  | [d] => { results := [.lit (.bool true)], args := [d] }
  | _ => none }
def fnExactIsCropRowRow : OpenClaim := { program := "ytmllpjgoeajmnaa", sum := "629d6c45ef8a1697a5d18c161e9811912bf4d396cc89aaeee5c60f92be230040", func := "loop.example/g01019/laws.FnExactIsCropRow", spec := "fnExactIsCropRow", apart := false }
def FnExactIsCropRowSaid : Prop := fnExactIsCropRowRow.holds Try.pinned (OpenSpec.ofChange fnExactIsCropRowSpec)

/-- ITS FALSE NEIGHBOUR: 'it returns false'. Refute it at one input. -/
def fnExactIsCropRowWrong : ChangeSpec := { name := "fnExactIsCropRow", fn := fun _ => fun
  | [d] => { results := [.lit (.bool false)], args := [d] }
  | _ => none }
def FnExactIsCropRowWrongFalsely : Prop := fnExactIsCropRowRow.holds Try.pinned (OpenSpec.ofChange fnExactIsCropRowWrong)

/-- 'laws.FnExactAreCropRows': WHATEVER THE INPUT: true; the input reads as it did. -/
def fnExactAreCropRowsSpec : ChangeSpec := { name := "fnExactAreCropRows", fn := fun _ => fun
  | [d] => { results := [.lit (.bool true)], args := [d] }
  | _ => none }
def fnExactAreCropRowsRow : OpenClaim := { program := "ytmllpjgoeajmnaa", sum := "629d6c45ef8a1697a5d18c161e9811912bf4d396cc89aaeee5c60f92be230040", func := "loop.example/g01019/laws.FnExactAreCropRows", spec := "fnExactAreCropRows", apart := false }
def FnExactAreCropRowsSaid : Prop := fnExactAreCropRowsRow.holds Try.pinned (OpenSpec.ofChange fnExactAreCropRowsSpec)

/-- ITS FALSE NEIGHBOUR: 'it returns false'. Refute it at one input. -/
def fnExactAreCropRowsWrong : ChangeSpec := { name := "fnExactAreCropRows", fn := fun _ => fun
  | [d] => { results := [.lit (.bool false)], args := [d] }
  | _ => none }
def FnExactAreCropRowsWrongFalsely : Prop := fnExactAreCropRowsRow.holds Try.pinned (OpenSpec.ofChange fnExactAreCropRowsWrong)

/-- 'laws.FnExactBestCrop': WHATEVER THE INPUT: true; the input reads as it did. -/
def fnExactBestCropSpec : ChangeSpec := { name := "fnExactBestCrop", fn := fun _ => fun
  | [d] => { results := [.lit (.bool true)], args := [d] }
  | _ => none }
def fnExactBestCropRow : OpenClaim := { program := "ytmllpjgoeajmnaa", sum := "629d6c45ef8a1697a5d18c161e9811912bf4d396cc89aaeee5c60f92be230040", func := "loop.example/g01019/laws.FnExactBestCrop", spec := "fnExactBestCrop", apart := false }
def FnExactBestCropSaid : Prop := fnExactBestCropRow.holds Try.pinned (OpenSpec.ofChange fnExactBestCropSpec)

/-- ITS FALSE NEIGHBOUR: 'it returns false'. Refute it at one input. -/
def fnExactBestCropWrong : ChangeSpec := { name := "fnExactBestCrop", fn := fun _ => fun
  | [d] => { results := [.lit (.bool false)], args := [d] }
  | _ => none }
def FnExactBestCropWrongFalsely : Prop := fnExactBestCropRow.holds Try.pinned (OpenSpec.ofChange fnExactBestCropWrong)

/-- 'laws.FnExactWorstFall': WHATEVER THE INPUT: true; the input reads as it did. -/
def fnExactWorstFallSpec : ChangeSpec := { name := "fnExactWorstFall", fn := fun _ => fun
  | [d] => { results := [.lit (.bool true)], args := [d] }
  | _ => none }
def fnExactWorstFallRow : OpenClaim := { program := "ytmllpjgoeajmnaa", sum := "629d6c45ef8a1697a5d18c161e9811912bf4d396cc89aaeee5c60f92be230040", func := "loop.example/g01019/laws.FnExactWorstFall", spec := "fnExactWorstFall", apart := false }
def FnExactWorstFallSaid : Prop := fnExactWorstFallRow.holds Try.pinned (OpenSpec.ofChange fnExactWorstFallSpec)

/-- ITS FALSE NEIGHBOUR: 'it returns false'. Refute it at one input. -/
def fnExactWorstFallWrong : ChangeSpec := { name := "fnExactWorstFall", fn := fun _ => fun
  | [d] => { results := [.lit (.bool false)], args := [d] }
  | _ => none }
def FnExactWorstFallWrongFalsely : Prop := fnExactWorstFallRow.holds Try.pinned (OpenSpec.ofChange fnExactWorstFallWrong)

/-- 'laws.FnExactTonsForDay': WHATEVER THE INPUT: true; the input reads as it did. -/
def fnExactTonsForDaySpec : ChangeSpec := { name := "fnExactTonsForDay", fn := fun _ => fun
  | [d] => { results := [.lit (.bool true)], args := [d] }
  | _ => none }
def fnExactTonsForDayRow : OpenClaim := { program := "ytmllpjgoeajmnaa", sum := "629d6c45ef8a1697a5d18c161e9811912bf4d396cc89aaeee5c60f92be230040", func := "loop.example/g01019/laws.FnExactTonsForDay", spec := "fnExactTonsForDay", apart := false }
def FnExactTonsForDaySaid : Prop := fnExactTonsForDayRow.holds Try.pinned (OpenSpec.ofChange fnExactTonsForDaySpec)

/-- ITS FALSE NEIGHBOUR: 'it returns false'. Refute it at one input. -/
def fnExactTonsForDayWrong : ChangeSpec := { name := "fnExactTonsForDay", fn := fun _ => fun
  | [d] => { results := [.lit (.bool false)], args := [d] }
  | _ => none }
def FnExactTonsForDayWrongFalsely : Prop := fnExactTonsForDayRow.holds Try.pinned (OpenSpec.ofChange fnExactTonsForDayWrong)

/-- 'laws.FnExactWorthOf': WHATEVER THE INPUT: true; the input reads as it did. -/
def fnExactWorthOfSpec : ChangeSpec := { name := "fnExactWorthOf", fn := fun _ => fun
  | [d] => { results := [.lit (.bool true)], args := [d] }
  | _ => none }
def fnExactWorthOfRow : OpenClaim := { program := "ytmllpjgoeajmnaa", sum := "629d6c45ef8a1697a5d18c161e9811912bf4d396cc89aaeee5c60f92be230040", func := "loop.example/g01019/laws.FnExactWorthOf", spec := "fnExactWorthOf", apart := false }
def FnExactWorthOfSaid : Prop := fnExactWorthOfRow.holds Try.pinned (OpenSpec.ofChange fnExactWorthOfSpec)

/-- ITS FALSE NEIGHBOUR: 'it returns false'. Refute it at one input. -/
def fnExactWorthOfWrong : ChangeSpec := { name := "fnExactWorthOf", fn := fun _ => fun
  | [d] => { results := [.lit (.bool false)], args := [d] }
  | _ => none }
def FnExactWorthOfWrongFalsely : Prop := fnExactWorthOfRow.holds Try.pinned (OpenSpec.ofChange fnExactWorthOfWrong)

/-- 'laws.FnExactYearsAbove': WHATEVER THE INPUT: true; the input reads as it did. -/
def fnExactYearsAboveSpec : ChangeSpec := { name := "fnExactYearsAbove", fn := fun _ => fun
  | [d1, d2] => { results := [.lit (.bool true)], args := [d1, d2] }
  | _ => none }
def fnExactYearsAboveRow : OpenClaim := { program := "ytmllpjgoeajmnaa", sum := "629d6c45ef8a1697a5d18c161e9811912bf4d396cc89aaeee5c60f92be230040", func := "loop.example/g01019/laws.FnExactYearsAbove", spec := "fnExactYearsAbove", apart := false }
def FnExactYearsAboveSaid : Prop := fnExactYearsAboveRow.holds Try.pinned (OpenSpec.ofChange fnExactYearsAboveSpec)

/-- ITS FALSE NEIGHBOUR: 'it returns false'. Refute it at one input. -/
def fnExactYearsAboveWrong : ChangeSpec := { name := "fnExactYearsAbove", fn := fun _ => fun
  | [d1, d2] => { results := [.lit (.bool false)], args := [d1, d2] }
  | _ => none }
def FnExactYearsAboveWrongFalsely : Prop := fnExactYearsAboveRow.holds Try.pinned (OpenSpec.ofChange fnExactYearsAboveWrong)

/-- 'laws.FnExactPriceRuns': WHATEVER THE INPUT: true; the input reads as it did. -/
def fnExactPriceRunsSpec : ChangeSpec := { name := "fnExactPriceRuns", fn := fun _ => fun
  | [d] => { results := [.lit (.bool true)], args := [d] }
  | _ => none }
def fnExactPriceRunsRow : OpenClaim := { program := "ytmllpjgoeajmnaa", sum := "629d6c45ef8a1697a5d18c161e9811912bf4d396cc89aaeee5c60f92be230040", func := "loop.example/g01019/laws.FnExactPriceRuns", spec := "fnExactPriceRuns", apart := false }
def FnExactPriceRunsSaid : Prop := fnExactPriceRunsRow.holds Try.pinned (OpenSpec.ofChange fnExactPriceRunsSpec)

/-- ITS FALSE NEIGHBOUR: 'it returns false'. Refute it at one input. -/
def fnExactPriceRunsWrong : ChangeSpec := { name := "fnExactPriceRuns", fn := fun _ => fun
  | [d] => { results := [.lit (.bool false)], args := [d] }
  | _ => none }
def FnExactPriceRunsWrongFalsely : Prop := fnExactPriceRunsRow.holds Try.pinned (OpenSpec.ofChange fnExactPriceRunsWrong)

/-- 'laws.FnExactAddCrop': WHATEVER THE INPUT: true; the input reads as it did. -/
def fnExactAddCropSpec : ChangeSpec := { name := "fnExactAddCrop", fn := fun _ => fun
  | [d1, d2] => { results := [.lit (.bool true)], args := [d1, d2] }
  | _ => none }
def fnExactAddCropRow : OpenClaim := { program := "ytmllpjgoeajmnaa", sum := "629d6c45ef8a1697a5d18c161e9811912bf4d396cc89aaeee5c60f92be230040", func := "loop.example/g01019/laws.FnExactAddCrop", spec := "fnExactAddCrop", inPlace := ["slices.overlaps[loop.example/g01019/impl.CropRow]"], apart := false }
def FnExactAddCropSaid : Prop := fnExactAddCropRow.holds Try.pinned (OpenSpec.ofChange fnExactAddCropSpec)

/-- ITS FALSE NEIGHBOUR: 'it returns false'. Refute it at one input. -/
def fnExactAddCropWrong : ChangeSpec := { name := "fnExactAddCrop", fn := fun _ => fun
  | [d1, d2] => { results := [.lit (.bool false)], args := [d1, d2] }
  | _ => none }
def FnExactAddCropWrongFalsely : Prop := fnExactAddCropRow.holds Try.pinned (OpenSpec.ofChange fnExactAddCropWrong)

/- THE SECOND FORM. 'bulk': how many values and letters a reading holds, each counted each time it is reached (what is shared counts as often as it is met; a slice's spare places count too). A statement '..UptoSaid' is the law's where the arguments, and the package variables that the reading takes, are together of bulk at most 1048576: NARROWER than '..Said'. Prove '..Said' where nothing that the law and all that it calls make is longer than what came in: it says more and counts as full. Else prove '..UptoSaid'. A law counts once. -/
mutual
def uptoBulk {H : Type} : DataW H → Nat
  | .lit (.string bytes) => bytes.length + 1
  | .lit _ => 1
  | .nil => 1
  | .ptr d => uptoBulk d + 1
  | .slice elems spare => uptoBulkAll elems + uptoBulkAll spare + 1
  | .agg parts => uptoBulkAll parts + 1
  | .iface _ d => uptoBulk d + 1
  | .map entries => uptoBulkEntries entries + 1
  | .held _ => 1
def uptoBulkAll {H : Type} : List (DataW H) → Nat
  | [] => 0
  | d :: r => uptoBulk d + uptoBulkAll r
def uptoBulkEntries {H : Type} : List (Lit × DataW H) → Nat
  | [] => 0
  | x :: r => uptoBulkEntry x + uptoBulkEntries r
def uptoBulkEntry {H : Type} : Lit × DataW H → Nat
  | (.string bytes, d) => bytes.length + uptoBulk d + 1
  | (_, d) => uptoBulk d + 1
 end
def uptoSmall : (H : Type) → List (DataW H) → Bool := fun _ ds => decide (uptoBulkAll ds ≤ 1048576)
def OpenSpec.upto (s : _root_.Go.ChangeSpec) : _root_.Go.OpenSpec := { _root_.Go.OpenSpec.ofChange s with cond := some uptoSmall }

/-- 'laws.FnExactIsCropRow', WHERE WHAT IT READS IS OF BULK AT MOST 1048576: true; the input reads as it did. -/
def fnExactIsCropRowUptoRow : OpenClaim := { program := "ytmllpjgoeajmnaa", sum := "629d6c45ef8a1697a5d18c161e9811912bf4d396cc89aaeee5c60f92be230040", func := "loop.example/g01019/laws.FnExactIsCropRow", spec := "fnExactIsCropRow", apart := false, narrowed := true }
def FnExactIsCropRowUptoSaid : Prop := fnExactIsCropRowUptoRow.holds Try.pinned (OpenSpec.upto fnExactIsCropRowSpec)

/-- 'laws.FnExactAreCropRows', WHERE WHAT IT READS IS OF BULK AT MOST 1048576: true; the input reads as it did. -/
def fnExactAreCropRowsUptoRow : OpenClaim := { program := "ytmllpjgoeajmnaa", sum := "629d6c45ef8a1697a5d18c161e9811912bf4d396cc89aaeee5c60f92be230040", func := "loop.example/g01019/laws.FnExactAreCropRows", spec := "fnExactAreCropRows", apart := false, narrowed := true }
def FnExactAreCropRowsUptoSaid : Prop := fnExactAreCropRowsUptoRow.holds Try.pinned (OpenSpec.upto fnExactAreCropRowsSpec)

/-- 'laws.FnExactBestCrop', WHERE WHAT IT READS IS OF BULK AT MOST 1048576: true; the input reads as it did. -/
def fnExactBestCropUptoRow : OpenClaim := { program := "ytmllpjgoeajmnaa", sum := "629d6c45ef8a1697a5d18c161e9811912bf4d396cc89aaeee5c60f92be230040", func := "loop.example/g01019/laws.FnExactBestCrop", spec := "fnExactBestCrop", apart := false, narrowed := true }
def FnExactBestCropUptoSaid : Prop := fnExactBestCropUptoRow.holds Try.pinned (OpenSpec.upto fnExactBestCropSpec)

/-- 'laws.FnExactWorstFall', WHERE WHAT IT READS IS OF BULK AT MOST 1048576: true; the input reads as it did. -/
def fnExactWorstFallUptoRow : OpenClaim := { program := "ytmllpjgoeajmnaa", sum := "629d6c45ef8a1697a5d18c161e9811912bf4d396cc89aaeee5c60f92be230040", func := "loop.example/g01019/laws.FnExactWorstFall", spec := "fnExactWorstFall", apart := false, narrowed := true }
def FnExactWorstFallUptoSaid : Prop := fnExactWorstFallUptoRow.holds Try.pinned (OpenSpec.upto fnExactWorstFallSpec)

/-- 'laws.FnExactTonsForDay', WHERE WHAT IT READS IS OF BULK AT MOST 1048576: true; the input reads as it did. -/
def fnExactTonsForDayUptoRow : OpenClaim := { program := "ytmllpjgoeajmnaa", sum := "629d6c45ef8a1697a5d18c161e9811912bf4d396cc89aaeee5c60f92be230040", func := "loop.example/g01019/laws.FnExactTonsForDay", spec := "fnExactTonsForDay", apart := false, narrowed := true }
def FnExactTonsForDayUptoSaid : Prop := fnExactTonsForDayUptoRow.holds Try.pinned (OpenSpec.upto fnExactTonsForDaySpec)

/-- 'laws.FnExactWorthOf', WHERE WHAT IT READS IS OF BULK AT MOST 1048576: true; the input reads as it did. -/
def fnExactWorthOfUptoRow : OpenClaim := { program := "ytmllpjgoeajmnaa", sum := "629d6c45ef8a1697a5d18c161e9811912bf4d396cc89aaeee5c60f92be230040", func := "loop.example/g01019/laws.FnExactWorthOf", spec := "fnExactWorthOf", apart := false, narrowed := true }
def FnExactWorthOfUptoSaid : Prop := fnExactWorthOfUptoRow.holds Try.pinned (OpenSpec.upto fnExactWorthOfSpec)

/-- 'laws.FnExactYearsAbove', WHERE WHAT IT READS IS OF BULK AT MOST 1048576: true; the input reads as it did. -/
def fnExactYearsAboveUptoRow : OpenClaim := { program := "ytmllpjgoeajmnaa", sum := "629d6c45ef8a1697a5d18c161e9811912bf4d396cc89aaeee5c60f92be230040", func := "loop.example/g01019/laws.FnExactYearsAbove", spec := "fnExactYearsAbove", apart := false, narrowed := true }
def FnExactYearsAboveUptoSaid : Prop := fnExactYearsAboveUptoRow.holds Try.pinned (OpenSpec.upto fnExactYearsAboveSpec)

/-- 'laws.FnExactPriceRuns', WHERE WHAT IT READS IS OF BULK AT MOST 1048576: true; the input reads as it did. -/
def fnExactPriceRunsUptoRow : OpenClaim := { program := "ytmllpjgoeajmnaa", sum := "629d6c45ef8a1697a5d18c161e9811912bf4d396cc89aaeee5c60f92be230040", func := "loop.example/g01019/laws.FnExactPriceRuns", spec := "fnExactPriceRuns", apart := false, narrowed := true }
def FnExactPriceRunsUptoSaid : Prop := fnExactPriceRunsUptoRow.holds Try.pinned (OpenSpec.upto fnExactPriceRunsSpec)

/-- 'laws.FnExactAddCrop', WHERE WHAT IT READS IS OF BULK AT MOST 1048576: true; the input reads as it did. -/
def fnExactAddCropUptoRow : OpenClaim := { program := "ytmllpjgoeajmnaa", sum := "629d6c45ef8a1697a5d18c161e9811912bf4d396cc89aaeee5c60f92be230040", func := "loop.example/g01019/laws.FnExactAddCrop", spec := "fnExactAddCrop", inPlace := ["slices.overlaps[loop.example/g01019/impl.CropRow]"], apart := false, narrowed := true }
def FnExactAddCropUptoSaid : Prop := fnExactAddCropUptoRow.holds Try.pinned (OpenSpec.upto fnExactAddCropSpec)

end Rows
end Go.Proofs.Ytmllpjgoeajmnaa
