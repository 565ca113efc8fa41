/-
  DERIVED. GIVEN WITH THE SEED: THE CARDS: each row of YtcecaoooepemiaaDoorRows.lean that lists a variable, with what it lists TIED to the program's text (the seventh form; the later family's looks); each row that meets fmt, with fmt's text TOLD by the authors' own Lean function (tested against real Go, not proved from fmt's source: count such statements apart). THE CARD IS WHAT COUNTS. Prove the row's statement (the work); the ties are given (YtcecaoooepemiaaDoorTie.lean); close each card by the builder's one call (the guide's Derived/Test/ToyasCard.lean, 'card_holds'). Laid BY PROGRAM, IN A SANDBOX (cutbox-door.mjs). By AI agents, Wed Nov 11 2026. No macro, syntax, notation, axiom, sorry.
-/
import Derived.Test.YtcecaoooepemiaaDoorRows
import GoSem.ClaimSeven
namespace Go.Proofs.YtcecaoooepemiaaDoor
namespace Rows

/-- THE TIED CARD OF 'laws.FnExactNestText'. -/
def fnExactNestTextCard : Claim7 := { stood := { row := fnExactNestTextRow, standIns := [], harness := (true, "2f454eae4cc98688c34dd080c967217994464da3fc45a0f7f5ca31481da8fe72"), looks := false }, kinds := [], alts := [], laidByText := true, laidKinds := [.data, .data, .data], laidTests := true, laidLooks := .later }
def FnExactNestTextCardSaid : Prop := Claim7.holds Tryd.pinned (.plain (OpenSpec.ofChange fnExactNestTextSpec)) fnExactNestTextCard

/-- THE SECOND FORM's CARD OF 'laws.FnExactNestText'. -/
def fnExactNestTextUptoCard : Claim7 := { stood := { row := fnExactNestTextUptoRow, standIns := [], harness := (true, "2f454eae4cc98688c34dd080c967217994464da3fc45a0f7f5ca31481da8fe72"), looks := false }, kinds := [], alts := [], laidByText := true, laidKinds := [.data, .data, .data], laidTests := true, laidLooks := .later }
def FnExactNestTextUptoCardSaid : Prop := Claim7.holds Tryd.pinned (.plain (OpenSpec.upto fnExactNestTextSpec)) fnExactNestTextUptoCard
end Rows
end Go.Proofs.YtcecaoooepemiaaDoor
