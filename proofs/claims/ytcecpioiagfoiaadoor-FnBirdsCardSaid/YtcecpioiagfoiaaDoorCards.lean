/-
  DERIVED. GIVEN WITH THE SEED: THE CARDS: each row of YtcecpioiagfoiaaDoorRows.lean that lists a variable, with what it lists TIED to the program's text (the seventh form; the later family's looks); each row that meets fmt, with fmt's text TOLD by the authors' own Lean function (tested against real Go, not proved from fmt's source: count such statements apart). THE CARD IS WHAT COUNTS. Prove the row's statement (the work); the ties are given (YtcecpioiagfoiaaDoorTie.lean); close each card by the builder's one call (the guide's Derived/Test/ToyasCard.lean, 'card_holds'). Laid BY PROGRAM, IN A SANDBOX (cutbox-door.mjs). By AI agents, Wed Nov 11 2026. No macro, syntax, notation, axiom, sorry.
-/
import Derived.Test.YtcecpioiagfoiaaDoorRows
import GoSem.ClaimSeven
namespace Go.Proofs.YtcecpioiagfoiaaDoor
namespace Rows

/-- THE TIED CARD OF 'laws.FnBirds'. -/
def fnBirdsCard : Claim7 := { stood := { row := fnBirdsRow, standIns := [], harness := (true, "69a915c03b528d35cdef5a70e64dbeaa5625e5d00f3d5369fea3e89aa232a576"), looks := false }, kinds := [], alts := [], laidByText := true, laidKinds := [.data, .data, .data], laidTests := true, laidLooks := .later }
def FnBirdsCardSaid : Prop := Claim7.holds Tryd.pinned (.plain (OpenSpec.ofChange fnBirdsSpec)) fnBirdsCard

/-- THE SECOND FORM's CARD OF 'laws.FnBirds'. -/
def fnBirdsUptoCard : Claim7 := { stood := { row := fnBirdsUptoRow, standIns := [], harness := (true, "69a915c03b528d35cdef5a70e64dbeaa5625e5d00f3d5369fea3e89aa232a576"), looks := false }, kinds := [], alts := [], laidByText := true, laidKinds := [.data, .data, .data], laidTests := true, laidLooks := .later }
def FnBirdsUptoCardSaid : Prop := Claim7.holds Tryd.pinned (.plain (OpenSpec.upto fnBirdsSpec)) fnBirdsUptoCard
end Rows
end Go.Proofs.YtcecpioiagfoiaaDoor
