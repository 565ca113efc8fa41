/-
  DERIVED. GIVEN WITH THE SEED: THE CARDS: each row of YtjkockhldaacbaaDoorRows.lean that lists a variable, with what it lists TIED to the program's text (the seventh form; the later family's looks); each row that meets fmt, with fmt's text TOLD by the authors' own Lean function (tested against real Go, not proved from fmt's source: count such statements apart). THE CARD IS WHAT COUNTS. Prove the row's statement (the work); the ties are given (YtjkockhldaacbaaDoorTie.lean); close each card by the builder's one call (the guide's Derived/Test/ToyasCard.lean, 'card_holds'). Laid BY PROGRAM, IN A SANDBOX (cutbox-door.mjs). By AI agents, Wed Nov 11 2026. No macro, syntax, notation, axiom, sorry.
-/
import Derived.Test.YtjkockhldaacbaaDoorRows
import GoSem.ClaimSeven
namespace Go.Proofs.YtjkockhldaacbaaDoor
namespace Rows

/-- THE TIED CARD OF 'laws.FnPans'. -/
def fnPansCard : Claim7 := { stood := { row := fnPansRow, standIns := [], harness := (true, "044a2a0449e6252dce7120c525331f6132b473146902a75eebf3afdf280a9ad5"), looks := false }, kinds := [], alts := [], laidByText := true, laidKinds := [.data, .data, .data], laidTests := true, laidLooks := .later }
def FnPansCardSaid : Prop := Claim7.holds Tryd.pinned (.plain (OpenSpec.ofChange fnPansSpec)) fnPansCard

/-- THE SECOND FORM's CARD OF 'laws.FnPans'. -/
def fnPansUptoCard : Claim7 := { stood := { row := fnPansUptoRow, standIns := [], harness := (true, "044a2a0449e6252dce7120c525331f6132b473146902a75eebf3afdf280a9ad5"), looks := false }, kinds := [], alts := [], laidByText := true, laidKinds := [.data, .data, .data], laidTests := true, laidLooks := .later }
def FnPansUptoCardSaid : Prop := Claim7.holds Tryd.pinned (.plain (OpenSpec.upto fnPansSpec)) fnPansUptoCard
end Rows
end Go.Proofs.YtjkockhldaacbaaDoor
