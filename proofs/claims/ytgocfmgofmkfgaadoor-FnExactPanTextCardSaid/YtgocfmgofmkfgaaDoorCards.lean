/-
  DERIVED. GIVEN WITH THE SEED: THE CARDS: each row of YtgocfmgofmkfgaaDoorRows.lean that lists a variable, with what it lists TIED to the program's text (the seventh form; the later family's looks); each row that meets fmt, with fmt's text TOLD by the authors' own Lean function (tested against real Go, not proved from fmt's source: count such statements apart). THE CARD IS WHAT COUNTS. Prove the row's statement (the work); the ties are given (YtgocfmgofmkfgaaDoorTie.lean); close each card by the builder's one call (the guide's Derived/Test/ToyasCard.lean, 'card_holds'). Laid BY PROGRAM, IN A SANDBOX (cutbox-door.mjs). By AI agents, Wed Nov 11 2026. No macro, syntax, notation, axiom, sorry.
-/
import Derived.Test.YtgocfmgofmkfgaaDoorRows
import GoSem.ClaimSeven
namespace Go.Proofs.YtgocfmgofmkfgaaDoor
namespace Rows

/-- THE TIED CARD OF 'laws.FnExactPanText'. -/
def fnExactPanTextCard : Claim7 := { stood := { row := fnExactPanTextRow, standIns := [], harness := (true, "1a553dba92863bfcde4cfaf9ae9d78ce3025c825804c592bac68a04fcf0f76d5"), looks := false }, kinds := [], alts := [], laidByText := true, laidKinds := [.data, .data, .data], laidTests := true, laidLooks := .later }
def FnExactPanTextCardSaid : Prop := Claim7.holds Tryd.pinned (.plain (OpenSpec.ofChange fnExactPanTextSpec)) fnExactPanTextCard

/-- THE SECOND FORM's CARD OF 'laws.FnExactPanText'. -/
def fnExactPanTextUptoCard : Claim7 := { stood := { row := fnExactPanTextUptoRow, standIns := [], harness := (true, "1a553dba92863bfcde4cfaf9ae9d78ce3025c825804c592bac68a04fcf0f76d5"), looks := false }, kinds := [], alts := [], laidByText := true, laidKinds := [.data, .data, .data], laidTests := true, laidLooks := .later }
def FnExactPanTextUptoCardSaid : Prop := Claim7.holds Tryd.pinned (.plain (OpenSpec.upto fnExactPanTextSpec)) fnExactPanTextUptoCard
end Rows
end Go.Proofs.YtgocfmgofmkfgaaDoor
