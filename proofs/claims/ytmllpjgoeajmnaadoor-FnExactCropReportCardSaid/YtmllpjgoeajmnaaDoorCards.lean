/-
  DERIVED. GIVEN WITH THE SEED: THE CARDS: each row of YtmllpjgoeajmnaaDoorRows.lean that lists a variable, with what it lists TIED to the program's text (the seventh form; the later family's looks); each row that meets fmt, with fmt's text TOLD by the authors' own Lean function (tested against real Go, not proved from fmt's source: count such statements apart). THE CARD IS WHAT COUNTS. Prove the row's statement (the work); the ties are given (YtmllpjgoeajmnaaDoorTie.lean); close each card by the builder's one call (the guide's Derived/Test/ToyasCard.lean, 'card_holds'). Laid BY PROGRAM, IN A SANDBOX (cutbox-door.mjs). By AI agents, Wed Nov 11 2026. No macro, syntax, notation, axiom, sorry.
-/
import Derived.Test.YtmllpjgoeajmnaaDoorRows
import GoSem.ClaimSeven
namespace Go.Proofs.YtmllpjgoeajmnaaDoor
namespace Rows

/-- THE TIED CARD OF 'laws.FnExactCropLine'. -/
def fnExactCropLineCard : Claim7 := { stood := { row := fnExactCropLineRow, standIns := [], harness := (true, "7bc69dfe7b2d17bad86496ca8afe17e31f58c73f8bf0daed51b5a623089d3cac"), looks := false }, kinds := [], alts := [], laidByText := true, laidKinds := [.data, .data, .data], laidTests := true, laidLooks := .later }
def FnExactCropLineCardSaid : Prop := Claim7.holds Tryd.pinned (.plain (OpenSpec.ofChange fnExactCropLineSpec)) fnExactCropLineCard

/-- THE TIED CARD OF 'laws.FnExactCropReport'. -/
def fnExactCropReportCard : Claim7 := { stood := { row := fnExactCropReportRow, standIns := [], harness := (true, "7bc69dfe7b2d17bad86496ca8afe17e31f58c73f8bf0daed51b5a623089d3cac"), looks := false }, kinds := [], alts := [], laidByText := true, laidKinds := [.data, .data, .data], laidTests := true, laidLooks := .later }
def FnExactCropReportCardSaid : Prop := Claim7.holds Tryd.pinned (.plain (OpenSpec.ofChange fnExactCropReportSpec)) fnExactCropReportCard

/-- THE SECOND FORM's CARD OF 'laws.FnExactCropLine'. -/
def fnExactCropLineUptoCard : Claim7 := { stood := { row := fnExactCropLineUptoRow, standIns := [], harness := (true, "7bc69dfe7b2d17bad86496ca8afe17e31f58c73f8bf0daed51b5a623089d3cac"), looks := false }, kinds := [], alts := [], laidByText := true, laidKinds := [.data, .data, .data], laidTests := true, laidLooks := .later }
def FnExactCropLineUptoCardSaid : Prop := Claim7.holds Tryd.pinned (.plain (OpenSpec.upto fnExactCropLineSpec)) fnExactCropLineUptoCard

/-- THE SECOND FORM's CARD OF 'laws.FnExactCropReport'. -/
def fnExactCropReportUptoCard : Claim7 := { stood := { row := fnExactCropReportUptoRow, standIns := [], harness := (true, "7bc69dfe7b2d17bad86496ca8afe17e31f58c73f8bf0daed51b5a623089d3cac"), looks := false }, kinds := [], alts := [], laidByText := true, laidKinds := [.data, .data, .data], laidTests := true, laidLooks := .later }
def FnExactCropReportUptoCardSaid : Prop := Claim7.holds Tryd.pinned (.plain (OpenSpec.upto fnExactCropReportSpec)) fnExactCropReportUptoCard
end Rows
end Go.Proofs.YtmllpjgoeajmnaaDoor
