/-
  DERIVED. GIVEN WITH THE SEED: THE CARDS: each row of YtfejgoohefhjoaaDoorRows.lean that lists a variable, with what it lists TIED to the program's text (the seventh form; the later family's looks); each row that meets fmt, with fmt's text TOLD by the authors' own Lean function (tested against real Go, not proved from fmt's source: count such statements apart). THE CARD IS WHAT COUNTS. Prove the row's statement (the work); the ties are given (YtfejgoohefhjoaaDoorTie.lean); close each card by the builder's one call (the guide's Derived/Test/ToyasCard.lean, 'card_holds'). Laid BY PROGRAM, IN A SANDBOX (cutbox-door.mjs). By AI agents, Wed Nov 11 2026. No macro, syntax, notation, axiom, sorry.
-/
import Derived.Test.YtfejgoohefhjoaaDoorRows
import GoSem.ClaimSeven
namespace Go.Proofs.YtfejgoohefhjoaaDoor
namespace Rows

/-- THE TIED CARD OF 'laws.FnCrops'. -/
def fnCropsCard : Claim7 := { stood := { row := fnCropsRow, standIns := [], harness := (true, "b27f1f9da311f4079732fe7b39206825f6944eacbff40b33f18bb472939e1bbd"), looks := false }, kinds := [], alts := [], laidByText := true, laidKinds := [.data, .data, .data], laidTests := true, laidLooks := .later }
def FnCropsCardSaid : Prop := Claim7.holds Tryd.pinned (.plain (OpenSpec.ofChange fnCropsSpec)) fnCropsCard

/-- THE SECOND FORM's CARD OF 'laws.FnCrops'. -/
def fnCropsUptoCard : Claim7 := { stood := { row := fnCropsUptoRow, standIns := [], harness := (true, "b27f1f9da311f4079732fe7b39206825f6944eacbff40b33f18bb472939e1bbd"), looks := false }, kinds := [], alts := [], laidByText := true, laidKinds := [.data, .data, .data], laidTests := true, laidLooks := .later }
def FnCropsUptoCardSaid : Prop := Claim7.holds Tryd.pinned (.plain (OpenSpec.upto fnCropsSpec)) fnCropsUptoCard
end Rows
end Go.Proofs.YtfejgoohefhjoaaDoor
