/-
  DERIVED. GIVEN WITH THE SEED: THE CARDS: each row of YtkkmeccdjpibmaaGreatDoorRows.lean that lists a variable, with what it lists TIED to the program's text (the seventh form; the later family's looks); each row that meets fmt, with fmt's text TOLD by the authors' own Lean function (tested against real Go, not proved from fmt's source: count such statements apart). THE CARD IS WHAT COUNTS. Prove the row's statement (the work); the ties are given (YtkkmeccdjpibmaaGreatDoorTie.lean); close each card by the builder's one call (the guide's Derived/Test/ToyasCard.lean, 'card_holds'). Laid BY PROGRAM, IN A SANDBOX (cutbox-door.mjs). By AI agents, Wed Nov 11 2026. No macro, syntax, notation, axiom, sorry.
-/
import Derived.Test.YtkkmeccdjpibmaaGreatDoorRows
import GoSem.ClaimSeven
namespace Go.Proofs.YtkkmeccdjpibmaaGreatDoor
namespace Rows

/-- THE TIED CARD OF 'laws.FnCatalogue'. -/
def fnCatalogueCard : Claim7 := { stood := { row := fnCatalogueRow, standIns := [], harness := (true, "0908b93b48ebc86748768045071b36489a68d1503f57a410cee5cdf91d94d35c"), looks := false }, kinds := [], alts := [], laidByText := true, laidKinds := [.data, .data, .data, .data, .pinned], laidTests := true, laidLooks := .later }
def FnCatalogueCardSaid : Prop := Claim7.holds Tryz.pinned (.plain (OpenSpec.ofChange fnCatalogueSpec)) fnCatalogueCard

/-- THE SECOND FORM's CARD OF 'laws.FnCatalogue'. -/
def fnCatalogueUptoCard : Claim7 := { stood := { row := fnCatalogueUptoRow, standIns := [], harness := (true, "0908b93b48ebc86748768045071b36489a68d1503f57a410cee5cdf91d94d35c"), looks := false }, kinds := [], alts := [], laidByText := true, laidKinds := [.data, .data, .data, .data, .pinned], laidTests := true, laidLooks := .later }
def FnCatalogueUptoCardSaid : Prop := Claim7.holds Tryz.pinned (.plain (OpenSpec.upto fnCatalogueSpec)) fnCatalogueUptoCard
end Rows
end Go.Proofs.YtkkmeccdjpibmaaGreatDoor
