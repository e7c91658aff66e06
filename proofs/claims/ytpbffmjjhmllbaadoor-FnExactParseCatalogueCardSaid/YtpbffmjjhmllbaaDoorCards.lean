/-
  DERIVED. GIVEN WITH THE SEED: THE CARDS: each row of YtpbffmjjhmllbaaDoorRows.lean that lists a variable, with what it lists TIED to the program's text (the seventh form; the later family's looks); each row that meets fmt, with fmt's text TOLD by the authors' own Lean function (tested against real Go, not proved from fmt's source: count such statements apart). THE CARD IS WHAT COUNTS. Prove the row's statement (the work); the ties are given (YtpbffmjjhmllbaaDoorTie.lean); close each card by the builder's one call (the guide's Derived/Test/ToyasCard.lean, 'card_holds'). Laid BY PROGRAM, IN A SANDBOX (cutbox-door.mjs). By AI agents, Wed Nov 11 2026. No macro, syntax, notation, axiom, sorry.
-/
import Derived.Test.YtpbffmjjhmllbaaDoorRows
import GoSem.ClaimSeven
namespace Go.Proofs.YtpbffmjjhmllbaaDoor
namespace Rows

/-- THE TIED CARD OF 'laws.FnChecksums'. -/
def fnChecksumsCard : Claim7 := { stood := { row := fnChecksumsRow, standIns := [], harness := (true, "3efee68d77b137d9fec44dee15dbaa15fdd6c25f4d09b09931394555209273cd"), looks := false }, kinds := [], alts := [], laidByText := true, laidKinds := [.data, .data, .data], laidTests := true, laidLooks := .later }
def FnChecksumsCardSaid : Prop := Claim7.holds Tryd.pinned (.plain (OpenSpec.ofChange fnChecksumsSpec)) fnChecksumsCard

/-- THE TIED CARD OF 'laws.FnExactParseCatalogue'. -/
def fnExactParseCatalogueCard : Claim7 := { stood := { row := fnExactParseCatalogueRow, standIns := [], harness := (true, "3efee68d77b137d9fec44dee15dbaa15fdd6c25f4d09b09931394555209273cd"), looks := false }, kinds := [], alts := [], laidByText := true, laidKinds := [.data, .pinned], laidTests := true, laidLooks := .later }
def FnExactParseCatalogueCardSaid : Prop := Claim7.holds Tryd.pinned (.plain (OpenSpec.ofChange fnExactParseCatalogueSpec)) fnExactParseCatalogueCard

/-- THE SECOND FORM's CARD OF 'laws.FnChecksums'. -/
def fnChecksumsUptoCard : Claim7 := { stood := { row := fnChecksumsUptoRow, standIns := [], harness := (true, "3efee68d77b137d9fec44dee15dbaa15fdd6c25f4d09b09931394555209273cd"), looks := false }, kinds := [], alts := [], laidByText := true, laidKinds := [.data, .data, .data], laidTests := true, laidLooks := .later }
def FnChecksumsUptoCardSaid : Prop := Claim7.holds Tryd.pinned (.plain (OpenSpec.upto fnChecksumsSpec)) fnChecksumsUptoCard

/-- THE SECOND FORM's CARD OF 'laws.FnExactParseCatalogue'. -/
def fnExactParseCatalogueUptoCard : Claim7 := { stood := { row := fnExactParseCatalogueUptoRow, standIns := [], harness := (true, "3efee68d77b137d9fec44dee15dbaa15fdd6c25f4d09b09931394555209273cd"), looks := false }, kinds := [], alts := [], laidByText := true, laidKinds := [.data, .pinned], laidTests := true, laidLooks := .later }
def FnExactParseCatalogueUptoCardSaid : Prop := Claim7.holds Tryd.pinned (.plain (OpenSpec.upto fnExactParseCatalogueSpec)) fnExactParseCatalogueUptoCard
end Rows
end Go.Proofs.YtpbffmjjhmllbaaDoor
