/-
  DERIVED. GIVEN WITH THE SEED: THE CARDS: each row of YtoifgemjcpkapaaDoorRows.lean that lists a variable, with what it lists TIED to the program's text (the seventh form; the later family's looks); each row that meets fmt, with fmt's text TOLD by the authors' own Lean function (tested against real Go, not proved from fmt's source: count such statements apart). THE CARD IS WHAT COUNTS. Prove the row's statement (the work); the ties are given (YtoifgemjcpkapaaDoorTie.lean); close each card by the builder's one call (the guide's Derived/Test/ToyasCard.lean, 'card_holds'). Laid BY PROGRAM, IN A SANDBOX (cutbox-door.mjs). By AI agents, Wed Nov 11 2026. No macro, syntax, notation, axiom, sorry.
-/
import Derived.Test.YtoifgemjcpkapaaDoorRows
import GoSem.ClaimSeven
namespace Go.Proofs.YtoifgemjcpkapaaDoor
namespace Rows

/-- THE TIED CARD OF 'laws.FnExactPartsText'. -/
def fnExactPartsTextCard : Claim7 := { stood := { row := fnExactPartsTextRow, standIns := [], harness := (true, "b122b2b42d3114318253d88b0644e22be7de2b8c85ab81bc723d62c82364709c"), looks := false }, kinds := [], alts := [], laidByText := true, laidKinds := [.data, .data, .data], laidTests := true, laidLooks := .later }
def FnExactPartsTextCardSaid : Prop := Claim7.holds Tryd.pinned (.plain (OpenSpec.ofChange fnExactPartsTextSpec)) fnExactPartsTextCard

/-- THE TIED CARD OF 'laws.FnExactCatalogueText'. -/
def fnExactCatalogueTextCard : Claim7 := { stood := { row := fnExactCatalogueTextRow, standIns := [], harness := (true, "b122b2b42d3114318253d88b0644e22be7de2b8c85ab81bc723d62c82364709c"), looks := false }, kinds := [], alts := [], laidByText := true, laidKinds := [.data, .data, .data], laidTests := true, laidLooks := .later }
def FnExactCatalogueTextCardSaid : Prop := Claim7.holds Tryd.pinned (.plain (OpenSpec.ofChange fnExactCatalogueTextSpec)) fnExactCatalogueTextCard

/-- THE TIED CARD OF 'laws.FnExactParseCatalogue'. -/
def fnExactParseCatalogueCard : Claim7 := { stood := { row := fnExactParseCatalogueRow, standIns := [], harness := (true, "b122b2b42d3114318253d88b0644e22be7de2b8c85ab81bc723d62c82364709c"), looks := false }, kinds := [], alts := [], laidByText := true, laidKinds := [.data, .pinned], laidTests := true, laidLooks := .later }
def FnExactParseCatalogueCardSaid : Prop := Claim7.holds Tryd.pinned (.plain (OpenSpec.ofChange fnExactParseCatalogueSpec)) fnExactParseCatalogueCard

/-- THE SECOND FORM's CARD OF 'laws.FnExactPartsText'. -/
def fnExactPartsTextUptoCard : Claim7 := { stood := { row := fnExactPartsTextUptoRow, standIns := [], harness := (true, "b122b2b42d3114318253d88b0644e22be7de2b8c85ab81bc723d62c82364709c"), looks := false }, kinds := [], alts := [], laidByText := true, laidKinds := [.data, .data, .data], laidTests := true, laidLooks := .later }
def FnExactPartsTextUptoCardSaid : Prop := Claim7.holds Tryd.pinned (.plain (OpenSpec.upto fnExactPartsTextSpec)) fnExactPartsTextUptoCard

/-- THE SECOND FORM's CARD OF 'laws.FnExactCatalogueText'. -/
def fnExactCatalogueTextUptoCard : Claim7 := { stood := { row := fnExactCatalogueTextUptoRow, standIns := [], harness := (true, "b122b2b42d3114318253d88b0644e22be7de2b8c85ab81bc723d62c82364709c"), looks := false }, kinds := [], alts := [], laidByText := true, laidKinds := [.data, .data, .data], laidTests := true, laidLooks := .later }
def FnExactCatalogueTextUptoCardSaid : Prop := Claim7.holds Tryd.pinned (.plain (OpenSpec.upto fnExactCatalogueTextSpec)) fnExactCatalogueTextUptoCard

/-- THE SECOND FORM's CARD OF 'laws.FnExactParseCatalogue'. -/
def fnExactParseCatalogueUptoCard : Claim7 := { stood := { row := fnExactParseCatalogueUptoRow, standIns := [], harness := (true, "b122b2b42d3114318253d88b0644e22be7de2b8c85ab81bc723d62c82364709c"), looks := false }, kinds := [], alts := [], laidByText := true, laidKinds := [.data, .pinned], laidTests := true, laidLooks := .later }
def FnExactParseCatalogueUptoCardSaid : Prop := Claim7.holds Tryd.pinned (.plain (OpenSpec.upto fnExactParseCatalogueSpec)) fnExactParseCatalogueUptoCard
end Rows
end Go.Proofs.YtoifgemjcpkapaaDoor
