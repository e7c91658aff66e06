/-
  DERIVED. GIVEN WITH THE SEED: THE CARDS: each row of YtlcobkldkcdhbaaDoorRows.lean that lists a variable, with what it lists TIED to the program's text (the seventh form; the later family's looks); each row that meets fmt, with fmt's text TOLD by the authors' own Lean function (tested against real Go, not proved from fmt's source: count such statements apart). THE CARD IS WHAT COUNTS. Prove the row's statement (the work); the ties are given (YtlcobkldkcdhbaaDoorTie.lean); close each card by the builder's one call (the guide's Derived/Test/ToyasCard.lean, 'card_holds'). Laid BY PROGRAM, IN A SANDBOX (cutbox-door.mjs). By AI agents, Wed Nov 11 2026. No macro, syntax, notation, axiom, sorry.
-/
import Derived.Test.YtlcobkldkcdhbaaDoorRows
import GoSem.ClaimSeven
namespace Go.Proofs.YtlcobkldkcdhbaaDoor
namespace Rows

/-- THE TIED CARD OF 'laws.FnExactChecksumText'. -/
def fnExactChecksumTextCard : Claim7 := { stood := { row := fnExactChecksumTextRow, standIns := [], harness := (true, "ce8e49b0f5e8e34a7ad53a699f31bc0efefe6bd9f7160c9c09dff5e261c56f07"), looks := false }, kinds := [], alts := [], laidByText := true, laidKinds := [.data, .data, .data], laidTests := true, laidLooks := .later }
def FnExactChecksumTextCardSaid : Prop := Claim7.holds Tryd.pinned (.plain (OpenSpec.ofChange fnExactChecksumTextSpec)) fnExactChecksumTextCard

/-- THE SECOND FORM's CARD OF 'laws.FnExactChecksumText'. -/
def fnExactChecksumTextUptoCard : Claim7 := { stood := { row := fnExactChecksumTextUptoRow, standIns := [], harness := (true, "ce8e49b0f5e8e34a7ad53a699f31bc0efefe6bd9f7160c9c09dff5e261c56f07"), looks := false }, kinds := [], alts := [], laidByText := true, laidKinds := [.data, .data, .data], laidTests := true, laidLooks := .later }
def FnExactChecksumTextUptoCardSaid : Prop := Claim7.holds Tryd.pinned (.plain (OpenSpec.upto fnExactChecksumTextSpec)) fnExactChecksumTextUptoCard
end Rows
end Go.Proofs.YtlcobkldkcdhbaaDoor
