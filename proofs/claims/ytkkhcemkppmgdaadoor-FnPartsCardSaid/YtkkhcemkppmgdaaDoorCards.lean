/-
  DERIVED. GIVEN WITH THE SEED: THE CARDS: each row of YtkkhcemkppmgdaaDoorRows.lean that lists a variable, with what it lists TIED to the program's text (the seventh form; the later family's looks); each row that meets fmt, with fmt's text TOLD by the authors' own Lean function (tested against real Go, not proved from fmt's source: count such statements apart). THE CARD IS WHAT COUNTS. Prove the row's statement (the work); the ties are given (YtkkhcemkppmgdaaDoorTie.lean); close each card by the builder's one call (the guide's Derived/Test/ToyasCard.lean, 'card_holds'). Laid BY PROGRAM, IN A SANDBOX (cutbox-door.mjs). By AI agents, Wed Nov 11 2026. No macro, syntax, notation, axiom, sorry.
-/
import Derived.Test.YtkkhcemkppmgdaaDoorRows
import GoSem.ClaimSeven
namespace Go.Proofs.YtkkhcemkppmgdaaDoor
namespace Rows

/-- THE TIED CARD OF 'laws.FnChecksums'. -/
def fnChecksumsCard : Claim7 := { stood := { row := fnChecksumsRow, standIns := [], harness := (true, "09c7e087fb2d20f65ac1dba45c86cd659696451014ca2b5462b647c0c1af0f18"), looks := false }, kinds := [], alts := [], laidByText := true, laidKinds := [.data, .data, .data], laidTests := true, laidLooks := .later }
def FnChecksumsCardSaid : Prop := Claim7.holds Tryd.pinned (.plain (OpenSpec.ofChange fnChecksumsSpec)) fnChecksumsCard

/-- THE TIED CARD OF 'laws.FnParts'. -/
def fnPartsCard : Claim7 := { stood := { row := fnPartsRow, standIns := [], harness := (true, "09c7e087fb2d20f65ac1dba45c86cd659696451014ca2b5462b647c0c1af0f18"), looks := false }, kinds := [], alts := [], laidByText := true, laidKinds := [.data, .data, .data], laidTests := true, laidLooks := .later }
def FnPartsCardSaid : Prop := Claim7.holds Tryd.pinned (.plain (OpenSpec.ofChange fnPartsSpec)) fnPartsCard

/-- THE SECOND FORM's CARD OF 'laws.FnChecksums'. -/
def fnChecksumsUptoCard : Claim7 := { stood := { row := fnChecksumsUptoRow, standIns := [], harness := (true, "09c7e087fb2d20f65ac1dba45c86cd659696451014ca2b5462b647c0c1af0f18"), looks := false }, kinds := [], alts := [], laidByText := true, laidKinds := [.data, .data, .data], laidTests := true, laidLooks := .later }
def FnChecksumsUptoCardSaid : Prop := Claim7.holds Tryd.pinned (.plain (OpenSpec.upto fnChecksumsSpec)) fnChecksumsUptoCard

/-- THE SECOND FORM's CARD OF 'laws.FnParts'. -/
def fnPartsUptoCard : Claim7 := { stood := { row := fnPartsUptoRow, standIns := [], harness := (true, "09c7e087fb2d20f65ac1dba45c86cd659696451014ca2b5462b647c0c1af0f18"), looks := false }, kinds := [], alts := [], laidByText := true, laidKinds := [.data, .data, .data], laidTests := true, laidLooks := .later }
def FnPartsUptoCardSaid : Prop := Claim7.holds Tryd.pinned (.plain (OpenSpec.upto fnPartsSpec)) fnPartsUptoCard
end Rows
end Go.Proofs.YtkkhcemkppmgdaaDoor
