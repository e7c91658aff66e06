/-
  No cell of these rows narrows 'for every input' (looked for: loops, veiled, ifaces, maps, wideKeys, modest, calm, conditions, laid).
  DERIVED. THE GIVEN ROWS OF THIS SEAT. 10 by the template 'for every input the law returns true; each argument reads behind the call as it read before'; 0 by the template 'total and deterministic' (their statements: YtpjnojicgoeajaaTotals.lean).
  GIVEN WITH THE SEED: the statements are not yours to turn. If you find one false, say at which input.
  Laid BY PROGRAM, IN A SANDBOX (cutbox-rows.mjs): the forced cells as the released guide's own fill.sh prints them over the translation 1a4104a71a7a9fd1… (all of the seat's roots in one cut). By AI agents, Wed Nov 11 2026. No macro, syntax, notation, axiom, sorry.
-/
import Derived.Test.YtpjnojicgoeajaaChecked
import GoSem.Claim
import GoSem.ClaimJoined
import GoSem.ClaimMapViews
import Derived.JoinedTies
import Derived.KernelRfl
namespace Go.Proofs.Ytpjnojicgoeajaa
/- THE CELL 'sum', in the pinned program and in every row, IS THE sha256 OF THE DUMP (.gsa) THAT YtpjnojicgoeajaaProg.lean LOADS. Nothing in Lean hashes anything: it is a label: what it is worth is what the hold of that sum in a sandbox is worth. -/
noncomputable def Try.pinned : Pinned := { name := "ytpjnojicgoeajaa", sum := "1a4104a71a7a9fd191103db89105f33f66c6bda3c3ef9fb27d0991311d8c8337", checked := Try.checked }
namespace Rows
def none {H : Type} : Left H := { results := [], args := [] }

/-- 'laws.FnExactIsCatalogue': WHATEVER THE INPUT: true; the input reads as it did. -/
def fnExactIsCatalogueSpec : ChangeSpec := { name := "fnExactIsCatalogue", fn := fun _ => fun
  | [d] => { results := [.lit (.bool true)], args := [d] }
  | _ => none }
def fnExactIsCatalogueRow : OpenClaim := { program := "ytpjnojicgoeajaa", sum := "1a4104a71a7a9fd191103db89105f33f66c6bda3c3ef9fb27d0991311d8c8337", func := "loop.example/g00949/laws.FnExactIsCatalogue", spec := "fnExactIsCatalogue", unfollowed := true, recurses := true, apart := false }
def FnExactIsCatalogueSaid : Prop := fnExactIsCatalogueRow.holds Try.pinned (OpenSpec.ofChange fnExactIsCatalogueSpec)

/-- ITS FALSE NEIGHBOUR: 'it returns false'. Refute it at one input. -/
def fnExactIsCatalogueWrong : ChangeSpec := { name := "fnExactIsCatalogue", fn := fun _ => fun
  | [d] => { results := [.lit (.bool false)], args := [d] }
  | _ => none }
def FnExactIsCatalogueWrongFalsely : Prop := fnExactIsCatalogueRow.holds Try.pinned (OpenSpec.ofChange fnExactIsCatalogueWrong)

/-- 'laws.FnExactFindRoll': WHATEVER THE INPUT: true; the input reads as it did. -/
def fnExactFindRollSpec : ChangeSpec := { name := "fnExactFindRoll", fn := fun _ => fun
  | [d1, d2] => { results := [.lit (.bool true)], args := [d1, d2] }
  | _ => none }
def fnExactFindRollRow : OpenClaim := { program := "ytpjnojicgoeajaa", sum := "1a4104a71a7a9fd191103db89105f33f66c6bda3c3ef9fb27d0991311d8c8337", func := "loop.example/g00949/laws.FnExactFindRoll", spec := "fnExactFindRoll", unfollowed := true, recurses := true, apart := false }
def FnExactFindRollSaid : Prop := fnExactFindRollRow.holds Try.pinned (OpenSpec.ofChange fnExactFindRollSpec)

/-- ITS FALSE NEIGHBOUR: 'it returns false'. Refute it at one input. -/
def fnExactFindRollWrong : ChangeSpec := { name := "fnExactFindRoll", fn := fun _ => fun
  | [d1, d2] => { results := [.lit (.bool false)], args := [d1, d2] }
  | _ => none }
def FnExactFindRollWrongFalsely : Prop := fnExactFindRollRow.holds Try.pinned (OpenSpec.ofChange fnExactFindRollWrong)

/-- 'laws.FnExactCommonSource': WHATEVER THE INPUT: true; the input reads as it did. -/
def fnExactCommonSourceSpec : ChangeSpec := { name := "fnExactCommonSource", fn := fun _ => fun
  | [d1, d2, d3] => { results := [.lit (.bool true)], args := [d1, d2, d3] }
  | _ => none }
def fnExactCommonSourceRow : OpenClaim := { program := "ytpjnojicgoeajaa", sum := "1a4104a71a7a9fd191103db89105f33f66c6bda3c3ef9fb27d0991311d8c8337", func := "loop.example/g00949/laws.FnExactCommonSource", spec := "fnExactCommonSource", unfollowed := true, recurses := true, apart := false }
def FnExactCommonSourceSaid : Prop := fnExactCommonSourceRow.holds Try.pinned (OpenSpec.ofChange fnExactCommonSourceSpec)

/-- ITS FALSE NEIGHBOUR: 'it returns false'. Refute it at one input. -/
def fnExactCommonSourceWrong : ChangeSpec := { name := "fnExactCommonSource", fn := fun _ => fun
  | [d1, d2, d3] => { results := [.lit (.bool false)], args := [d1, d2, d3] }
  | _ => none }
def FnExactCommonSourceWrongFalsely : Prop := fnExactCommonSourceRow.holds Try.pinned (OpenSpec.ofChange fnExactCommonSourceWrong)

/-- 'laws.FnExactAddRoll': WHATEVER THE INPUT: true; the input reads as it did. -/
def fnExactAddRollSpec : ChangeSpec := { name := "fnExactAddRoll", fn := fun _ => fun
  | [d1, d2] => { results := [.lit (.bool true)], args := [d1, d2] }
  | _ => none }
def fnExactAddRollRow : OpenClaim := { program := "ytpjnojicgoeajaa", sum := "1a4104a71a7a9fd191103db89105f33f66c6bda3c3ef9fb27d0991311d8c8337", func := "loop.example/g00949/laws.FnExactAddRoll", spec := "fnExactAddRoll", unfollowed := true, recurses := true, apart := false }
def FnExactAddRollSaid : Prop := fnExactAddRollRow.holds Try.pinned (OpenSpec.ofChange fnExactAddRollSpec)

/-- ITS FALSE NEIGHBOUR: 'it returns false'. Refute it at one input. -/
def fnExactAddRollWrong : ChangeSpec := { name := "fnExactAddRoll", fn := fun _ => fun
  | [d1, d2] => { results := [.lit (.bool false)], args := [d1, d2] }
  | _ => none }
def FnExactAddRollWrongFalsely : Prop := fnExactAddRollRow.holds Try.pinned (OpenSpec.ofChange fnExactAddRollWrong)

/-- 'laws.FnExactProvenanceOf': WHATEVER THE INPUT: true; the input reads as it did. -/
def fnExactProvenanceOfSpec : ChangeSpec := { name := "fnExactProvenanceOf", fn := fun _ => fun
  | [d1, d2] => { results := [.lit (.bool true)], args := [d1, d2] }
  | _ => none }
def fnExactProvenanceOfRow : OpenClaim := { program := "ytpjnojicgoeajaa", sum := "1a4104a71a7a9fd191103db89105f33f66c6bda3c3ef9fb27d0991311d8c8337", func := "loop.example/g00949/laws.FnExactProvenanceOf", spec := "fnExactProvenanceOf", unfollowed := true, recurses := true, apart := false }
def FnExactProvenanceOfSaid : Prop := fnExactProvenanceOfRow.holds Try.pinned (OpenSpec.ofChange fnExactProvenanceOfSpec)

/-- ITS FALSE NEIGHBOUR: 'it returns false'. Refute it at one input. -/
def fnExactProvenanceOfWrong : ChangeSpec := { name := "fnExactProvenanceOf", fn := fun _ => fun
  | [d1, d2] => { results := [.lit (.bool false)], args := [d1, d2] }
  | _ => none }
def FnExactProvenanceOfWrongFalsely : Prop := fnExactProvenanceOfRow.holds Try.pinned (OpenSpec.ofChange fnExactProvenanceOfWrong)

/-- 'laws.FnExactDropRoll': WHATEVER THE INPUT: true; the input reads as it did. -/
def fnExactDropRollSpec : ChangeSpec := { name := "fnExactDropRoll", fn := fun _ => fun
  | [d1, d2] => { results := [.lit (.bool true)], args := [d1, d2] }
  | _ => none }
def fnExactDropRollRow : OpenClaim := { program := "ytpjnojicgoeajaa", sum := "1a4104a71a7a9fd191103db89105f33f66c6bda3c3ef9fb27d0991311d8c8337", func := "loop.example/g00949/laws.FnExactDropRoll", spec := "fnExactDropRoll", unfollowed := true, recurses := true, apart := false }
def FnExactDropRollSaid : Prop := fnExactDropRollRow.holds Try.pinned (OpenSpec.ofChange fnExactDropRollSpec)

/-- ITS FALSE NEIGHBOUR: 'it returns false'. Refute it at one input. -/
def fnExactDropRollWrong : ChangeSpec := { name := "fnExactDropRoll", fn := fun _ => fun
  | [d1, d2] => { results := [.lit (.bool false)], args := [d1, d2] }
  | _ => none }
def FnExactDropRollWrongFalsely : Prop := fnExactDropRollRow.holds Try.pinned (OpenSpec.ofChange fnExactDropRollWrong)

/-- 'laws.FnExactGenerationsOf': WHATEVER THE INPUT: true; the input reads as it did. -/
def fnExactGenerationsOfSpec : ChangeSpec := { name := "fnExactGenerationsOf", fn := fun _ => fun
  | [d] => { results := [.lit (.bool true)], args := [d] }
  | _ => none }
def fnExactGenerationsOfRow : OpenClaim := { program := "ytpjnojicgoeajaa", sum := "1a4104a71a7a9fd191103db89105f33f66c6bda3c3ef9fb27d0991311d8c8337", func := "loop.example/g00949/laws.FnExactGenerationsOf", spec := "fnExactGenerationsOf", unfollowed := true, recurses := true, apart := false }
def FnExactGenerationsOfSaid : Prop := fnExactGenerationsOfRow.holds Try.pinned (OpenSpec.ofChange fnExactGenerationsOfSpec)

/-- ITS FALSE NEIGHBOUR: 'it returns false'. Refute it at one input. -/
def fnExactGenerationsOfWrong : ChangeSpec := { name := "fnExactGenerationsOf", fn := fun _ => fun
  | [d] => { results := [.lit (.bool false)], args := [d] }
  | _ => none }
def FnExactGenerationsOfWrongFalsely : Prop := fnExactGenerationsOfRow.holds Try.pinned (OpenSpec.ofChange fnExactGenerationsOfWrong)

/-- 'laws.FnExactFirstMasters': WHATEVER THE INPUT: true; the input reads as it did. -/
def fnExactFirstMastersSpec : ChangeSpec := { name := "fnExactFirstMasters", fn := fun _ => fun
  | [d] => { results := [.lit (.bool true)], args := [d] }
  | _ => none }
def fnExactFirstMastersRow : OpenClaim := { program := "ytpjnojicgoeajaa", sum := "1a4104a71a7a9fd191103db89105f33f66c6bda3c3ef9fb27d0991311d8c8337", func := "loop.example/g00949/laws.FnExactFirstMasters", spec := "fnExactFirstMasters", unfollowed := true, recurses := true, apart := false }
def FnExactFirstMastersSaid : Prop := fnExactFirstMastersRow.holds Try.pinned (OpenSpec.ofChange fnExactFirstMastersSpec)

/-- ITS FALSE NEIGHBOUR: 'it returns false'. Refute it at one input. -/
def fnExactFirstMastersWrong : ChangeSpec := { name := "fnExactFirstMasters", fn := fun _ => fun
  | [d] => { results := [.lit (.bool false)], args := [d] }
  | _ => none }
def FnExactFirstMastersWrongFalsely : Prop := fnExactFirstMastersRow.holds Try.pinned (OpenSpec.ofChange fnExactFirstMastersWrong)

/-- 'laws.FnExactMakersOf': WHATEVER THE INPUT: true; the input reads as it did. -/
def fnExactMakersOfSpec : ChangeSpec := { name := "fnExactMakersOf", fn := fun _ => fun
  | [d] => { results := [.lit (.bool true)], args := [d] }
  | _ => none }
def fnExactMakersOfRow : OpenClaim := { program := "ytpjnojicgoeajaa", sum := "1a4104a71a7a9fd191103db89105f33f66c6bda3c3ef9fb27d0991311d8c8337", func := "loop.example/g00949/laws.FnExactMakersOf", spec := "fnExactMakersOf", unfollowed := true, recurses := true, apart := false }
def FnExactMakersOfSaid : Prop := fnExactMakersOfRow.holds Try.pinned (OpenSpec.ofChange fnExactMakersOfSpec)

/-- ITS FALSE NEIGHBOUR: 'it returns false'. Refute it at one input. -/
def fnExactMakersOfWrong : ChangeSpec := { name := "fnExactMakersOf", fn := fun _ => fun
  | [d] => { results := [.lit (.bool false)], args := [d] }
  | _ => none }
def FnExactMakersOfWrongFalsely : Prop := fnExactMakersOfRow.holds Try.pinned (OpenSpec.ofChange fnExactMakersOfWrong)

/-- 'laws.FnExactCopiesOf': WHATEVER THE INPUT: true; the input reads as it did. -/
def fnExactCopiesOfSpec : ChangeSpec := { name := "fnExactCopiesOf", fn := fun _ => fun
  | [d1, d2] => { results := [.lit (.bool true)], args := [d1, d2] }
  | _ => none }
def fnExactCopiesOfRow : OpenClaim := { program := "ytpjnojicgoeajaa", sum := "1a4104a71a7a9fd191103db89105f33f66c6bda3c3ef9fb27d0991311d8c8337", func := "loop.example/g00949/laws.FnExactCopiesOf", spec := "fnExactCopiesOf", unfollowed := true, recurses := true, apart := false }
def FnExactCopiesOfSaid : Prop := fnExactCopiesOfRow.holds Try.pinned (OpenSpec.ofChange fnExactCopiesOfSpec)

/-- ITS FALSE NEIGHBOUR: 'it returns false'. Refute it at one input. -/
def fnExactCopiesOfWrong : ChangeSpec := { name := "fnExactCopiesOf", fn := fun _ => fun
  | [d1, d2] => { results := [.lit (.bool false)], args := [d1, d2] }
  | _ => none }
def FnExactCopiesOfWrongFalsely : Prop := fnExactCopiesOfRow.holds Try.pinned (OpenSpec.ofChange fnExactCopiesOfWrong)

/- THE SECOND FORM. 'bulk': how many values and letters a reading holds, each counted each time it is reached (what is shared counts as often as it is met; a slice's spare places count too). A statement '..UptoSaid' is the law's where the arguments, and the package variables that the reading takes, are together of bulk at most 1048576: NARROWER than '..Said'. Prove '..Said' where nothing that the law and all that it calls make is longer than what came in: it says more and counts as full. Else prove '..UptoSaid'. A law counts once. -/
mutual
def uptoBulk {H : Type} : DataW H → Nat
  | .lit (.string bytes) => bytes.length + 1
  | .lit _ => 1
  | .nil => 1
  | .ptr d => uptoBulk d + 1
  | .slice elems spare => uptoBulkAll elems + uptoBulkAll spare + 1
  | .agg parts => uptoBulkAll parts + 1
  | .iface _ d => uptoBulk d + 1
  | .map entries => uptoBulkEntries entries + 1
  | .held _ => 1
def uptoBulkAll {H : Type} : List (DataW H) → Nat
  | [] => 0
  | d :: r => uptoBulk d + uptoBulkAll r
def uptoBulkEntries {H : Type} : List (Lit × DataW H) → Nat
  | [] => 0
  | x :: r => uptoBulkEntry x + uptoBulkEntries r
def uptoBulkEntry {H : Type} : Lit × DataW H → Nat
  | (.string bytes, d) => bytes.length + uptoBulk d + 1
  | (_, d) => uptoBulk d + 1
 end
def uptoSmall : (H : Type) → List (DataW H) → Bool := fun _ ds => decide (uptoBulkAll ds ≤ 1048576)
def OpenSpec.upto (s : _root_.Go.ChangeSpec) : _root_.Go.OpenSpec := { _root_.Go.OpenSpec.ofChange s with cond := some uptoSmall }

/-- 'laws.FnExactIsCatalogue', WHERE WHAT IT READS IS OF BULK AT MOST 1048576: true; the input reads as it did. -/
def fnExactIsCatalogueUptoRow : OpenClaim := { program := "ytpjnojicgoeajaa", sum := "1a4104a71a7a9fd191103db89105f33f66c6bda3c3ef9fb27d0991311d8c8337", func := "loop.example/g00949/laws.FnExactIsCatalogue", spec := "fnExactIsCatalogue", unfollowed := true, recurses := true, apart := false, narrowed := true }
def FnExactIsCatalogueUptoSaid : Prop := fnExactIsCatalogueUptoRow.holds Try.pinned (OpenSpec.upto fnExactIsCatalogueSpec)

/-- 'laws.FnExactFindRoll', WHERE WHAT IT READS IS OF BULK AT MOST 1048576: true; the input reads as it did. -/
def fnExactFindRollUptoRow : OpenClaim := { program := "ytpjnojicgoeajaa", sum := "1a4104a71a7a9fd191103db89105f33f66c6bda3c3ef9fb27d0991311d8c8337", func := "loop.example/g00949/laws.FnExactFindRoll", spec := "fnExactFindRoll", unfollowed := true, recurses := true, apart := false, narrowed := true }
def FnExactFindRollUptoSaid : Prop := fnExactFindRollUptoRow.holds Try.pinned (OpenSpec.upto fnExactFindRollSpec)

/-- 'laws.FnExactCommonSource', WHERE WHAT IT READS IS OF BULK AT MOST 1048576: true; the input reads as it did. -/
def fnExactCommonSourceUptoRow : OpenClaim := { program := "ytpjnojicgoeajaa", sum := "1a4104a71a7a9fd191103db89105f33f66c6bda3c3ef9fb27d0991311d8c8337", func := "loop.example/g00949/laws.FnExactCommonSource", spec := "fnExactCommonSource", unfollowed := true, recurses := true, apart := false, narrowed := true }
def FnExactCommonSourceUptoSaid : Prop := fnExactCommonSourceUptoRow.holds Try.pinned (OpenSpec.upto fnExactCommonSourceSpec)

/-- 'laws.FnExactAddRoll', WHERE WHAT IT READS IS OF BULK AT MOST 1048576: true; the input reads as it did. -/
def fnExactAddRollUptoRow : OpenClaim := { program := "ytpjnojicgoeajaa", sum := "1a4104a71a7a9fd191103db89105f33f66c6bda3c3ef9fb27d0991311d8c8337", func := "loop.example/g00949/laws.FnExactAddRoll", spec := "fnExactAddRoll", unfollowed := true, recurses := true, apart := false, narrowed := true }
def FnExactAddRollUptoSaid : Prop := fnExactAddRollUptoRow.holds Try.pinned (OpenSpec.upto fnExactAddRollSpec)

/-- 'laws.FnExactProvenanceOf', WHERE WHAT IT READS IS OF BULK AT MOST 1048576: true; the input reads as it did. -/
def fnExactProvenanceOfUptoRow : OpenClaim := { program := "ytpjnojicgoeajaa", sum := "1a4104a71a7a9fd191103db89105f33f66c6bda3c3ef9fb27d0991311d8c8337", func := "loop.example/g00949/laws.FnExactProvenanceOf", spec := "fnExactProvenanceOf", unfollowed := true, recurses := true, apart := false, narrowed := true }
def FnExactProvenanceOfUptoSaid : Prop := fnExactProvenanceOfUptoRow.holds Try.pinned (OpenSpec.upto fnExactProvenanceOfSpec)

/-- 'laws.FnExactDropRoll', WHERE WHAT IT READS IS OF BULK AT MOST 1048576: true; the input reads as it did. -/
def fnExactDropRollUptoRow : OpenClaim := { program := "ytpjnojicgoeajaa", sum := "1a4104a71a7a9fd191103db89105f33f66c6bda3c3ef9fb27d0991311d8c8337", func := "loop.example/g00949/laws.FnExactDropRoll", spec := "fnExactDropRoll", unfollowed := true, recurses := true, apart := false, narrowed := true }
def FnExactDropRollUptoSaid : Prop := fnExactDropRollUptoRow.holds Try.pinned (OpenSpec.upto fnExactDropRollSpec)

/-- 'laws.FnExactGenerationsOf', WHERE WHAT IT READS IS OF BULK AT MOST 1048576: true; the input reads as it did. -/
def fnExactGenerationsOfUptoRow : OpenClaim := { program := "ytpjnojicgoeajaa", sum := "1a4104a71a7a9fd191103db89105f33f66c6bda3c3ef9fb27d0991311d8c8337", func := "loop.example/g00949/laws.FnExactGenerationsOf", spec := "fnExactGenerationsOf", unfollowed := true, recurses := true, apart := false, narrowed := true }
def FnExactGenerationsOfUptoSaid : Prop := fnExactGenerationsOfUptoRow.holds Try.pinned (OpenSpec.upto fnExactGenerationsOfSpec)

/-- 'laws.FnExactFirstMasters', WHERE WHAT IT READS IS OF BULK AT MOST 1048576: true; the input reads as it did. -/
def fnExactFirstMastersUptoRow : OpenClaim := { program := "ytpjnojicgoeajaa", sum := "1a4104a71a7a9fd191103db89105f33f66c6bda3c3ef9fb27d0991311d8c8337", func := "loop.example/g00949/laws.FnExactFirstMasters", spec := "fnExactFirstMasters", unfollowed := true, recurses := true, apart := false, narrowed := true }
def FnExactFirstMastersUptoSaid : Prop := fnExactFirstMastersUptoRow.holds Try.pinned (OpenSpec.upto fnExactFirstMastersSpec)

/-- 'laws.FnExactMakersOf', WHERE WHAT IT READS IS OF BULK AT MOST 1048576: true; the input reads as it did. -/
def fnExactMakersOfUptoRow : OpenClaim := { program := "ytpjnojicgoeajaa", sum := "1a4104a71a7a9fd191103db89105f33f66c6bda3c3ef9fb27d0991311d8c8337", func := "loop.example/g00949/laws.FnExactMakersOf", spec := "fnExactMakersOf", unfollowed := true, recurses := true, apart := false, narrowed := true }
def FnExactMakersOfUptoSaid : Prop := fnExactMakersOfUptoRow.holds Try.pinned (OpenSpec.upto fnExactMakersOfSpec)

/-- 'laws.FnExactCopiesOf', WHERE WHAT IT READS IS OF BULK AT MOST 1048576: true; the input reads as it did. -/
def fnExactCopiesOfUptoRow : OpenClaim := { program := "ytpjnojicgoeajaa", sum := "1a4104a71a7a9fd191103db89105f33f66c6bda3c3ef9fb27d0991311d8c8337", func := "loop.example/g00949/laws.FnExactCopiesOf", spec := "fnExactCopiesOf", unfollowed := true, recurses := true, apart := false, narrowed := true }
def FnExactCopiesOfUptoSaid : Prop := fnExactCopiesOfUptoRow.holds Try.pinned (OpenSpec.upto fnExactCopiesOfSpec)

end Rows
end Go.Proofs.Ytpjnojicgoeajaa
