/-
  No cell of these rows narrows 'for every input' (looked for: loops, veiled, ifaces, maps, wideKeys, modest, calm, conditions, laid).
  DERIVED. THE GIVEN ROWS OF THIS SEAT. 8 by the template 'for every input the law returns true; each argument reads behind the call as it read before'; 0 by the template 'total and deterministic' (their statements: YtldngpdppickdaaTotals.lean).
  GIVEN WITH THE SEED: the statements are not yours to turn. If you find one false, say at which input.
  Laid BY PROGRAM, IN A SANDBOX (cutbox-rows.mjs): the forced cells as the released guide's own fill.sh prints them over the translation e3b5870f6f8e83d1… (all of the seat's roots in one cut). By AI agents, Wed Nov 11 2026. No macro, syntax, notation, axiom, sorry.
-/
import Derived.Test.YtldngpdppickdaaChecked
import GoSem.Claim
import GoSem.ClaimJoined
import GoSem.ClaimMapViews
import Derived.JoinedTies
import Derived.KernelRfl
namespace Go.Proofs.Ytldngpdppickdaa
/- THE CELL 'sum', in the pinned program and in every row, IS THE sha256 OF THE DUMP (.gsa) THAT YtldngpdppickdaaProg.lean LOADS. Nothing in Lean hashes anything: it is a label: what it is worth is what the hold of that sum in a sandbox is worth. -/
noncomputable def Try.pinned : Pinned := { name := "ytldngpdppickdaa", sum := "e3b5870f6f8e83d1db6833b98d1a9115e49b20569b85e4ccef8c17a0f144658f", checked := Try.checked }
namespace Rows
def none {H : Type} : Left H := { results := [], args := [] }

/-- 'laws.FnExactAreJobs': WHATEVER THE INPUT: true; the input reads as it did. -/
def fnExactAreJobsSpec : ChangeSpec := { name := "fnExactAreJobs", fn := fun _ => fun
  | [d] => { results := [.lit (.bool true)], args := [d] }
  | _ => none }
def fnExactAreJobsRow : OpenClaim := { program := "ytldngpdppickdaa", sum := "e3b5870f6f8e83d1db6833b98d1a9115e49b20569b85e4ccef8c17a0f144658f", func := "loop.example/g00949/laws.FnExactAreJobs", spec := "fnExactAreJobs", apart := false }
def FnExactAreJobsSaid : Prop := fnExactAreJobsRow.holds Try.pinned (OpenSpec.ofChange fnExactAreJobsSpec)

/-- ITS FALSE NEIGHBOUR: 'it returns false'. Refute it at one input. -/
def fnExactAreJobsWrong : ChangeSpec := { name := "fnExactAreJobs", fn := fun _ => fun
  | [d] => { results := [.lit (.bool false)], args := [d] }
  | _ => none }
def FnExactAreJobsWrongFalsely : Prop := fnExactAreJobsRow.holds Try.pinned (OpenSpec.ofChange fnExactAreJobsWrong)

/-- 'laws.FnExactWeightedSum': WHATEVER THE INPUT: true; the input reads as it did. -/
def fnExactWeightedSumSpec : ChangeSpec := { name := "fnExactWeightedSum", fn := fun _ => fun
  | [d1, d2] => { results := [.lit (.bool true)], args := [d1, d2] }
  | _ => none }
def fnExactWeightedSumRow : OpenClaim := { program := "ytldngpdppickdaa", sum := "e3b5870f6f8e83d1db6833b98d1a9115e49b20569b85e4ccef8c17a0f144658f", func := "loop.example/g00949/laws.FnExactWeightedSum", spec := "fnExactWeightedSum", apart := false }
def FnExactWeightedSumSaid : Prop := fnExactWeightedSumRow.holds Try.pinned (OpenSpec.ofChange fnExactWeightedSumSpec)

/-- ITS FALSE NEIGHBOUR: 'it returns false'. Refute it at one input. -/
def fnExactWeightedSumWrong : ChangeSpec := { name := "fnExactWeightedSum", fn := fun _ => fun
  | [d1, d2] => { results := [.lit (.bool false)], args := [d1, d2] }
  | _ => none }
def FnExactWeightedSumWrongFalsely : Prop := fnExactWeightedSumRow.holds Try.pinned (OpenSpec.ofChange fnExactWeightedSumWrong)

/-- 'laws.FnExactWorstLateness': WHATEVER THE INPUT: true; the input reads as it did. -/
def fnExactWorstLatenessSpec : ChangeSpec := { name := "fnExactWorstLateness", fn := fun _ => fun
  | [d1, d2] => { results := [.lit (.bool true)], args := [d1, d2] }
  | _ => none }
def fnExactWorstLatenessRow : OpenClaim := { program := "ytldngpdppickdaa", sum := "e3b5870f6f8e83d1db6833b98d1a9115e49b20569b85e4ccef8c17a0f144658f", func := "loop.example/g00949/laws.FnExactWorstLateness", spec := "fnExactWorstLateness", apart := false }
def FnExactWorstLatenessSaid : Prop := fnExactWorstLatenessRow.holds Try.pinned (OpenSpec.ofChange fnExactWorstLatenessSpec)

/-- ITS FALSE NEIGHBOUR: 'it returns false'. Refute it at one input. -/
def fnExactWorstLatenessWrong : ChangeSpec := { name := "fnExactWorstLateness", fn := fun _ => fun
  | [d1, d2] => { results := [.lit (.bool false)], args := [d1, d2] }
  | _ => none }
def FnExactWorstLatenessWrongFalsely : Prop := fnExactWorstLatenessRow.holds Try.pinned (OpenSpec.ofChange fnExactWorstLatenessWrong)

/-- 'laws.FnExactCutHoles': WHATEVER THE INPUT: true; the input reads as it did. -/
def fnExactCutHolesSpec : ChangeSpec := { name := "fnExactCutHoles", fn := fun _ => fun
  | [d1, d2] => { results := [.lit (.bool true)], args := [d1, d2] }
  | _ => none }
def fnExactCutHolesRow : OpenClaim := { program := "ytldngpdppickdaa", sum := "e3b5870f6f8e83d1db6833b98d1a9115e49b20569b85e4ccef8c17a0f144658f", func := "loop.example/g00949/laws.FnExactCutHoles", spec := "fnExactCutHoles", apart := false }
def FnExactCutHolesSaid : Prop := fnExactCutHolesRow.holds Try.pinned (OpenSpec.ofChange fnExactCutHolesSpec)

/-- ITS FALSE NEIGHBOUR: 'it returns false'. Refute it at one input. -/
def fnExactCutHolesWrong : ChangeSpec := { name := "fnExactCutHoles", fn := fun _ => fun
  | [d1, d2] => { results := [.lit (.bool false)], args := [d1, d2] }
  | _ => none }
def FnExactCutHolesWrongFalsely : Prop := fnExactCutHolesRow.holds Try.pinned (OpenSpec.ofChange fnExactCutHolesWrong)

/-- 'laws.FnExactUsedSources': WHATEVER THE INPUT: true; the input reads as it did. -/
def fnExactUsedSourcesSpec : ChangeSpec := { name := "fnExactUsedSources", fn := fun _ => fun
  | [d] => { results := [.lit (.bool true)], args := [d] }
  | _ => none }
def fnExactUsedSourcesRow : OpenClaim := { program := "ytldngpdppickdaa", sum := "e3b5870f6f8e83d1db6833b98d1a9115e49b20569b85e4ccef8c17a0f144658f", func := "loop.example/g00949/laws.FnExactUsedSources", spec := "fnExactUsedSources", recurses := true, apart := false }
def FnExactUsedSourcesSaid : Prop := fnExactUsedSourcesRow.holds Try.pinned (OpenSpec.ofChange fnExactUsedSourcesSpec)

/-- ITS FALSE NEIGHBOUR: 'it returns false'. Refute it at one input. -/
def fnExactUsedSourcesWrong : ChangeSpec := { name := "fnExactUsedSources", fn := fun _ => fun
  | [d] => { results := [.lit (.bool false)], args := [d] }
  | _ => none }
def FnExactUsedSourcesWrongFalsely : Prop := fnExactUsedSourcesRow.holds Try.pinned (OpenSpec.ofChange fnExactUsedSourcesWrong)

/-- 'laws.FnExactMakeEdition': WHATEVER THE INPUT: true; the input reads as it did. -/
def fnExactMakeEditionSpec : ChangeSpec := { name := "fnExactMakeEdition", fn := fun _ => fun
  | [d1, d2] => { results := [.lit (.bool true)], args := [d1, d2] }
  | _ => none }
def fnExactMakeEditionRow : OpenClaim := { program := "ytldngpdppickdaa", sum := "e3b5870f6f8e83d1db6833b98d1a9115e49b20569b85e4ccef8c17a0f144658f", func := "loop.example/g00949/laws.FnExactMakeEdition", spec := "fnExactMakeEdition", inPlace := ["internal/reflectlite.ValueOf", "internal/reflectlite.Swapper", "(internal/reflectlite.Value).Len"], unfollowed := true, recurses := true, apart := false }
def FnExactMakeEditionSaid : Prop := fnExactMakeEditionRow.holds Try.pinned (OpenSpec.ofChange fnExactMakeEditionSpec)

/-- ITS FALSE NEIGHBOUR: 'it returns false'. Refute it at one input. -/
def fnExactMakeEditionWrong : ChangeSpec := { name := "fnExactMakeEdition", fn := fun _ => fun
  | [d1, d2] => { results := [.lit (.bool false)], args := [d1, d2] }
  | _ => none }
def FnExactMakeEditionWrongFalsely : Prop := fnExactMakeEditionRow.holds Try.pinned (OpenSpec.ofChange fnExactMakeEditionWrong)

/-- 'laws.FnRolls': WHATEVER THE INPUT: true; the input reads as it did. -/
def fnRollsSpec : ChangeSpec := { name := "fnRolls", fn := fun _ => fun
  | [d1, d2] => { results := [.lit (.bool true)], args := [d1, d2] }
  | _ => none }
def fnRollsRow : OpenClaim := { program := "ytldngpdppickdaa", sum := "e3b5870f6f8e83d1db6833b98d1a9115e49b20569b85e4ccef8c17a0f144658f", func := "loop.example/g00949/laws.FnRolls", spec := "fnRolls", unfollowed := true, recurses := true, apart := false }
def FnRollsSaid : Prop := fnRollsRow.holds Try.pinned (OpenSpec.ofChange fnRollsSpec)

/-- ITS FALSE NEIGHBOUR: 'it returns false'. Refute it at one input. -/
def fnRollsWrong : ChangeSpec := { name := "fnRolls", fn := fun _ => fun
  | [d1, d2] => { results := [.lit (.bool false)], args := [d1, d2] }
  | _ => none }
def FnRollsWrongFalsely : Prop := fnRollsRow.holds Try.pinned (OpenSpec.ofChange fnRollsWrong)

/-- 'laws.FnCopies': WHATEVER THE INPUT: true; the input reads as it did. -/
def fnCopiesSpec : ChangeSpec := { name := "fnCopies", fn := fun _ => fun
  | [d1, d2] => { results := [.lit (.bool true)], args := [d1, d2] }
  | _ => none }
def fnCopiesRow : OpenClaim := { program := "ytldngpdppickdaa", sum := "e3b5870f6f8e83d1db6833b98d1a9115e49b20569b85e4ccef8c17a0f144658f", func := "loop.example/g00949/laws.FnCopies", spec := "fnCopies", unfollowed := true, recurses := true, apart := false }
def FnCopiesSaid : Prop := fnCopiesRow.holds Try.pinned (OpenSpec.ofChange fnCopiesSpec)

/-- ITS FALSE NEIGHBOUR: 'it returns false'. Refute it at one input. -/
def fnCopiesWrong : ChangeSpec := { name := "fnCopies", fn := fun _ => fun
  | [d1, d2] => { results := [.lit (.bool false)], args := [d1, d2] }
  | _ => none }
def FnCopiesWrongFalsely : Prop := fnCopiesRow.holds Try.pinned (OpenSpec.ofChange fnCopiesWrong)

/- THE SECOND FORM. 'bulk': how many values and letters a reading holds, each counted each time it is reached (what is shared counts as often as it is met; a slice's spare places count too). A statement '..UptoSaid' is the law's where the arguments, and the package variables that the reading takes, are together of bulk at most 1048576: NARROWER than '..Said'. Prove '..Said' where nothing that the law and all that it calls make is longer than what came in: it says more and counts as full. Else prove '..UptoSaid'. A law counts once. -/
mutual
def uptoBulk {H : Type} : DataW H → Nat
  | .lit (.string bytes) => bytes.length + 1
  | .lit _ => 1
  | .nil => 1
  | .ptr d => uptoBulk d + 1
  | .slice elems spare => uptoBulkAll elems + uptoBulkAll spare + 1
  | .agg parts => uptoBulkAll parts + 1
  | .iface _ d => uptoBulk d + 1
  | .map entries => uptoBulkEntries entries + 1
  | .held _ => 1
def uptoBulkAll {H : Type} : List (DataW H) → Nat
  | [] => 0
  | d :: r => uptoBulk d + uptoBulkAll r
def uptoBulkEntries {H : Type} : List (Lit × DataW H) → Nat
  | [] => 0
  | x :: r => uptoBulkEntry x + uptoBulkEntries r
def uptoBulkEntry {H : Type} : Lit × DataW H → Nat
  | (.string bytes, d) => bytes.length + uptoBulk d + 1
  | (_, d) => uptoBulk d + 1
 end
def uptoSmall : (H : Type) → List (DataW H) → Bool := fun _ ds => decide (uptoBulkAll ds ≤ 1048576)
def OpenSpec.upto (s : _root_.Go.ChangeSpec) : _root_.Go.OpenSpec := { _root_.Go.OpenSpec.ofChange s with cond := some uptoSmall }

/-- 'laws.FnExactAreJobs', WHERE WHAT IT READS IS OF BULK AT MOST 1048576: true; the input reads as it did. -/
def fnExactAreJobsUptoRow : OpenClaim := { program := "ytldngpdppickdaa", sum := "e3b5870f6f8e83d1db6833b98d1a9115e49b20569b85e4ccef8c17a0f144658f", func := "loop.example/g00949/laws.FnExactAreJobs", spec := "fnExactAreJobs", apart := false, narrowed := true }
def FnExactAreJobsUptoSaid : Prop := fnExactAreJobsUptoRow.holds Try.pinned (OpenSpec.upto fnExactAreJobsSpec)

/-- 'laws.FnExactWeightedSum', WHERE WHAT IT READS IS OF BULK AT MOST 1048576: true; the input reads as it did. -/
def fnExactWeightedSumUptoRow : OpenClaim := { program := "ytldngpdppickdaa", sum := "e3b5870f6f8e83d1db6833b98d1a9115e49b20569b85e4ccef8c17a0f144658f", func := "loop.example/g00949/laws.FnExactWeightedSum", spec := "fnExactWeightedSum", apart := false, narrowed := true }
def FnExactWeightedSumUptoSaid : Prop := fnExactWeightedSumUptoRow.holds Try.pinned (OpenSpec.upto fnExactWeightedSumSpec)

/-- 'laws.FnExactWorstLateness', WHERE WHAT IT READS IS OF BULK AT MOST 1048576: true; the input reads as it did. -/
def fnExactWorstLatenessUptoRow : OpenClaim := { program := "ytldngpdppickdaa", sum := "e3b5870f6f8e83d1db6833b98d1a9115e49b20569b85e4ccef8c17a0f144658f", func := "loop.example/g00949/laws.FnExactWorstLateness", spec := "fnExactWorstLateness", apart := false, narrowed := true }
def FnExactWorstLatenessUptoSaid : Prop := fnExactWorstLatenessUptoRow.holds Try.pinned (OpenSpec.upto fnExactWorstLatenessSpec)

/-- 'laws.FnExactCutHoles', WHERE WHAT IT READS IS OF BULK AT MOST 1048576: true; the input reads as it did. -/
def fnExactCutHolesUptoRow : OpenClaim := { program := "ytldngpdppickdaa", sum := "e3b5870f6f8e83d1db6833b98d1a9115e49b20569b85e4ccef8c17a0f144658f", func := "loop.example/g00949/laws.FnExactCutHoles", spec := "fnExactCutHoles", apart := false, narrowed := true }
def FnExactCutHolesUptoSaid : Prop := fnExactCutHolesUptoRow.holds Try.pinned (OpenSpec.upto fnExactCutHolesSpec)

/-- 'laws.FnExactUsedSources', WHERE WHAT IT READS IS OF BULK AT MOST 1048576: true; the input reads as it did. -/
def fnExactUsedSourcesUptoRow : OpenClaim := { program := "ytldngpdppickdaa", sum := "e3b5870f6f8e83d1db6833b98d1a9115e49b20569b85e4ccef8c17a0f144658f", func := "loop.example/g00949/laws.FnExactUsedSources", spec := "fnExactUsedSources", recurses := true, apart := false, narrowed := true }
def FnExactUsedSourcesUptoSaid : Prop := fnExactUsedSourcesUptoRow.holds Try.pinned (OpenSpec.upto fnExactUsedSourcesSpec)

/-- 'laws.FnExactMakeEdition', WHERE WHAT IT READS IS OF BULK AT MOST 1048576: true; the input reads as it did. -/
def fnExactMakeEditionUptoRow : OpenClaim := { program := "ytldngpdppickdaa", sum := "e3b5870f6f8e83d1db6833b98d1a9115e49b20569b85e4ccef8c17a0f144658f", func := "loop.example/g00949/laws.FnExactMakeEdition", spec := "fnExactMakeEdition", inPlace := ["internal/reflectlite.ValueOf", "internal/reflectlite.Swapper", "(internal/reflectlite.Value).Len"], unfollowed := true, recurses := true, apart := false, narrowed := true }
def FnExactMakeEditionUptoSaid : Prop := fnExactMakeEditionUptoRow.holds Try.pinned (OpenSpec.upto fnExactMakeEditionSpec)

/-- 'laws.FnRolls', WHERE WHAT IT READS IS OF BULK AT MOST 1048576: true; the input reads as it did. -/
def fnRollsUptoRow : OpenClaim := { program := "ytldngpdppickdaa", sum := "e3b5870f6f8e83d1db6833b98d1a9115e49b20569b85e4ccef8c17a0f144658f", func := "loop.example/g00949/laws.FnRolls", spec := "fnRolls", unfollowed := true, recurses := true, apart := false, narrowed := true }
def FnRollsUptoSaid : Prop := fnRollsUptoRow.holds Try.pinned (OpenSpec.upto fnRollsSpec)

/-- 'laws.FnCopies', WHERE WHAT IT READS IS OF BULK AT MOST 1048576: true; the input reads as it did. -/
def fnCopiesUptoRow : OpenClaim := { program := "ytldngpdppickdaa", sum := "e3b5870f6f8e83d1db6833b98d1a9115e49b20569b85e4ccef8c17a0f144658f", func := "loop.example/g00949/laws.FnCopies", spec := "fnCopies", unfollowed := true, recurses := true, apart := false, narrowed := true }
def FnCopiesUptoSaid : Prop := fnCopiesUptoRow.holds Try.pinned (OpenSpec.upto fnCopiesSpec)

end Rows
end Go.Proofs.Ytldngpdppickdaa
