/-
  No cell of these rows narrows 'for every input' (looked for: loops, veiled, ifaces, maps, wideKeys, modest, calm, conditions, laid).
  DERIVED. THE GIVEN ROWS OF THIS SEAT. 6 by the template 'for every input the law returns true; each argument reads behind the call as it read before'; 0 by the template 'total and deterministic' (their statements: YtplpjmhmochcfaaTotals.lean).
  GIVEN WITH THE SEED: the statements are not yours to turn. If you find one false, say at which input.
  Laid BY PROGRAM, IN A SANDBOX (cutbox-rows.mjs): the forced cells as the released guide's own fill.sh prints them over the translation 4cf93ec9604c2fab… (all of the seat's roots in one cut). By AI agents, Wed Nov 11 2026. No macro, syntax, notation, axiom, sorry.
-/
import Derived.Test.YtplpjmhmochcfaaChecked
import GoSem.Claim
import GoSem.ClaimJoined
import GoSem.ClaimMapViews
import Derived.JoinedTies
import Derived.KernelRfl
namespace Go.Proofs.Ytplpjmhmochcfaa
/- THE CELL 'sum', in the pinned program and in every row, IS THE sha256 OF THE DUMP (.gsa) THAT YtplpjmhmochcfaaProg.lean LOADS. Nothing in Lean hashes anything: it is a label: what it is worth is what the hold of that sum in a sandbox is worth. -/
noncomputable def Try.pinned : Pinned := { name := "ytplpjmhmochcfaa", sum := "4cf93ec9604c2fab56c489291e47dc8a99d728b827e8b51722845ee37bc38f79", checked := Try.checked }
namespace Rows
def none {H : Type} : Left H := { results := [], args := [] }

/-- 'laws.FnCopies': WHATEVER THE INPUT: true; the input reads as it did. -/
def fnCopiesSpec : ChangeSpec := { name := "fnCopies", fn := fun _ => fun
  | [d1, d2] => { results := [.lit (.bool true)], args := [d1, d2] }
  | _ => none }
def fnCopiesRow : OpenClaim := { program := "ytplpjmhmochcfaa", sum := "4cf93ec9604c2fab56c489291e47dc8a99d728b827e8b51722845ee37bc38f79", func := "loop.example/g00949/laws.FnCopies", spec := "fnCopies", unfollowed := true, recurses := true, apart := false }
def FnCopiesSaid : Prop := fnCopiesRow.holds Try.pinned (OpenSpec.ofChange fnCopiesSpec)

/-- ITS FALSE NEIGHBOUR: 'it returns false'. Refute it at one input. -/
def fnCopiesWrong : ChangeSpec := { name := "fnCopies", fn := fun _ => fun
  | [d1, d2] => { results := [.lit (.bool false)], args := [d1, d2] }
  | _ => none }
def FnCopiesWrongFalsely : Prop := fnCopiesRow.holds Try.pinned (OpenSpec.ofChange fnCopiesWrong)

/-- 'laws.FnExactApplyDifference': WHATEVER THE INPUT: true; the input reads as it did. -/
def fnExactApplyDifferenceSpec : ChangeSpec := { name := "fnExactApplyDifference", fn := fun _ => fun
  | [d1, d2, d3] => { results := [.lit (.bool true)], args := [d1, d2, d3] }
  | _ => none }
def fnExactApplyDifferenceRow : OpenClaim := { program := "ytplpjmhmochcfaa", sum := "4cf93ec9604c2fab56c489291e47dc8a99d728b827e8b51722845ee37bc38f79", func := "loop.example/g00949/laws.FnExactApplyDifference", spec := "fnExactApplyDifference", inPlace := ["internal/reflectlite.ValueOf", "internal/reflectlite.Swapper", "(internal/reflectlite.Value).Len"], unfollowed := true, recurses := true, apart := false }
def FnExactApplyDifferenceSaid : Prop := fnExactApplyDifferenceRow.holds Try.pinned (OpenSpec.ofChange fnExactApplyDifferenceSpec)

/-- ITS FALSE NEIGHBOUR: 'it returns false'. Refute it at one input. -/
def fnExactApplyDifferenceWrong : ChangeSpec := { name := "fnExactApplyDifference", fn := fun _ => fun
  | [d1, d2, d3] => { results := [.lit (.bool false)], args := [d1, d2, d3] }
  | _ => none }
def FnExactApplyDifferenceWrongFalsely : Prop := fnExactApplyDifferenceRow.holds Try.pinned (OpenSpec.ofChange fnExactApplyDifferenceWrong)

/-- 'laws.FnExactMergeSheets': WHATEVER THE INPUT: true; the input reads as it did. -/
def fnExactMergeSheetsSpec : ChangeSpec := { name := "fnExactMergeSheets", fn := fun _ => fun
  | [d1, d2, d3] => { results := [.lit (.bool true)], args := [d1, d2, d3] }
  | _ => none }
def fnExactMergeSheetsRow : OpenClaim := { program := "ytplpjmhmochcfaa", sum := "4cf93ec9604c2fab56c489291e47dc8a99d728b827e8b51722845ee37bc38f79", func := "loop.example/g00949/laws.FnExactMergeSheets", spec := "fnExactMergeSheets", inPlace := ["internal/reflectlite.ValueOf", "internal/reflectlite.Swapper", "(internal/reflectlite.Value).Len"], unfollowed := true, recurses := true, apart := false }
def FnExactMergeSheetsSaid : Prop := fnExactMergeSheetsRow.holds Try.pinned (OpenSpec.ofChange fnExactMergeSheetsSpec)

/-- ITS FALSE NEIGHBOUR: 'it returns false'. Refute it at one input. -/
def fnExactMergeSheetsWrong : ChangeSpec := { name := "fnExactMergeSheets", fn := fun _ => fun
  | [d1, d2, d3] => { results := [.lit (.bool false)], args := [d1, d2, d3] }
  | _ => none }
def FnExactMergeSheetsWrongFalsely : Prop := fnExactMergeSheetsRow.holds Try.pinned (OpenSpec.ofChange fnExactMergeSheetsWrong)

/-- 'laws.FnExactMergeFirst': WHATEVER THE INPUT: true; the input reads as it did. -/
def fnExactMergeFirstSpec : ChangeSpec := { name := "fnExactMergeFirst", fn := fun _ => fun
  | [d1, d2, d3] => { results := [.lit (.bool true)], args := [d1, d2, d3] }
  | _ => none }
def fnExactMergeFirstRow : OpenClaim := { program := "ytplpjmhmochcfaa", sum := "4cf93ec9604c2fab56c489291e47dc8a99d728b827e8b51722845ee37bc38f79", func := "loop.example/g00949/laws.FnExactMergeFirst", spec := "fnExactMergeFirst", inPlace := ["internal/reflectlite.ValueOf", "internal/reflectlite.Swapper", "(internal/reflectlite.Value).Len"], unfollowed := true, recurses := true, apart := false }
def FnExactMergeFirstSaid : Prop := fnExactMergeFirstRow.holds Try.pinned (OpenSpec.ofChange fnExactMergeFirstSpec)

/-- ITS FALSE NEIGHBOUR: 'it returns false'. Refute it at one input. -/
def fnExactMergeFirstWrong : ChangeSpec := { name := "fnExactMergeFirst", fn := fun _ => fun
  | [d1, d2, d3] => { results := [.lit (.bool false)], args := [d1, d2, d3] }
  | _ => none }
def FnExactMergeFirstWrongFalsely : Prop := fnExactMergeFirstRow.holds Try.pinned (OpenSpec.ofChange fnExactMergeFirstWrong)

/-- 'laws.FnMerges': WHATEVER THE INPUT: true; the input reads as it did. -/
def fnMergesSpec : ChangeSpec := { name := "fnMerges", fn := fun _ => fun
  | [d1, d2] => { results := [.lit (.bool true)], args := [d1, d2] }
  | _ => none }
def fnMergesRow : OpenClaim := { program := "ytplpjmhmochcfaa", sum := "4cf93ec9604c2fab56c489291e47dc8a99d728b827e8b51722845ee37bc38f79", func := "loop.example/g00949/laws.FnMerges", spec := "fnMerges", inPlace := ["internal/reflectlite.ValueOf", "internal/reflectlite.Swapper", "(internal/reflectlite.Value).Len"], unfollowed := true, recurses := true, apart := false }
def FnMergesSaid : Prop := fnMergesRow.holds Try.pinned (OpenSpec.ofChange fnMergesSpec)

/-- ITS FALSE NEIGHBOUR: 'it returns false'. Refute it at one input. -/
def fnMergesWrong : ChangeSpec := { name := "fnMerges", fn := fun _ => fun
  | [d1, d2] => { results := [.lit (.bool false)], args := [d1, d2] }
  | _ => none }
def FnMergesWrongFalsely : Prop := fnMergesRow.holds Try.pinned (OpenSpec.ofChange fnMergesWrong)

/-- 'laws.FnExactMakeEdition': WHATEVER THE INPUT: true; the input reads as it did. -/
def fnExactMakeEditionSpec : ChangeSpec := { name := "fnExactMakeEdition", fn := fun _ => fun
  | [d1, d2] => { results := [.lit (.bool true)], args := [d1, d2] }
  | _ => none }
def fnExactMakeEditionRow : OpenClaim := { program := "ytplpjmhmochcfaa", sum := "4cf93ec9604c2fab56c489291e47dc8a99d728b827e8b51722845ee37bc38f79", func := "loop.example/g00949/laws.FnExactMakeEdition", spec := "fnExactMakeEdition", inPlace := ["internal/reflectlite.ValueOf", "internal/reflectlite.Swapper", "(internal/reflectlite.Value).Len"], unfollowed := true, recurses := true, apart := false }
def FnExactMakeEditionSaid : Prop := fnExactMakeEditionRow.holds Try.pinned (OpenSpec.ofChange fnExactMakeEditionSpec)

/-- ITS FALSE NEIGHBOUR: 'it returns false'. Refute it at one input. -/
def fnExactMakeEditionWrong : ChangeSpec := { name := "fnExactMakeEdition", fn := fun _ => fun
  | [d1, d2] => { results := [.lit (.bool false)], args := [d1, d2] }
  | _ => none }
def FnExactMakeEditionWrongFalsely : Prop := fnExactMakeEditionRow.holds Try.pinned (OpenSpec.ofChange fnExactMakeEditionWrong)

/- THE SECOND FORM. 'bulk': how many values and letters a reading holds, each counted each time it is reached (what is shared counts as often as it is met; a slice's spare places count too). A statement '..UptoSaid' is the law's where the arguments, and the package variables that the reading takes, are together of bulk at most 1048576: NARROWER than '..Said'. Prove '..Said' where nothing that the law and all that it calls make is longer than what came in: it says more and counts as full. Else prove '..UptoSaid'. A law counts once. -/
mutual
def uptoBulk {H : Type} : DataW H → Nat
  | .lit (.string bytes) => bytes.length + 1
  | .lit _ => 1
  | .nil => 1
  | .ptr d => uptoBulk d + 1
  | .slice elems spare => uptoBulkAll elems + uptoBulkAll spare + 1
  | .agg parts => uptoBulkAll parts + 1
  | .iface _ d => uptoBulk d + 1
  | .map entries => uptoBulkEntries entries + 1
  | .held _ => 1
def uptoBulkAll {H : Type} : List (DataW H) → Nat
  | [] => 0
  | d :: r => uptoBulk d + uptoBulkAll r
def uptoBulkEntries {H : Type} : List (Lit × DataW H) → Nat
  | [] => 0
  | x :: r => uptoBulkEntry x + uptoBulkEntries r
def uptoBulkEntry {H : Type} : Lit × DataW H → Nat
  | (.string bytes, d) => bytes.length + uptoBulk d + 1
  | (_, d) => uptoBulk d + 1
 end
def uptoSmall : (H : Type) → List (DataW H) → Bool := fun _ ds => decide (uptoBulkAll ds ≤ 1048576)
def OpenSpec.upto (s : _root_.Go.ChangeSpec) : _root_.Go.OpenSpec := { _root_.Go.OpenSpec.ofChange s with cond := some uptoSmall }

/-- 'laws.FnCopies', WHERE WHAT IT READS IS OF BULK AT MOST 1048576: true; the input reads as it did. -/
def fnCopiesUptoRow : OpenClaim := { program := "ytplpjmhmochcfaa", sum := "4cf93ec9604c2fab56c489291e47dc8a99d728b827e8b51722845ee37bc38f79", func := "loop.example/g00949/laws.FnCopies", spec := "fnCopies", unfollowed := true, recurses := true, apart := false, narrowed := true }
def FnCopiesUptoSaid : Prop := fnCopiesUptoRow.holds Try.pinned (OpenSpec.upto fnCopiesSpec)

/-- 'laws.FnExactApplyDifference', WHERE WHAT IT READS IS OF BULK AT MOST 1048576: true; the input reads as it did. -/
def fnExactApplyDifferenceUptoRow : OpenClaim := { program := "ytplpjmhmochcfaa", sum := "4cf93ec9604c2fab56c489291e47dc8a99d728b827e8b51722845ee37bc38f79", func := "loop.example/g00949/laws.FnExactApplyDifference", spec := "fnExactApplyDifference", inPlace := ["internal/reflectlite.ValueOf", "internal/reflectlite.Swapper", "(internal/reflectlite.Value).Len"], unfollowed := true, recurses := true, apart := false, narrowed := true }
def FnExactApplyDifferenceUptoSaid : Prop := fnExactApplyDifferenceUptoRow.holds Try.pinned (OpenSpec.upto fnExactApplyDifferenceSpec)

/-- 'laws.FnExactMergeSheets', WHERE WHAT IT READS IS OF BULK AT MOST 1048576: true; the input reads as it did. -/
def fnExactMergeSheetsUptoRow : OpenClaim := { program := "ytplpjmhmochcfaa", sum := "4cf93ec9604c2fab56c489291e47dc8a99d728b827e8b51722845ee37bc38f79", func := "loop.example/g00949/laws.FnExactMergeSheets", spec := "fnExactMergeSheets", inPlace := ["internal/reflectlite.ValueOf", "internal/reflectlite.Swapper", "(internal/reflectlite.Value).Len"], unfollowed := true, recurses := true, apart := false, narrowed := true }
def FnExactMergeSheetsUptoSaid : Prop := fnExactMergeSheetsUptoRow.holds Try.pinned (OpenSpec.upto fnExactMergeSheetsSpec)

/-- 'laws.FnExactMergeFirst', WHERE WHAT IT READS IS OF BULK AT MOST 1048576: true; the input reads as it did. -/
def fnExactMergeFirstUptoRow : OpenClaim := { program := "ytplpjmhmochcfaa", sum := "4cf93ec9604c2fab56c489291e47dc8a99d728b827e8b51722845ee37bc38f79", func := "loop.example/g00949/laws.FnExactMergeFirst", spec := "fnExactMergeFirst", inPlace := ["internal/reflectlite.ValueOf", "internal/reflectlite.Swapper", "(internal/reflectlite.Value).Len"], unfollowed := true, recurses := true, apart := false, narrowed := true }
def FnExactMergeFirstUptoSaid : Prop := fnExactMergeFirstUptoRow.holds Try.pinned (OpenSpec.upto fnExactMergeFirstSpec)

/-- 'laws.FnMerges', WHERE WHAT IT READS IS OF BULK AT MOST 1048576: true; the input reads as it did. -/
def fnMergesUptoRow : OpenClaim := { program := "ytplpjmhmochcfaa", sum := "4cf93ec9604c2fab56c489291e47dc8a99d728b827e8b51722845ee37bc38f79", func := "loop.example/g00949/laws.FnMerges", spec := "fnMerges", inPlace := ["internal/reflectlite.ValueOf", "internal/reflectlite.Swapper", "(internal/reflectlite.Value).Len"], unfollowed := true, recurses := true, apart := false, narrowed := true }
def FnMergesUptoSaid : Prop := fnMergesUptoRow.holds Try.pinned (OpenSpec.upto fnMergesSpec)

/-- 'laws.FnExactMakeEdition', WHERE WHAT IT READS IS OF BULK AT MOST 1048576: true; the input reads as it did. -/
def fnExactMakeEditionUptoRow : OpenClaim := { program := "ytplpjmhmochcfaa", sum := "4cf93ec9604c2fab56c489291e47dc8a99d728b827e8b51722845ee37bc38f79", func := "loop.example/g00949/laws.FnExactMakeEdition", spec := "fnExactMakeEdition", inPlace := ["internal/reflectlite.ValueOf", "internal/reflectlite.Swapper", "(internal/reflectlite.Value).Len"], unfollowed := true, recurses := true, apart := false, narrowed := true }
def FnExactMakeEditionUptoSaid : Prop := fnExactMakeEditionUptoRow.holds Try.pinned (OpenSpec.upto fnExactMakeEditionSpec)

end Rows
end Go.Proofs.Ytplpjmhmochcfaa
