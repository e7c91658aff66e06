/-
  No cell of these rows narrows 'for every input' (looked for: loops, veiled, ifaces, maps, wideKeys, modest, calm, conditions, laid).
  DERIVED. THE GIVEN ROWS OF THIS SEAT. 9 by the template 'for every input the law returns true; each argument reads behind the call as it read before'; 0 by the template 'total and deterministic' (their statements: YtlcobkldkcdhbaaTotals.lean).
  GIVEN WITH THE SEED: the statements are not yours to turn. If you find one false, say at which input.
  Laid BY PROGRAM, IN A SANDBOX (cutbox-rows.mjs): the forced cells as the released guide's own fill.sh prints them over the translation 85ddc3845fc09e06… (all of the seat's roots in one cut). By AI agents, Wed Nov 11 2026. No macro, syntax, notation, axiom, sorry.
-/
import Derived.Test.YtlcobkldkcdhbaaChecked
import GoSem.Claim
import GoSem.ClaimJoined
import GoSem.ClaimMapViews
import Derived.JoinedTies
import Derived.KernelRfl
namespace Go.Proofs.Ytlcobkldkcdhbaa
/- THE CELL 'sum', in the pinned program and in every row, IS THE sha256 OF THE DUMP (.gsa) THAT YtlcobkldkcdhbaaProg.lean LOADS. Nothing in Lean hashes anything: it is a label: what it is worth is what the hold of that sum in a sandbox is worth. -/
noncomputable def Try.pinned : Pinned := { name := "ytlcobkldkcdhbaa", sum := "85ddc3845fc09e0658aa47533ec1a441781ebbf57a88a37240d70d033a7229e4", checked := Try.checked }
namespace Rows
def none {H : Type} : Left H := { results := [], args := [] }

/-- 'laws.FnExactHoleNumber': WHATEVER THE INPUT: true; the input reads as it did. -/
def fnExactHoleNumberSpec : ChangeSpec := { name := "fnExactHoleNumber", fn := fun _ => fun
  | [d] => { results := [.lit (.bool true)], args := [d] }
  | _ => none }
def fnExactHoleNumberRow : OpenClaim := { program := "ytlcobkldkcdhbaa", sum := "85ddc3845fc09e0658aa47533ec1a441781ebbf57a88a37240d70d033a7229e4", func := "loop.example/g00949/laws.FnExactHoleNumber", spec := "fnExactHoleNumber", apart := false }
def FnExactHoleNumberSaid : Prop := fnExactHoleNumberRow.holds Try.pinned (OpenSpec.ofChange fnExactHoleNumberSpec)

/-- ITS FALSE NEIGHBOUR: 'it returns false'. Refute it at one input. -/
def fnExactHoleNumberWrong : ChangeSpec := { name := "fnExactHoleNumber", fn := fun _ => fun
  | [d] => { results := [.lit (.bool false)], args := [d] }
  | _ => none }
def FnExactHoleNumberWrongFalsely : Prop := fnExactHoleNumberRow.holds Try.pinned (OpenSpec.ofChange fnExactHoleNumberWrong)

/-- 'laws.FnExactExtendChecksum': WHATEVER THE INPUT: true; the input reads as it did. -/
def fnExactExtendChecksumSpec : ChangeSpec := { name := "fnExactExtendChecksum", fn := fun _ => fun
  | [d1, d2] => { results := [.lit (.bool true)], args := [d1, d2] }
  | _ => none }
def fnExactExtendChecksumRow : OpenClaim := { program := "ytlcobkldkcdhbaa", sum := "85ddc3845fc09e0658aa47533ec1a441781ebbf57a88a37240d70d033a7229e4", func := "loop.example/g00949/laws.FnExactExtendChecksum", spec := "fnExactExtendChecksum", apart := false }
def FnExactExtendChecksumSaid : Prop := fnExactExtendChecksumRow.holds Try.pinned (OpenSpec.ofChange fnExactExtendChecksumSpec)

/-- ITS FALSE NEIGHBOUR: 'it returns false'. Refute it at one input. -/
def fnExactExtendChecksumWrong : ChangeSpec := { name := "fnExactExtendChecksum", fn := fun _ => fun
  | [d1, d2] => { results := [.lit (.bool false)], args := [d1, d2] }
  | _ => none }
def FnExactExtendChecksumWrongFalsely : Prop := fnExactExtendChecksumRow.holds Try.pinned (OpenSpec.ofChange fnExactExtendChecksumWrong)

/-- 'laws.FnExactHoleOfNumber': WHATEVER THE INPUT: true; the input reads as it did. -/
def fnExactHoleOfNumberSpec : ChangeSpec := { name := "fnExactHoleOfNumber", fn := fun _ => fun
  | [d] => { results := [.lit (.bool true)], args := [d] }
  | _ => none }
def fnExactHoleOfNumberRow : OpenClaim := { program := "ytlcobkldkcdhbaa", sum := "85ddc3845fc09e0658aa47533ec1a441781ebbf57a88a37240d70d033a7229e4", func := "loop.example/g00949/laws.FnExactHoleOfNumber", spec := "fnExactHoleOfNumber", apart := false }
def FnExactHoleOfNumberSaid : Prop := fnExactHoleOfNumberRow.holds Try.pinned (OpenSpec.ofChange fnExactHoleOfNumberSpec)

/-- ITS FALSE NEIGHBOUR: 'it returns false'. Refute it at one input. -/
def fnExactHoleOfNumberWrong : ChangeSpec := { name := "fnExactHoleOfNumber", fn := fun _ => fun
  | [d] => { results := [.lit (.bool false)], args := [d] }
  | _ => none }
def FnExactHoleOfNumberWrongFalsely : Prop := fnExactHoleOfNumberRow.holds Try.pinned (OpenSpec.ofChange fnExactHoleOfNumberWrong)

/-- 'laws.FnExactReadChecksum': WHATEVER THE INPUT: true; the input reads as it did. -/
def fnExactReadChecksumSpec : ChangeSpec := { name := "fnExactReadChecksum", fn := fun _ => fun
  | [d] => { results := [.lit (.bool true)], args := [d] }
  | _ => none }
def fnExactReadChecksumRow : OpenClaim := { program := "ytlcobkldkcdhbaa", sum := "85ddc3845fc09e0658aa47533ec1a441781ebbf57a88a37240d70d033a7229e4", func := "loop.example/g00949/laws.FnExactReadChecksum", spec := "fnExactReadChecksum", apart := false }
def FnExactReadChecksumSaid : Prop := fnExactReadChecksumRow.holds Try.pinned (OpenSpec.ofChange fnExactReadChecksumSpec)

/-- ITS FALSE NEIGHBOUR: 'it returns false'. Refute it at one input. -/
def fnExactReadChecksumWrong : ChangeSpec := { name := "fnExactReadChecksum", fn := fun _ => fun
  | [d] => { results := [.lit (.bool false)], args := [d] }
  | _ => none }
def FnExactReadChecksumWrongFalsely : Prop := fnExactReadChecksumRow.holds Try.pinned (OpenSpec.ofChange fnExactReadChecksumWrong)

/-- 'laws.FnExactDifferentTracks': WHATEVER THE INPUT: true; the input reads as it did. -/
def fnExactDifferentTracksSpec : ChangeSpec := { name := "fnExactDifferentTracks", fn := fun _ => fun
  | [d1, d2] => { results := [.lit (.bool true)], args := [d1, d2] }
  | _ => none }
def fnExactDifferentTracksRow : OpenClaim := { program := "ytlcobkldkcdhbaa", sum := "85ddc3845fc09e0658aa47533ec1a441781ebbf57a88a37240d70d033a7229e4", func := "loop.example/g00949/laws.FnExactDifferentTracks", spec := "fnExactDifferentTracks", apart := false }
def FnExactDifferentTracksSaid : Prop := fnExactDifferentTracksRow.holds Try.pinned (OpenSpec.ofChange fnExactDifferentTracksSpec)

/-- ITS FALSE NEIGHBOUR: 'it returns false'. Refute it at one input. -/
def fnExactDifferentTracksWrong : ChangeSpec := { name := "fnExactDifferentTracks", fn := fun _ => fun
  | [d1, d2] => { results := [.lit (.bool false)], args := [d1, d2] }
  | _ => none }
def FnExactDifferentTracksWrongFalsely : Prop := fnExactDifferentTracksRow.holds Try.pinned (OpenSpec.ofChange fnExactDifferentTracksWrong)

/-- 'laws.FnExactChecksumOf': WHATEVER THE INPUT: true; the input reads as it did. -/
def fnExactChecksumOfSpec : ChangeSpec := { name := "fnExactChecksumOf", fn := fun _ => fun
  | [d] => { results := [.lit (.bool true)], args := [d] }
  | _ => none }
def fnExactChecksumOfRow : OpenClaim := { program := "ytlcobkldkcdhbaa", sum := "85ddc3845fc09e0658aa47533ec1a441781ebbf57a88a37240d70d033a7229e4", func := "loop.example/g00949/laws.FnExactChecksumOf", spec := "fnExactChecksumOf", apart := false }
def FnExactChecksumOfSaid : Prop := fnExactChecksumOfRow.holds Try.pinned (OpenSpec.ofChange fnExactChecksumOfSpec)

/-- ITS FALSE NEIGHBOUR: 'it returns false'. Refute it at one input. -/
def fnExactChecksumOfWrong : ChangeSpec := { name := "fnExactChecksumOf", fn := fun _ => fun
  | [d] => { results := [.lit (.bool false)], args := [d] }
  | _ => none }
def FnExactChecksumOfWrongFalsely : Prop := fnExactChecksumOfRow.holds Try.pinned (OpenSpec.ofChange fnExactChecksumOfWrong)

/-- 'laws.FnExactTrackChecksums': WHATEVER THE INPUT: true; the input reads as it did. -/
def fnExactTrackChecksumsSpec : ChangeSpec := { name := "fnExactTrackChecksums", fn := fun _ => fun
  | [d] => { results := [.lit (.bool true)], args := [d] }
  | _ => none }
def fnExactTrackChecksumsRow : OpenClaim := { program := "ytlcobkldkcdhbaa", sum := "85ddc3845fc09e0658aa47533ec1a441781ebbf57a88a37240d70d033a7229e4", func := "loop.example/g00949/laws.FnExactTrackChecksums", spec := "fnExactTrackChecksums", unfollowed := true, recurses := true, apart := false }
def FnExactTrackChecksumsSaid : Prop := fnExactTrackChecksumsRow.holds Try.pinned (OpenSpec.ofChange fnExactTrackChecksumsSpec)

/-- ITS FALSE NEIGHBOUR: 'it returns false'. Refute it at one input. -/
def fnExactTrackChecksumsWrong : ChangeSpec := { name := "fnExactTrackChecksums", fn := fun _ => fun
  | [d] => { results := [.lit (.bool false)], args := [d] }
  | _ => none }
def FnExactTrackChecksumsWrongFalsely : Prop := fnExactTrackChecksumsRow.holds Try.pinned (OpenSpec.ofChange fnExactTrackChecksumsWrong)

/-- 'laws.FnExactSingleChanges': WHATEVER THE INPUT: true; the input reads as it did. -/
def fnExactSingleChangesSpec : ChangeSpec := { name := "fnExactSingleChanges", fn := fun _ => fun
  | [d1, d2] => { results := [.lit (.bool true)], args := [d1, d2] }
  | _ => none }
def fnExactSingleChangesRow : OpenClaim := { program := "ytlcobkldkcdhbaa", sum := "85ddc3845fc09e0658aa47533ec1a441781ebbf57a88a37240d70d033a7229e4", func := "loop.example/g00949/laws.FnExactSingleChanges", spec := "fnExactSingleChanges", apart := false }
def FnExactSingleChangesSaid : Prop := fnExactSingleChangesRow.holds Try.pinned (OpenSpec.ofChange fnExactSingleChangesSpec)

/-- ITS FALSE NEIGHBOUR: 'it returns false'. Refute it at one input. -/
def fnExactSingleChangesWrong : ChangeSpec := { name := "fnExactSingleChanges", fn := fun _ => fun
  | [d1, d2] => { results := [.lit (.bool false)], args := [d1, d2] }
  | _ => none }
def FnExactSingleChangesWrongFalsely : Prop := fnExactSingleChangesRow.holds Try.pinned (OpenSpec.ofChange fnExactSingleChangesWrong)

/-- 'laws.FnExactAgreeingCopies': WHATEVER THE INPUT: true; the input reads as it did. -/
def fnExactAgreeingCopiesSpec : ChangeSpec := { name := "fnExactAgreeingCopies", fn := fun _ => fun
  | [d] => { results := [.lit (.bool true)], args := [d] }
  | _ => none }
def fnExactAgreeingCopiesRow : OpenClaim := { program := "ytlcobkldkcdhbaa", sum := "85ddc3845fc09e0658aa47533ec1a441781ebbf57a88a37240d70d033a7229e4", func := "loop.example/g00949/laws.FnExactAgreeingCopies", spec := "fnExactAgreeingCopies", apart := false }
def FnExactAgreeingCopiesSaid : Prop := fnExactAgreeingCopiesRow.holds Try.pinned (OpenSpec.ofChange fnExactAgreeingCopiesSpec)

/-- ITS FALSE NEIGHBOUR: 'it returns false'. Refute it at one input. -/
def fnExactAgreeingCopiesWrong : ChangeSpec := { name := "fnExactAgreeingCopies", fn := fun _ => fun
  | [d] => { results := [.lit (.bool false)], args := [d] }
  | _ => none }
def FnExactAgreeingCopiesWrongFalsely : Prop := fnExactAgreeingCopiesRow.holds Try.pinned (OpenSpec.ofChange fnExactAgreeingCopiesWrong)

/- THE SECOND FORM. 'bulk': how many values and letters a reading holds, each counted each time it is reached (what is shared counts as often as it is met; a slice's spare places count too). A statement '..UptoSaid' is the law's where the arguments, and the package variables that the reading takes, are together of bulk at most 1048576: NARROWER than '..Said'. Prove '..Said' where nothing that the law and all that it calls make is longer than what came in: it says more and counts as full. Else prove '..UptoSaid'. A law counts once. -/
mutual
def uptoBulk {H : Type} : DataW H → Nat
  | .lit (.string bytes) => bytes.length + 1
  | .lit _ => 1
  | .nil => 1
  | .ptr d => uptoBulk d + 1
  | .slice elems spare => uptoBulkAll elems + uptoBulkAll spare + 1
  | .agg parts => uptoBulkAll parts + 1
  | .iface _ d => uptoBulk d + 1
  | .map entries => uptoBulkEntries entries + 1
  | .held _ => 1
def uptoBulkAll {H : Type} : List (DataW H) → Nat
  | [] => 0
  | d :: r => uptoBulk d + uptoBulkAll r
def uptoBulkEntries {H : Type} : List (Lit × DataW H) → Nat
  | [] => 0
  | x :: r => uptoBulkEntry x + uptoBulkEntries r
def uptoBulkEntry {H : Type} : Lit × DataW H → Nat
  | (.string bytes, d) => bytes.length + uptoBulk d + 1
  | (_, d) => uptoBulk d + 1
 end
def uptoSmall : (H : Type) → List (DataW H) → Bool := fun _ ds => decide (uptoBulkAll ds ≤ 1048576)
def OpenSpec.upto (s : _root_.Go.ChangeSpec) : _root_.Go.OpenSpec := { _root_.Go.OpenSpec.ofChange s with cond := some uptoSmall }

/-- 'laws.FnExactHoleNumber', WHERE WHAT IT READS IS OF BULK AT MOST 1048576: true; the input reads as it did. -/
def fnExactHoleNumberUptoRow : OpenClaim := { program := "ytlcobkldkcdhbaa", sum := "85ddc3845fc09e0658aa47533ec1a441781ebbf57a88a37240d70d033a7229e4", func := "loop.example/g00949/laws.FnExactHoleNumber", spec := "fnExactHoleNumber", apart := false, narrowed := true }
def FnExactHoleNumberUptoSaid : Prop := fnExactHoleNumberUptoRow.holds Try.pinned (OpenSpec.upto fnExactHoleNumberSpec)

/-- 'laws.FnExactExtendChecksum', WHERE WHAT IT READS IS OF BULK AT MOST 1048576: true; the input reads as it did. -/
def fnExactExtendChecksumUptoRow : OpenClaim := { program := "ytlcobkldkcdhbaa", sum := "85ddc3845fc09e0658aa47533ec1a441781ebbf57a88a37240d70d033a7229e4", func := "loop.example/g00949/laws.FnExactExtendChecksum", spec := "fnExactExtendChecksum", apart := false, narrowed := true }
def FnExactExtendChecksumUptoSaid : Prop := fnExactExtendChecksumUptoRow.holds Try.pinned (OpenSpec.upto fnExactExtendChecksumSpec)

/-- 'laws.FnExactHoleOfNumber', WHERE WHAT IT READS IS OF BULK AT MOST 1048576: true; the input reads as it did. -/
def fnExactHoleOfNumberUptoRow : OpenClaim := { program := "ytlcobkldkcdhbaa", sum := "85ddc3845fc09e0658aa47533ec1a441781ebbf57a88a37240d70d033a7229e4", func := "loop.example/g00949/laws.FnExactHoleOfNumber", spec := "fnExactHoleOfNumber", apart := false, narrowed := true }
def FnExactHoleOfNumberUptoSaid : Prop := fnExactHoleOfNumberUptoRow.holds Try.pinned (OpenSpec.upto fnExactHoleOfNumberSpec)

/-- 'laws.FnExactReadChecksum', WHERE WHAT IT READS IS OF BULK AT MOST 1048576: true; the input reads as it did. -/
def fnExactReadChecksumUptoRow : OpenClaim := { program := "ytlcobkldkcdhbaa", sum := "85ddc3845fc09e0658aa47533ec1a441781ebbf57a88a37240d70d033a7229e4", func := "loop.example/g00949/laws.FnExactReadChecksum", spec := "fnExactReadChecksum", apart := false, narrowed := true }
def FnExactReadChecksumUptoSaid : Prop := fnExactReadChecksumUptoRow.holds Try.pinned (OpenSpec.upto fnExactReadChecksumSpec)

/-- 'laws.FnExactDifferentTracks', WHERE WHAT IT READS IS OF BULK AT MOST 1048576: true; the input reads as it did. -/
def fnExactDifferentTracksUptoRow : OpenClaim := { program := "ytlcobkldkcdhbaa", sum := "85ddc3845fc09e0658aa47533ec1a441781ebbf57a88a37240d70d033a7229e4", func := "loop.example/g00949/laws.FnExactDifferentTracks", spec := "fnExactDifferentTracks", apart := false, narrowed := true }
def FnExactDifferentTracksUptoSaid : Prop := fnExactDifferentTracksUptoRow.holds Try.pinned (OpenSpec.upto fnExactDifferentTracksSpec)

/-- 'laws.FnExactChecksumOf', WHERE WHAT IT READS IS OF BULK AT MOST 1048576: true; the input reads as it did. -/
def fnExactChecksumOfUptoRow : OpenClaim := { program := "ytlcobkldkcdhbaa", sum := "85ddc3845fc09e0658aa47533ec1a441781ebbf57a88a37240d70d033a7229e4", func := "loop.example/g00949/laws.FnExactChecksumOf", spec := "fnExactChecksumOf", apart := false, narrowed := true }
def FnExactChecksumOfUptoSaid : Prop := fnExactChecksumOfUptoRow.holds Try.pinned (OpenSpec.upto fnExactChecksumOfSpec)

/-- 'laws.FnExactTrackChecksums', WHERE WHAT IT READS IS OF BULK AT MOST 1048576: true; the input reads as it did. -/
def fnExactTrackChecksumsUptoRow : OpenClaim := { program := "ytlcobkldkcdhbaa", sum := "85ddc3845fc09e0658aa47533ec1a441781ebbf57a88a37240d70d033a7229e4", func := "loop.example/g00949/laws.FnExactTrackChecksums", spec := "fnExactTrackChecksums", unfollowed := true, recurses := true, apart := false, narrowed := true }
def FnExactTrackChecksumsUptoSaid : Prop := fnExactTrackChecksumsUptoRow.holds Try.pinned (OpenSpec.upto fnExactTrackChecksumsSpec)

/-- 'laws.FnExactSingleChanges', WHERE WHAT IT READS IS OF BULK AT MOST 1048576: true; the input reads as it did. -/
def fnExactSingleChangesUptoRow : OpenClaim := { program := "ytlcobkldkcdhbaa", sum := "85ddc3845fc09e0658aa47533ec1a441781ebbf57a88a37240d70d033a7229e4", func := "loop.example/g00949/laws.FnExactSingleChanges", spec := "fnExactSingleChanges", apart := false, narrowed := true }
def FnExactSingleChangesUptoSaid : Prop := fnExactSingleChangesUptoRow.holds Try.pinned (OpenSpec.upto fnExactSingleChangesSpec)

/-- 'laws.FnExactAgreeingCopies', WHERE WHAT IT READS IS OF BULK AT MOST 1048576: true; the input reads as it did. -/
def fnExactAgreeingCopiesUptoRow : OpenClaim := { program := "ytlcobkldkcdhbaa", sum := "85ddc3845fc09e0658aa47533ec1a441781ebbf57a88a37240d70d033a7229e4", func := "loop.example/g00949/laws.FnExactAgreeingCopies", spec := "fnExactAgreeingCopies", apart := false, narrowed := true }
def FnExactAgreeingCopiesUptoSaid : Prop := fnExactAgreeingCopiesUptoRow.holds Try.pinned (OpenSpec.upto fnExactAgreeingCopiesSpec)

end Rows
end Go.Proofs.Ytlcobkldkcdhbaa
