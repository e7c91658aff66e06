/-
  No cell of these rows narrows 'for every input' (looked for: loops, veiled, ifaces, maps, wideKeys, modest, calm, conditions, laid).
  DERIVED. THE GIVEN ROWS OF THIS SEAT. 6 by the template 'for every input the law returns true; each argument reads behind the call as it read before'; 0 by the template 'total and deterministic' (their statements: YtockbgeloiekdaaTotals.lean).
  GIVEN WITH THE SEED: the statements are not yours to turn. If you find one false, say at which input.
  Laid BY PROGRAM, IN A SANDBOX (cutbox-rows.mjs): the forced cells as the released guide's own fill.sh prints them over the translation af9090b4aee3bd70… (all of the seat's roots in one cut). By AI agents, Wed Nov 11 2026. No macro, syntax, notation, axiom, sorry.
-/
import Derived.Test.YtockbgeloiekdaaChecked
import GoSem.Claim
import GoSem.ClaimJoined
import GoSem.ClaimMapViews
import Derived.JoinedTies
import Derived.KernelRfl
namespace Go.Proofs.Ytockbgeloiekdaa
/- THE CELL 'sum', in the pinned program and in every row, IS THE sha256 OF THE DUMP (.gsa) THAT YtockbgeloiekdaaProg.lean LOADS. Nothing in Lean hashes anything: it is a label: what it is worth is what the hold of that sum in a sandbox is worth. -/
noncomputable def Try.pinned : Pinned := { name := "ytockbgeloiekdaa", sum := "af9090b4aee3bd70542ca5f88b88c9517f99e8ef290264f45ad34201812aced9", checked := Try.checked }
namespace Rows
def none {H : Type} : Left H := { results := [], args := [] }

/-- 'laws.FnExactUsedSources': WHATEVER THE INPUT: true; the input reads as it did. -/
def fnExactUsedSourcesSpec : ChangeSpec := { name := "fnExactUsedSources", fn := fun _ => fun
  | [d] => { results := [.lit (.bool true)], args := [d] }
  | _ => none }
def fnExactUsedSourcesRow : OpenClaim := { program := "ytockbgeloiekdaa", sum := "af9090b4aee3bd70542ca5f88b88c9517f99e8ef290264f45ad34201812aced9", func := "loop.example/g00949/laws.FnExactUsedSources", spec := "fnExactUsedSources", recurses := true, apart := false }
def FnExactUsedSourcesSaid : Prop := fnExactUsedSourcesRow.holds Try.pinned (OpenSpec.ofChange fnExactUsedSourcesSpec)

/-- ITS FALSE NEIGHBOUR: 'it returns false'. Refute it at one input. -/
def fnExactUsedSourcesWrong : ChangeSpec := { name := "fnExactUsedSources", fn := fun _ => fun
  | [d] => { results := [.lit (.bool false)], args := [d] }
  | _ => none }
def FnExactUsedSourcesWrongFalsely : Prop := fnExactUsedSourcesRow.holds Try.pinned (OpenSpec.ofChange fnExactUsedSourcesWrong)

/-- 'laws.FnExactDropRoll': WHATEVER THE INPUT: true; the input reads as it did. -/
def fnExactDropRollSpec : ChangeSpec := { name := "fnExactDropRoll", fn := fun _ => fun
  | [d1, d2] => { results := [.lit (.bool true)], args := [d1, d2] }
  | _ => none }
def fnExactDropRollRow : OpenClaim := { program := "ytockbgeloiekdaa", sum := "af9090b4aee3bd70542ca5f88b88c9517f99e8ef290264f45ad34201812aced9", func := "loop.example/g00949/laws.FnExactDropRoll", spec := "fnExactDropRoll", unfollowed := true, recurses := true, apart := false }
def FnExactDropRollSaid : Prop := fnExactDropRollRow.holds Try.pinned (OpenSpec.ofChange fnExactDropRollSpec)

/-- ITS FALSE NEIGHBOUR: 'it returns false'. Refute it at one input. -/
def fnExactDropRollWrong : ChangeSpec := { name := "fnExactDropRoll", fn := fun _ => fun
  | [d1, d2] => { results := [.lit (.bool false)], args := [d1, d2] }
  | _ => none }
def FnExactDropRollWrongFalsely : Prop := fnExactDropRollRow.holds Try.pinned (OpenSpec.ofChange fnExactDropRollWrong)

/-- 'laws.FnExactStatesLeft': WHATEVER THE INPUT: true; the input reads as it did. -/
def fnExactStatesLeftSpec : ChangeSpec := { name := "fnExactStatesLeft", fn := fun _ => fun
  | [d1, d2] => { results := [.lit (.bool true)], args := [d1, d2] }
  | _ => none }
def fnExactStatesLeftRow : OpenClaim := { program := "ytockbgeloiekdaa", sum := "af9090b4aee3bd70542ca5f88b88c9517f99e8ef290264f45ad34201812aced9", func := "loop.example/g00949/laws.FnExactStatesLeft", spec := "fnExactStatesLeft", apart := false }
def FnExactStatesLeftSaid : Prop := fnExactStatesLeftRow.holds Try.pinned (OpenSpec.ofChange fnExactStatesLeftSpec)

/-- ITS FALSE NEIGHBOUR: 'it returns false'. Refute it at one input. -/
def fnExactStatesLeftWrong : ChangeSpec := { name := "fnExactStatesLeft", fn := fun _ => fun
  | [d1, d2] => { results := [.lit (.bool false)], args := [d1, d2] }
  | _ => none }
def FnExactStatesLeftWrongFalsely : Prop := fnExactStatesLeftRow.holds Try.pinned (OpenSpec.ofChange fnExactStatesLeftWrong)

/-- 'laws.FnExactCrashAt': WHATEVER THE INPUT: true; the input reads as it did. -/
def fnExactCrashAtSpec : ChangeSpec := { name := "fnExactCrashAt", fn := fun _ => fun
  | [d1, d2, d3, d4] => { results := [.lit (.bool true)], args := [d1, d2, d3, d4] }
  | _ => none }
def fnExactCrashAtRow : OpenClaim := { program := "ytockbgeloiekdaa", sum := "af9090b4aee3bd70542ca5f88b88c9517f99e8ef290264f45ad34201812aced9", func := "loop.example/g00949/laws.FnExactCrashAt", spec := "fnExactCrashAt", apart := false }
def FnExactCrashAtSaid : Prop := fnExactCrashAtRow.holds Try.pinned (OpenSpec.ofChange fnExactCrashAtSpec)

/-- ITS FALSE NEIGHBOUR: 'it returns false'. Refute it at one input. -/
def fnExactCrashAtWrong : ChangeSpec := { name := "fnExactCrashAt", fn := fun _ => fun
  | [d1, d2, d3, d4] => { results := [.lit (.bool false)], args := [d1, d2, d3, d4] }
  | _ => none }
def FnExactCrashAtWrongFalsely : Prop := fnExactCrashAtRow.holds Try.pinned (OpenSpec.ofChange fnExactCrashAtWrong)

/-- 'laws.FnExactWriteState': WHATEVER THE INPUT: true; the input reads as it did. -/
def fnExactWriteStateSpec : ChangeSpec := { name := "fnExactWriteState", fn := fun _ => fun
  | [d1, d2, d3] => { results := [.lit (.bool true)], args := [d1, d2, d3] }
  | _ => none }
def fnExactWriteStateRow : OpenClaim := { program := "ytockbgeloiekdaa", sum := "af9090b4aee3bd70542ca5f88b88c9517f99e8ef290264f45ad34201812aced9", func := "loop.example/g00949/laws.FnExactWriteState", spec := "fnExactWriteState", apart := false }
def FnExactWriteStateSaid : Prop := fnExactWriteStateRow.holds Try.pinned (OpenSpec.ofChange fnExactWriteStateSpec)

/-- ITS FALSE NEIGHBOUR: 'it returns false'. Refute it at one input. -/
def fnExactWriteStateWrong : ChangeSpec := { name := "fnExactWriteState", fn := fun _ => fun
  | [d1, d2, d3] => { results := [.lit (.bool false)], args := [d1, d2, d3] }
  | _ => none }
def FnExactWriteStateWrongFalsely : Prop := fnExactWriteStateRow.holds Try.pinned (OpenSpec.ofChange fnExactWriteStateWrong)

/-- 'laws.FnExactWriteAll': WHATEVER THE INPUT: true; the input reads as it did. -/
def fnExactWriteAllSpec : ChangeSpec := { name := "fnExactWriteAll", fn := fun _ => fun
  | [d] => { results := [.lit (.bool true)], args := [d] }
  | _ => none }
def fnExactWriteAllRow : OpenClaim := { program := "ytockbgeloiekdaa", sum := "af9090b4aee3bd70542ca5f88b88c9517f99e8ef290264f45ad34201812aced9", func := "loop.example/g00949/laws.FnExactWriteAll", spec := "fnExactWriteAll", apart := false }
def FnExactWriteAllSaid : Prop := fnExactWriteAllRow.holds Try.pinned (OpenSpec.ofChange fnExactWriteAllSpec)

/-- ITS FALSE NEIGHBOUR: 'it returns false'. Refute it at one input. -/
def fnExactWriteAllWrong : ChangeSpec := { name := "fnExactWriteAll", fn := fun _ => fun
  | [d] => { results := [.lit (.bool false)], args := [d] }
  | _ => none }
def FnExactWriteAllWrongFalsely : Prop := fnExactWriteAllRow.holds Try.pinned (OpenSpec.ofChange fnExactWriteAllWrong)

/- THE SECOND FORM. 'bulk': how many values and letters a reading holds, each counted each time it is reached (what is shared counts as often as it is met; a slice's spare places count too). A statement '..UptoSaid' is the law's where the arguments, and the package variables that the reading takes, are together of bulk at most 1048576: NARROWER than '..Said'. Prove '..Said' where nothing that the law and all that it calls make is longer than what came in: it says more and counts as full. Else prove '..UptoSaid'. A law counts once. -/
mutual
def uptoBulk {H : Type} : DataW H → Nat
  | .lit (.string bytes) => bytes.length + 1
  | .lit _ => 1
  | .nil => 1
  | .ptr d => uptoBulk d + 1
  | .slice elems spare => uptoBulkAll elems + uptoBulkAll spare + 1
  | .agg parts => uptoBulkAll parts + 1
  | .iface _ d => uptoBulk d + 1
  | .map entries => uptoBulkEntries entries + 1
  | .held _ => 1
def uptoBulkAll {H : Type} : List (DataW H) → Nat
  | [] => 0
  | d :: r => uptoBulk d + uptoBulkAll r
def uptoBulkEntries {H : Type} : List (Lit × DataW H) → Nat
  | [] => 0
  | x :: r => uptoBulkEntry x + uptoBulkEntries r
def uptoBulkEntry {H : Type} : Lit × DataW H → Nat
  | (.string bytes, d) => bytes.length + uptoBulk d + 1
  | (_, d) => uptoBulk d + 1
 end
def uptoSmall : (H : Type) → List (DataW H) → Bool := fun _ ds => decide (uptoBulkAll ds ≤ 1048576)
def OpenSpec.upto (s : _root_.Go.ChangeSpec) : _root_.Go.OpenSpec := { _root_.Go.OpenSpec.ofChange s with cond := some uptoSmall }

/-- 'laws.FnExactUsedSources', WHERE WHAT IT READS IS OF BULK AT MOST 1048576: true; the input reads as it did. -/
def fnExactUsedSourcesUptoRow : OpenClaim := { program := "ytockbgeloiekdaa", sum := "af9090b4aee3bd70542ca5f88b88c9517f99e8ef290264f45ad34201812aced9", func := "loop.example/g00949/laws.FnExactUsedSources", spec := "fnExactUsedSources", recurses := true, apart := false, narrowed := true }
def FnExactUsedSourcesUptoSaid : Prop := fnExactUsedSourcesUptoRow.holds Try.pinned (OpenSpec.upto fnExactUsedSourcesSpec)

/-- 'laws.FnExactDropRoll', WHERE WHAT IT READS IS OF BULK AT MOST 1048576: true; the input reads as it did. -/
def fnExactDropRollUptoRow : OpenClaim := { program := "ytockbgeloiekdaa", sum := "af9090b4aee3bd70542ca5f88b88c9517f99e8ef290264f45ad34201812aced9", func := "loop.example/g00949/laws.FnExactDropRoll", spec := "fnExactDropRoll", unfollowed := true, recurses := true, apart := false, narrowed := true }
def FnExactDropRollUptoSaid : Prop := fnExactDropRollUptoRow.holds Try.pinned (OpenSpec.upto fnExactDropRollSpec)

/-- 'laws.FnExactStatesLeft', WHERE WHAT IT READS IS OF BULK AT MOST 1048576: true; the input reads as it did. -/
def fnExactStatesLeftUptoRow : OpenClaim := { program := "ytockbgeloiekdaa", sum := "af9090b4aee3bd70542ca5f88b88c9517f99e8ef290264f45ad34201812aced9", func := "loop.example/g00949/laws.FnExactStatesLeft", spec := "fnExactStatesLeft", apart := false, narrowed := true }
def FnExactStatesLeftUptoSaid : Prop := fnExactStatesLeftUptoRow.holds Try.pinned (OpenSpec.upto fnExactStatesLeftSpec)

/-- 'laws.FnExactCrashAt', WHERE WHAT IT READS IS OF BULK AT MOST 1048576: true; the input reads as it did. -/
def fnExactCrashAtUptoRow : OpenClaim := { program := "ytockbgeloiekdaa", sum := "af9090b4aee3bd70542ca5f88b88c9517f99e8ef290264f45ad34201812aced9", func := "loop.example/g00949/laws.FnExactCrashAt", spec := "fnExactCrashAt", apart := false, narrowed := true }
def FnExactCrashAtUptoSaid : Prop := fnExactCrashAtUptoRow.holds Try.pinned (OpenSpec.upto fnExactCrashAtSpec)

/-- 'laws.FnExactWriteState', WHERE WHAT IT READS IS OF BULK AT MOST 1048576: true; the input reads as it did. -/
def fnExactWriteStateUptoRow : OpenClaim := { program := "ytockbgeloiekdaa", sum := "af9090b4aee3bd70542ca5f88b88c9517f99e8ef290264f45ad34201812aced9", func := "loop.example/g00949/laws.FnExactWriteState", spec := "fnExactWriteState", apart := false, narrowed := true }
def FnExactWriteStateUptoSaid : Prop := fnExactWriteStateUptoRow.holds Try.pinned (OpenSpec.upto fnExactWriteStateSpec)

/-- 'laws.FnExactWriteAll', WHERE WHAT IT READS IS OF BULK AT MOST 1048576: true; the input reads as it did. -/
def fnExactWriteAllUptoRow : OpenClaim := { program := "ytockbgeloiekdaa", sum := "af9090b4aee3bd70542ca5f88b88c9517f99e8ef290264f45ad34201812aced9", func := "loop.example/g00949/laws.FnExactWriteAll", spec := "fnExactWriteAll", apart := false, narrowed := true }
def FnExactWriteAllUptoSaid : Prop := fnExactWriteAllUptoRow.holds Try.pinned (OpenSpec.upto fnExactWriteAllSpec)

end Rows
end Go.Proofs.Ytockbgeloiekdaa
