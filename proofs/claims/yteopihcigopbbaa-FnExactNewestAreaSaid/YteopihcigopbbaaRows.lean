/-
  No cell of these rows narrows 'for every input' (looked for: loops, veiled, ifaces, maps, wideKeys, modest, calm, conditions, laid).
  DERIVED. THE GIVEN ROWS OF THIS SEAT. 12 by the template 'for every input the law returns true; each argument reads behind the call as it read before'; 0 by the template 'total and deterministic' (their statements: YteopihcigopbbaaTotals.lean).
  GIVEN WITH THE SEED: the statements are not yours to turn. If you find one false, say at which input.
  Laid BY PROGRAM, IN A SANDBOX (cutbox-rows.mjs): the forced cells as the released guide's own fill.sh prints them over the translation bdb629a1828f1dbb… (all of the seat's roots in one cut). By AI agents, Wed Nov 11 2026. No macro, syntax, notation, axiom, sorry.
-/
import Derived.Test.YteopihcigopbbaaChecked
import GoSem.Claim
import GoSem.ClaimJoined
import GoSem.ClaimMapViews
import Derived.JoinedTies
import Derived.KernelRfl
namespace Go.Proofs.Yteopihcigopbbaa
/- THE CELL 'sum', in the pinned program and in every row, IS THE sha256 OF THE DUMP (.gsa) THAT YteopihcigopbbaaProg.lean LOADS. Nothing in Lean hashes anything: it is a label: what it is worth is what the hold of that sum in a sandbox is worth. -/
noncomputable def Try.pinned : Pinned := { name := "yteopihcigopbbaa", sum := "bdb629a1828f1dbb4aa76f9db91a6f06a181110113a66c91b0169febc16a2d1d", checked := Try.checked }
namespace Rows
def none {H : Type} : Left H := { results := [], args := [] }

/-- 'laws.FnExactIsState': WHATEVER THE INPUT: true; the input reads as it did. -/
def fnExactIsStateSpec : ChangeSpec := { name := "fnExactIsState", fn := fun _ => fun
  | [d] => { results := [.lit (.bool true)], args := [d] }
  | _ => none }
def fnExactIsStateRow : OpenClaim := { program := "yteopihcigopbbaa", sum := "bdb629a1828f1dbb4aa76f9db91a6f06a181110113a66c91b0169febc16a2d1d", func := "loop.example/g00949/laws.FnExactIsState", spec := "fnExactIsState", apart := false }
def FnExactIsStateSaid : Prop := fnExactIsStateRow.holds Try.pinned (OpenSpec.ofChange fnExactIsStateSpec)

/-- ITS FALSE NEIGHBOUR: 'it returns false'. Refute it at one input. -/
def fnExactIsStateWrong : ChangeSpec := { name := "fnExactIsState", fn := fun _ => fun
  | [d] => { results := [.lit (.bool false)], args := [d] }
  | _ => none }
def FnExactIsStateWrongFalsely : Prop := fnExactIsStateRow.holds Try.pinned (OpenSpec.ofChange fnExactIsStateWrong)

/-- 'laws.FnExactDamageArea': WHATEVER THE INPUT: true; the input reads as it did. -/
def fnExactDamageAreaSpec : ChangeSpec := { name := "fnExactDamageArea", fn := fun _ => fun
  | [d1, d2, d3] => { results := [.lit (.bool true)], args := [d1, d2, d3] }
  | _ => none }
def fnExactDamageAreaRow : OpenClaim := { program := "yteopihcigopbbaa", sum := "bdb629a1828f1dbb4aa76f9db91a6f06a181110113a66c91b0169febc16a2d1d", func := "loop.example/g00949/laws.FnExactDamageArea", spec := "fnExactDamageArea", apart := false }
def FnExactDamageAreaSaid : Prop := fnExactDamageAreaRow.holds Try.pinned (OpenSpec.ofChange fnExactDamageAreaSpec)

/-- ITS FALSE NEIGHBOUR: 'it returns false'. Refute it at one input. -/
def fnExactDamageAreaWrong : ChangeSpec := { name := "fnExactDamageArea", fn := fun _ => fun
  | [d1, d2, d3] => { results := [.lit (.bool false)], args := [d1, d2, d3] }
  | _ => none }
def FnExactDamageAreaWrongFalsely : Prop := fnExactDamageAreaRow.holds Try.pinned (OpenSpec.ofChange fnExactDamageAreaWrong)

/-- 'laws.FnExactAreaOf': WHATEVER THE INPUT: true; the input reads as it did. -/
def fnExactAreaOfSpec : ChangeSpec := { name := "fnExactAreaOf", fn := fun _ => fun
  | [d1, d2] => { results := [.lit (.bool true)], args := [d1, d2] }
  | _ => none }
def fnExactAreaOfRow : OpenClaim := { program := "yteopihcigopbbaa", sum := "bdb629a1828f1dbb4aa76f9db91a6f06a181110113a66c91b0169febc16a2d1d", func := "loop.example/g00949/laws.FnExactAreaOf", spec := "fnExactAreaOf", apart := false }
def FnExactAreaOfSaid : Prop := fnExactAreaOfRow.holds Try.pinned (OpenSpec.ofChange fnExactAreaOfSpec)

/-- ITS FALSE NEIGHBOUR: 'it returns false'. Refute it at one input. -/
def fnExactAreaOfWrong : ChangeSpec := { name := "fnExactAreaOf", fn := fun _ => fun
  | [d1, d2] => { results := [.lit (.bool false)], args := [d1, d2] }
  | _ => none }
def FnExactAreaOfWrongFalsely : Prop := fnExactAreaOfRow.holds Try.pinned (OpenSpec.ofChange fnExactAreaOfWrong)

/-- 'laws.FnExactStatesLeft': WHATEVER THE INPUT: true; the input reads as it did. -/
def fnExactStatesLeftSpec : ChangeSpec := { name := "fnExactStatesLeft", fn := fun _ => fun
  | [d1, d2] => { results := [.lit (.bool true)], args := [d1, d2] }
  | _ => none }
def fnExactStatesLeftRow : OpenClaim := { program := "yteopihcigopbbaa", sum := "bdb629a1828f1dbb4aa76f9db91a6f06a181110113a66c91b0169febc16a2d1d", func := "loop.example/g00949/laws.FnExactStatesLeft", spec := "fnExactStatesLeft", apart := false }
def FnExactStatesLeftSaid : Prop := fnExactStatesLeftRow.holds Try.pinned (OpenSpec.ofChange fnExactStatesLeftSpec)

/-- ITS FALSE NEIGHBOUR: 'it returns false'. Refute it at one input. -/
def fnExactStatesLeftWrong : ChangeSpec := { name := "fnExactStatesLeft", fn := fun _ => fun
  | [d1, d2] => { results := [.lit (.bool false)], args := [d1, d2] }
  | _ => none }
def FnExactStatesLeftWrongFalsely : Prop := fnExactStatesLeftRow.holds Try.pinned (OpenSpec.ofChange fnExactStatesLeftWrong)

/-- 'laws.FnExactReadArea': WHATEVER THE INPUT: true; the input reads as it did. -/
def fnExactReadAreaSpec : ChangeSpec := { name := "fnExactReadArea", fn := fun _ => fun
  | [d] => { results := [.lit (.bool true)], args := [d] }
  | _ => none }
def fnExactReadAreaRow : OpenClaim := { program := "yteopihcigopbbaa", sum := "bdb629a1828f1dbb4aa76f9db91a6f06a181110113a66c91b0169febc16a2d1d", func := "loop.example/g00949/laws.FnExactReadArea", spec := "fnExactReadArea", apart := false }
def FnExactReadAreaSaid : Prop := fnExactReadAreaRow.holds Try.pinned (OpenSpec.ofChange fnExactReadAreaSpec)

/-- ITS FALSE NEIGHBOUR: 'it returns false'. Refute it at one input. -/
def fnExactReadAreaWrong : ChangeSpec := { name := "fnExactReadArea", fn := fun _ => fun
  | [d] => { results := [.lit (.bool false)], args := [d] }
  | _ => none }
def FnExactReadAreaWrongFalsely : Prop := fnExactReadAreaRow.holds Try.pinned (OpenSpec.ofChange fnExactReadAreaWrong)

/-- 'laws.FnExactNewestArea': WHATEVER THE INPUT: true; the input reads as it did. -/
def fnExactNewestAreaSpec : ChangeSpec := { name := "fnExactNewestArea", fn := fun _ => fun
  | [d1, d2] => { results := [.lit (.bool true)], args := [d1, d2] }
  | _ => none }
def fnExactNewestAreaRow : OpenClaim := { program := "yteopihcigopbbaa", sum := "bdb629a1828f1dbb4aa76f9db91a6f06a181110113a66c91b0169febc16a2d1d", func := "loop.example/g00949/laws.FnExactNewestArea", spec := "fnExactNewestArea", apart := false }
def FnExactNewestAreaSaid : Prop := fnExactNewestAreaRow.holds Try.pinned (OpenSpec.ofChange fnExactNewestAreaSpec)

/-- ITS FALSE NEIGHBOUR: 'it returns false'. Refute it at one input. -/
def fnExactNewestAreaWrong : ChangeSpec := { name := "fnExactNewestArea", fn := fun _ => fun
  | [d1, d2] => { results := [.lit (.bool false)], args := [d1, d2] }
  | _ => none }
def FnExactNewestAreaWrongFalsely : Prop := fnExactNewestAreaRow.holds Try.pinned (OpenSpec.ofChange fnExactNewestAreaWrong)

/-- 'laws.FnExactRecoverState': WHATEVER THE INPUT: true; the input reads as it did. -/
def fnExactRecoverStateSpec : ChangeSpec := { name := "fnExactRecoverState", fn := fun _ => fun
  | [d1, d2] => { results := [.lit (.bool true)], args := [d1, d2] }
  | _ => none }
def fnExactRecoverStateRow : OpenClaim := { program := "yteopihcigopbbaa", sum := "bdb629a1828f1dbb4aa76f9db91a6f06a181110113a66c91b0169febc16a2d1d", func := "loop.example/g00949/laws.FnExactRecoverState", spec := "fnExactRecoverState", apart := false }
def FnExactRecoverStateSaid : Prop := fnExactRecoverStateRow.holds Try.pinned (OpenSpec.ofChange fnExactRecoverStateSpec)

/-- ITS FALSE NEIGHBOUR: 'it returns false'. Refute it at one input. -/
def fnExactRecoverStateWrong : ChangeSpec := { name := "fnExactRecoverState", fn := fun _ => fun
  | [d1, d2] => { results := [.lit (.bool false)], args := [d1, d2] }
  | _ => none }
def FnExactRecoverStateWrongFalsely : Prop := fnExactRecoverStateRow.holds Try.pinned (OpenSpec.ofChange fnExactRecoverStateWrong)

/-- 'laws.FnExactCrashAt': WHATEVER THE INPUT: true; the input reads as it did. -/
def fnExactCrashAtSpec : ChangeSpec := { name := "fnExactCrashAt", fn := fun _ => fun
  | [d1, d2, d3, d4] => { results := [.lit (.bool true)], args := [d1, d2, d3, d4] }
  | _ => none }
def fnExactCrashAtRow : OpenClaim := { program := "yteopihcigopbbaa", sum := "bdb629a1828f1dbb4aa76f9db91a6f06a181110113a66c91b0169febc16a2d1d", func := "loop.example/g00949/laws.FnExactCrashAt", spec := "fnExactCrashAt", apart := false }
def FnExactCrashAtSaid : Prop := fnExactCrashAtRow.holds Try.pinned (OpenSpec.ofChange fnExactCrashAtSpec)

/-- ITS FALSE NEIGHBOUR: 'it returns false'. Refute it at one input. -/
def fnExactCrashAtWrong : ChangeSpec := { name := "fnExactCrashAt", fn := fun _ => fun
  | [d1, d2, d3, d4] => { results := [.lit (.bool false)], args := [d1, d2, d3, d4] }
  | _ => none }
def FnExactCrashAtWrongFalsely : Prop := fnExactCrashAtRow.holds Try.pinned (OpenSpec.ofChange fnExactCrashAtWrong)

/-- 'laws.FnExactWriteState': WHATEVER THE INPUT: true; the input reads as it did. -/
def fnExactWriteStateSpec : ChangeSpec := { name := "fnExactWriteState", fn := fun _ => fun
  | [d1, d2, d3] => { results := [.lit (.bool true)], args := [d1, d2, d3] }
  | _ => none }
def fnExactWriteStateRow : OpenClaim := { program := "yteopihcigopbbaa", sum := "bdb629a1828f1dbb4aa76f9db91a6f06a181110113a66c91b0169febc16a2d1d", func := "loop.example/g00949/laws.FnExactWriteState", spec := "fnExactWriteState", apart := false }
def FnExactWriteStateSaid : Prop := fnExactWriteStateRow.holds Try.pinned (OpenSpec.ofChange fnExactWriteStateSpec)

/-- ITS FALSE NEIGHBOUR: 'it returns false'. Refute it at one input. -/
def fnExactWriteStateWrong : ChangeSpec := { name := "fnExactWriteState", fn := fun _ => fun
  | [d1, d2, d3] => { results := [.lit (.bool false)], args := [d1, d2, d3] }
  | _ => none }
def FnExactWriteStateWrongFalsely : Prop := fnExactWriteStateRow.holds Try.pinned (OpenSpec.ofChange fnExactWriteStateWrong)

/-- 'laws.FnExactWriteAll': WHATEVER THE INPUT: true; the input reads as it did. -/
def fnExactWriteAllSpec : ChangeSpec := { name := "fnExactWriteAll", fn := fun _ => fun
  | [d] => { results := [.lit (.bool true)], args := [d] }
  | _ => none }
def fnExactWriteAllRow : OpenClaim := { program := "yteopihcigopbbaa", sum := "bdb629a1828f1dbb4aa76f9db91a6f06a181110113a66c91b0169febc16a2d1d", func := "loop.example/g00949/laws.FnExactWriteAll", spec := "fnExactWriteAll", apart := false }
def FnExactWriteAllSaid : Prop := fnExactWriteAllRow.holds Try.pinned (OpenSpec.ofChange fnExactWriteAllSpec)

/-- ITS FALSE NEIGHBOUR: 'it returns false'. Refute it at one input. -/
def fnExactWriteAllWrong : ChangeSpec := { name := "fnExactWriteAll", fn := fun _ => fun
  | [d] => { results := [.lit (.bool false)], args := [d] }
  | _ => none }
def FnExactWriteAllWrongFalsely : Prop := fnExactWriteAllRow.holds Try.pinned (OpenSpec.ofChange fnExactWriteAllWrong)

/-- 'laws.FnAreas': WHATEVER THE INPUT: true; the input reads as it did. -/
def fnAreasSpec : ChangeSpec := { name := "fnAreas", fn := fun _ => fun
  | [d1, d2] => { results := [.lit (.bool true)], args := [d1, d2] }
  | _ => none }
def fnAreasRow : OpenClaim := { program := "yteopihcigopbbaa", sum := "bdb629a1828f1dbb4aa76f9db91a6f06a181110113a66c91b0169febc16a2d1d", func := "loop.example/g00949/laws.FnAreas", spec := "fnAreas", apart := false }
def FnAreasSaid : Prop := fnAreasRow.holds Try.pinned (OpenSpec.ofChange fnAreasSpec)

/-- ITS FALSE NEIGHBOUR: 'it returns false'. Refute it at one input. -/
def fnAreasWrong : ChangeSpec := { name := "fnAreas", fn := fun _ => fun
  | [d1, d2] => { results := [.lit (.bool false)], args := [d1, d2] }
  | _ => none }
def FnAreasWrongFalsely : Prop := fnAreasRow.holds Try.pinned (OpenSpec.ofChange fnAreasWrong)

/-- 'laws.FnCrashes': WHATEVER THE INPUT: true; the input reads as it did. -/
def fnCrashesSpec : ChangeSpec := { name := "fnCrashes", fn := fun _ => fun
  | [d1, d2] => { results := [.lit (.bool true)], args := [d1, d2] }
  | _ => none }
def fnCrashesRow : OpenClaim := { program := "yteopihcigopbbaa", sum := "bdb629a1828f1dbb4aa76f9db91a6f06a181110113a66c91b0169febc16a2d1d", func := "loop.example/g00949/laws.FnCrashes", spec := "fnCrashes", apart := false }
def FnCrashesSaid : Prop := fnCrashesRow.holds Try.pinned (OpenSpec.ofChange fnCrashesSpec)

/-- ITS FALSE NEIGHBOUR: 'it returns false'. Refute it at one input. -/
def fnCrashesWrong : ChangeSpec := { name := "fnCrashes", fn := fun _ => fun
  | [d1, d2] => { results := [.lit (.bool false)], args := [d1, d2] }
  | _ => none }
def FnCrashesWrongFalsely : Prop := fnCrashesRow.holds Try.pinned (OpenSpec.ofChange fnCrashesWrong)

/- THE SECOND FORM. 'bulk': how many values and letters a reading holds, each counted each time it is reached (what is shared counts as often as it is met; a slice's spare places count too). A statement '..UptoSaid' is the law's where the arguments, and the package variables that the reading takes, are together of bulk at most 1048576: NARROWER than '..Said'. Prove '..Said' where nothing that the law and all that it calls make is longer than what came in: it says more and counts as full. Else prove '..UptoSaid'. A law counts once. -/
mutual
def uptoBulk {H : Type} : DataW H → Nat
  | .lit (.string bytes) => bytes.length + 1
  | .lit _ => 1
  | .nil => 1
  | .ptr d => uptoBulk d + 1
  | .slice elems spare => uptoBulkAll elems + uptoBulkAll spare + 1
  | .agg parts => uptoBulkAll parts + 1
  | .iface _ d => uptoBulk d + 1
  | .map entries => uptoBulkEntries entries + 1
  | .held _ => 1
def uptoBulkAll {H : Type} : List (DataW H) → Nat
  | [] => 0
  | d :: r => uptoBulk d + uptoBulkAll r
def uptoBulkEntries {H : Type} : List (Lit × DataW H) → Nat
  | [] => 0
  | x :: r => uptoBulkEntry x + uptoBulkEntries r
def uptoBulkEntry {H : Type} : Lit × DataW H → Nat
  | (.string bytes, d) => bytes.length + uptoBulk d + 1
  | (_, d) => uptoBulk d + 1
 end
def uptoSmall : (H : Type) → List (DataW H) → Bool := fun _ ds => decide (uptoBulkAll ds ≤ 1048576)
def OpenSpec.upto (s : _root_.Go.ChangeSpec) : _root_.Go.OpenSpec := { _root_.Go.OpenSpec.ofChange s with cond := some uptoSmall }

/-- 'laws.FnExactIsState', WHERE WHAT IT READS IS OF BULK AT MOST 1048576: true; the input reads as it did. -/
def fnExactIsStateUptoRow : OpenClaim := { program := "yteopihcigopbbaa", sum := "bdb629a1828f1dbb4aa76f9db91a6f06a181110113a66c91b0169febc16a2d1d", func := "loop.example/g00949/laws.FnExactIsState", spec := "fnExactIsState", apart := false, narrowed := true }
def FnExactIsStateUptoSaid : Prop := fnExactIsStateUptoRow.holds Try.pinned (OpenSpec.upto fnExactIsStateSpec)

/-- 'laws.FnExactDamageArea', WHERE WHAT IT READS IS OF BULK AT MOST 1048576: true; the input reads as it did. -/
def fnExactDamageAreaUptoRow : OpenClaim := { program := "yteopihcigopbbaa", sum := "bdb629a1828f1dbb4aa76f9db91a6f06a181110113a66c91b0169febc16a2d1d", func := "loop.example/g00949/laws.FnExactDamageArea", spec := "fnExactDamageArea", apart := false, narrowed := true }
def FnExactDamageAreaUptoSaid : Prop := fnExactDamageAreaUptoRow.holds Try.pinned (OpenSpec.upto fnExactDamageAreaSpec)

/-- 'laws.FnExactAreaOf', WHERE WHAT IT READS IS OF BULK AT MOST 1048576: true; the input reads as it did. -/
def fnExactAreaOfUptoRow : OpenClaim := { program := "yteopihcigopbbaa", sum := "bdb629a1828f1dbb4aa76f9db91a6f06a181110113a66c91b0169febc16a2d1d", func := "loop.example/g00949/laws.FnExactAreaOf", spec := "fnExactAreaOf", apart := false, narrowed := true }
def FnExactAreaOfUptoSaid : Prop := fnExactAreaOfUptoRow.holds Try.pinned (OpenSpec.upto fnExactAreaOfSpec)

/-- 'laws.FnExactStatesLeft', WHERE WHAT IT READS IS OF BULK AT MOST 1048576: true; the input reads as it did. -/
def fnExactStatesLeftUptoRow : OpenClaim := { program := "yteopihcigopbbaa", sum := "bdb629a1828f1dbb4aa76f9db91a6f06a181110113a66c91b0169febc16a2d1d", func := "loop.example/g00949/laws.FnExactStatesLeft", spec := "fnExactStatesLeft", apart := false, narrowed := true }
def FnExactStatesLeftUptoSaid : Prop := fnExactStatesLeftUptoRow.holds Try.pinned (OpenSpec.upto fnExactStatesLeftSpec)

/-- 'laws.FnExactReadArea', WHERE WHAT IT READS IS OF BULK AT MOST 1048576: true; the input reads as it did. -/
def fnExactReadAreaUptoRow : OpenClaim := { program := "yteopihcigopbbaa", sum := "bdb629a1828f1dbb4aa76f9db91a6f06a181110113a66c91b0169febc16a2d1d", func := "loop.example/g00949/laws.FnExactReadArea", spec := "fnExactReadArea", apart := false, narrowed := true }
def FnExactReadAreaUptoSaid : Prop := fnExactReadAreaUptoRow.holds Try.pinned (OpenSpec.upto fnExactReadAreaSpec)

/-- 'laws.FnExactNewestArea', WHERE WHAT IT READS IS OF BULK AT MOST 1048576: true; the input reads as it did. -/
def fnExactNewestAreaUptoRow : OpenClaim := { program := "yteopihcigopbbaa", sum := "bdb629a1828f1dbb4aa76f9db91a6f06a181110113a66c91b0169febc16a2d1d", func := "loop.example/g00949/laws.FnExactNewestArea", spec := "fnExactNewestArea", apart := false, narrowed := true }
def FnExactNewestAreaUptoSaid : Prop := fnExactNewestAreaUptoRow.holds Try.pinned (OpenSpec.upto fnExactNewestAreaSpec)

/-- 'laws.FnExactRecoverState', WHERE WHAT IT READS IS OF BULK AT MOST 1048576: true; the input reads as it did. -/
def fnExactRecoverStateUptoRow : OpenClaim := { program := "yteopihcigopbbaa", sum := "bdb629a1828f1dbb4aa76f9db91a6f06a181110113a66c91b0169febc16a2d1d", func := "loop.example/g00949/laws.FnExactRecoverState", spec := "fnExactRecoverState", apart := false, narrowed := true }
def FnExactRecoverStateUptoSaid : Prop := fnExactRecoverStateUptoRow.holds Try.pinned (OpenSpec.upto fnExactRecoverStateSpec)

/-- 'laws.FnExactCrashAt', WHERE WHAT IT READS IS OF BULK AT MOST 1048576: true; the input reads as it did. -/
def fnExactCrashAtUptoRow : OpenClaim := { program := "yteopihcigopbbaa", sum := "bdb629a1828f1dbb4aa76f9db91a6f06a181110113a66c91b0169febc16a2d1d", func := "loop.example/g00949/laws.FnExactCrashAt", spec := "fnExactCrashAt", apart := false, narrowed := true }
def FnExactCrashAtUptoSaid : Prop := fnExactCrashAtUptoRow.holds Try.pinned (OpenSpec.upto fnExactCrashAtSpec)

/-- 'laws.FnExactWriteState', WHERE WHAT IT READS IS OF BULK AT MOST 1048576: true; the input reads as it did. -/
def fnExactWriteStateUptoRow : OpenClaim := { program := "yteopihcigopbbaa", sum := "bdb629a1828f1dbb4aa76f9db91a6f06a181110113a66c91b0169febc16a2d1d", func := "loop.example/g00949/laws.FnExactWriteState", spec := "fnExactWriteState", apart := false, narrowed := true }
def FnExactWriteStateUptoSaid : Prop := fnExactWriteStateUptoRow.holds Try.pinned (OpenSpec.upto fnExactWriteStateSpec)

/-- 'laws.FnExactWriteAll', WHERE WHAT IT READS IS OF BULK AT MOST 1048576: true; the input reads as it did. -/
def fnExactWriteAllUptoRow : OpenClaim := { program := "yteopihcigopbbaa", sum := "bdb629a1828f1dbb4aa76f9db91a6f06a181110113a66c91b0169febc16a2d1d", func := "loop.example/g00949/laws.FnExactWriteAll", spec := "fnExactWriteAll", apart := false, narrowed := true }
def FnExactWriteAllUptoSaid : Prop := fnExactWriteAllUptoRow.holds Try.pinned (OpenSpec.upto fnExactWriteAllSpec)

/-- 'laws.FnAreas', WHERE WHAT IT READS IS OF BULK AT MOST 1048576: true; the input reads as it did. -/
def fnAreasUptoRow : OpenClaim := { program := "yteopihcigopbbaa", sum := "bdb629a1828f1dbb4aa76f9db91a6f06a181110113a66c91b0169febc16a2d1d", func := "loop.example/g00949/laws.FnAreas", spec := "fnAreas", apart := false, narrowed := true }
def FnAreasUptoSaid : Prop := fnAreasUptoRow.holds Try.pinned (OpenSpec.upto fnAreasSpec)

/-- 'laws.FnCrashes', WHERE WHAT IT READS IS OF BULK AT MOST 1048576: true; the input reads as it did. -/
def fnCrashesUptoRow : OpenClaim := { program := "yteopihcigopbbaa", sum := "bdb629a1828f1dbb4aa76f9db91a6f06a181110113a66c91b0169febc16a2d1d", func := "loop.example/g00949/laws.FnCrashes", spec := "fnCrashes", apart := false, narrowed := true }
def FnCrashesUptoSaid : Prop := fnCrashesUptoRow.holds Try.pinned (OpenSpec.upto fnCrashesSpec)

end Rows
end Go.Proofs.Yteopihcigopbbaa
