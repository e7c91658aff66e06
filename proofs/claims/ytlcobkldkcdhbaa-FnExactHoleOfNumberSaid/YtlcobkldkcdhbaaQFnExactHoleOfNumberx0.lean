/- Written by a program of this session (the kit's printer, with leaf contracts proved by hand put in): what each Go function computes, and that the call computes it. No condition but those that each theorem names. -/
import Derived.Test.YtlcobkldkcdhbaaProg
import Derived.Below
import Derived.Deep.Draws
import Derived.Deep.AppendLies
import Derived.Maps.AppendAt
import Derived.OwnWalk
import Derived.Laws.BytesArg
import Derived.Laws.MakeOwn
import Derived.Laws.OwnMore
import Derived.Deep.OwnRows
import Derived.Tactics
import Derived.Lib.ConvBytes
import Derived.Laws.Slices
import Derived.WalkKit
import Derived.KernelRfl
import Derived.RowKit3
import Derived.Deep.LoopGhost
import Derived.Deep.QuietTactic
import Derived.BigQuiet
import Derived.WideLaws
import Derived.Deep.DeepCutAuto
import Derived.Deep.CutBlock
import Derived.Deep.RegionHeld3
import Derived.Laws.Rows
import Derived.Lib.AppendStr
import Derived.ArgAppend
import Derived.Laws.IdiomCopy
import Derived.OrdersHeld
import Derived.Laws.BitsLemmas
import Derived.RowKit
import Derived.Lib.LazyBuf
import Derived.Laws.IdiomCopy
import Derived.Shelf.Abstract
import Derived.Test.YtlcobkldkcdhbaaWWords
import Derived.Test.YtlcobkldkcdhbaaWLast
import Derived.Test.YtlcobkldkcdhbaaWTab
import Derived.Test.YtlcobkldkcdhbaaWFour
import Derived.Test.YtlcobkldkcdhbaaWQPut
import Derived.Test.YtlcobkldkcdhbaaWApart
import Derived.Test.YtlcobkldkcdhbaaWArr
import Derived.Test.YtlcobkldkcdhbaaWZeros
import Derived.Test.YtlcobkldkcdhbaaWFoot
import Derived.Test.YtlcobkldkcdhbaaWKept
import Derived.Test.YtlcobkldkcdhbaaWShare
import Derived.Test.YtlcobkldkcdhbaaWN
import Derived.Test.YtlcobkldkcdhbaaWFootNe
import Derived.Test.YtlcobkldkcdhbaaWAt
import Derived.Test.YtlcobkldkcdhbaaWEqStruct
import Derived.Test.YtlcobkldkcdhbaaWRepsOne
import Derived.Test.YtlcobkldkcdhbaaWInv
import Derived.Test.YtlcobkldkcdhbaaWInvWords
import Derived.Test.YtlcobkldkcdhbaaWGuard
import Derived.Test.YtlcobkldkcdhbaaWNEv
import Derived.Test.YtlcobkldkcdhbaaWMore
namespace Go.Proofs.Ytlcobkldkcdhbaa.QFnExactHoleOfNumber
open Go.RowKit Go.Proofs.YtlcobkldkcdhbaaW.PrintWords Go.Proofs.YtlcobkldkcdhbaaW.PrintLast Go.Proofs.YtlcobkldkcdhbaaW.PrintMore
attribute [local go_sem] max2_int min2_int max_two min_two max_three min_three max_four min_four   -- for this text's walks alone
set_option linter.unusedVariables false
set_option linter.unusedSimpArgs false



def errW : Option Int → Value
  | none => .nilIface
  | some c => .iface 0 (.int .i64 c)
theorem errW_none : errW none = .nilIface := rfl
theorem errW_some (c : Int) : errW (some c) = .iface 0 (.int .i64 c) := rfl

-- the values' own types

end Go.Proofs.Ytlcobkldkcdhbaa.QFnExactHoleOfNumber
