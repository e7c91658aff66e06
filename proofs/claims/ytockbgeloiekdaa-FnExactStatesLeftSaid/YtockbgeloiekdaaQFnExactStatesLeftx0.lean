/- Written by a program of this session (the kit's printer, with leaf contracts proved by hand put in): what each Go function computes, and that the call computes it. No condition but those that each theorem names. -/
import Derived.Test.YtockbgeloiekdaaProg
import Derived.Below
import Derived.Deep.Draws
import Derived.Deep.AppendLies
import Derived.Maps.AppendAt
import Derived.OwnWalk
import Derived.Laws.BytesArg
import Derived.Laws.MakeOwn
import Derived.Laws.OwnMore
import Derived.Deep.OwnRows
import Derived.Tactics
import Derived.Lib.ConvBytes
import Derived.Laws.Slices
import Derived.WalkKit
import Derived.KernelRfl
import Derived.RowKit3
import Derived.Deep.LoopGhost
import Derived.Deep.QuietTactic
import Derived.BigQuiet
import Derived.WideLaws
import Derived.Deep.DeepCutAuto
import Derived.Deep.CutBlock
import Derived.Deep.RegionHeld3
import Derived.Laws.Rows
import Derived.Lib.AppendStr
import Derived.ArgAppend
import Derived.Laws.IdiomCopy
import Derived.OrdersHeld
import Derived.Laws.BitsLemmas
import Derived.RowKit
import Derived.Lib.LazyBuf
import Derived.Laws.IdiomCopy
import Derived.Shelf.Abstract
import Derived.Test.YtockbgeloiekdaaWWords
import Derived.Test.YtockbgeloiekdaaWLast
import Derived.Test.YtockbgeloiekdaaWTab
import Derived.Test.YtockbgeloiekdaaWFour
import Derived.Test.YtockbgeloiekdaaWQPut
import Derived.Test.YtockbgeloiekdaaWApart
import Derived.Test.YtockbgeloiekdaaWArr
import Derived.Test.YtockbgeloiekdaaWZeros
import Derived.Test.YtockbgeloiekdaaWFoot
import Derived.Test.YtockbgeloiekdaaWKept
import Derived.Test.YtockbgeloiekdaaWShare
import Derived.Test.YtockbgeloiekdaaWN
import Derived.Test.YtockbgeloiekdaaWFootNe
import Derived.Test.YtockbgeloiekdaaWAt
import Derived.Test.YtockbgeloiekdaaWEqStruct
import Derived.Test.YtockbgeloiekdaaWRepsOne
import Derived.Test.YtockbgeloiekdaaWInv
import Derived.Test.YtockbgeloiekdaaWInvWords
import Derived.Test.YtockbgeloiekdaaWGuard
import Derived.Test.YtockbgeloiekdaaWNEv
import Derived.Test.YtockbgeloiekdaaWMore
namespace Go.Proofs.Ytockbgeloiekdaa.QFnExactStatesLeft
open Go.RowKit Go.Proofs.YtockbgeloiekdaaW.PrintWords Go.Proofs.YtockbgeloiekdaaW.PrintLast Go.Proofs.YtockbgeloiekdaaW.PrintMore
attribute [local go_sem] max2_int min2_int max_two min_two max_three min_three max_four min_four   -- for this text's walks alone
set_option linter.unusedVariables false
set_option linter.unusedSimpArgs false



def errW : Option Int → Value
  | none => .nilIface
  | some c => .iface 0 (.int .i64 c)
theorem errW_none : errW none = .nilIface := rfl
theorem errW_some (c : Int) : errW (some c) = .iface 0 (.int .i64 c) := rfl

theorem info3 : (Try.prog.info? 3).map (fun i => (i.zero, i.size, i.bytes)) = some (some (.int .i64 0), 1, 8) := by kernel_rfl
-- the values' own types

end Go.Proofs.Ytockbgeloiekdaa.QFnExactStatesLeft
