/- Words of the printed texts, laid by the kit's printer for this seat; here those that this law's texts reach. No condition but those that each names. -/
import Derived.Test.YtlbbkepkincleaaVFnRollsInv
import Derived.Test.YtlbbkepkincleaaVFnRollsFootNe
namespace Go.Proofs.YtlbbkepkincleaaW.PrintWords
open Go.RowKit
end Go.Proofs.YtlbbkepkincleaaW.PrintWords
namespace Go.Proofs.YtlbbkepkincleaaW.PrintLast
section
variable {ops : Array Oper} {a : Act} {o og : Oper} {g : Nat} {t : Tmp} {u : Bool}
end
end Go.Proofs.YtlbbkepkincleaaW.PrintLast
