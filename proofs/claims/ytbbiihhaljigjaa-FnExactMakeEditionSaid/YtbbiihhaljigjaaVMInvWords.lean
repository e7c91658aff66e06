/- Words of the printed texts, laid by the kit's printer for this seat; here those that this law's texts reach. No condition but those that each names. -/
import Derived.Test.YtbbiihhaljigjaaVMInv
import Derived.Test.YtbbiihhaljigjaaVMFootNe
namespace Go.Proofs.YtbbiihhaljigjaaW.PrintWords
open Go.RowKit
end Go.Proofs.YtbbiihhaljigjaaW.PrintWords
namespace Go.Proofs.YtbbiihhaljigjaaW.PrintLast
section
variable {ops : Array Oper} {a : Act} {o og : Oper} {g : Nat} {t : Tmp} {u : Bool}
end
end Go.Proofs.YtbbiihhaljigjaaW.PrintLast
