/- Words of the printed texts, laid by the kit's printer for this seat; here those that this law's texts reach. No condition but those that each names. -/
import Derived.Test.YtplpjmhmochcfaaVMInv
import Derived.Test.YtplpjmhmochcfaaVMFootNe
namespace Go.Proofs.YtplpjmhmochcfaaW.PrintWords
open Go.RowKit
end Go.Proofs.YtplpjmhmochcfaaW.PrintWords
namespace Go.Proofs.YtplpjmhmochcfaaW.PrintLast
section
variable {ops:Array Oper} {a:Act} {o og:Oper} {g:Nat} {t:Tmp} {u:Bool}
end
end Go.Proofs.YtplpjmhmochcfaaW.PrintLast
