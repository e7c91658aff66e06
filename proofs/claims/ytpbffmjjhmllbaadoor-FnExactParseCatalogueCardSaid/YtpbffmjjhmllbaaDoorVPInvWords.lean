/- Words of the printed texts, laid by the kit's printer for this seat; here those that this law's texts reach. No condition but those that each names. -/
import Derived.Test.YtpbffmjjhmllbaaDoorVPInv
import Derived.Test.YtpbffmjjhmllbaaDoorVPFootNe
namespace Go.Proofs.YtpbffmjjhmllbaaDoorW.PrintWords
open Go.RowKit
end Go.Proofs.YtpbffmjjhmllbaaDoorW.PrintWords
namespace Go.Proofs.YtpbffmjjhmllbaaDoorW.PrintLast
section
variable {ops : Array Oper} {a : Act} {o og : Oper} {g : Nat} {t : Tmp} {u : Bool}
end
end Go.Proofs.YtpbffmjjhmllbaaDoorW.PrintLast
