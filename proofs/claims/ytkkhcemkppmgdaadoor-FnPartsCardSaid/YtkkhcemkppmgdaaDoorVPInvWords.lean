/- Words of the printed texts, laid by the kit's printer for this seat; here those that this law's texts reach. No condition but those that each names. -/
import Derived.Test.YtkkhcemkppmgdaaDoorVPInv
import Derived.Test.YtkkhcemkppmgdaaDoorVPFootNe
namespace Go.Proofs.YtkkhcemkppmgdaaDoorW.PrintWords
open Go.RowKit
end Go.Proofs.YtkkhcemkppmgdaaDoorW.PrintWords
namespace Go.Proofs.YtkkhcemkppmgdaaDoorW.PrintLast
section
variable {ops : Array Oper} {a : Act} {o og : Oper} {g : Nat} {t : Tmp} {u : Bool}
end
end Go.Proofs.YtkkhcemkppmgdaaDoorW.PrintLast
