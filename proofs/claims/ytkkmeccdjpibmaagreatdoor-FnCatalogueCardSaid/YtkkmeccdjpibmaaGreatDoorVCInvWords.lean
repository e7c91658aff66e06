/- Words of the printed texts, laid by the kit's printer for this seat; here those that this law's texts reach. No condition but those that each names. -/
import Derived.Test.YtkkmeccdjpibmaaGreatDoorVCInv
import Derived.Test.YtkkmeccdjpibmaaGreatDoorVCFootNe
namespace Go.Proofs.YtkkmeccdjpibmaaGreatDoorW.PrintWords
open Go.RowKit
end Go.Proofs.YtkkmeccdjpibmaaGreatDoorW.PrintWords
namespace Go.Proofs.YtkkmeccdjpibmaaGreatDoorW.PrintLast
section
variable {ops : Array Oper} {a : Act} {o og : Oper} {g : Nat} {t : Tmp} {u : Bool}
end
end Go.Proofs.YtkkmeccdjpibmaaGreatDoorW.PrintLast
