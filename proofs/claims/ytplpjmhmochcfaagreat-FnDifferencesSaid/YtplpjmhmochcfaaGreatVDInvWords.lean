/- Words of the printed texts, laid by the kit's printer for this seat; here those that this law's texts reach. No condition but those that each names. -/
import Derived.Test.YtplpjmhmochcfaaGreatVDInv
import Derived.Test.YtplpjmhmochcfaaGreatVDFootNe
namespace Go.Proofs.YtplpjmhmochcfaaGreatW.PrintWords
open Go.RowKit
end Go.Proofs.YtplpjmhmochcfaaGreatW.PrintWords
namespace Go.Proofs.YtplpjmhmochcfaaGreatW.PrintLast
section
variable {ops:Array Oper} {a:Act} {o og:Oper} {g:Nat} {t:Tmp} {u:Bool}
end
end Go.Proofs.YtplpjmhmochcfaaGreatW.PrintLast
