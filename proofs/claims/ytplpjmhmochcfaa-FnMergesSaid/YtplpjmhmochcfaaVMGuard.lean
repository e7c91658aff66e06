/- Words of the printed texts, laid by the kit's printer for this seat; here those that this law's texts reach. No condition but those that each names. -/
import Derived.Test.YtplpjmhmochcfaaVMWords
namespace Go.Proofs.YtplpjmhmochcfaaW.PrintWords
open Go.RowKit
section
variable {P:Program} {ops:Array Oper} {rest:List Oper} {o:Oper} {a:Act} {Q:Exit→Act→World→Prop} {W:World}
end
end Go.Proofs.YtplpjmhmochcfaaW.PrintWords
