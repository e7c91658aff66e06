/- Words of the printed texts, laid by the kit's printer for this seat; here those that this law's texts reach. No condition but those that each names. -/
import Derived.Test.YtbbiihhaljigjaaVMWords
import Derived.Laws.StructEq
namespace Go.Proofs.YtbbiihhaljigjaaW.PrintWords
open Go.RowKit
section
variable {P : Program} {d : Nat} {xs ys : Array Value} {f : Field} {fs : List Field} {a b : Value} {r s : Bool} {w : World}
end
end Go.Proofs.YtbbiihhaljigjaaW.PrintWords
