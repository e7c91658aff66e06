/- Words of the printed texts, laid by the kit's printer for this seat; here those that this law's texts reach. No condition but those that each names. -/
import Derived.Test.YtlbbkepkincleaaVFnCrashesLast
import Derived.Test.YtlbbkepkincleaaVFnCrashesWords
namespace Go.Proofs.YtlbbkepkincleaaW.PrintLast
open Go.Proofs.YtlbbkepkincleaaW.PrintWords (Aside0)
section
variable {md : Region.Mode} {ops : Array Oper} {T : Bool × List (List Nat × List Nat)} {l l' li lj lk : Array Bool} {ds : List Nat} {i j k : Nat}
end
end Go.Proofs.YtlbbkepkincleaaW.PrintLast
