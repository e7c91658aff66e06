/- Words of the printed texts, laid by the kit's printer for this seat; here those that this law's texts reach. No condition but those that each names. -/
import Derived.Test.YtkkmeccdjpibmaaGreatDoorVCN
namespace Go.Proofs.YtkkmeccdjpibmaaGreatDoorW.PrintWords
open Go.RowKit
namespace Kd
section
variable {α : Type} {d : Kd α} {W : World} {g n : Nat} {S ok : Nat → Prop} {A : Option Addr} {ad : Addr} {xs : List α}
end
end Kd
end Go.Proofs.YtkkmeccdjpibmaaGreatDoorW.PrintWords
