import Derived.Test.YtmgliocboeifdaaGreatDoorWInv
import Derived.Test.YtmgliocboeifdaaGreatDoorWFootNe
namespace Go.Proofs.YtmgliocboeifdaaGreatDoorW.PrintWords
open Go.RowKit
end Go.Proofs.YtmgliocboeifdaaGreatDoorW.PrintWords
namespace Go.Proofs.YtmgliocboeifdaaGreatDoorW.PrintLast
section
variable {ops : Array Oper} {a : Act} {o og : Oper} {g : Nat} {t : Tmp} {u : Bool}
end
end Go.Proofs.YtmgliocboeifdaaGreatDoorW.PrintLast
