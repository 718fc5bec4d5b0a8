-- The kit's words for a printed proof (own.py), cut by prune.py to what this seat's texts need.
import Derived.Test.YtobdkgoapcbipaaGreatDoorWInv
import Derived.Test.YtobdkgoapcbipaaGreatDoorWFootNe
namespace Go.Proofs.YtobdkgoapcbipaaGreatDoorW.PrintWords
open Go.RowKit
end Go.Proofs.YtobdkgoapcbipaaGreatDoorW.PrintWords
namespace Go.Proofs.YtobdkgoapcbipaaGreatDoorW.PrintLast
section
variable {ops : Array Oper} {a : Act} {o og : Oper} {g : Nat} {t : Tmp} {u : Bool}
end
end Go.Proofs.YtobdkgoapcbipaaGreatDoorW.PrintLast
