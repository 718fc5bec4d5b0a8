-- The kit's words for a printed proof (own.py), cut by prune.py to what this seat's texts need.
import Derived.Test.YtgadbpljlpclnaaGreatDoorWInv
import Derived.Test.YtgadbpljlpclnaaGreatDoorWFootNe
namespace Go.Proofs.YtgadbpljlpclnaaGreatDoorW.PrintWords
open Go.RowKit
end Go.Proofs.YtgadbpljlpclnaaGreatDoorW.PrintWords
namespace Go.Proofs.YtgadbpljlpclnaaGreatDoorW.PrintLast
section
variable {ops : Array Oper} {a : Act} {o og : Oper} {g : Nat} {t : Tmp} {u : Bool}
end
end Go.Proofs.YtgadbpljlpclnaaGreatDoorW.PrintLast
