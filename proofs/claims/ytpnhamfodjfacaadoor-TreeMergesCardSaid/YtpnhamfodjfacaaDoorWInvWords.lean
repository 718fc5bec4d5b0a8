-- The kit's words for a printed proof (own.py), cut by prune.py to what this seat's texts need.
import Derived.Test.YtpnhamfodjfacaaDoorWInv
import Derived.Test.YtpnhamfodjfacaaDoorWFootNe
namespace Go.Proofs.YtpnhamfodjfacaaDoorW.PrintWords
open Go.RowKit
end Go.Proofs.YtpnhamfodjfacaaDoorW.PrintWords
namespace Go.Proofs.YtpnhamfodjfacaaDoorW.PrintLast
section
variable {ops : Array Oper} {a : Act} {o og : Oper} {g : Nat} {t : Tmp} {u : Bool}
end
end Go.Proofs.YtpnhamfodjfacaaDoorW.PrintLast
