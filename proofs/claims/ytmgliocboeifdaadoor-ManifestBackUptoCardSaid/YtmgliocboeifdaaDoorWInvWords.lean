-- The kit's words for a printed proof (own.py), cut by prune.py to what this seat's texts need.
import Derived.Test.YtmgliocboeifdaaDoorWInv
import Derived.Test.YtmgliocboeifdaaDoorWFootNe
namespace Go.Proofs.YtmgliocboeifdaaDoorW.PrintWords
open Go.RowKit
end Go.Proofs.YtmgliocboeifdaaDoorW.PrintWords
namespace Go.Proofs.YtmgliocboeifdaaDoorW.PrintLast
section
variable {ops : Array Oper} {a : Act} {o og : Oper} {g : Nat} {t : Tmp} {u : Bool}
end
end Go.Proofs.YtmgliocboeifdaaDoorW.PrintLast
