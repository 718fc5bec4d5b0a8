-- The kit's words for a printed proof (own.py), cut by prune.py to what this seat's texts need.
import Derived.Test.YtihfpmociffpeaaWInv
import Derived.Test.YtihfpmociffpeaaWFootNe
namespace Go.Proofs.YtihfpmociffpeaaW.PrintWords
open Go.RowKit
end Go.Proofs.YtihfpmociffpeaaW.PrintWords
namespace Go.Proofs.YtihfpmociffpeaaW.PrintLast
section
variable {ops : Array Oper} {a : Act} {o og : Oper} {g : Nat} {t : Tmp} {u : Bool}
end
end Go.Proofs.YtihfpmociffpeaaW.PrintLast
