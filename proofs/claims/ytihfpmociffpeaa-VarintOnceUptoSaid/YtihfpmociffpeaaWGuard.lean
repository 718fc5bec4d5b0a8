-- The kit's words for a printed proof (own.py), cut by prune.py to what this seat's texts need.
import Derived.Test.YtihfpmociffpeaaWWords
/-! ### 58. A guarded operation whose guard is known to want it: the same goal without the guard -/
namespace Go.Proofs.YtihfpmociffpeaaW.PrintWords
open Go.RowKit
section
variable {P : Program} {ops : Array Oper} {rest : List Oper} {o : Oper} {a : Act} {Q : Exit → Act → World → Prop} {W : World}
end
end Go.Proofs.YtihfpmociffpeaaW.PrintWords
