-- The kit's words for a printed proof (own.py), cut by prune.py to what this seat's texts need.
import Derived.Test.YtpnhamfodjfacaaDoorWTab
/-! ### 56. Four, five, six operations that may come up next, in any order -/
namespace Go.Proofs.YtpnhamfodjfacaaDoorW.PrintLast
section
variable {P : Program} {ops : Array Oper} {Q : Exit → Act → World → Prop} {md : Region.Mode} {S : World → Prop} {ds : List Nat} {T : Bool × List (List Nat × List Nat)}
end
end Go.Proofs.YtpnhamfodjfacaaDoorW.PrintLast
