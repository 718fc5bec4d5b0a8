-- The kit's words for a printed proof (own.py), cut by prune.py to what this seat's texts need.
import Derived.Test.YtpnhamfodjfacaaDoorWN
/-! ### 52. A row that stays read whatever happens to a block (a set of blocks) doesn't lie there -/
namespace Go.Proofs.YtpnhamfodjfacaaDoorW.PrintWords
open Go.RowKit
namespace Kd
section
variable {α : Type} {d : Kd α} {W : World} {g n : Nat} {S ok : Nat → Prop} {A : Option Addr} {ad : Addr} {xs : List α}
end
end Kd
end Go.Proofs.YtpnhamfodjfacaaDoorW.PrintWords
