/- The examples of chapter 4 hold. -/
import Derived.Test.YtihfpmociffpeabRx3
import Derived.Test.YtihfpmociffpeabQGen
namespace Go.Proofs.Ytihfpmociffpeab.Q
open Go.RowKit Go.Proofs.YtihfpmociffpeabW.PrintWords Go.Proofs.YtihfpmociffpeabW.PrintLast Go.Proofs.YtihfpmociffpeabW.PrintMore Go.Proofs.Ytihfpmociffpeab.R
set_option maxRecDepth 100000 in
theorem alive04 : Ev (fun k => codesearchlaw04_alive.f k) true := Ev.of (codesearchlaw04_alive.mono) (k := 40) (by decide +kernel)
end Go.Proofs.Ytihfpmociffpeab.Q
