/- The examples of chapter 3 hold. -/
import Derived.Test.YtihfpmociffpeaaOx2
import Derived.Test.YtihfpmociffpeaaQGen
namespace Go.Proofs.Ytihfpmociffpeaa.Q
open Go.RowKit Go.Proofs.YtihfpmociffpeaaW.PrintWords Go.Proofs.YtihfpmociffpeaaW.PrintLast Go.Proofs.YtihfpmociffpeaaW.PrintMore Go.Proofs.Ytihfpmociffpeaa.O
set_option maxRecDepth 100000 in
theorem alive03 : Ev (fun k => l03_alive.f k) true := Ev.of (l03_alive.mono) (k := 40) (by decide +kernel)
end Go.Proofs.Ytihfpmociffpeaa.Q
