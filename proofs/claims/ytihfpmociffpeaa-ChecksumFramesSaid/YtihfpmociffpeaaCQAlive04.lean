/- The examples of chapter 4 hold. -/
import Derived.Test.YtihfpmociffpeaaCx3
import Derived.Test.YtihfpmociffpeaaQGen
namespace Go.Proofs.Ytihfpmociffpeaa.Q
open Go.RowKit Go.Proofs.YtihfpmociffpeaaW.PrintWords Go.Proofs.YtihfpmociffpeaaW.PrintLast Go.Proofs.YtihfpmociffpeaaW.PrintMore Go.Proofs.Ytihfpmociffpeaa.C
set_option maxRecDepth 100000 in
theorem alive04 : Ev (fun k => codesearchlaw04_alive.f k) true := Ev.of (codesearchlaw04_alive.mono) (k := 40) (by decide +kernel)
end Go.Proofs.Ytihfpmociffpeaa.Q
