import Derived.Test.YtdjkdlbokepoaaaGreatDoorKK35
import Derived.Test.YtdjkdlbokepoaaaGreatDoorKK38
namespace Go.Proofs.YtdjkdlbokepoaaaGreatDoor.P
open Go.RowKit Go.Proofs.YtdjkdlbokepoaaaGreatDoorW.PrintWords Go.Proofs.YtdjkdlbokepoaaaGreatDoorW.PrintLast
/-- What is left to prove of the law. -/
def mummerlaw08_FaultsKnown.Goal : Prop := mummerlaw08_FaultsKnown.f  = some true
end Go.Proofs.YtdjkdlbokepoaaaGreatDoor.P
