import Derived.Test.YtdjkdlbokepoaaaGreatDoorKC38
import Derived.Test.YtdjkdlbokepoaaaGreatDoorKC46
namespace Go.Proofs.YtdjkdlbokepoaaaGreatDoor.Pure
open Go.RowKit Go.Proofs.YtdjkdlbokepoaaaGreatDoor.P Go.Proofs.YtdjkdlbokepoaaaGreatDoorW.PrintWords Go.Proofs.YtdjkdlbokepoaaaGreatDoorW.PrintLast
theorem FaultsChecks : mummerlaw08_FaultsChecks.Goal := fun a0 l1 _ _ => law_checks a0 l1
end Go.Proofs.YtdjkdlbokepoaaaGreatDoor.Pure
