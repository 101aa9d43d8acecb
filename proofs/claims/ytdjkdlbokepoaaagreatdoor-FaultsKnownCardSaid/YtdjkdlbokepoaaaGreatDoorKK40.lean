import Derived.Test.YtdjkdlbokepoaaaGreatDoorKK39
namespace Go.Proofs.YtdjkdlbokepoaaaGreatDoor.Pure
open Go.RowKit Go.Proofs.YtdjkdlbokepoaaaGreatDoor.P Go.Proofs.YtdjkdlbokepoaaaGreatDoorW.PrintWords Go.Proofs.YtdjkdlbokepoaaaGreatDoorW.PrintLast
theorem FaultsKnown : mummerlaw08_FaultsKnown.Goal := rfl
end Go.Proofs.YtdjkdlbokepoaaaGreatDoor.Pure
