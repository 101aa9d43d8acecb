import Derived.Test.YtdjkdlbokepoaaaGreatDoorKM38
import Derived.Test.YtdjkdlbokepoaaaGreatDoorKM55
namespace Go.Proofs.YtdjkdlbokepoaaaGreatDoor.Pure
open Go.RowKit Go.Proofs.YtdjkdlbokepoaaaGreatDoor.P Go.Proofs.YtdjkdlbokepoaaaGreatDoorW.PrintWords Go.Proofs.YtdjkdlbokepoaaaGreatDoorW.PrintLast
theorem FaultsMarks : mummerlaw08_FaultsMarks.Goal := fun l0 l1 a2 h _ _ => law_marks l0 l1 a2 (InB_of' h.2)
end Go.Proofs.YtdjkdlbokepoaaaGreatDoor.Pure
