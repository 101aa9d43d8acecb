import Derived.Test.YtdjkdlbokepoaaaGreatDoorKT40
import Derived.Test.YtdjkdlbokepoaaaGreatDoorKT51
namespace Go.Proofs.YtdjkdlbokepoaaaGreatDoor.Pure
open Go.RowKit Go.Proofs.YtdjkdlbokepoaaaGreatDoor.P Go.Proofs.YtdjkdlbokepoaaaGreatDoorW.PrintWords Go.Proofs.YtdjkdlbokepoaaaGreatDoorW.PrintLast
theorem FaultsTells : mummerlaw08_FaultsTells.Goal := fun l0 l1 a2 h _ _ => law_tells l0 l1 a2 (InB_of' h.2)
end Go.Proofs.YtdjkdlbokepoaaaGreatDoor.Pure
