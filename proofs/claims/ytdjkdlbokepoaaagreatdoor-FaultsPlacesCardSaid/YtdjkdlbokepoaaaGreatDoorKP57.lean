import Derived.Test.YtdjkdlbokepoaaaGreatDoorKP39
import Derived.Test.YtdjkdlbokepoaaaGreatDoorKP56
namespace Go.Proofs.YtdjkdlbokepoaaaGreatDoor.Pure
open Go.RowKit Go.Proofs.YtdjkdlbokepoaaaGreatDoor.P Go.Proofs.YtdjkdlbokepoaaaGreatDoorW.PrintWords Go.Proofs.YtdjkdlbokepoaaaGreatDoorW.PrintLast
theorem FaultsPlaces : mummerlaw08_FaultsPlaces.Goal := fun l0 h => law_places l0 (InB_of' h.2)
end Go.Proofs.YtdjkdlbokepoaaaGreatDoor.Pure
