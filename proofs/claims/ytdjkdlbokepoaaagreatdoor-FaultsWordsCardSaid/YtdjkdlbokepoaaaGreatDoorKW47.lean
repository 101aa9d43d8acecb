import Derived.Test.YtdjkdlbokepoaaaGreatDoorKW39
import Derived.Test.YtdjkdlbokepoaaaGreatDoorKW46
namespace Go.Proofs.YtdjkdlbokepoaaaGreatDoor.Pure
open Go.RowKit Go.Proofs.YtdjkdlbokepoaaaGreatDoor.P Go.Proofs.YtdjkdlbokepoaaaGreatDoorW.PrintWords Go.Proofs.YtdjkdlbokepoaaaGreatDoorW.PrintLast
theorem FaultsWords : mummerlaw08_FaultsWords.Goal := fun l0 a1 a2 h _ _ => law_words l0 a1 a2 (InB_of' h.2)
end Go.Proofs.YtdjkdlbokepoaaaGreatDoor.Pure
