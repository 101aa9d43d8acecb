import Derived.Test.YtdjkdlbokepoaaaGreatDoorKH54
import Derived.Test.YtdjkdlbokepoaaaGreatDoorKH36
import Derived.Test.YtdjkdlbokepoaaaGreatDoorKH39
namespace Go.Proofs.YtdjkdlbokepoaaaGreatDoor.P
open Go.RowKit Go.Proofs.YtdjkdlbokepoaaaGreatDoorW.PrintWords Go.Proofs.YtdjkdlbokepoaaaGreatDoorW.PrintLast Go.Proofs.YtdjkdlbokepoaaaGreatDoorW.PrintMore Sc
set_option linter.unusedVariables false
set_option linter.unusedSimpArgs false
set_option maxRecDepth 20000
instance (x : Int) : Decidable (RS x) := by unfold RS; infer_instance
end Go.Proofs.YtdjkdlbokepoaaaGreatDoor.P
