import Derived.Test.YtdjkdlbokepoaaaGreatDoorKP42
import Derived.Test.YtdjkdlbokepoaaaGreatDoorKP36
import Derived.Test.YtdjkdlbokepoaaaGreatDoorKP37
namespace Go.Proofs.YtdjkdlbokepoaaaGreatDoor.P
open Go.RowKit Go.Proofs.YtdjkdlbokepoaaaGreatDoorW.PrintWords Go.Proofs.YtdjkdlbokepoaaaGreatDoorW.PrintLast Go.Proofs.YtdjkdlbokepoaaaGreatDoorW.PrintMore Sc
set_option linter.unusedVariables false
set_option linter.unusedSimpArgs false
set_option maxRecDepth 20000
/-- No byte 10. -/
def NoNl (s : ByteArray) : Prop := ∀ x ∈ s.data.toList, x ≠ 10
instance (s : ByteArray) : Decidable (NoNl s) := by unfold NoNl; infer_instance
end Go.Proofs.YtdjkdlbokepoaaaGreatDoor.P
