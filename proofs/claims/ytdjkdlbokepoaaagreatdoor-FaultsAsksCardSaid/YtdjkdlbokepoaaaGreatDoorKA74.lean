import Derived.Test.YtdjkdlbokepoaaaGreatDoorKA67
import Derived.Test.YtdjkdlbokepoaaaGreatDoorKA36
import Derived.Test.YtdjkdlbokepoaaaGreatDoorKA37
import Derived.Test.YtdjkdlbokepoaaaGreatDoorKA44
namespace Go.Proofs.YtdjkdlbokepoaaaGreatDoor.P
open Go.RowKit YtdjkdlbokepoaaaGreatDoorW.PrintWords YtdjkdlbokepoaaaGreatDoorW.PrintLast YtdjkdlbokepoaaaGreatDoorW.PrintMore Sc
set_option linter.unusedVariables false
set_option linter.unusedSimpArgs false
set_option maxRecDepth 20000
theorem chain_f (l1 : List S41) (a : Int) (k : Nat) (hk : 200 ≤ k) (hc : (chkV 8000 l1).2 = 0) (h0 : 0 ≤ a) (h1 : a < (l1.length : Int)) : faults_Chain.f k l1 a = some (chainG l1 l1.length a, 0) := by
 have hn := (chk_ok _ _ hc).1
 unfold faults_Chain.f faults_known.f
 rw [check_f _ _ _ hk, Option.bind_some, if_pos hc, if_neg (by omega), if_neg (by omega), Option.bind_some, if_pos hc, if_pos ⟨chk_downs hc, h0, h1, by omega⟩]
end Go.Proofs.YtdjkdlbokepoaaaGreatDoor.P
