import Derived.Test.YtdjkdlbokepoaaaGreatDoorKA74
import Derived.Test.YtdjkdlbokepoaaaGreatDoorKA36
import Derived.Test.YtdjkdlbokepoaaaGreatDoorKA37
namespace Go.Proofs.YtdjkdlbokepoaaaGreatDoor.P
open Go.RowKit YtdjkdlbokepoaaaGreatDoorW.PrintWords YtdjkdlbokepoaaaGreatDoorW.PrintLast YtdjkdlbokepoaaaGreatDoorW.PrintMore Sc
set_option linter.unusedVariables false
set_option linter.unusedSimpArgs false
set_option maxRecDepth 20000
theorem has_f (l1 : List S41) (a c : Int) (k : Nat) (hk : 200 ≤ k) (hc : (chkV 8000 l1).2 = 0) (h0 : 0 ≤ a) (h1 : a < (l1.length : Int)) : faults_Has.f k l1 a c = some ((chainG l1 l1.length a).any (fun i => decide (c = (rd_T41 l1 i).f0)), 0) := by
 have hn := (chk_ok _ _ hc).1
 unfold faults_Has.f faults_known.f
 rw [check_f _ _ _ hk, Option.bind_some, if_pos hc, if_neg (by omega), if_neg (by omega), Option.bind_some, if_pos hc, if_pos ⟨chk_downs hc, h0, h1, by omega⟩]
end Go.Proofs.YtdjkdlbokepoaaaGreatDoor.P
