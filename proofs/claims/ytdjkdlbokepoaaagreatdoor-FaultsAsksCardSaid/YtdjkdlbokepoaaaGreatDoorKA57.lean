import Derived.Test.YtdjkdlbokepoaaaGreatDoorKA51
import Derived.Test.YtdjkdlbokepoaaaGreatDoorKA36
import Derived.Test.YtdjkdlbokepoaaaGreatDoorKA37
import Derived.Test.YtdjkdlbokepoaaaGreatDoorKA44
import Derived.Test.YtdjkdlbokepoaaaGreatDoorKA41
namespace Go.Proofs.YtdjkdlbokepoaaaGreatDoor.P
open Go.RowKit YtdjkdlbokepoaaaGreatDoorW.PrintWords YtdjkdlbokepoaaaGreatDoorW.PrintLast YtdjkdlbokepoaaaGreatDoorW.PrintMore Sc
set_option linter.unusedVariables false
set_option linter.unusedSimpArgs false
set_option maxRecDepth 20000
def begN (l : List Int) : Nat → Nat
 | 0 => 0
 | a + 1 => if lb l a = 10 then a + 1 else begN l a
def bckN (l : List Int) : Nat → Nat
 | 0 => 0
 | a + 1 => if Sp l (a + 1) then a + 1 else bckN l a
structure Plc (l : List Int) (a st z m : Nat) (rf : List (Nat × Nat)) : Prop where
 le1 : z ≤ st
 le2 : st ≤ a
 le3 : a ≤ l.length
 gr : GR l z rf
 mle : m ≤ rf.length
 pp : PP l rf m = st
 sp : Sp l st
 no : ∀ q, st < q → q ≤ a → ¬ Sp l q
 nl : z = 0 ∨ (0 < z ∧ lb l (z - 1) = 10)
 no10 : ∀ i, z ≤ i → i < a → lb l i ≠ 10
 beg : z = begN l a
 bck : st = bckN l a
 no10s : ∀ i, st ≤ i → i < a → lb l i ≠ 10
end Go.Proofs.YtdjkdlbokepoaaaGreatDoor.P
