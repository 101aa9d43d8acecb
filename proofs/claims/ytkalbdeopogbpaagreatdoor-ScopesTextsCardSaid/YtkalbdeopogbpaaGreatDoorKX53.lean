import Derived.Test.YtkalbdeopogbpaaGreatDoorKX42
import Derived.Test.YtkalbdeopogbpaaGreatDoorKX52
namespace Go.Proofs.YtkalbdeopogbpaaGreatDoor.Pure
open Go.RowKit Go.Proofs.YtkalbdeopogbpaaGreatDoor.P Go.Proofs.YtkalbdeopogbpaaGreatDoorW.PrintWords Go.Proofs.YtkalbdeopogbpaaGreatDoorW.PrintLast
theorem ScopesTexts : mummerlaw09_ScopesTexts.Goal := fun a0 a1 _ _ => law_texts a0 a1
end Go.Proofs.YtkalbdeopogbpaaGreatDoor.Pure
