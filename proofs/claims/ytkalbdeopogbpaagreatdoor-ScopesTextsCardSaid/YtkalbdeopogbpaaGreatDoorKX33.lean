import Derived.Test.YtkalbdeopogbpaaGreatDoorKX1
import Derived.Test.YtkalbdeopogbpaaGreatDoorKX28
import Derived.Lib.IndexLaws
namespace Go.Proofs.YtkalbdeopogbpaaGreatDoor.P.Wd
open Go.RowKit Go.Shelf Go.Proofs.YtkalbdeopogbpaaGreatDoorW.PrintWords Go.Proofs.YtkalbdeopogbpaaGreatDoorW.PrintLast Go.Proofs.YtkalbdeopogbpaaGreatDoorW.PrintMore
set_option linter.unusedVariables false
set_option linter.unusedSimpArgs false
/-- The bytes ahead of the first c. -/
def ahead (s : ByteArray) (c : UInt8) : ByteArray := if 0 ≤ Lib.indexByte s.data.toList c then s.extract 0 (Lib.indexByte s.data.toList c).toNat else s
theorem ib_bound : ∀ (l : List UInt8) (c : UInt8), Lib.indexByte l c < (l.length : Int) ∨ l = []
  | [], _ => .inr rfl
  | b :: l, c => by
    left
    unfold Lib.indexByte
    rw [List.length_cons]
    rcases ib_bound l c with h | rfl
    · split
      · omega
      · split
        · omega
        · omega
    · split
      · simp
      · simp [Lib.indexByte]
theorem ib_lt (s : ByteArray) (c : UInt8) (h : 0 ≤ Lib.indexByte s.data.toList c) : Lib.indexByte s.data.toList c < (s.size : Int) := by
  rcases ib_bound s.data.toList c with h1 | h1
  · rw [Lib.size_eq]; exact h1
  · rw [h1] at h; simp [Lib.indexByte] at h
end Go.Proofs.YtkalbdeopogbpaaGreatDoor.P.Wd
