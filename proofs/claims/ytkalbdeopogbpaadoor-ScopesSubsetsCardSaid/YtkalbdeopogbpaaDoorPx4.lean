-- Written by wip/tools/myprint.py of this session over the kit's print; Lean checks it.
import Derived.Test.YtkalbdeopogbpaaDoorPx0
namespace Go.Proofs.YtkalbdeopogbpaaDoor.P
open Go.RowKit Go.Proofs.YtkalbdeopogbpaaDoorW.PrintWords Go.Proofs.YtkalbdeopogbpaaDoorW.PrintLast Go.Proofs.YtkalbdeopogbpaaDoorW.PrintMore
attribute [local go_sem] max2_int min2_int max_two min_two max_three min_three max_four min_four   -- for this text's walks alone
set_option linter.unusedVariables false
set_option linter.unusedSimpArgs false


/-! ### scopes_Print: function 36 (written by this session) -/
def scopes_Print.f (a0 : ByteArray) : Option (ByteArray × Int) := if a0.size ≤ 9223372036854775807 then some (Sc.printS a0) else none
theorem scopes_Print.calls (a0 : ByteArray) (r1 : ByteArray) (r2 : Int) (w : World) (h : scopes_Print.f a0 = some (r1, r2)) (HT : Aside0 (Sc.Tab w)) :
    Calls Tryd.prog 36 #[.string a0] w fun e w' => e = .returned (.tuple #[.string r1, .int .i64 r2]) ∧ Below w.heap.size w w' := by
  unfold scopes_Print.f at h
  by_cases hs : a0.size ≤ 9223372036854775807
  · rw [if_pos hs] at h
    have h' := Option.some.inj h
    have h1 : (Sc.printS a0).1 = r1 := by rw [h']
    have h2 : (Sc.printS a0).2 = r2 := by rw [h']
    subst h1; subst h2
    exact Sc.print_calls a0 hs w HT.out
  · rw [if_neg hs] at h; cases h

end Go.Proofs.YtkalbdeopogbpaaDoor.P
