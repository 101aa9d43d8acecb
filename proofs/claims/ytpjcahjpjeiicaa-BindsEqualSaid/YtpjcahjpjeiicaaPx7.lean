-- Written by wip/tools/myprint.py of this session over the kit's print; Lean checks it.
import Derived.Test.YtpjcahjpjeiicaaPx0
namespace Go.Proofs.Ytpjcahjpjeiicaa.P
open Go.RowKit Go.Proofs.YtpjcahjpjeiicaaW.PrintWords Go.Proofs.YtpjcahjpjeiicaaW.PrintLast Go.Proofs.YtpjcahjpjeiicaaW.PrintMore
attribute [local go_sem] max2_int min2_int max_two min_two max_three min_three max_four min_four   -- for this text's walks alone
set_option linter.unusedVariables false
set_option linter.unusedSimpArgs false

-- NOT PRINTED: function 57 (slices_AppendSeq_int_int)

-- NOT PRINTED: function 56 (slices_Collect_int)


/-! ### scopes_Ids: function 54 (written by this session) -/
def scopes_Ids.f (a0 : ByteArray) : Option (List Int × Int) := if a0.size ≤ 9223372036854775807 then some (Sc.Ids_p a0) else none
theorem scopes_Ids.calls (a0 : ByteArray) (r1 : List Int) (r2 : Int) (w : World) (h : scopes_Ids.f a0 = some (r1, r2)) :
    Calls Try.prog 54 #[.string a0] w fun e w' => ∃ v0_ : Value, e = .returned (.tuple #[v0_, .int .i64 r2]) ∧ Kd.R (Kd.int .i64) 3 w' w.heap.size (fun _ => True) v0_ r1 ∧ Below w.heap.size w w' := by
  unfold scopes_Ids.f at h
  by_cases hs : a0.size ≤ 9223372036854775807
  · rw [if_pos hs] at h
    have h' := Option.some.inj h
    have h1 : (Sc.Ids_p a0).1 = r1 := by rw [h']
    have h2 : (Sc.Ids_p a0).2 = r2 := by rw [h']
    subst h1; subst h2
    exact (callsIn_wide.1 (Sc.ids_in a0 hs w)).mono fun e W' ⟨v, he, hrow, hb⟩ => ⟨v, he, Kd.R_of_own hrow (fun _ _ => trivial), hb⟩
  · rw [if_neg hs] at h; cases h

end Go.Proofs.Ytpjcahjpjeiicaa.P
