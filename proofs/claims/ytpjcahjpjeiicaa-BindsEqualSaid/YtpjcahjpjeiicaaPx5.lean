-- Written by wip/tools/myprint.py of this session over the kit's print; Lean checks it.
import Derived.Test.YtpjcahjpjeiicaaPx0
namespace Go.Proofs.Ytpjcahjpjeiicaa.P
open Go.RowKit Go.Proofs.YtpjcahjpjeiicaaW.PrintWords Go.Proofs.YtpjcahjpjeiicaaW.PrintLast Go.Proofs.YtpjcahjpjeiicaaW.PrintMore
attribute [local go_sem] max2_int min2_int max_two min_two max_three min_three max_four min_four   -- for this text's walks alone
set_option linter.unusedVariables false
set_option linter.unusedSimpArgs false


/-! ### api_BnBind: function 34 (written by this session) -/
def api_BnBind.f (l0 : List (S24)) : Option (List (S24)) := if l0.length < 2932031007402 then some l0 else none
set_option maxHeartbeats 1000000 in
set_option maxRecDepth 100000 in
theorem api_BnBind.calls (A0 : Option Addr) (c0 : Nat) (l0 : List (S24)) (r : List (S24)) (w : World) (hr0 : Kd.C k24 w A0 l0.length l0) (hc0 : l0.length ≤ c0) (h : api_BnBind.f l0 = some r) :
    Calls Try.prog 34 #[.slice A0 l0.length c0] w fun e w' => ∃ v0_ : Value, e = .returned v0_ ∧ Kd.R k24 24 w' w.heap.size (fun _ => True) v0_ r ∧ Below w.heap.size w w' := by
  have hl : l0.length < 2932031007402 := by
    unfold api_BnBind.f at h
    by_cases hx : l0.length < 2932031007402
    · exact hx
    · rw [if_neg hx] at h; cases h
  obtain rfl : l0 = r := by
    unfold api_BnBind.f at h
    rw [if_pos hl] at h
    exact Option.some.inj h
  have HR := ak hr0
  have HL := ak hl
  clear h hr0 hl hc0
  cases A0 with
  | none =>
    have hn : l0 = [] := by
      cases l0 with
      | nil => rfl
      | cons x xs => exact absurd (HR.out.2.2 (by simp)) (by rintro ⟨_, h, _⟩; cases h)
    subst hn
    have he := fun w => run_eql_slice_nil (P := Try.prog) w 22 24 none 0 c0 Try.underlying22
    go_enter Try.func34, Try.ntmps34
    go_wp2
    go_ret
    exact ⟨_, rfl, Kd.R_nil _ _ _ _ _, Below.refl _ _⟩
  | some ad =>
    have he := fun w => run_eql_slice_nil (P := Try.prog) w 22 24 (some ad) l0.length c0 Try.underlying22
    go_enter Try.func34, Try.ntmps34
    go_wp2_with (first | ((with_reducible refine gate_dst (N := 5) rfl ?_); refine Kd.R_lit k24 (w0 := w) _ 24 ?hg (N := 5) ?hd (xs := ([] : List (S24))) (inner := []) (ok := fun _ => True) (okp := fun _ => True) ?hr ?hp (fun _ hk => hk) trivial (Below.refl _ _) (Nat.le_refl _) (by simp) ?_; (case hd => rfl); (case hg => rfl); (case hr => first | (go_simp; done) | (go_simp; rfl)); (case hp => exact Reps.none _ _); intro v1 w1 ho hb hg1 hn1; have HO := ak ho; have HB := ak hb; clear ho hb hg1 hn1) | (at_builtin; refine Kd.R_append_rows k24 (w0 := w) w.heap.size rfl (.tmp 5) (.tmp 6) 22 24 (.agg #[.string ByteArray.empty, .string ByteArray.empty, .int .i64 0, .int .i64 0]) 48 rfl Try.underlying22 info24 rfl (by decide) (by omega) _ _ l0 (some ad) l0.length c0 (fun _ => True) (fun _ => False) rfl rfl HO.out (ReadsRow.imp_ HR.out HB.out (fun p c hpc => hpc)) ?c1 ?c2 ?c3 HB.out ?c4 ?c5 ?_; (case c1 => exact fun x cs h => by obtain rfl := k24_open h; exact k24_mkM _ _ _ x); (case c2 => exact fun _ hk => hk.elim); (case c3 => exact fun _ _ => trivial); (case c4 => exact HB.out.size); (case c5 => have := HL.out; simp only [List.length_nil]; omega); intro v2 w2 ho2 hb2 hg2 hat2; have HO2 := ak ho2; have HB2 := ak hb2; clear ho2 hb2 hg2 hat2))
    go_ret
    exact ⟨_, rfl, HO2.out, HB2.out⟩

end Go.Proofs.Ytpjcahjpjeiicaa.P
