/- Plain lemmas over the printed functions, for law_checks. -/
import Derived.Test.YtpjcahjpjeiicaaPx0
import Derived.Test.YtpjcahjpjeiicaaPx22
import Derived.Test.YtpjcahjpjeiicaaPx23
import Derived.Test.YtpjcahjpjeiicaaPx24
import Derived.Test.YtpjcahjpjeiicaaL0
import Derived.Test.YtpjcahjpjeiicaaL2
namespace Go.Proofs.Ytpjcahjpjeiicaa.P
open Go.RowKit Go.Proofs.YtpjcahjpjeiicaaW.PrintWords Go.Proofs.YtpjcahjpjeiicaaW.PrintLast Sc
theorem rAdd_f (B : Nat) (hB : B ≤ 1099511627776) (l : List S24) (hl : TB B l) (hb : l.length ≤ 1099511627) (b : S24) (h : b.f0.size ≤ B ∧ b.f1.size ≤ B) (k : Nat) (hk : 2 * l.length + B + 5 < k) :
    mummerref11_Add.f k l b.f0 b.f1 b.f2 b.f3 = some (addSpec l b) := by
  unfold mummerref11_Add.f addSpec
  rw [refCheck_f B hB l hl k (by omega) (by omega), Option.bind_some]
  by_cases c : (tab l).2 = 0
  · rw [if_pos c, if_pos c]
    rw [Option.bind_some, if_pos (by simp only [List.length_nil]; omega), Option.bind_some, Option.bind_some, List.nil_append, if_pos (by simp only [List.length_singleton]; omega), Option.bind_some,
      refCheck_f B hB _ (TB_add hl h) k (by simp only [List.length_append, List.length_singleton]; omega) (by simp only [List.length_append, List.length_singleton]; omega), Option.bind_some]
    split <;> rfl
  · rw [if_neg c, if_neg c]
theorem same_l0 (l : List S24) (hb : l.length ≤ 1099511627776) : ∀ (d i k : Nat), i + d = l.length → d < k → mummerref11_SameTable.l0 k l l (i : Int) = some true := by
  intro d
  induction d with
  | zero =>
    intro i k hi hk
    obtain ⟨k, rfl⟩ : ∃ m, k = m + 1 := ⟨k - 1, by omega⟩
    simp only [mummerref11_SameTable.l0]
    rw [if_neg (by omega)]
  | succ d ih =>
    intro i k hi hk
    obtain ⟨k, rfl⟩ : ∃ m, k = m + 1 := ⟨k - 1, by omega⟩
    simp only [mummerref11_SameTable.l0, wnext i (by omega)]
    rw [if_pos (by omega), if_pos (by omega), if_pos (by omega), if_neg (by simp)]
    exact ih (i + 1) k (by omega) (by omega)
theorem sameTable_f (l : List S24) (hb : l.length ≤ 1099511627776) (k : Nat) (hk : l.length < k) : mummerref11_SameTable.f k l l = some true := by
  unfold mummerref11_SameTable.f
  rw [if_pos rfl]
  exact same_l0 l hb l.length 0 k (by omega) hk
theorem law_checks (l : List S24) (b : S24) : ∃ k, mummerlaw11_BindsChecks.f k l b.f0 b.f1 b.f2 b.f3 = some true := by
  refine ⟨7000000, ?_⟩
  unfold mummerlaw11_BindsChecks.f
  rw [far_f l _ (by simp) 7000000 (by simp), Option.bind_some]
  have ha := awake_f 7000000 (by decide)
  by_cases c : farB l [b.f0, b.f1] = true
  · rw [if_pos c, ha]; rfl
  · obtain ⟨h1, h2, h3⟩ := far_no (Bool.eq_false_iff.2 c)
    have hb : b.f0.size ≤ 150 ∧ b.f1.size ≤ 150 := ⟨h3 _ (by simp), h3 _ (by simp)⟩
    rw [if_neg c, bindsCheck_f l (fun x hx => ⟨by have := (h2 x hx).1; omega, by have := (h2 x hx).2; omega⟩), Option.bind_some, refCheck_f 150 (by decide) l h2 _ (by omega) (by omega), Option.bind_some,
      bAdd_f 150 (by decide) l h2 (by omega) b hb, Option.bind_some, rAdd_f 150 (by decide) l h2 (by omega) b hb _ (by omega), Option.bind_some, if_pos rfl, if_pos rfl]
    have hlen : (addSpec l b).1.length ≤ l.length + 1 := by
      unfold addSpec
      split
      · split <;> simp
      · simp
    rw [sameTable_f _ (by omega) _ (by omega), Option.bind_some, if_pos rfl, if_pos rfl, ha]
    rfl
end Go.Proofs.Ytpjcahjpjeiicaa.P
