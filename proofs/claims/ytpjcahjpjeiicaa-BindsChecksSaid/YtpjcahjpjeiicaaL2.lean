/- Plain lemmas over the printed functions, for law_checks, law_resolves, law_same. -/
import Derived.Test.YtpjcahjpjeiicaaPx0
import Derived.Test.YtpjcahjpjeiicaaPx20
import Derived.Test.YtpjcahjpjeiicaaPx21
import Derived.Test.YtpjcahjpjeiicaaL0
namespace Go.Proofs.Ytpjcahjpjeiicaa.P
open Go.RowKit Go.Proofs.YtpjcahjpjeiicaaW.PrintWords Go.Proofs.YtpjcahjpjeiicaaW.PrintLast Sc
def S24.Small (b : S24) : Prop := b.f0.size ≤ 1099511627776 ∧ b.f1.size ≤ 1099511627776
theorem one_l0 (l : List S24) (i : Nat) (hi : i ≤ l.length) (hb : l.length ≤ 1099511627776) (b : S24) : ∀ (d j k : Nat), j + d = i → d < k → (l.take j).any (sameKey · b) = false →
    mummerref11_one.l0 k l (i : Int) (j : Int) b.f0 b.f1 b.f2 b.f3 = some (if (l.take i).any (sameKey · b) = true then 8 else 0) := by
  intro d
  induction d with
  | zero =>
    intro j k hj hk hn
    obtain ⟨k, rfl⟩ : ∃ m, k = m + 1 := ⟨k - 1, by omega⟩
    simp only [mummerref11_one.l0]
    rw [if_neg (by omega), show i = j by omega, if_neg (by rw [hn]; decide)]
  | succ d ih =>
    intro j k hj hk hn
    obtain ⟨k, rfl⟩ : ∃ m, k = m + 1 := ⟨k - 1, by omega⟩
    have hjl : j < l.length := by omega
    have e2 : wrap64 ((j : Int) + 1) = ((j + 1 : Nat) : Int) := by rw [w64 (by omega) (by omega)]; omega
    simp only [mummerref11_one.l0, rdT l j hjl, e2]
    rw [if_pos (by omega), if_pos (by omega), if_pos (by omega)]
    have ht : ∀ c, sameKey l[j] b = c → (l.take (j + 1)).any (sameKey · b) = c := fun c hc => by
      rw [List.take_succ_eq_append_getElem hjl, List.any_append, hn]; simp [hc]
    by_cases c1 : l[j].f0.toList = b.f0.toList
    · rw [if_pos c1]
      by_cases c2 : l[j].f1.toList = b.f1.toList
      · rw [if_pos c2]
        have h1 := ht true (by simp [sameKey, c1, c2])
        have h2 : (l.take i).any (sameKey · b) = true := by
          rw [List.any_eq_true] at h1 ⊢
          obtain ⟨x, hx, hs⟩ := h1
          exact ⟨x, (List.take_subset_take_left l (by omega)) hx, hs⟩
        rw [if_pos h2]
      · rw [if_neg c2]
        exact ih (j + 1) k (by omega) (by omega) (ht false (by simp [sameKey, c2]))
    · rw [if_neg c1]
      exact ih (j + 1) k (by omega) (by omega) (ht false (by simp [sameKey, c1]))
theorem one_f (l : List S24) (i : Nat) (hi : i < l.length) (hb : l.length ≤ 1099511627776) (hs : l[i].Small) (k : Nat) (hk : i + 2 + l[i].f1.size < k) : mummerref11_one.f k l (i : Int) = some (oneErr l i l[i]) := by
  unfold mummerref11_one.f oneErr bindErr
  rw [if_pos (by omega), if_pos (by omega), rdT l i hi]
  have hl := one_l0 l i (by omega) hb l[i] i 0 (k - 1) (by omega) (by omega) (by simp)
  obtain ⟨k, rfl⟩ : ∃ m, k = m + 1 := ⟨k - 1, by omega⟩
  rw [show ((0 : Nat) : Int) = 0 from rfl, show k + 1 - 1 = k by omega] at hl
  by_cases c1 : l[i].f0.toList = []
  · simp [c1]
  · rw [if_neg c1, if_neg c1]
    by_cases c2 : (l[i].f0.size : Int) > 24
    · simp [c2]
    · rw [if_neg c2, if_neg c2, check_f _ (by have := hs.2; omega) _ (by omega), Option.bind_some]
      by_cases c3 : chk l[i].f1 = 0
      · rw [if_pos c3, if_pos c3]
        by_cases c4 : l[i].f2 < 1
        · simp [c4, mummerref11_one.j0]
        · rw [if_neg c4, if_neg c4]
          by_cases c5 : l[i].f2 > 4
          · simp [c5, mummerref11_one.j0]
          · rw [if_neg c5, if_neg c5]
            by_cases c6 : l[i].f3 < 0
            · simp [c6, mummerref11_one.j0]
            · simp only [mummerref11_one.j0, c6, decide_false, Bool.false_eq_true, if_false, if_true]
              exact hl
      · rw [if_neg c3, if_neg c3]
        simp [c3]
theorem refCheck_l0 (B : Nat) (hB : B ≤ 1099511627776) (l : List S24) (hl : TB B l) (hb : l.length ≤ 1099511627776) : ∀ (d i k : Nat), i + d = l.length → d + l.length + B + 3 < k →
    mummerref11_Check.l0 k l (i : Int) = some (tgo l (l.drop i) i) := by
  intro d
  induction d with
  | zero =>
    intro i k hi hk
    obtain ⟨k, rfl⟩ : ∃ m, k = m + 1 := ⟨k - 1, by omega⟩
    simp only [mummerref11_Check.l0]
    rw [if_neg (by omega), List.drop_eq_nil_of_le (by omega)]; rfl
  | succ d ih =>
    intro i k hi hk
    obtain ⟨k, rfl⟩ : ∃ m, k = m + 1 := ⟨k - 1, by omega⟩
    have hil : i < l.length := by omega
    have hs := hl _ (List.getElem_mem hil)
    have e2 : wrap64 ((i : Int) + 1) = ((i + 1 : Nat) : Int) := by rw [w64 (by omega) (by omega)]; omega
    simp only [mummerref11_Check.l0, e2]
    rw [if_pos (by omega), one_f l i hil hb ⟨by omega, by omega⟩ k (by omega), Option.bind_some, List.drop_eq_getElem_cons hil, tgo]
    by_cases c : oneErr l i l[i] = 0
    · rw [if_pos c, if_pos c]; exact ih (i + 1) k (by omega) (by omega)
    · rw [if_neg c, if_neg c]
theorem refCheck_f (B : Nat) (hB : B ≤ 1099511627776) (l : List S24) (hl : TB B l) (k : Nat) (hk : 2 * l.length + B + 3 < k) (hb : l.length ≤ 1099511627776) : mummerref11_Check.f k l = some (tab l) := by
  unfold mummerref11_Check.f tab
  by_cases c : (l.length : Int) > 1000
  · rw [if_pos c, if_pos c]
  · rw [if_neg c, if_neg c]
    exact refCheck_l0 B hB l hl hb l.length 0 k (by omega) (by omega)
end Go.Proofs.Ytpjcahjpjeiicaa.P
