/- Plain lemmas: the law of nesting. -/
import Derived.Test.YtnkfdobcmfdhfaaDoorLN
import Derived.Test.YtnkfdobcmfdhfaaDoorPx23
namespace Go.Proofs.YtnkfdobcmfdhfaaDoor.P
open Go.RowKit Go.Proofs.YtnkfdobcmfdhfaaDoorW.PrintWords Go.Proofs.YtnkfdobcmfdhfaaDoorW.PrintLast Sc
set_option linter.unusedVariables false
set_option linter.unusedSimpArgs false
set_option maxRecDepth 20000
theorem rp_some (l : List S24) (k : Nat) : ∀ (d i : Nat) (p q : Int), rp l k d i p = some q → (∀ j, i ≤ j → j < i + d → ¬ Bad l k j) ∧ ((q = p ∧ ∀ j, i ≤ j → j < i + d → ¬ Wi (sp l k) (sp l j)) ∨ ∃ m : Nat, q = (m : Int) ∧ i ≤ m ∧ m < i + d ∧ Wi (sp l k) (sp l m) ∧ ∀ j, m < j → j < i + d → ¬ Wi (sp l k) (sp l j))
  | 0, i, p, q, h => by
    cases h
    exact ⟨fun j a b => by omega, .inl ⟨rfl, fun j a b => by omega⟩⟩
  | d + 1, i, p, q, h => by
    rw [rp] at h
    by_cases c : Wi (sp l k) (sp l i)
    · rw [if_pos c] at h
      obtain ⟨h1, h2⟩ := rp_some l k d (i + 1) _ q h
      refine ⟨fun j a b => ?_, ?_⟩
      · by_cases e : j = i
        · subst e; exact fun hb => hb.1 c
        · exact h1 j (by omega) (by omega)
      · rcases h2 with ⟨rfl, h3⟩ | ⟨m, rfl, h3, h4, h5, h6⟩
        · exact .inr ⟨i, rfl, Nat.le_refl _, by omega, c, fun j a b => h3 j (by omega) (by omega)⟩
        · exact .inr ⟨m, rfl, by omega, by omega, h5, fun j a b => h6 j a (by omega)⟩
    · rw [if_neg c] at h
      by_cases c2 : Be (sp l i) (sp l k)
      · rw [if_pos c2] at h
        obtain ⟨h1, h2⟩ := rp_some l k d (i + 1) _ q h
        refine ⟨fun j a b => ?_, ?_⟩
        · by_cases e : j = i
          · subst e; exact fun hb => hb.2 c2
          · exact h1 j (by omega) (by omega)
        · rcases h2 with ⟨rfl, h3⟩ | ⟨m, rfl, h3, h4, h5, h6⟩
          · exact .inl ⟨rfl, fun j a b => by by_cases e : j = i; exact e ▸ c; exact h3 j (by omega) (by omega)⟩
          · exact .inr ⟨m, rfl, by omega, by omega, h5, fun j a b => h6 j a (by omega)⟩
      · rw [if_neg c2] at h; cases h
theorem nestGo_spec (l : List S24) : ∀ (d k : Nat) (out : List Int), k + d = l.length → (∃ j : Nat, j < l.length ∧ nestGo l d k out = ([], (j : Int), 6)) ∨ (∃ r : List Int, nestGo l d k out = (out ++ r, 0, 0) ∧ r.length = d ∧ ∀ i, i < d → rp l (k + i) (k + i) 0 (-1) = some (r.getD i 0)) := by
  intro d
  induction d with
  | zero => intro k out hk; exact .inr ⟨[], by simp [nestGo], rfl, fun i hi => by omega⟩
  | succ d ih =>
    intro k out hk
    simp only [nestGo]
    cases hr : rp l k k 0 (-1) with
    | none => exact .inl ⟨k, by omega, rfl⟩
    | some q =>
      rcases ih (k + 1) (out ++ [q]) (by omega) with ⟨j, h1, h2⟩ | ⟨r, h1, h2, h3⟩
      · exact .inl ⟨j, h1, h2⟩
      · refine .inr ⟨q :: r, by dsimp only; rw [h1]; simp, by simp [h2], fun i hi => ?_⟩
        cases i with
        | zero => exact hr
        | succ i =>
          have := h3 i (by omega)
          rw [show k + 1 + i = k + (i + 1) by omega] at this
          rw [this]; simp [List.getD_eq_getElem?_getD]
theorem firstBad_lt (l : List S24) : ∀ (d i j : Nat), i + d = l.length → firstBad l d i = some j → j < l.length
  | 0, i, j, _, h => by cases h
  | d + 1, i, j, hi, h => by
    rw [firstBad] at h
    split at h
    · exact firstBad_lt l d (i + 1) j (by omega) h
    · cases h; omega
theorem firstBad_none (l : List S24) : ∀ (d i : Nat), firstBad l d i = none → ∀ j, i ≤ j → j < i + d → OkS (sp l j)
  | 0, i, _, j, a, b => by omega
  | d + 1, i, h, j, a, b => by
    rw [firstBad] at h
    by_cases c : OkS (sp l i)
    · rw [if_pos c] at h
      by_cases e : j = i
      · exact e ▸ c
      · exact firstBad_none l d (i + 1) h j (by omega) (by omega)
    · rw [if_neg c] at h; cases h
theorem Within_f (a b : S24) (ha : OkS a) (hb : OkS b) (F : Nat) (hF : 2 < F) : spans_Within.f F a.f0 a.f1 b.f0 b.f1 = some (decide (Wi a b), 0) := by
  unfold spans_Within.f
  rw [spans_two ⟨a.f0, a.f1⟩ ⟨b.f0, b.f1⟩ F hF, Option.bind_some, decide_eq_true (show OkS ⟨a.f0, a.f1⟩ from ha), decide_eq_true (show OkS ⟨b.f0, b.f1⟩ from hb), if_pos (by decide), within_f]
  rfl
theorem Before_f (a b : S24) (ha : OkS a) (hb : OkS b) (F : Nat) (hF : 2 < F) : spans_Before.f F a.f0 a.f1 b.f0 b.f1 = some (decide (Be a b), 0) := by
  unfold spans_Before.f
  rw [spans_two ⟨a.f0, a.f1⟩ ⟨b.f0, b.f1⟩ F hF, Option.bind_some, decide_eq_true (show OkS ⟨a.f0, a.f1⟩ from ha), decide_eq_true (show OkS ⟨b.f0, b.f1⟩ from hb), if_pos (by decide), before_f]
  rfl
theorem nest_l1 (l : List S24) (P : List Int) (k : Nat) (hk : k < l.length) (hl : l.length ≤ 60) (hP : P.length = l.length) (hv : ∀ i, i < l.length → OkS (sp l i)) (hr : rp l k k 0 (-1) = some (P.getD k 0)) : ∀ (e i F : Nat), i + e = k → 10 < F →
    mummerlaw03_SpansNest.l1 (F + e + 1) l P k i = mummerlaw03_SpansNest.l0 F l P ((k + 1 : Nat) : Int) := by
  intro e
  induction e with
  | zero =>
    intro i F hi hF
    simp only [mummerlaw03_SpansNest.l1]
    rw [if_neg (by omega), w64 (by omega) (by omega)]
    rfl
  | succ e ih =>
    intro i F hi hF
    have h1 := ih (i + 1) F (by omega) hF
    rw [show ((i + 1 : Nat) : Int) = (i : Int) + 1 by omega] at h1
    have e1 : F + (e + 1) + 1 = (F + e + 1) + 1 := by omega
    rw [e1]
    have hG : 2 < F + e + 1 := by omega
    generalize F + e + 1 = G at h1 hG ⊢
    simp only [mummerlaw03_SpansNest.l1]
    rw [if_pos (by omega), if_pos (by omega), if_pos (by omega), if_pos (by omega), if_pos (by omega), rd_sp, rd_sp, Within_f _ _ (hv k hk) (hv i (by omega)) G hG, Option.bind_some, Before_f _ _ (hv i (by omega)) (hv k hk) G hG, Option.bind_some, if_pos rfl, if_pos rfl, w64 (by omega) (by omega)]
    have hrd : rd P (k : Int) = P.getD k 0 := rfl
    rw [hrd]
    obtain ⟨g1, g2⟩ := rp_some l k k 0 (-1) _ hr
    by_cases c : Wi (sp l k) (sp l i)
    · rw [if_pos (decide_eq_true c), if_pos (by omega)]
      have h3 : ¬ (i : Int) > P.getD k 0 := by
        rcases g2 with ⟨h3, h4⟩ | ⟨m, h3, h4, h5, h6, h7⟩
        · exact absurd c (h4 i (Nat.zero_le _) (by omega))
        · rw [h3]; intro h8; exact h7 i (by omega) (by omega) c
      rw [if_neg h3, h1]
      split <;> rfl
    · rw [if_neg (by simpa using c)]
      have h2 : Be (sp l i) (sp l k) := Classical.byContradiction fun h => g1 i (Nat.zero_le _) (by omega) ⟨c, h⟩
      have h3 : ¬ (i : Int) = P.getD k 0 := by
        rcases g2 with ⟨h3, h4⟩ | ⟨m, h3, h4, h5, h6, h7⟩
        · rw [h3]; omega
        · rw [h3]; intro h8; obtain rfl : i = m := by omega
          exact c h6
      rw [if_pos (decide_eq_true h2), if_pos (by omega), if_neg h3]
      exact h1
theorem nest_l0 (l : List S24) (P : List Int) (hl : l.length ≤ 60) (hP : P.length = l.length) (hv : ∀ i, i < l.length → OkS (sp l i)) (hr : ∀ k, k < l.length → rp l k k 0 (-1) = some (P.getD k 0)) : ∀ (d k F : Nat), k + d = l.length → (l.length + 3) * (d + 1) + 100 < F →
    mummerlaw03_SpansNest.l0 F l P k = some true := by
  intro d
  induction d with
  | zero =>
    intro k F hk hF
    obtain ⟨F, rfl⟩ : ∃ m, F = m + 1 := ⟨F - 1, by omega⟩
    simp only [mummerlaw03_SpansNest.l0]
    rw [if_neg (by omega), awake_f F (by omega)]
    rfl
  | succ d ih =>
    intro k F hk hF
    rw [Nat.mul_succ] at hF
    obtain ⟨F, rfl⟩ : ∃ m, F = (m + k + 1) + 1 := ⟨F - (k + 2), by omega⟩
    have hrk := hr k (by omega)
    have := nest_l1 l P k (by omega) hl hP hv hrk k 0 F (by omega) (by omega)
    simp only [mummerlaw03_SpansNest.l0]
    have hrd : rd P (k : Int) = P.getD k 0 := rfl
    obtain ⟨g1, g2⟩ := rp_some l k k 0 (-1) _ hrk
    have hq : -1 ≤ P.getD k 0 ∧ P.getD k 0 < (k : Int) := by
      rcases g2 with ⟨h3, _⟩ | ⟨m, h3, _, h5, _⟩ <;> rw [h3] <;> constructor <;> omega
    rw [if_pos (by omega), if_pos (by omega), if_pos (by omega), hrd, if_neg (by omega), if_neg (by omega)]
    refine this.trans ?_
    exact ih (k + 1) F (by omega) (by omega)
theorem law_nest (l : List S24) : ∃ k, mummerlaw03_SpansNest.f k l = some true := by
  refine ⟨7000000, ?_⟩
  unfold mummerlaw03_SpansNest.f
  by_cases c : (l.length : Int) > 60
  · rw [if_pos c, awake_f _ (by omega)]; rfl
  · rw [if_neg c, code_nest l _ (by omega), Option.bind_some]
    have hns : nestS l = (match firstBad l l.length 0 with
      | some j => ([], (j : Int), 6)
      | none => nestGo l l.length 0 []) := by unfold nestS; rw [if_neg (by omega)]; cases firstBad l l.length 0 <;> rfl
    rw [hns]
    clear hns
    cases hb : firstBad l l.length 0 with
    | some j =>
      have := firstBad_lt l l.length 0 j (by omega) hb
      dsimp only
      rw [if_neg (by decide), if_pos (by simp), if_pos (by omega), if_pos (by omega), awake_f _ (by omega)]
      rfl
    | none =>
      have hv := fun i (hi : i < l.length) => firstBad_none l l.length 0 hb i (Nat.zero_le _) (by omega)
      dsimp only
      rcases nestGo_spec l l.length 0 [] (by omega) with ⟨j, h1, h2⟩ | ⟨r, h1, h2, h3⟩
      · rw [h2]
        dsimp only
        rw [if_neg (by decide), if_pos (by simp), if_pos (by omega), if_pos (by omega), awake_f _ (by omega)]
        rfl
      · rw [h1]
        dsimp only
        rw [List.nil_append, if_pos rfl, if_pos (by rw [h2]), if_pos rfl]
        have hm : (l.length + 3) * (l.length + 1) ≤ 63 * 61 := Nat.mul_le_mul (by omega) (by omega)
        exact nest_l0 l r (by omega) h2 hv (fun k hk => by have := h3 k hk; rwa [Nat.zero_add] at this) l.length 0 _ (by omega) (by omega)
end Go.Proofs.YtnkfdobcmfdhfaaDoor.P
