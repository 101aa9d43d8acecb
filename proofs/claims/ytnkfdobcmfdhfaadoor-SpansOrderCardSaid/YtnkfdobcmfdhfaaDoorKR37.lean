import Derived.Test.YtnkfdobcmfdhfaaDoorKR36
import Derived.Test.YtnkfdobcmfdhfaaDoorKR31
namespace Go.Proofs.YtnkfdobcmfdhfaaDoor.P
open Go.RowKit Go.Proofs.YtnkfdobcmfdhfaaDoorW.PrintWords Go.Proofs.YtnkfdobcmfdhfaaDoorW.PrintLast Sc
set_option linter.unusedVariables false
set_option linter.unusedSimpArgs false
set_option maxRecDepth 20000
theorem order_j4 (ab ba inn has ov : Bool) (F : Nat) (hF : 61 < F) (h : ov = (!ab && !ba && !inn && !has)) : mummerlaw03_SpansOrder.j4 F ab ba inn has ov = some true := by
  obtain ⟨F, rfl⟩ : ∃ m, F = m + 1 := ⟨F - 1, by omega⟩
  subst h
  simp only [mummerlaw03_SpansOrder.j4]
  rw [awake_f F (by omega)]
  cases ab <;> cases ba <;> cases inn <;> cases has <;> rfl
theorem order_j3 (a b m : S24) (ab ba inn has cm : Bool) (F : Nat) (hF : 70 < F) (h : (cm && (!(m.f0 == a.f0) || (!(m.f1 == a.f1))) && (!(m.f0 == b.f0) || (!(m.f1 == b.f1)))) = (!ab && !ba && !inn && !has)) : mummerlaw03_SpansOrder.j3 F ab ba inn has cm a.f0 a.f1 b.f0 b.f1 m.f0 m.f1 = some true := by
  obtain ⟨F, rfl⟩ : ∃ m, F = m + 1 := ⟨F - 1, by omega⟩
  simp only [mummerlaw03_SpansOrder.j3]
  cases cm with
  | true =>
    rw [if_pos rfl]
    cases c : (!(m.f0 == a.f0) || (!(m.f1 == a.f1))) with
    | true => rw [if_pos rfl]; rw [c] at h; exact order_j4 _ _ _ _ _ F (by omega) (by simpa using h)
    | false => rw [if_neg (by decide)]; rw [c] at h; exact order_j4 _ _ _ _ _ F (by omega) (by simpa using h)
  | false => rw [if_neg (by decide)]; exact order_j4 _ _ _ _ _ F (by omega) (by simpa using h)
theorem order_j2 (a b : S24) (ha : OkS a) (hb : OkS b) (F : Nat) (hF : 80 < F) : mummerlaw03_SpansOrder.j2 F (decide (Be a b)) (decide (Be b a)) (decide (Wi a b)) (decide (Wi b a)) (meetS a b).2.2.1 false a.f0 a.f1 b.f0 b.f1 (meetS a b).1 (meetS a b).2.1 = some true := by
  obtain ⟨F, rfl⟩ : ∃ m, F = m + 1 := ⟨F - 1, by omega⟩
  simp only [mummerlaw03_SpansOrder.j2]
  rw [if_neg (by decide)]
  unfold meetS
  rw [if_pos (c := OkS a ∧ OkS b) ⟨ha, hb⟩]
  have h1 := mx_ge a.f0 b.f0
  have h2 := mn_le a.f1 b.f1
  obtain ⟨p1, p2, p3⟩ := ha
  obtain ⟨q1, q2, q3⟩ := hb
  generalize mx a.f0 b.f0 = M at h1 ⊢
  generalize mn a.f1 b.f1 = L at h2 ⊢
  by_cases c : M > L
  · rw [if_pos c, if_neg (by decide)]
    refine order_j3 a b ⟨0, 0⟩ _ _ _ _ false F (by omega) ?_
    rw [Bool.false_and, Bool.false_and]
    by_cases d : Be a b
    · rw [decide_eq_true d]; rfl
    · rw [decide_eq_true (show Be b a from by unfold Be at d ⊢; omega)]; simp
  · rw [if_neg c, if_pos rfl]
    refine order_j3 a b ⟨M, L⟩ _ _ _ _ (decide (M < L)) F (by omega) ?_
    dsimp only
    by_cases c2 : M < L
    · rw [decide_eq_true c2, decide_eq_false (show ¬ Be a b from by unfold Be; omega), decide_eq_false (show ¬ Be b a from by unfold Be; omega)]
      by_cases d1 : Wi a b
      · have e0 : M = a.f0 := by unfold Wi at d1; omega
        have e1 : L = a.f1 := by unfold Wi at d1; omega
        rw [decide_eq_true d1]; simp [e0, e1]
      · by_cases d2 : Wi b a
        · have e0 : M = b.f0 := by unfold Wi at d2; omega
          have e1 : L = b.f1 := by unfold Wi at d2; omega
          rw [decide_eq_true d2]; simp [e0, e1]
        · rw [decide_eq_false d1, decide_eq_false d2]
          have e0 : ¬ (M = a.f0 ∧ L = a.f1) := by unfold Wi at d1; omega
          have e1 : ¬ (M = b.f0 ∧ L = b.f1) := by unfold Wi at d2; omega
          simp only [Bool.true_and, Bool.not_false, Bool.and_eq_true, Bool.or_eq_true, Bool.not_eq_true', beq_eq_false_iff_ne]
          omega
    · rw [decide_eq_false c2, Bool.false_and, Bool.false_and]
      by_cases d1 : Be a b
      · rw [decide_eq_true d1]; rfl
      · by_cases d2 : Be b a
        · rw [decide_eq_true d2]; simp
        · by_cases d3 : Wi a b
          · rw [decide_eq_true d3]; simp
          · rw [decide_eq_true (show Wi b a from by unfold Be at d1 d2; unfold Wi at d3 ⊢; omega)]; simp
theorem order_j1 (a b : S24) (ha : OkS a) (hb : OkS b) (F : Nat) (hF : 100 < F) : mummerlaw03_SpansOrder.j1 F (decide (Be a b)) (decide (Be b a)) false a.f0 a.f1 b.f0 b.f1 = some true := by
  obtain ⟨F, rfl⟩ : ∃ m, F = m + 1 := ⟨F - 1, by omega⟩
  simp only [mummerlaw03_SpansOrder.j1]
  have hj := order_j2 a b ha hb F (by omega)
  have h4 : (meetS a b).2.2.2 = 0 := by
    unfold meetS
    rw [if_pos (c := OkS a ∧ OkS b) ⟨ha, hb⟩]
    split <;> rfl
  rw [if_neg (by decide), within_ok a b ha hb F (by omega), Option.bind_some, within_ok b a hb ha F (by omega), Option.bind_some, code_meet a b F (by omega), Option.bind_some, if_pos rfl, if_pos rfl, if_pos h4]
  dsimp only
  by_cases c : Wi a b
  · have e : (decide (Wi b a) != (a.f0 == b.f0 && (a.f1 == b.f1))) = false := by
      by_cases d : Wi b a
      · have e0 : a.f0 = b.f0 := by unfold Wi at c d; omega
        have e1 : a.f1 = b.f1 := by unfold Wi at c d; omega
        rw [decide_eq_true d]; simp [e0, e1]
      · rw [decide_eq_false d]
        by_cases e0 : a.f0 = b.f0
        · have e1 : ¬ a.f1 = b.f1 := by unfold Wi at c d; omega
          simp [e1]
        · simp [e0]
    rw [if_pos (decide_eq_true c), e]
    exact hj
  · rw [if_neg (by simpa using c)]
    exact hj
theorem order_j0 (x : Bool) (a b c : S24) (hx : x = false → OkS a ∧ OkS b ∧ OkS c) (F : Nat) (hF : 200 < F) : mummerlaw03_SpansOrder.j0 F x a.f0 a.f1 b.f0 b.f1 c.f0 c.f1 = some true := by
  obtain ⟨F, rfl⟩ : ∃ m, F = m + 1 := ⟨F - 1, by omega⟩
  simp only [mummerlaw03_SpansOrder.j0]
  cases x with
  | true => rw [if_pos rfl, awake_f F (by omega)]; rfl
  | false =>
    obtain ⟨ha, hb, hc⟩ := hx rfl
    have hj := order_j1 a b ha hb F (by omega)
    rw [if_neg (by decide), before_ok a b ha hb F (by omega), Option.bind_some, before_ok b a hb ha F (by omega), Option.bind_some, before_ok b c hb hc F (by omega), Option.bind_some, before_ok a c ha hc F (by omega), Option.bind_some, before_ok a a ha ha F (by omega), Option.bind_some, if_pos rfl, if_pos rfl, if_pos rfl, if_pos rfl, if_pos rfl]
    dsimp only
    rw [if_neg (by simpa using fun h : Be a a => h.2 ⟨rfl, rfl⟩)]
    by_cases c1 : Be a b
    · rw [if_pos (decide_eq_true c1), if_neg (by simpa using fun h : Be b a => c1.2 (by obtain ⟨h1, _⟩ := c1; obtain ⟨h2, _⟩ := h; have := ha.2.1; have := hb.2.1; omega))]
      by_cases d1 : a.f0 < a.f1
      · rw [if_pos d1]
        by_cases d2 : b.f0 < b.f1
        · rw [if_pos d2]
          by_cases d3 : c.f0 < c.f1
          · rw [if_pos d3]
            by_cases d4 : Be b c
            · rw [if_pos (decide_eq_true d4), decide_eq_true (show Be a c from by obtain ⟨h1, _⟩ := c1; obtain ⟨h2, _⟩ := d4; exact ⟨by omega, by omega⟩)]
              exact hj
            · rw [if_neg (by simpa using d4)]; exact hj
          · rw [if_neg d3]; exact hj
        · rw [if_neg d2]; exact hj
      · rw [if_neg d1]; exact hj
    · rw [if_neg (by simpa using c1)]
      by_cases d1 : a.f0 < a.f1
      · rw [if_pos d1]
        by_cases d2 : b.f0 < b.f1
        · rw [if_pos d2]
          by_cases d3 : c.f0 < c.f1
          · rw [if_pos d3]; exact hj
          · rw [if_neg d3]; exact hj
        · rw [if_neg d2]; exact hj
      · rw [if_neg d1]; exact hj
theorem law_order (a b c : S24) : ∃ k, mummerlaw03_SpansOrder.f k a.f0 a.f1 b.f0 b.f1 c.f0 c.f1 = some true := by
  refine ⟨1000, ?_⟩
  unfold mummerlaw03_SpansOrder.f
  rw [valid_f, Option.bind_some]
  by_cases ha : OkS a
  · rw [if_pos (decide_eq_true ha), valid_f, Option.bind_some]
    by_cases hb : OkS b
    · rw [if_pos (decide_eq_true hb), valid_f, Option.bind_some]
      exact order_j0 _ a b c (fun h => ⟨ha, hb, by simpa using h⟩) _ (by omega)
    · rw [if_neg (by simpa using hb)]
      exact order_j0 true a b c (fun h => by cases h) _ (by omega)
  · rw [if_neg (by simpa using ha)]
    exact order_j0 true a b c (fun h => by cases h) _ (by omega)
end Go.Proofs.YtnkfdobcmfdhfaaDoor.P
