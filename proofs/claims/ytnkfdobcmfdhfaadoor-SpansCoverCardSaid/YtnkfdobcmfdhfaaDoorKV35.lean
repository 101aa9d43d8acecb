import Derived.Test.YtnkfdobcmfdhfaaDoorKV34
import Derived.Test.YtnkfdobcmfdhfaaDoorKV28
import Derived.Test.YtnkfdobcmfdhfaaDoorKV30
namespace Go.Proofs.YtnkfdobcmfdhfaaDoor.P
open Go.RowKit Go.Proofs.YtnkfdobcmfdhfaaDoorW.PrintWords Go.Proofs.YtnkfdobcmfdhfaaDoorW.PrintLast Sc
set_option linter.unusedVariables false
set_option linter.unusedSimpArgs false
set_option maxRecDepth 20000
theorem okFrom_all (l : List S24) : ∀ (d i : Nat), okFrom l d i = true → ∀ j, i ≤ j → j < i + d → OkS (sp l j)
  | 0, i, _, j, a, b => by omega
  | d + 1, i, h, j, a, b => by
    simp only [okFrom, Bool.and_eq_true, decide_eq_true_eq] at h
    by_cases e : j = i
    · exact e ▸ h.1
    · exact okFrom_all l d (i + 1) h.2 j (by omega) (by omega)
theorem coverGo_spec (l : List S24) : ∀ (d i : Nat) (a b : Int), ∃ A B, coverGo l d i a b = (A, B, 0) ∧ A ≤ a ∧ b ≤ B ∧ (∀ j, i ≤ j → j < i + d → A ≤ (sp l j).f0 ∧ (sp l j).f1 ≤ B) ∧ (A = a ∨ ∃ j, i ≤ j ∧ j < i + d ∧ A = (sp l j).f0) ∧ (B = b ∨ ∃ j, i ≤ j ∧ j < i + d ∧ B = (sp l j).f1)
  | 0, i, a, b => ⟨a, b, rfl, Int.le_refl _, Int.le_refl _, fun j h1 h2 => by omega, .inl rfl, .inl rfl⟩
  | d + 1, i, a, b => by
    obtain ⟨A, B, h1, h2, h3, h4, h5, h6⟩ := coverGo_spec l d (i + 1) (mn a (sp l i).f0) (mx b (sp l i).f1)
    have g1 := mn_le a (sp l i).f0
    have g2 := mx_ge b (sp l i).f1
    refine ⟨A, B, h1, by omega, by omega, fun j p q => ?_, ?_, ?_⟩
    · by_cases e : j = i
      · subst e; omega
      · exact h4 j (by omega) (by omega)
    · rcases h5 with h5 | ⟨j, p, q, r⟩
      · rcases g1.2.2 with g | g
        · exact .inl (by omega)
        · exact .inr ⟨i, Nat.le_refl _, by omega, by omega⟩
      · exact .inr ⟨j, by omega, by omega, r⟩
    · rcases h6 with h6 | ⟨j, p, q, r⟩
      · rcases g2.2.2 with g | g
        · exact .inl (by omega)
        · exact .inr ⟨i, Nat.le_refl _, by omega, by omega⟩
      · exact .inr ⟨j, by omega, by omega, r⟩
theorem cover_l1 (l : List S24) (x c m : S24) (all found : Bool) (i : Nat) (hi : i < l.length) (hl : l.length ≤ 40) (hv : ∀ j, j < l.length → OkS (sp l j)) (hx : OkS x)
    (hm : found = true → OkS m ∧ ∀ s, OkS s → Wi s (sp l i) → Wi s x → Wi s m) (hn : found = false → ∀ s, OkS s → Wi s (sp l i) → Wi s x → False) : ∀ (d k F : Nat), k + d = l.length → 10 < F →
    mummerlaw03_SpansCover.l1 (F + d + 1) l all i found k x.f0 x.f1 c.f0 c.f1 m.f0 m.f1 = mummerlaw03_SpansCover.l0 F l all ((i + 1 : Nat) : Int) x.f0 x.f1 c.f0 c.f1 := by
  intro d
  induction d with
  | zero =>
    intro k F hk hF
    simp only [mummerlaw03_SpansCover.l1]
    rw [if_neg (by omega), w64 (by omega) (by omega)]
    rfl
  | succ d ih =>
    intro k F hk hF
    have h1 := ih (k + 1) F (by omega) hF
    rw [show ((k + 1 : Nat) : Int) = (k : Int) + 1 by omega] at h1
    have e1 : F + (d + 1) + 1 = (F + d + 1) + 1 := by omega
    rw [e1]
    have hG : 2 < F + d + 1 := by omega
    generalize F + d + 1 = G at h1 hG ⊢
    have ok := hv k (by omega)
    have oi := hv i hi
    simp only [mummerlaw03_SpansCover.l1]
    rw [if_pos (by omega), if_pos (by omega), if_pos (by omega), if_pos (by omega), rd_sp, rd_sp, within_ok _ _ ok oi G hG, Option.bind_some, within_ok _ _ ok hx G hG, Option.bind_some, w64 (by omega) (by omega)]
    cases found with
    | true =>
      obtain ⟨om, hm'⟩ := hm rfl
      rw [if_pos rfl, within_ok _ _ ok om G hG, Option.bind_some, if_pos rfl, if_pos rfl]
      by_cases c1 : Wi (sp l k) (sp l i)
      · by_cases c2 : Wi (sp l k) x
        · rw [if_pos (decide_eq_true c1), if_pos (decide_eq_true c2), if_pos (decide_eq_true (hm' _ ok c1 c2))]
          exact h1
        · rw [if_pos (decide_eq_true c1), if_neg (by simpa using c2)]
          exact h1
      · rw [if_neg (by simpa using c1)]
        exact h1
    | false =>
      rw [if_neg (by decide), if_pos rfl, if_pos rfl]
      by_cases c1 : Wi (sp l k) (sp l i)
      · by_cases c2 : Wi (sp l k) x
        · exact (hn rfl _ ok c1 c2).elim
        · rw [if_pos (decide_eq_true c1), if_neg (by simpa using c2)]
          exact h1
      · rw [if_neg (by simpa using c1)]
        exact h1
theorem cover_j2 (l : List S24) (x c : S24) (all : Bool) (i : Nat) (hi : i < l.length) (hl : l.length ≤ 40) (hv : ∀ j, j < l.length → OkS (sp l j)) (hx : OkS x) (F : Nat) (hF : 10 < F) :
    mummerlaw03_SpansCover.j2 (F + l.length + 1 + 1 + 1) l all i x.f0 x.f1 c.f0 c.f1 = mummerlaw03_SpansCover.l0 F l all ((i + 1 : Nat) : Int) x.f0 x.f1 c.f0 c.f1 := by
  have oi := hv i hi
  simp only [mummerlaw03_SpansCover.j2]
  rw [if_pos (by omega), if_pos (by omega), rd_sp, code_meet _ _ _ (by omega), Option.bind_some]
  have h1 := mx_ge (sp l i).f0 x.f0
  have h2 := mn_le (sp l i).f1 x.f1
  have p := oi
  have q := hx
  obtain ⟨p1, p2, p3⟩ := p
  obtain ⟨q1, q2, q3⟩ := q
  unfold meetS
  rw [if_pos (c := OkS (sp l i) ∧ OkS x) ⟨oi, hx⟩]
  by_cases cc : mx (sp l i).f0 x.f0 > mn (sp l i).f1 x.f1
  · rw [if_pos cc, if_pos rfl, if_neg (by decide)]
    simp only [mummerlaw03_SpansCover.j3]
    exact cover_l1 l x c ⟨0, 0⟩ all false i hi hl hv hx (fun h => by cases h) (fun _ s os w1 w2 => by
      obtain ⟨a1, a2⟩ := w1
      obtain ⟨b1, b2⟩ := w2
      have := os.2.1
      rcases h1.2.2 with e | e <;> rcases h2.2.2 with e' | e' <;> omega) l.length 0 F (by omega) hF
  · rw [if_neg cc, if_pos rfl, if_pos rfl]
    have om : OkS (⟨mx (sp l i).f0 x.f0, mn (sp l i).f1 x.f1⟩ : S24) := ⟨by dsimp only; omega, by dsimp only; omega, by dsimp only; omega⟩
    have e1 := within_ok ⟨mx (sp l i).f0 x.f0, mn (sp l i).f1 x.f1⟩ (sp l i) om oi (F + l.length + 1 + 1) (by omega)
    have e2 := within_ok ⟨mx (sp l i).f0 x.f0, mn (sp l i).f1 x.f1⟩ x om hx (F + l.length + 1 + 1) (by omega)
    dsimp only at e1 e2 ⊢
    rw [e1, Option.bind_some, e2, Option.bind_some, if_pos rfl, if_pos rfl, if_pos (decide_eq_true (show Wi (⟨mx (sp l i).f0 x.f0, mn (sp l i).f1 x.f1⟩ : S24) (sp l i) from ⟨by dsimp only; omega, by dsimp only; omega⟩)), if_pos (decide_eq_true (show Wi (⟨mx (sp l i).f0 x.f0, mn (sp l i).f1 x.f1⟩ : S24) x from ⟨by dsimp only; omega, by dsimp only; omega⟩))]
    simp only [mummerlaw03_SpansCover.j3]
    exact cover_l1 l x c ⟨mx (sp l i).f0 x.f0, mn (sp l i).f1 x.f1⟩ all true i hi hl hv hx (fun _ => ⟨om, fun s os w1 w2 => by
      obtain ⟨a1, a2⟩ := w1
      obtain ⟨b1, b2⟩ := w2
      refine ⟨?_, ?_⟩ <;> dsimp only
      · rcases h1.2.2 with e | e <;> omega
      · rcases h2.2.2 with e | e <;> omega⟩) (fun h => by cases h) l.length 0 F (by omega) hF
theorem cover_l0 (l : List S24) (x c : S24) (hl : l.length ≤ 40) (hv : ∀ j, j < l.length → OkS (sp l j)) (hx : OkS x) (hc : OkS c) (hin : ∀ j, j < l.length → Wi (sp l j) c) (hle : (∀ j, j < l.length → Wi (sp l j) x) → Wi c x) :
    ∀ (d i : Nat) (all : Bool) (F : Nat), i + d = l.length → (all = true ↔ ∀ j, j < i → Wi (sp l j) x) → (l.length + 5) * (d + 1) + 100 < F → mummerlaw03_SpansCover.l0 F l all i x.f0 x.f1 c.f0 c.f1 = some true := by
  intro d
  induction d with
  | zero =>
    intro i all F hi ha hF
    obtain ⟨F, rfl⟩ : ∃ m, F = m + 1 := ⟨F - 1, by omega⟩
    simp only [mummerlaw03_SpansCover.l0]
    rw [if_neg (by omega), within_ok _ _ hc hx F (by omega), Option.bind_some, if_pos rfl, awake_f F (by omega)]
    have hiff : decide (Wi c x) = all := by
      obtain rfl : i = l.length := by omega
      cases hall : all with
      | true => exact decide_eq_true (hle (ha.1 hall))
      | false =>
        refine decide_eq_false (fun hw => ?_)
        have := ha.2 (fun j hj => (hin j hj).trans hw)
        rw [hall] at this
        cases this
    rw [if_pos (by rw [hiff]; simp)]
    rfl
  | succ d ih =>
    intro i all F hi ha hF
    rw [Nat.mul_succ] at hF
    obtain ⟨F, rfl⟩ : ∃ m, F = (m + l.length + 1 + 1 + 1) + 1 := ⟨F - (l.length + 4), by omega⟩
    have ok := hv i (by omega)
    have hj := fun all => cover_j2 l x c all i (by omega) hl hv hx F (by omega)
    have hG : 2 < F + l.length + 1 + 1 + 1 := by omega
    generalize F + l.length + 1 + 1 + 1 = G at hj hG ⊢
    simp only [mummerlaw03_SpansCover.l0]
    rw [if_pos (by omega), if_pos (by omega), rd_sp, within_ok _ _ ok hc G hG, Option.bind_some, within_ok _ _ ok hx G hG, Option.bind_some, if_pos rfl, if_pos rfl, if_pos (decide_eq_true (hin i (by omega)))]
    cases hall : all with
    | true =>
      rw [if_pos rfl, hj]
      refine ih (i + 1) _ F (by omega) ?_ (by omega)
      rw [decide_eq_true_eq]
      refine ⟨fun h j hj => ?_, fun h => h i (by omega)⟩
      by_cases e : j = i
      · exact e ▸ h
      · exact ha.1 hall j (by omega)
    | false =>
      rw [if_neg (by decide), hj]
      refine ih (i + 1) _ F (by omega) ?_ (by omega)
      exact ⟨(fun h => by cases h), (fun h => by have := ha.2 (fun j hj => h j (by omega)); rw [hall] at this; exact this)⟩
theorem cover_j0 (l : List S24) (b : Bool) (x : S24) (hb : b = false → l.length ≤ 40 ∧ OkS x) (F : Nat) (hF : 5000 < F) : mummerlaw03_SpansCover.j0 F l b x.f0 x.f1 = some true := by
  obtain ⟨F, rfl⟩ : ∃ m, F = m + 1 := ⟨F - 1, by omega⟩
  simp only [mummerlaw03_SpansCover.j0]
  cases b with
  | true => rw [if_pos rfl, awake_f F (by omega)]; rfl
  | false =>
    obtain ⟨hl, hx⟩ := hb rfl
    rw [if_neg (by decide), code_cover l (by omega) F (by omega), Option.bind_some]
    unfold coverS
    by_cases c : okFrom l l.length 0 = true
    · rw [if_pos c]
      by_cases c2 : l.length = 0
      · rw [if_pos c2, if_neg (by decide), if_pos (by decide), awake_f F (by omega)]; rfl
      · rw [if_neg c2]
        have hv := fun j (hj : j < l.length) => okFrom_all l l.length 0 c j (Nat.zero_le _) (by omega)
        obtain ⟨A, B, h1, h2, h3, h4, h5, h6⟩ := coverGo_spec l l.length 0 (sp l 0).f0 (sp l 0).f1
        rw [h1]
        dsimp only
        rw [if_pos rfl]
        have hm : (l.length + 5) * (l.length + 1) ≤ 45 * 41 := Nat.mul_le_mul (by omega) (by omega)
        have hA : ∃ j, j < l.length ∧ A = (sp l j).f0 := by
          rcases h5 with h | ⟨j, _, q, r⟩
          · exact ⟨0, by omega, h⟩
          · exact ⟨j, by omega, r⟩
        have hB : ∃ j, j < l.length ∧ B = (sp l j).f1 := by
          rcases h6 with h | ⟨j, _, q, r⟩
          · exact ⟨0, by omega, h⟩
          · exact ⟨j, by omega, r⟩
        obtain ⟨ja, a1, a2⟩ := hA
        obtain ⟨jb, b1, b2⟩ := hB
        have oa := hv ja a1
        have ob := hv jb b1
        have ab := h4 jb (Nat.zero_le _) (by omega)
        refine cover_l0 l x ⟨A, B⟩ hl hv hx ⟨?_, ?_, ?_⟩ (fun j hj => ?_) (fun hall => ?_) l.length 0 true F (by omega) ⟨fun _ j hj => by omega, fun _ => rfl⟩ (by omega)
        · dsimp only; have := oa.1; omega
        · dsimp only; have := ob.2.1; omega
        · dsimp only; have := ob.2.2; omega
        · have := h4 j (Nat.zero_le _) (by omega)
          exact ⟨this.1, this.2⟩
        · have g1 := hall ja a1
          have g2 := hall jb b1
          refine ⟨?_, ?_⟩ <;> dsimp only
          · have := g1.1; omega
          · have := g2.2; omega
    · rw [if_neg c, if_neg (by decide), if_pos (by decide), awake_f F (by omega)]; rfl
theorem law_cover (l : List S24) (x : S24) : ∃ k, mummerlaw03_SpansCover.f k l x.f0 x.f1 = some true := by
  refine ⟨10000, ?_⟩
  unfold mummerlaw03_SpansCover.f
  by_cases c : (l.length : Int) > 40
  · rw [if_pos c]; exact cover_j0 l true x (fun h => by cases h) _ (by omega)
  · rw [if_neg c, valid_f, Option.bind_some]
    refine cover_j0 l _ x (fun h => ⟨by omega, ?_⟩) _ (by omega)
    simpa using h
end Go.Proofs.YtnkfdobcmfdhfaaDoor.P
