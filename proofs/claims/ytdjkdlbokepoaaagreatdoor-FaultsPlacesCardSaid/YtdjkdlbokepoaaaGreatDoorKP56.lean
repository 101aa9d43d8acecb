import Derived.Test.YtdjkdlbokepoaaaGreatDoorKP55
import Derived.Test.YtdjkdlbokepoaaaGreatDoorKP36
import Derived.Test.YtdjkdlbokepoaaaGreatDoorKP38
namespace Go.Proofs.YtdjkdlbokepoaaaGreatDoor.P
open Go.RowKit Go.Proofs.YtdjkdlbokepoaaaGreatDoorW.PrintWords Go.Proofs.YtdjkdlbokepoaaaGreatDoorW.PrintLast Go.Proofs.YtdjkdlbokepoaaaGreatDoorW.PrintMore Sc
set_option linter.unusedVariables false
set_option linter.unusedSimpArgs false
set_option maxRecDepth 20000
instance (x : Int) : Decidable (RS x) := by unfold RS; infer_instance
def rsN (l : List Int) : Nat → Nat
  | 0 => 0
  | a + 1 => if RS (lb l a) then rsN l a + 1 else rsN l a
theorem rsN_le (l : List Int) : ∀ a, rsN l a ≤ a
  | 0 => Nat.le_refl _
  | a + 1 => by
    rw [rsN]
    have := rsN_le l a
    split <;> omega
theorem rsN_no (l : List Int) (s : Nat) : ∀ d, (∀ i, s ≤ i → i < s + d → ¬ RS (lb l i)) → rsN l (s + d) = rsN l s
  | 0, _ => rfl
  | d + 1, h => by
    rw [show s + (d + 1) = (s + d) + 1 by omega, rsN, if_neg (h (s + d) (by omega) (by omega))]
    exact rsN_no l s d fun i a b => h i a (by omega)
theorem Gd.step1 {l : List Int} {p j : Nat} (h1 : 1 ≤ j) (h4 : j ≤ 4) (g : Gd l p j) : rsN l (p + j) = rsN l p + 1 := by
  obtain ⟨s1, _, s3⟩ := g.start h1 h4
  have := rsN_no l (p + 1) (j - 1) (fun i a b => by
    have := s3 (i - p) (by omega) (by omega)
    rwa [show p + (i - p) = i by omega] at this)
  rw [show p + 1 + (j - 1) = p + j by omega] at this
  rw [this, rsN, if_pos s1]
theorem GR.count1 {l : List Int} {p : Nat} {rs : List (Nat × Nat)} (h : GR l p rs) : ∀ m, m ≤ rs.length → rsN l (PP l rs m) = rsN l p + m := by
  induction h with
  | stop =>
    intro m hm
    obtain rfl : m = 0 := by simpa using hm
    rfl
  | @step p j rest h1 h2 h3 h4 h5 ih =>
    intro m hm
    cases m with
    | zero => rfl
    | succ m =>
      rw [PP_succ, ih m (by simpa using hm), h4.step1 h1 h2]
      omega
/-- The column of a place. -/
def colV (l : List Int) (a : Nat) : Int := ((rsN l (bckN l a) : Nat) : Int) - ((rsN l (begN l a) : Nat) : Int) + 1
theorem Plc.col {l : List Int} {a st z m : Nat} {rf : List (Nat × Nat)} (h : Plc l a st z m rf) : (m : Int) + 1 = colV l a := by
  have := h.gr.count1 m h.mle
  rw [h.pp] at this
  unfold colV
  rw [← h.beg, ← h.bck, this]
  omega
theorem place_v {l : List Int} (hI : Sc.InB l = true) (hl : l.length ≤ 8000) {rs : List (Nat × Nat)} (hr : GR l 0 rs) (a : Nat) (ha : a ≤ l.length) (k : Nat) (hk : 200000 ≤ k) : faults_Place.f k l a = some ((cntN l a : Int) + 1, colV l a, 0) := by
  obtain ⟨st, z, m, rf, p⟩ := plc hI hr a ha
  rw [place_f hI hl hr p k hk, p.col]
theorem bckN_self {l : List Int} (a : Nat) (h : Sp l a) : bckN l a = a := by
  cases a with
  | zero => rfl
  | succ a => rw [bckN, if_pos h]
/-- From one start to the next one. -/
theorem next_start {l : List Int} {p j : Nat} (h1 : 1 ≤ j) (h4 : j ≤ 4) (hp : p + j ≤ l.length) (g : Gd l p j) (hs : Sp l p) (hs' : Sp l (p + j)) :
    if lb l (p + j - 1) = 10 then cntN l (p + j) = cntN l p + 1 ∧ colV l (p + j) = 1 else cntN l (p + j) = cntN l p ∧ colV l (p + j) = colV l p + 1 := by
  obtain ⟨s1, s2, s3⟩ := g.start h1 h4
  by_cases c : lb l (p + j - 1) = 10
  · rw [if_pos c]
    have hj : j = 1 := by
      refine Classical.byContradiction fun hj => ?_
      have := s3 (j - 1) (by omega) (by omega)
      rw [show p + (j - 1) = p + j - 1 by omega, c] at this
      exact this (by unfold RS; omega)
    subst hj
    rw [show p + 1 - 1 = p by omega] at c
    refine ⟨by rw [cntN, if_pos c], ?_⟩
    have e : begN l (p + 1) = p + 1 := by rw [begN, if_pos c]
    unfold colV
    rw [e, bckN_self _ hs']
    omega
  · rw [if_neg c]
    have no : ∀ i, p ≤ i → i < p + j → lb l i ≠ 10 := fun i a b h => by
      by_cases e : i = p
      · subst e
        have := s2 (by omega)
        subst this
        exact c (by rwa [show i + 1 - 1 = i by omega])
      · have := s3 (i - p) (by omega) (by omega)
        rw [show p + (i - p) = i by omega, h] at this
        exact this (by unfold RS; omega)
    refine ⟨cntN_eq l p j no, ?_⟩
    unfold colV
    rw [begN_eq l p j no, bckN_self _ hs', bckN_self _ hs, g.step1 h1 h4]
    omega
/-- The step from the i-th start to the next one. -/
theorem GR.stepAt {l : List Int} {p : Nat} {rs : List (Nat × Nat)} (h : GR l p rs) : ∀ m, m < rs.length → ∃ j, 1 ≤ j ∧ j ≤ 4 ∧ PP l rs m + j ≤ l.length ∧ Gd l (PP l rs m) j ∧ PP l rs (m + 1) = PP l rs m + j := by
  induction h with
  | stop => intro m hm; simp at hm
  | @step p j rest h1 h2 h3 h4 h5 ih =>
    intro m hm
    cases m with
    | zero =>
      refine ⟨j, h1, h2, h3, h4, ?_⟩
      rw [PP_succ, h5.first]; rfl
    | succ m =>
      obtain ⟨j', a, b, c, d, e⟩ := ih m (by simpa using hm)
      refine ⟨j', a, b, ?_, ?_, ?_⟩
      · rw [PP_succ]; exact c
      · rw [PP_succ]; exact d
      · rw [PP_succ, PP_succ]; exact e
theorem places_l0 {l : List Int} (hI : Sc.InB l = true) (hl : l.length ≤ 8000) {rs : List (Nat × Nat)} (hr : GR l 0 rs) : ∀ (d i : Nat), i + d = rs.length + 1 → ∀ (x5 x6 : Int) (k : Nat), 200000 + 2 * d < k →
    (i = 0 ∧ x5 = 1 ∧ x6 = 0) ∨ (∃ i', i = i' + 1 ∧ x5 = (cntN l (PP l rs i') : Int) + 1 ∧ x6 = colV l (PP l rs i')) → mummerlaw08_FaultsPlaces.l0 k l (SL l rs) x5 x6 i = some true := by
  have hrl := hr.len
  intro d
  induction d with
  | zero =>
    intro i hi x5 x6 k hk h
    obtain ⟨k, rfl⟩ : ∃ K, k = K + 1 := ⟨k - 1, by omega⟩
    rw [mummerlaw08_FaultsPlaces.l0, if_neg (by rw [SL_len]; omega)]; rfl
  | succ d ih =>
    intro i hi x5 x6 k hk h
    obtain ⟨k, rfl⟩ : ∃ K, k = K + 1 + 1 := ⟨k - 2, by omega⟩
    have hge := hr.ge i (by omega)
    have hsp := hr.sp i (by omega)
    have hc := cntN_le l (PP l rs i)
    have hR := rsN_le l (bckN l (PP l rs i))
    have hR' := rsN_le l (begN l (PP l rs i))
    have hB := bckN_le l (PP l rs i)
    have hB' := begN_le l (PP l rs i)
    have hcol : -8000 ≤ colV l (PP l rs i) ∧ colV l (PP l rs i) ≤ 8001 := by unfold colV; omega
    have ih' := ih (i + 1) (by omega) ((cntN l (PP l rs i) : Int) + 1) (colV l (PP l rs i)) k (by omega) (.inr ⟨i, rfl, rfl, rfl⟩)
    rw [mummerlaw08_FaultsPlaces.l0, if_pos (by rw [SL_len]; omega), if_pos (by omega), SL_rd l rs i (by omega), place_v hI hl hr _ hge.2 _ (by omega), Option.bind_some]
    dsimp only
    rw [if_pos rfl]
    have e0 : ((i + 1 : Nat) : Int) = (i : Int) + 1 := by omega
    rw [e0] at ih'
    rcases h with ⟨rfl, rfl, rfl⟩ | ⟨i', rfl, rfl, rfl⟩
    · rw [hr.first] at ih' ⊢
      have c0 : colV l 0 = 1 := by unfold colV bckN begN; omega
      rw [if_neg (by omega), mummerlaw08_FaultsPlaces.j2, if_neg (by decide), if_pos (by rfl), c0, w64 (n := 0 + 1) (by omega) (by omega), w64 (n := ((0 : Nat) : Int) + 1) (by omega) (by omega), if_pos (by rfl)]
      rw [c0] at ih'
      exact ih'
    · obtain ⟨j, j1, j4, jl, g, e⟩ := hr.stepAt i' (by omega)
      have st := next_start j1 j4 jl g (hr.sp i' (by omega)) (by rw [← e]; exact hsp)
      rw [← e] at st
      rw [if_pos (by omega), w64 (by omega) (by omega), if_pos (by omega), if_pos (by omega), show ((PP l rs (i' + 1) : Nat) : Int) - 1 = ((PP l rs (i' + 1) - 1 : Nat) : Int) by omega, rd_bt, mummerlaw08_FaultsPlaces.j2]
      have hc' := cntN_le l (PP l rs i')
      have hge' := hr.ge i' (by omega)
      have hR1 := rsN_le l (bckN l (PP l rs i'))
      have hR1' := rsN_le l (begN l (PP l rs i'))
      have hB1 := bckN_le l (PP l rs i')
      have hB1' := begN_le l (PP l rs i')
      have hcol' : -8000 ≤ colV l (PP l rs i') ∧ colV l (PP l rs i') ≤ 8001 := by unfold colV; omega
      by_cases c : lb l (PP l rs (i' + 1) - 1) = 10
      · rw [if_pos c] at st
        obtain ⟨t1, t2⟩ := st
        rw [t1, t2] at ih'
        rw [t1, t2, if_pos (by rw [c]; rfl), w64 (by omega) (by omega), w64 (by omega) (by omega), if_pos (by omega), if_pos rfl]
        rw [show ((cntN l (PP l rs i') + 1 : Nat) : Int) + 1 = (cntN l (PP l rs i') : Int) + 1 + 1 by omega] at ih'
        exact ih'
      · rw [if_neg c] at st
        obtain ⟨t1, t2⟩ := st
        rw [t1, t2] at ih'
        rw [t1, t2, if_neg (by simpa using c), if_pos rfl, w64 (by omega) (by omega), if_pos rfl, w64 (by omega) (by omega)]
        exact ih'
theorem law_places (l0 : List Int) (hI : Sc.InB l0 = true) : ∃ k, mummerlaw08_FaultsPlaces.f k l0 = some true := by
  refine ⟨300001, ?_⟩
  unfold mummerlaw08_FaultsPlaces.f
  have yes : ∀ st, mummerlaw08_FaultsPlaces.j0 (300000 + 1) l0 st true = some true := fun st => by
    rw [mummerlaw08_FaultsPlaces.j0, if_pos rfl]; rfl
  rcases ref_starts l0 hI with ⟨rs, hl, hr, e⟩ | ⟨st, e, e0, e1⟩
  · rw [e _ (by omega), Option.bind_some]
    dsimp only
    split
    · exact yes _
    · have hrl := hr.len
      show mummerlaw08_FaultsPlaces.j0 (300000 + 1) l0 (SL l0 rs) false = _
      rw [mummerlaw08_FaultsPlaces.j0, if_neg (by decide)]
      exact places_l0 hI hl hr (rs.length + 1) 0 (by omega) 1 0 300000 (by omega) (.inl ⟨rfl, rfl, rfl⟩)
  · rw [e1 _ (by omega), Option.bind_some]
    dsimp only
    split
    · exact yes _
    · have : (e != 0) = true := by simpa using e0
      rw [this]
      exact yes _
end Go.Proofs.YtdjkdlbokepoaaaGreatDoor.P
