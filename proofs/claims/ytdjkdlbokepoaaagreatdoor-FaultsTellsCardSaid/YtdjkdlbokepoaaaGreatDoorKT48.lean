import Derived.Test.YtdjkdlbokepoaaaGreatDoorKT46
import Derived.Test.YtdjkdlbokepoaaaGreatDoorKT36
import Derived.Test.YtdjkdlbokepoaaaGreatDoorKT37
import Derived.Test.YtdjkdlbokepoaaaGreatDoorKT38
namespace Go.Proofs.YtdjkdlbokepoaaaGreatDoor.P
open Go.RowKit Go.Proofs.YtdjkdlbokepoaaaGreatDoorW.PrintWords Go.Proofs.YtdjkdlbokepoaaaGreatDoorW.PrintLast Go.Proofs.YtdjkdlbokepoaaaGreatDoorW.PrintMore Sc
set_option linter.unusedVariables false
set_option linter.unusedSimpArgs false
set_option maxRecDepth 20000
instance (x : Int) : Decidable (RS x) := by unfold RS; infer_instance
def rsN (l : List Int) : Nat → Nat
 | 0 => 0
 | a + 1 => if RS (lb l a) then rsN l a + 1 else rsN l a
theorem rsN_no (l : List Int) (s : Nat) : ∀ d, (∀ i, s ≤ i → i < s + d → ¬ RS (lb l i)) → rsN l (s + d) = rsN l s
 | 0, _ => rfl
 | d + 1, h => by
  rw [show s + (d + 1) = (s + d) + 1 by omega, rsN, if_neg (h (s + d) (by omega) (by omega))]
  exact rsN_no l s d fun i a b => h i a (by omega)
theorem Gd.step1 {l : List Int} {p j : Nat} (h1 : 1 ≤ j) (h4 : j ≤ 4) (g : Gd l p j) : rsN l (p + j) = rsN l p + 1 := by
 obtain ⟨s1, _, s3⟩ := g.start h1 h4
 have := rsN_no l (p + 1) (j - 1) (fun i a b => by
  have := s3 (i - p) (by omega) (by omega)
  rwa [show p + (i - p) = i by omega] at this)
 rw [show p + 1 + (j - 1) = p + j by omega] at this
 rw [this, rsN, if_pos s1]
theorem GR.count1 {l : List Int} {p : Nat} {rs : List (Nat × Nat)} (h : GR l p rs) : ∀ m, m ≤ rs.length → rsN l (PP l rs m) = rsN l p + m := by
 induction h with
 | stop =>
  intro m hm
  obtain rfl : m = 0 := by simpa using hm
  rfl
 | @step p j rest h1 h2 h3 h4 h5 ih =>
  intro m hm
  cases m with
  | zero => rfl
  | succ m =>
   rw [PP_succ, ih m (by simpa using hm), h4.step1 h1 h2]
   omega
/-- The column of a place. -/
def colV (l : List Int) (a : Nat) : Int := ((rsN l (bckN l a) : Nat) : Int) - ((rsN l (begN l a) : Nat) : Int) + 1
theorem Plc.col {l : List Int} {a st z m : Nat} {rf : List (Nat × Nat)} (h : Plc l a st z m rf) : (m : Int) + 1 = colV l a := by
 have := h.gr.count1 m h.mle
 rw [h.pp] at this
 unfold colV
 rw [← h.beg, ← h.bck, this]
 omega
theorem place_v {l : List Int} (hI : Sc.InB l = true) (hl : l.length ≤ 8000) {rs : List (Nat × Nat)} (hr : GR l 0 rs) (a : Nat) (ha : a ≤ l.length) (k : Nat) (hk : 200000 ≤ k) : faults_Place.f k l a = some ((cntN l a : Int) + 1, colV l a, 0) := by
 obtain ⟨st, z, m, rf, p⟩ := plc hI hr a ha
 rw [place_f hI hl hr p k hk, p.col]
/-- The step from the i-th start to the next one. -/
theorem GR.stepAt {l : List Int} {p : Nat} {rs : List (Nat × Nat)} (h : GR l p rs) : ∀ m, m < rs.length → ∃ j, 1 ≤ j ∧ j ≤ 4 ∧ PP l rs m + j ≤ l.length ∧ Gd l (PP l rs m) j ∧ PP l rs (m + 1) = PP l rs m + j := by
 induction h with
 | stop => intro m hm; simp at hm
 | @step p j rest h1 h2 h3 h4 h5 ih =>
  intro m hm
  cases m with
  | zero =>
   refine ⟨j, h1, h2, h3, h4, ?_⟩
   rw [PP_succ, h5.first]; rfl
  | succ m =>
   obtain ⟨j', a, b, c, d, e⟩ := ih m (by simpa using hm)
   refine ⟨j', a, b, ?_, ?_, ?_⟩
   ·rw [PP_succ]; exact c
   ·rw [PP_succ]; exact d
   ·rw [PP_succ, PP_succ]; exact e
end Go.Proofs.YtdjkdlbokepoaaaGreatDoor.P
