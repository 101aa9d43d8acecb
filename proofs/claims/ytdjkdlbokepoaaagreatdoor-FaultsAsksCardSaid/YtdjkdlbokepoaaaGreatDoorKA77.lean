import Derived.Test.YtdjkdlbokepoaaaGreatDoorKA76
import Derived.Test.YtdjkdlbokepoaaaGreatDoorKA36
import Derived.Test.YtdjkdlbokepoaaaGreatDoorKA41
import Derived.Test.YtdjkdlbokepoaaaGreatDoorKA37
import Derived.Test.YtdjkdlbokepoaaaGreatDoorKA44
namespace Go.Proofs.YtdjkdlbokepoaaaGreatDoor.P
open Go.RowKit YtdjkdlbokepoaaaGreatDoorW.PrintWords YtdjkdlbokepoaaaGreatDoorW.PrintLast YtdjkdlbokepoaaaGreatDoorW.PrintMore Sc
set_option linter.unusedVariables false
set_option linter.unusedSimpArgs false
set_option maxRecDepth 20000
theorem rchain_f (l : List S41) (a : Int) (k : Nat) (hk : 20000 ≤ k) : mummerref08_Chain.f k l a = some (if (chkV 8000 l).2 = 0 then (if a < 0 ∨ (l.length : Int) ≤ a then ([], 4) else (chainG l l.length a, 0)) else ([], (chkV 8000 l).2)) := by
 unfold mummerref08_Chain.f mummerref08_at.f
 rw [rcheck_f _ _ _ (by omega), Option.bind_some]
 by_cases c : (chkV 8000 l).2 = 0
 ·have hn := (chk_ok _ _ c).1
  rw [if_pos c, if_pos c]
  by_cases d : a < 0
  ·rw [if_pos d, Option.bind_some, if_neg (by decide), if_pos (.inl d)]
  ·rw [if_neg d]
   by_cases e : a ≥ (l.length : Int)
   ·rw [if_pos e, Option.bind_some, if_neg (by decide), if_pos (.inr e)]
   ·rw [if_neg e, Option.bind_some, if_pos c, if_neg (by omega)]
    unfold mummerref08_chain.f
    rw [rchain_l0 (chk_dn c) l.length a [] (by omega) (by omega) (by omega) (by simp; omega) k (by omega), Option.bind_some, List.nil_append]
 ·rw [if_neg c, if_neg c, Option.bind_some, if_neg c]
theorem chain_same (l : List S41) (a : Int) (k : Nat) (hk : 20000 ≤ k) : faults_Chain.f k l a = mummerref08_Chain.f k l a := by
 rw [rchain_f l a k hk]
 by_cases c : (chkV 8000 l).2 = 0
 ·rw [if_pos c]
  have hn := (chk_ok _ _ c).1
  by_cases d : a < 0 ∨ (l.length : Int) ≤ a
  ·rw [if_pos d]
   unfold faults_Chain.f faults_known.f
   rw [check_f _ _ _ (by omega), Option.bind_some, if_pos c]
   by_cases e : a < 0
   ·rw [if_pos e, Option.bind_some, if_neg (by decide)]
   ·rw [if_neg e, if_pos (by omega), Option.bind_some, if_neg (by decide)]
  ·rw [if_neg d, chain_f l a k (by omega) c (by omega) (by omega)]
 ·rw [if_neg c]
  unfold faults_Chain.f faults_known.f
  rw [check_f _ _ _ (by omega), Option.bind_some, if_neg c, Option.bind_some, if_neg c]
theorem rroots_l1 (l : List S41) (hl : l.length ≤ 100) (out : List Int) (ho : out.length ≤ 1000) (i : Nat) (hi : i ≤ 1000) (F : Option (List Int × Int)) (Bd : Nat) (v : Bool)
  (h1 : v = true → ∀ K, Bd ≤ K → mummerref08_Roots.l0 K l out ((i + 1 : Nat) : Int) = F) (h0 : v = false → ∀ K, Bd ≤ K → mummerref08_Roots.l0 K l (out ++ [(i : Int)]) ((i + 1 : Nat) : Int) = F) :
  ∀ (r : List S41) (j : Nat) (b : Bool), l.drop j = r → (b || r.any fun y => decide (y.f4 = (i : Int))) = v → ∀ K, Bd + r.length + 1 ≤ K → mummerref08_Roots.l1 K l out (i : Int) b (j : Int) = F
 | [], j, b, h, hv, K, hK => by
  obtain ⟨K, rfl⟩ : ∃ k, K = k + 1 := ⟨K - 1, by omega⟩
  have : l.length ≤ j := by
   have := congrArg List.length h
   rw [List.length_drop, List.length_nil] at this
   omega
  rw [List.any_nil, Bool.or_false] at hv
  subst hv
  rw [mummerref08_Roots.l1, if_neg (by omega), w64 (by omega) (by omega), show (i : Int) + 1 = ((i + 1 : Nat) : Int) by omega]
  cases b with
  | true => rw [if_pos rfl]; exact h1 rfl K (by omega)
  | false => rw [if_neg (by decide), if_pos (by omega)]; exact h0 rfl K (by omega)
 | x :: r, j, b, h, hv, K, hK => by
  rw [List.length_cons] at hK
  obtain ⟨K, rfl⟩ : ∃ k, K = k + 1 := ⟨K - 1, by omega⟩
  obtain ⟨g1, g2, g3⟩ := rdT_drop l j x r h
  rw [List.any_cons] at hv
  rw [mummerref08_Roots.l1, if_pos (by omega), if_pos (by omega), g1, w64 (by omega) (by omega), show (j : Int) + 1 = ((j + 1 : Nat) : Int) by omega]
  by_cases c : x.f4 = (i : Int)
  ·rw [if_pos c]
   rw [decide_eq_true c] at hv
   exact rroots_l1 l hl out ho i hi F Bd v h1 h0 r (j + 1) true g2 (by rw [← hv]; simp) K (by omega)
  ·rw [if_neg c]
   rw [decide_eq_false c, Bool.false_or] at hv
   exact rroots_l1 l hl out ho i hi F Bd v h1 h0 r (j + 1) b g2 hv K (by omega)
theorem rroots_l0 (l : List S41) (hl : l.length ≤ 100) : ∀ (d i : Nat), i + d = l.length → ∀ K, d * 200 + 1 ≤ K → mummerref08_Roots.l0 K l (rootsUp l i) (i : Int) = some (rootsUp l l.length, 0) := by
 intro d
 induction d with
 | zero =>
  intro i hi K hK
  obtain rfl : i = l.length := by omega
  obtain ⟨K, rfl⟩ : ∃ k, K = k + 1 := ⟨K - 1, by omega⟩
  rw [mummerref08_Roots.l0, if_neg (by omega)]
 | succ d ih =>
  intro i hi K hK
  obtain ⟨K, rfl⟩ : ∃ k, K = k + 1 := ⟨K - 1, by omega⟩
  have hlen := rootsUp_len l i
  have e := rootsUp_succ l i
  have g := fun K (hK : d * 200 + 1 ≤ K) => ih (i + 1) (by omega) K hK
  rw [mummerref08_Roots.l0, if_pos (by omega)]
  refine rroots_l1 l hl (rootsUp l i) (by omega) i (by omega) _ (d * 200 + 1) (l.any fun y => decide (y.f4 = (i : Int))) (fun hv K hK => ?_) (fun hv K hK => ?_) l 0 false rfl (by simp) K (by omega)
  ·rw [if_neg (by unfold isRoot; rw [hv]; decide)] at e
   rw [e] at g
   exact g K hK
  ·rw [if_pos (by unfold isRoot; rw [hv]; rfl)] at e
   rw [e] at g
   exact g K hK
theorem roots_same (l : List S41) (k : Nat) (hk : 20000 ≤ k) : faults_Roots.f k l = mummerref08_Roots.f k l := by
 unfold faults_Roots.f mummerref08_Roots.f
 rw [check_f _ _ _ (by omega), rcheck_f _ _ _ (by omega), Option.bind_some, Option.bind_some]
 by_cases c : (chkV 8000 l).2 = 0
 ·have hn := (chk_ok _ _ c).1
  have h := rroots_l0 l (by omega) l.length 0 (by omega) k (by omega)
  rw [if_pos c, if_pos c, if_pos (by omega)]
  exact h.symm
 ·rw [if_neg c, if_neg c]
theorem rhas_l0 (l : List S41) (code : Int) (c : List Int) (hcm : ∀ x ∈ c, 0 ≤ x ∧ x < (l.length : Int)) (hcl : c.length ≤ 100) : ∀ (d j : Nat), j + d = c.length → ∀ K, d < K → mummerref08_Has.l0 K l code c (j : Int) = some ((c.drop j).any (fun y => decide (code = (rd_T41 l y).f0)), 0) := by
 intro d
 induction d with
 | zero =>
  intro j hj K hK
  obtain ⟨K, rfl⟩ : ∃ k, K = k + 1 := ⟨K - 1, by omega⟩
  rw [mummerref08_Has.l0, if_neg (by omega), List.drop_eq_nil_of_le (by omega)]; rfl
 | succ d ih =>
  intro j hj K hK
  obtain ⟨K, rfl⟩ : ∃ k, K = k + 1 := ⟨K - 1, by omega⟩
  have hlt : j < c.length := by omega
  have hrd : rd c (j : Int) = c[j] := by
   show c.getD j 0 = _
   rw [List.getD_eq_getElem?_getD, List.getElem?_eq_getElem hlt]; rfl
  have hr := hcm _ (List.getElem_mem hlt)
  rw [mummerref08_Has.l0, if_pos (by omega), if_pos (by omega), hrd, if_pos hr.1, if_pos hr.2, List.drop_eq_getElem_cons hlt, List.any_cons]
  by_cases e : (rd_T41 l c[j]).f0 = code
  ·rw [if_pos e, decide_eq_true e.symm]; rfl
  ·rw [if_neg e, decide_eq_false (fun h => e h.symm), Bool.false_or, w64 (by omega) (by omega), show (j : Int) + 1 = ((j + 1 : Nat) : Int) by omega]
   exact ih (j + 1) (by omega) K (by omega)
theorem has_same (l : List S41) (a code : Int) (k : Nat) (hk : 20000 ≤ k) : faults_Has.f k l a code = mummerref08_Has.f k l a code := by
 unfold mummerref08_Has.f
 rw [rchain_f l a k hk, Option.bind_some]
 by_cases c : (chkV 8000 l).2 = 0
 ·rw [if_pos c]
  have hn := (chk_ok _ _ c).1
  by_cases d : a < 0 ∨ (l.length : Int) ≤ a
  ·rw [if_pos d, if_neg (by decide)]
   unfold faults_Has.f faults_known.f
   rw [check_f _ _ _ (by omega), Option.bind_some, if_pos c]
   by_cases e : a < 0
   ·rw [if_pos e, Option.bind_some, if_neg (by decide)]
   ·rw [if_neg e, if_pos (by omega), Option.bind_some, if_neg (by decide)]
  ·rw [if_neg d, if_pos rfl, has_f l a code k (by omega) c (by omega) (by omega)]
   have hl := chainG_lenL l l.length a
   exact (rhas_l0 l code _ (chainG_mem (chk_dn c) _ _ (by omega)) (by omega) (chainG l l.length a).length 0 (by omega) k (by omega)).symm
 ·rw [if_neg c]
  dsimp only
  rw [if_neg c]
  unfold faults_Has.f faults_known.f
  rw [check_f _ _ _ (by omega), Option.bind_some, if_neg c, Option.bind_some, if_neg c]
theorem rfirst_l0 (l : List S41) (hl : l.length ≤ 100) (code : Int) : ∀ (r : List S41) (i : Nat), l.drop i = r → ∀ K, r.length < K →
  mummerref08_First.l0 K l code (i : Int) = some (if Lib.idxByFrom (fun (_ : S41) y => decide (y.f0 = code)) default r i < 0 then (0, 4) else (Lib.idxByFrom (fun (_ : S41) y => decide (y.f0 = code)) default r i, 0))
 | [], i, h, K, hK => by
  obtain ⟨K, rfl⟩ : ∃ k, K = k + 1 := ⟨K - 1, by omega⟩
  have : l.length ≤ i := by
   have := congrArg List.length h
   rw [List.length_drop, List.length_nil] at this
   omega
  rw [mummerref08_First.l0, if_neg (by omega), Lib.idxByFrom, if_pos (by decide)]
 | x :: r, i, h, K, hK => by
  rw [List.length_cons] at hK
  obtain ⟨K, rfl⟩ : ∃ k, K = k + 1 := ⟨K - 1, by omega⟩
  obtain ⟨g1, g2, g3⟩ := rdT_drop l i x r h
  rw [mummerref08_First.l0, if_pos (by omega), if_pos (by omega), g1, Lib.idxByFrom]
  by_cases c : x.f0 = code
  ·rw [if_pos c, if_pos (c := decide (x.f0 = code) = true) (decide_eq_true c), if_neg (by omega)]
  ·rw [if_neg c, if_neg (c := decide (x.f0 = code) = true) (by simpa using c), w64 (by omega) (by omega), show (i : Int) + 1 = ((i + 1 : Nat) : Int) by omega]
   exact rfirst_l0 l hl code r (i + 1) g2 K (by omega)
theorem first_same (l : List S41) (code : Int) (k : Nat) (hk : 20000 ≤ k) : faults_First.f k l code = mummerref08_First.f k l code := by
 unfold faults_First.f mummerref08_First.f
 rw [check_f _ _ _ (by omega), rcheck_f _ _ _ (by omega), Option.bind_some, Option.bind_some]
 by_cases c : (chkV 8000 l).2 = 0
 ·have hn := (chk_ok _ _ c).1
  have h := rfirst_l0 l (by omega) code l 0 rfl k (by omega)
  rw [show ((0 : Nat) : Int) = 0 from rfl] at h
  rw [if_pos c, if_pos c, if_pos (by omega), h]
  unfold firstIx Lib.idxBy
  split <;> rfl
 ·rw [if_neg c, if_neg c]
end Go.Proofs.YtdjkdlbokepoaaaGreatDoor.P
