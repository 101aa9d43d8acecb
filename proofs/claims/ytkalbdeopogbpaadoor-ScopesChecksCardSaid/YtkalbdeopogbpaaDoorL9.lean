/- Plain lemmas over the printed functions, for law_checks. -/
import Derived.Test.YtkalbdeopogbpaaDoorPx6
import Derived.Test.YtkalbdeopogbpaaDoorPx7
import Derived.Test.YtkalbdeopogbpaaDoorPx10
import Derived.Test.YtkalbdeopogbpaaDoorPx11
import Derived.Test.YtkalbdeopogbpaaDoorPx12
import Derived.Test.YtkalbdeopogbpaaDoorL0
import Derived.Test.YtkalbdeopogbpaaDoorL1
import Derived.Test.YtkalbdeopogbpaaDoorL2
import Derived.Test.YtkalbdeopogbpaaDoorL3
import Derived.Test.YtkalbdeopogbpaaDoorL5
namespace Go.Proofs.YtkalbdeopogbpaaDoor.P
open Go.RowKit Go.Proofs.YtkalbdeopogbpaaDoorW.PrintWords Go.Proofs.YtkalbdeopogbpaaDoorW.PrintLast Sc
set_option linter.unusedVariables false
set_option linter.unusedSimpArgs false
set_option maxRecDepth 20000
theorem of_l1 (l : List Int) (M : List Bool) (hM : M.length = 65536) (hm : ∀ i < 65536, M.getD i false = decide ((i : Int) ∈ l)) : ∀ (d j k : Nat) (L : List Int), InS L → L.length ≤ j → j + d = 65536 → d < k →
    mummerref09_Of.l1 k M (L.flatMap bsI) (j : Int) = some (setSpec (ofP (L ++ numsOf l j d))) := by
  intro d
  induction d with
  | zero =>
    intro j k L hL hLj hj hk
    obtain ⟨k, rfl⟩ : ∃ m, k = m + 1 := ⟨k - 1, by omega⟩
    simp only [mummerref09_Of.l1]
    rw [if_neg (by omega), strOfNums_flat L hL, show numsOf l j 0 = [] from rfl, List.append_nil]
    unfold mummerref09_set.f setSpec
    split <;> rfl
  | succ d ih =>
    intro j k L hL hLj hj hk
    obtain ⟨k, rfl⟩ : ∃ m, k = m + 1 := ⟨k - 1, by omega⟩
    simp only [mummerref09_Of.l1, wnext j (by omega)]
    have hlen : (L.flatMap bsI).length = 2 * L.length := by
      clear ih hL hLj
      induction L with
      | nil => rfl
      | cons x L ih => simp [List.flatMap_cons, bsI, ih]; omega
    have e : rdOf false M (j : Int) = decide ((j : Int) ∈ l) := by
      rw [← hm j (by omega)]; simp [rdOf]
    rw [if_pos (by omega), if_pos (by omega), e, numsOf_step]
    by_cases c : (j : Int) ∈ l
    · rw [if_pos (decide_eq_true c), if_pos c, Option.bind_some, if_pos (by simp only [List.length_cons, List.length_nil]; omega)]
      have := ih (j + 1) k (L ++ [(j : Int)]) (fun x hx => by
        rcases List.mem_append.1 hx with h | h
        · exact hL x h
        · rw [List.mem_singleton.1 h]; omega) (by simp; omega) (by omega) (by omega)
      rw [List.flatMap_append, List.append_assoc] at this
      exact this
    · rw [if_neg (fun h => c (of_decide_eq_true h)), if_neg c, List.nil_append]
      exact ih (j + 1) k L hL (by omega) (by omega) (by omega)
theorem of_l0 (l : List Int) (hb : l.length ≤ 1099511627776) : ∀ (d j k : Nat) (M : List Bool), markOf l M j → j + d = l.length → d + 65540 < k → (l.take j).all (fun x => decide (0 ≤ x ∧ x ≤ 65535)) = true →
    mummerref09_Of.l0 k l M (j : Int) = some (ofSpec l) := by
  intro d
  induction d with
  | zero =>
    intro j k M hM hj hk ha
    obtain ⟨k, rfl⟩ : ∃ m, k = m + 1 := ⟨k - 1, by omega⟩
    have e : l.take j = l := List.take_of_length_le (by omega)
    simp only [mummerref09_Of.l0]
    rw [e] at ha
    have := of_l1 l M hM.1 (fun i hi => by rw [hM.2 i hi, e]) 65536 0 k [] (fun x hx => by cases hx) (by simp) (by omega) (by omega)
    rw [if_neg (by omega)]
    unfold ofSpec
    rw [if_pos ha]
    exact this
  | succ d ih =>
    intro j k M hM hj hk ha
    obtain ⟨k, rfl⟩ : ∃ m, k = m + 1 := ⟨k - 1, by omega⟩
    have hjl : j < l.length := by omega
    have e : rd l (j : Int) = l[j] := by simp [rd, hjl]
    simp only [mummerref09_Of.l0, wnext j (by omega), e]
    rw [if_pos (by omega), if_pos (by omega)]
    have hal : (0 ≤ l[j] ∧ l[j] ≤ 65535) ∨ ¬ (0 ≤ l[j] ∧ l[j] ≤ 65535) := Classical.em _
    have es : mummerref09_scope.f l[j] = some (decide (0 ≤ l[j] ∧ l[j] ≤ 65535)) := by
      unfold mummerref09_scope.f
      by_cases c : l[j] ≥ 0
      · rw [if_pos c]; simp [c]
      · rw [if_neg c]; simp [c]
    rw [es, Option.bind_some]
    rcases hal with c | c
    · have hl := hM.1
      rw [if_pos (decide_eq_true c), if_pos c.1, if_pos (by omega)]
      refine ih (j + 1) k _ ⟨by simp [hM.1], fun i hi => ?_⟩ (by omega) (by omega) ?_
      · have hmem : (i : Int) ∈ l.take (j + 1) ↔ ((i : Int) ∈ l.take j ∨ (i : Int) = l[j]) := by
          rw [List.take_add_one, List.getElem?_eq_getElem hjl, List.mem_append, Option.toList_some, List.mem_singleton]
        rw [List.getD_eq_getElem?_getD, List.getElem?_set]
        have h0 := hM.2 i hi
        rw [List.getD_eq_getElem?_getD] at h0
        by_cases ei : l[j].toNat = i
        · rw [if_pos ei, if_pos (by omega)]
          have : (i : Int) = l[j] := by omega
          exact (decide_eq_true (hmem.2 (Or.inr this))).symm
        · rw [if_neg ei, h0]
          have hne : ¬ (i : Int) = l[j] := by omega
          exact decide_eq_decide.2 ⟨fun h => hmem.2 (Or.inl h), fun h => (hmem.1 h).resolve_right hne⟩
      · rw [List.take_add_one, List.getElem?_eq_getElem hjl, List.all_append, ha]
        simp [c]
    · rw [if_neg (fun h => c (of_decide_eq_true h))]
      unfold ofSpec
      rw [if_neg]
      intro h
      exact c (of_decide_eq_true (List.all_eq_true.1 h l[j] (List.getElem_mem hjl)))
theorem of_f (l : List Int) (hb : l.length ≤ 1099511627776) (k : Nat) (hk : l.length + 65540 < k) : mummerref09_Of.f k l = some (ofSpec l) := by
  unfold mummerref09_Of.f
  rw [if_pos (by decide)]
  refine of_l0 l hb l.length 0 k _ ⟨List.length_replicate, fun i hi => ?_⟩ (by omega) hk rfl
  rw [List.getD_eq_getElem?_getD, List.getElem?_replicate, if_pos hi]
  simp
theorem rIds (s : ByteArray) (h : s.size ≤ 2000000) (k : Nat) (hk : 2000000 < k) : mummerref09_Ids.f k s = some (Ids_p s) := by
  unfold mummerref09_Ids.f
  rw [check_f s (by omega) k (by omega), Option.bind_some]
  by_cases c : chk s = 0
  · rw [if_pos c, ids_f s (chk_even c) (by omega) k (by omega), Option.bind_some, ids_good c]
    rfl
  · rw [if_neg c, ids_bad c]
theorem ints_l0 (l : List Int) (h : l.length ≤ 1000000) : ∀ (d j k : Nat), j + d = l.length → d < k → mummerlaw09_ints.l0 k l l (j : Int) = some true := by
  intro d
  induction d with
  | zero =>
    intro j k hj hk
    obtain ⟨k, rfl⟩ : ∃ m, k = m + 1 := ⟨k - 1, by omega⟩
    simp only [mummerlaw09_ints.l0]
    rw [if_neg (by omega)]
  | succ d ih =>
    intro j k hj hk
    obtain ⟨k, rfl⟩ : ∃ m, k = m + 1 := ⟨k - 1, by omega⟩
    simp only [mummerlaw09_ints.l0]
    rw [if_pos (by omega), if_pos (by omega), if_pos (by omega), if_pos trivial, w64 (by omega) (by omega)]
    have := ih (j + 1) k (by omega) (by omega)
    rwa [show ((j + 1 : Nat) : Int) = (j : Int) + 1 by omega] at this
theorem ints_f (l : List Int) (h : l.length ≤ 1000000) (k : Nat) (hk : 1000000 < k) : mummerlaw09_ints.f k l l = some true := by
  unfold mummerlaw09_ints.f
  rw [if_pos rfl]
  exact ints_l0 l h l.length 0 k (by omega) (by omega)
theorem checks_j0 (a : ByteArray) (l : List Int) (b : Bool) (h : b = false → a.size ≤ 20100 ∧ l.length ≤ 10010) (k : Nat) (hk : 7000000 < k) : mummerlaw09_ScopesChecks.j0 k a l b = some true := by
  obtain ⟨k, rfl⟩ : ∃ m, k = m + 1 := ⟨k - 1, by omega⟩
  simp only [mummerlaw09_ScopesChecks.j0]
  cases b with
  | true => rw [if_pos rfl, awake_f k (by omega)]; rfl
  | false =>
    obtain ⟨h1, h2⟩ := h rfl
    rw [if_neg (by decide), sOf l (by omega), Option.bind_some, of_f l (by omega) k (by omega), Option.bind_some, sIds a (by omega), Option.bind_some, rIds a (by omega) k (by omega), Option.bind_some, sChk a (by omega), Option.bind_some, check_f a (by omega) k (by omega), Option.bind_some]
    rw [if_pos rfl, ofS_eq, if_pos rfl, if_pos rfl]
    have h3 : (Ids_p a).1.length ≤ 1000000 := by
      by_cases c : chk a = 0
      · rw [ids_good c]; exact P_len_le a (by omega)
      · rw [ids_bad c]; simp
    rw [ints_f _ h3 k (by omega), Option.bind_some, if_pos rfl, if_pos rfl, awake_f k (by omega)]
    rfl
theorem law_checks (a : ByteArray) (l : List Int) : ∃ k, mummerlaw09_ScopesChecks.f k a l = some true := by
  refine ⟨8000000, ?_⟩
  unfold mummerlaw09_ScopesChecks.f
  rw [far_f, Option.bind_some]
  cases hf : farB a with
  | true => rw [if_pos rfl]; exact checks_j0 a l true (fun h => by cases h) _ (by omega)
  | false =>
    have h1 := far_le hf
    rw [if_neg (by decide)]
    split
    · split
      · exact checks_j0 a l true (fun h => by cases h) _ (by omega)
      · exact checks_j0 a l _ (fun h => ⟨h1, by have := of_decide_eq_false h; omega⟩) _ (by omega)
    · exact checks_j0 a l _ (fun h => ⟨h1, by have := of_decide_eq_false h; omega⟩) _ (by omega)
end Go.Proofs.YtkalbdeopogbpaaDoor.P
