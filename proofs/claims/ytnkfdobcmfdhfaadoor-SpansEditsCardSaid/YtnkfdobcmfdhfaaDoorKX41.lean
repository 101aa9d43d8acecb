import Derived.Test.YtnkfdobcmfdhfaaDoorKX36
import Derived.Test.YtnkfdobcmfdhfaaDoorKX40
import Derived.Lib.Bytes
import Derived.Test.YtnkfdobcmfdhfaaDoorKX30
namespace Go.Proofs.YtnkfdobcmfdhfaaDoor.P
open Go.RowKit Go.Proofs.YtnkfdobcmfdhfaaDoorW.PrintWords Go.Proofs.YtnkfdobcmfdhfaaDoorW.PrintLast Sc
set_option linter.unusedVariables false
set_option linter.unusedSimpArgs false
set_option maxRecDepth 20000
open Go.Lib in
theorem nums_size (l : List Int) : (strOfNums l).size = l.length := by
  show (strOfNums l).data.size = _
  unfold strOfNums
  simp
theorem app_toList (a b : ByteArray) : (a ++ b).toList = a.toList ++ b.toList := by
  rw [Go.Lib.toList_data, Go.Lib.toList_data, Go.Lib.toList_data]
  simp
theorem toList_len (a : ByteArray) : a.toList.length = a.size := by
  rw [Go.Lib.toList_data]
  exact Array.length_toList
theorem edit_in (X P : List UInt8) (a b p q : Nat) (h1 : a ≤ p) (h2 : p ≤ q) (h3 : q ≤ b) (h4 : b ≤ X.length) :
    ((X.take p ++ P ++ X.drop q).drop a).take (b + P.length - (q - p) - a) = (X.take p).drop a ++ P ++ (X.take b).drop q := by
  apply List.ext_getElem?
  intro i
  simp only [List.getElem?_append, List.getElem?_take, List.getElem?_drop, List.length_append, List.length_take, List.length_drop]
  repeat' split
  all_goals first | rfl | (exfalso; omega) | exact congrArg (fun k => X[k]?) (by omega) | exact congrArg (fun k => P[k]?) (by omega) | exact List.getElem?_eq_none (by omega) | exact (List.getElem?_eq_none (by omega)).symm
theorem edit_ahead (X P : List UInt8) (a b p q : Nat) (h1 : a ≤ b) (h2 : b ≤ p) (h3 : p ≤ q) (h4 : q ≤ X.length) :
    ((X.take p ++ P ++ X.drop q).drop a).take (b - a) = (X.take b).drop a := by
  apply List.ext_getElem?
  intro i
  simp only [List.getElem?_append, List.getElem?_take, List.getElem?_drop, List.length_append, List.length_take, List.length_drop]
  repeat' split
  all_goals first | rfl | (exfalso; omega) | exact congrArg (fun k => X[k]?) (by omega) | exact congrArg (fun k => P[k]?) (by omega) | exact List.getElem?_eq_none (by omega) | exact (List.getElem?_eq_none (by omega)).symm
theorem edit_behind (X P : List UInt8) (a b p q : Nat) (h1 : p ≤ q) (h2 : q ≤ a) (h3 : a ≤ b) (h4 : b ≤ X.length) :
    ((X.take p ++ P ++ X.drop q).drop (a + P.length - (q - p))).take (b - a) = (X.take b).drop a := by
  apply List.ext_getElem?
  intro i
  simp only [List.getElem?_append, List.getElem?_take, List.getElem?_drop, List.length_append, List.length_take, List.length_drop]
  repeat' split
  all_goals first | rfl | (exfalso; omega) | exact congrArg (fun k => X[k]?) (by omega) | exact congrArg (fun k => P[k]?) (by omega) | exact List.getElem?_eq_none (by omega) | exact (List.getElem?_eq_none (by omega)).symm
def checkE (n : Int) (s : S24) : Int := if s.f0 < 0 ∨ s.f0 > s.f1 then 6 else (if s.f1 > n then 7 else 0)
theorem code_checkE (n : Int) (s : S24) (F : Nat) (hF : 0 < F) : spans_Check.f F n s.f0 s.f1 = some (checkE n s) := by
  obtain ⟨F, rfl⟩ : ∃ m, F = m + 1 := ⟨F - 1, by omega⟩
  unfold spans_Check.f checkE
  by_cases c : s.f0 < 0
  · rw [if_pos c, if_pos (c := s.f0 < 0 ∨ s.f0 > s.f1) (.inl c)]; rfl
  · rw [if_neg c]
    simp only [spans_Check.j0]
    by_cases c2 : s.f0 > s.f1
    · rw [if_pos (decide_eq_true c2), if_pos (c := s.f0 < 0 ∨ s.f0 > s.f1) (.inr c2)]
    · rw [if_neg (by simpa using c2), if_neg (c := s.f0 < 0 ∨ s.f0 > s.f1) (by omega)]
      split <;> rfl
theorem checkE_ok {n : Int} {s : S24} (h0 : 0 ≤ s.f0) (h1 : s.f0 ≤ s.f1) (h2 : s.f1 ≤ n) : checkE n s = 0 := by
  unfold checkE
  rw [if_neg (by omega), if_neg (by omega)]
/-- The text behind the edit, as a list. -/
def aft (l : List Int) (P : ByteArray) (p q : Int) : ByteArray := ((strOfNums (l.take p.toNat)) ++ P) ++ (strOfNums (l.drop q.toNat))
theorem aft_toList (l : List Int) (P : ByteArray) (p q : Int) : (aft l P p q).toList = (Go.Lib.bytesOf l).take p.toNat ++ P.toList ++ (Go.Lib.bytesOf l).drop q.toNat := by
  unfold aft
  rw [app_toList, app_toList, Go.Lib.strOfNums_toList, Go.Lib.strOfNums_toList, Go.Lib.bytesOf_take, Go.Lib.bytesOf_drop]
theorem aft_size (l : List Int) (P : ByteArray) (p q : Int) (h0 : 0 ≤ p) (h1 : p ≤ q) (h2 : q ≤ (l.length : Int)) : ((aft l P p q).size : Int) = l.length + P.size - (q - p) := by
  unfold aft
  rw [ByteArray.size_append, ByteArray.size_append, nums_size, nums_size, List.length_take, List.length_drop]
  omega
theorem ext_list (x : ByteArray) (i j : Nat) : (x.extract i j).toList = (x.toList.drop i).take (j - i) := by
  rw [Go.Lib.extract_toList, Go.Lib.toList_data]
/-- The way with the old bytes. -/
theorem edits_j1a (l : List Int) (P w13 : ByteArray) (x14 x16 : Bool) (hb : x14 = true ∨ x16 = true) (a b p q u v : Int) (h0 : 0 ≤ u) (h1 : u ≤ v) (h2 : v ≤ ((aft l P p q).size : Int))
    (he : ((aft l P p q).toList.drop u.toNat).take (v.toNat - u.toNat) = w13.toList) (F : Nat) (hF : 70 < F) :
    mummerlaw03_SpansEdits.j1 F l P (aft l P p q) w13 x14 x16 false a b p q u v = some true := by
  obtain ⟨F, rfl⟩ : ∃ m, F = m + 1 := ⟨F - 1, by omega⟩
  have he' : ((aft l P p q).extract u.toNat v.toNat).toList = w13.toList := by rw [ext_list]; exact he
  simp only [mummerlaw03_SpansEdits.j1]
  rw [if_neg (by decide)]
  cases x14 with
  | true => rw [if_pos rfl, if_pos h0, if_pos h1, if_pos h2, if_pos he', awake_f F (by omega)]; rfl
  | false =>
    have hx : x16 = true := by
      rcases hb with h | h
      · cases h
      · exact h
    rw [if_neg (by decide), if_pos hx, if_pos h0, if_pos h1, if_pos h2, if_pos he', awake_f F (by omega)]; rfl
/-- The way with what was put. -/
theorem edits_j1b (l : List Int) (P w13 : ByteArray) (a b p q v : Int) (hl : l.length ≤ 100) (hP : P.size ≤ 50) (h0 : 0 ≤ a) (h1 : a ≤ p) (h2 : p ≤ q) (h3 : q ≤ b) (h4 : b ≤ (l.length : Int)) (hv : v = b + ((P.size : Int) - (q - p))) (F : Nat) (hF : 70 < F) :
    mummerlaw03_SpansEdits.j1 F l P (aft l P p q) w13 false false false a b p q a v = some true := by
  obtain ⟨F, rfl⟩ : ∃ m, F = m + 1 := ⟨F - 1, by omega⟩
  have hs := aft_size l P p q (by omega) h2 (by omega)
  simp only [mummerlaw03_SpansEdits.j1]
  rw [if_neg (by decide), if_neg (by decide), if_neg (by decide), if_pos h0, if_pos h1, if_pos (by omega), if_pos (by rw [nums_size, List.length_drop, List.length_take]; omega), if_pos (by omega), if_pos h3, if_pos h4, if_pos (by rw [ByteArray.size_append, nums_size, nums_size, List.length_drop, List.length_take, List.length_drop, List.length_take]; omega), if_pos h0, if_pos (by omega), if_pos (by omega), if_pos, awake_f F (by omega)]
  · rfl
  · rw [ext_list, aft_toList, app_toList, app_toList, Go.Lib.strOfNums_toList, Go.Lib.strOfNums_toList, Go.Lib.bytesOf_drop, Go.Lib.bytesOf_take, Go.Lib.bytesOf_drop, Go.Lib.bytesOf_take]
    have := edit_in (Go.Lib.bytesOf l) P.toList a.toNat b.toNat p.toNat q.toNat (by omega) (by omega) (by omega) (by rw [Go.Lib.bytesOf_length]; omega)
    rw [toList_len] at this
    rw [show v.toNat - a.toNat = b.toNat + P.size - (q.toNat - p.toNat) - a.toNat by omega]
    exact this
theorem edits_j0 (l : List Int) (P : ByteArray) (x : Bool) (s c : S24) (hx : x = false → l.length ≤ 100 ∧ P.size ≤ 50 ∧ checkE l.length s = 0 ∧ checkE l.length c = 0 ∧ s.f0 ≠ s.f1) (F : Nat) (hF : 100 < F) :
    mummerlaw03_SpansEdits.j0 F l P x s.f0 s.f1 c.f0 c.f1 = some true := by
  obtain ⟨F, rfl⟩ : ∃ m, F = m + 1 := ⟨F - 1, by omega⟩
  simp only [mummerlaw03_SpansEdits.j0]
  cases x with
  | true => rw [if_pos rfl, awake_f F (by omega)]; rfl
  | false =>
    obtain ⟨hl, hP, k1, k2, hne⟩ := hx rfl
    have g1 : 0 ≤ s.f0 ∧ s.f0 ≤ s.f1 ∧ s.f1 ≤ (l.length : Int) := by
      unfold checkE at k1
      split at k1
      · cases k1
      · split at k1
        · cases k1
        · omega
    have g2 : 0 ≤ c.f0 ∧ c.f0 ≤ c.f1 ∧ c.f1 ≤ (l.length : Int) := by
      unfold checkE at k2
      split at k2
      · cases k2
      · split at k2
        · cases k2
        · omega
    obtain ⟨a0, a1, a2⟩ := g1
    obtain ⟨p0, p1, p2⟩ := g2
    have os : OkS s := ⟨a0, a1, by omega⟩
    have oc : OkS c := ⟨p0, p1, by omega⟩
    have hs := aft_size l P c.f0 c.f1 p0 p1 p2
    rw [if_neg (by decide), if_neg (by omega), if_neg (by omega), if_neg (by omega), if_neg (by omega), if_neg (by omega), if_neg (by omega), if_pos p0, if_pos (by omega), if_pos (by rw [nums_size, List.length_take]; omega), if_pos (by omega), if_pos p2, if_pos (by rw [ByteArray.size_append, nums_size, nums_size, List.length_take, List.length_drop]; omega), code_shift s c _ F (by omega), Option.bind_some]
    have haft : ((strOfNums (l.take c.f0.toNat)) ++ P) ++ (strOfNums (l.drop c.f1.toNat)) = aft l P c.f0 c.f1 := rfl
    rw [haft]
    have hm : wrap64 ((P.size : Int) - wrap64 (c.f1 - c.f0)) = (P.size : Int) - (c.f1 - c.f0) := by
      rw [w64 (n := c.f1 - c.f0) (by omega) (by omega), w64 (by omega) (by omega)]
    unfold shiftS
    rw [if_pos (c := OkS s ∧ OkS c) ⟨os, oc⟩, if_neg (c := (P.size : Int) < 0 ∨ (P.size : Int) > 2305843009213693952) (by omega), hm]
    have hold : (strOfNums ((l.take s.f1.toNat).drop s.f0.toNat)).toList = ((Go.Lib.bytesOf l).take s.f1.toNat).drop s.f0.toNat := by
      rw [Go.Lib.strOfNums_toList, Go.Lib.bytesOf_drop, Go.Lib.bytesOf_take]
    have hlen : s.f1.toNat ≤ (Go.Lib.bytesOf l).length := by rw [Go.Lib.bytesOf_length]; omega
    have hlen2 : c.f1.toNat ≤ (Go.Lib.bytesOf l).length := by rw [Go.Lib.bytesOf_length]; omega
    have tail : ∀ u v : Int, checkE ((aft l P c.f0 c.f1).size : Int) ⟨u, v⟩ = 0 →
        (Be c s → mummerlaw03_SpansEdits.j1 F l P (aft l P c.f0 c.f1) (strOfNums ((l.take s.f1.toNat).drop s.f0.toNat)) true (decide (Be s c)) false s.f0 s.f1 c.f0 c.f1 u v = some true) →
        (¬ Be c s → Be s c → mummerlaw03_SpansEdits.j1 F l P (aft l P c.f0 c.f1) (strOfNums ((l.take s.f1.toNat).drop s.f0.toNat)) false true false s.f0 s.f1 c.f0 c.f1 u v = some true) →
        (¬ Be c s → ¬ Be s c → Wi c s ∧ mummerlaw03_SpansEdits.j1 F l P (aft l P c.f0 c.f1) (strOfNums ((l.take s.f1.toNat).drop s.f0.toNat)) false false false s.f0 s.f1 c.f0 c.f1 u v = some true) →
        (if (0 : Int) = 0 then (if 0 ≤ s.f0 then (if s.f0 ≤ s.f1 then (if s.f1 ≤ (l.length : Int) then ((spans_Before.f F c.f0 c.f1 s.f0 s.f1).bind fun bt393 => ((spans_Before.f F s.f0 s.f1 c.f0 c.f1).bind fun bt395 => (if bt393.2 = 0 then (if bt395.2 = 0 then ((spans_Check.f F ((aft l P c.f0 c.f1).size : Int) u v).bind fun t397 => (if t397 = 0 then (if bt393.1 = true then (mummerlaw03_SpansEdits.j1 F l P (aft l P c.f0 c.f1) (strOfNums ((l.take s.f1.toNat).drop s.f0.toNat)) bt393.1 bt395.1 false s.f0 s.f1 c.f0 c.f1 u v) else (if bt395.1 = true then (mummerlaw03_SpansEdits.j1 F l P (aft l P c.f0 c.f1) (strOfNums ((l.take s.f1.toNat).drop s.f0.toNat)) bt393.1 bt395.1 false s.f0 s.f1 c.f0 c.f1 u v) else (if c.f0 < s.f0 then (some false) else (mummerlaw03_SpansEdits.j1 F l P (aft l P c.f0 c.f1) (strOfNums ((l.take s.f1.toNat).drop s.f0.toNat)) bt393.1 bt395.1 (decide (c.f1 > s.f1)) s.f0 s.f1 c.f0 c.f1 u v)))) else (some false))) else (some false)) else (some false)))) else (none)) else (none)) else (none)) else (some false)) = some true := by
      intro u v hc t1 t2 t3
      rw [if_pos rfl, if_pos a0, if_pos a1, if_pos a2, before_ok c s oc os F (by omega), Option.bind_some, before_ok s c os oc F (by omega), Option.bind_some, if_pos rfl, if_pos rfl, code_checkE _ ⟨u, v⟩ F (by omega), Option.bind_some, if_pos hc]
      dsimp only
      by_cases b1 : Be c s
      · rw [if_pos (decide_eq_true b1), decide_eq_true b1]; exact t1 b1
      · rw [if_neg (by simpa using b1), decide_eq_false b1]
        by_cases b2 : Be s c
        · rw [if_pos (decide_eq_true b2), decide_eq_true b2]; exact t2 b1 b2
        · obtain ⟨hw, ht⟩ := t3 b1 b2
          obtain ⟨w1, w2⟩ := hw
          rw [if_neg (by simpa using b2), if_neg (by omega), decide_eq_false b2, decide_eq_false (show ¬ c.f1 > s.f1 by omega)]; exact ht
    by_cases ci : Wi c s ∧ ¬ Be c s ∧ ¬ Be s c
    · rw [if_pos ci]
      obtain ⟨hw, n1, n2⟩ := ci
      obtain ⟨w1, w2⟩ := hw
      dsimp only
      rw [w64 (n := s.f1 + _) (by omega) (by omega)]
      refine tail _ _ (checkE_ok a0 (by dsimp only; omega) (by dsimp only; omega)) (fun h => absurd h n1) (fun _ h => absurd h n2) (fun _ _ => ⟨⟨w1, w2⟩, ?_⟩)
      exact edits_j1b l P _ s.f0 s.f1 c.f0 c.f1 _ hl hP a0 w1 p1 w2 a2 rfl F (by omega)
    · rw [if_neg ci]
      by_cases cw : Wi s c
      · rw [if_pos cw]
        obtain ⟨w1, w2⟩ := cw
        dsimp only
        have h1 := mx_ge s.f0 c.f0
        have h2 := mn_le s.f1 c.f1
        rw [if_neg (by decide), if_pos (by omega)]
        by_cases d : c.f0 < s.f0
        · rw [if_pos d, if_pos rfl, awake_f F (by omega)]; rfl
        · have e1 : c.f1 > s.f1 := by
            refine Classical.byContradiction fun h => ci ⟨⟨by omega, by omega⟩, fun h => ?_, fun h => ?_⟩
            · have := h.1; omega
            · have := h.1; omega
          rw [if_neg d, if_pos rfl, if_pos e1, awake_f F (by omega)]; rfl
      · rw [if_neg cw]
        by_cases b2 : Be s c
        · rw [if_pos b2]
          have e1 := b2.1
          dsimp only
          refine tail _ _ (checkE_ok a0 a1 (by dsimp only; omega)) (fun h => ?_) (fun _ _ => ?_) (fun _ h => absurd b2 h)
          · exfalso
            have := h.1
            have := b2.2
            omega
          · refine edits_j1a l P _ false true (.inr rfl) _ _ _ _ _ _ a0 a1 (by omega) ?_ F (by omega)
            rw [hold, aft_toList]
            exact edit_ahead _ _ _ _ _ _ (by omega) (by omega) (by omega) hlen2
        · rw [if_neg b2]
          by_cases b1 : Be c s
          · rw [if_pos b1]
            have e1 := b1.1
            dsimp only
            rw [w64 (n := s.f0 + _) (by omega) (by omega), w64 (n := s.f1 + _) (by omega) (by omega)]
            refine tail _ _ (checkE_ok (by dsimp only; omega) (by dsimp only; omega) (by dsimp only; omega)) (fun _ => ?_) (fun h _ => absurd b1 h) (fun h _ => absurd b1 h)
            refine edits_j1a l P _ true _ (.inl rfl) _ _ _ _ _ _ (by omega) (by omega) (by omega) ?_ F (by omega)
            rw [hold, aft_toList]
            have := edit_behind (Go.Lib.bytesOf l) P.toList s.f0.toNat s.f1.toNat c.f0.toNat c.f1.toNat (by omega) (by omega) (by omega) hlen
            rw [toList_len] at this
            rw [show (s.f0 + ((P.size : Int) - (c.f1 - c.f0))).toNat = s.f0.toNat + P.size - (c.f1.toNat - c.f0.toNat) by omega, show (s.f1 + ((P.size : Int) - (c.f1 - c.f0))).toNat - (s.f0.toNat + P.size - (c.f1.toNat - c.f0.toNat)) = s.f1.toNat - s.f0.toNat by omega]
            exact this
          · rw [if_neg b1]
            dsimp only
            have h1 := mx_ge s.f0 c.f0
            have h2 := mn_le s.f1 c.f1
            have z1 : ¬ Wi c s := fun h => ci ⟨h, b1, b2⟩
            have e0 : s.f0 < c.f1 := by unfold Be at b1; unfold Wi at z1 cw; omega
            have e1 : c.f0 < s.f1 := by unfold Be at b2; unfold Wi at z1 cw; omega
            have e2 : c.f0 < c.f1 := by unfold Wi at z1; omega
            rw [if_neg (by decide), if_pos (by omega)]
            by_cases d : c.f0 < s.f0
            · rw [if_pos d, if_pos rfl, awake_f F (by omega)]; rfl
            · have e3 : c.f1 > s.f1 := by unfold Wi at z1; omega
              rw [if_neg d, if_pos rfl, if_pos e3, awake_f F (by omega)]; rfl
theorem law_edits (l : List Int) (P : ByteArray) (s c : S24) : ∃ k, mummerlaw03_SpansEdits.f k l P s.f0 s.f1 c.f0 c.f1 = some true := by
  refine ⟨1000, ?_⟩
  unfold mummerlaw03_SpansEdits.f
  by_cases h1 : (l.length : Int) > 100
  · rw [if_pos h1]; exact edits_j0 l P true s c (fun h => by cases h) _ (by omega)
  · rw [if_neg h1]
    by_cases h2 : (P.size : Int) > 50
    · rw [if_pos h2]; exact edits_j0 l P true s c (fun h => by cases h) _ (by omega)
    · rw [if_neg h2, code_checkE _ s _ (by omega), Option.bind_some]
      by_cases k1 : checkE l.length s = 0
      · rw [if_pos k1, code_checkE _ c _ (by omega), Option.bind_some]
        by_cases k2 : checkE l.length c = 0
        · rw [if_pos k2]
          exact edits_j0 l P _ s c (fun h => ⟨by omega, by omega, k1, k2, by simpa using h⟩) _ (by omega)
        · rw [if_neg k2]; exact edits_j0 l P true s c (fun h => by cases h) _ (by omega)
      · rw [if_neg k1]; exact edits_j0 l P true s c (fun h => by cases h) _ (by omega)
end Go.Proofs.YtnkfdobcmfdhfaaDoor.P
