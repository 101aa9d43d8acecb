import Derived.Test.YtkalbdeopogbpaaGreatDoorKX22
import Derived.Test.YtkalbdeopogbpaaGreatDoorKX38
import Derived.Test.YtkalbdeopogbpaaGreatDoorKX40
namespace Go.Proofs.YtkalbdeopogbpaaGreatDoor.P
open Go.RowKit Go.Proofs.YtkalbdeopogbpaaGreatDoorW.PrintWords Go.Proofs.YtkalbdeopogbpaaGreatDoorW.PrintLast Go.Proofs.YtkalbdeopogbpaaGreatDoorW.PrintMore Go.Proofs.YtkalbdeopogbpaaGreatDoor.P.Sc
set_option linter.unusedVariables false
set_option linter.unusedSimpArgs false
set_option maxRecDepth 20000
theorem check_l0 (s : ByteArray) (hs : s.size ≤ 4611686018427387904) (he : s.size % 2 = 0) : ∀ (d j k : Nat), 1 ≤ j → j + d = s.size / 2 → d < k →
    mummerref09_Check.l0 k s ((2 * j : Nat) : Int) = some (if asc (pairAt s (j - 1)) (tailFrom s j) = true then chkEnd s else 6) := by
  intro d
  induction d with
  | zero =>
    intro j k h1 hj hk
    obtain ⟨k, rfl⟩ : ∃ m, k = m + 1 := ⟨k - 1, by omega⟩
    have : j = s.size / 2 := by omega
    subst this
    rw [tailFrom_end]
    simp only [mummerref09_Check.l0]
    have ha : asc (pairAt s (s.size / 2 - 1)) [] = true := rfl
    rw [if_neg (by omega), ha]
    simp only [if_true, chkEnd]
    by_cases hx : (s.size : Int) > 20000
    · rw [if_pos hx, if_pos hx]
    · rw [if_neg hx, if_neg hx]
  | succ d ih =>
    intro j k h1 hj hk
    obtain ⟨k, rfl⟩ : ∃ m, k = m + 1 := ⟨k - 1, by omega⟩
    have e1 : wrap64 (((2 * j : Nat) : Int) - 2) = ((2 * (j - 1) : Nat) : Int) := by rw [w64 (by omega) (by omega)]; omega
    have e2 : wrap64 (((2 * j : Nat) : Int) + 2) = ((2 * (j + 1) : Nat) : Int) := by rw [w64 (by omega) (by omega)]; omega
    simp only [mummerref09_Check.l0]
    rw [if_pos (by omega), e1, if_pos (by omega), if_pos (by omega), if_pos (by omega), if_pos (by omega), e2, if_pos (by omega), if_pos (by omega)]
    simp only [Int.toNat_natCast]
    have hl := less_pairs s (j - 1) j (by omega) (by omega)
    rw [show 2 * (j - 1) + 2 = 2 * j by omega] at hl
    rw [show 2 * (j + 1) = 2 * j + 2 by omega]
    rw [tailFrom_step s j (by omega)]
    by_cases hc : pairAt s (j - 1) < pairAt s j
    · rw [if_pos (hl.2 hc)]
      have := ih (j + 1) k (by omega) (by omega) (by omega)
      rw [show 2 * (j + 1) = 2 * j + 2 by omega] at this
      rw [this]
      simp [asc, hc]
    · rw [if_neg (fun h => hc (hl.1 h))]
      simp [asc, hc]
theorem check_f (s : ByteArray) (hs : s.size ≤ 4611686018427387904) (k : Nat) (hk : s.size / 2 < k) : mummerref09_Check.f k s = some (chk s) := by
  unfold mummerref09_Check.f chk
  by_cases he : (s.size : Int) % 2 = 0
  · rw [if_pos he, if_pos he, pairs_tail]
    by_cases h0 : s.size = 0
    · obtain ⟨k, rfl⟩ : ∃ m, k = m + 1 := ⟨k - 1, by omega⟩
      simp only [mummerref09_Check.l0]
      rw [if_neg (by omega)]
      simp [tailFrom, h0, asc]
    · have := check_l0 s hs (by omega) (s.size / 2 - 1) 1 k (by omega) (by omega) (by omega)
      simp only [Nat.mul_one, Nat.sub_self] at this
      rw [show (2 : Int) = ((2 : Nat) : Int) from rfl, this, tailFrom_step s 0 (by omega)]
      have hp := pairAt_nonneg s 0
      have : asc (-1) (pairAt s 0 :: tailFrom s (0 + 1)) = asc (pairAt s 0) (tailFrom s 1) := by simp [asc]; omega
      rw [this]
      rfl
  · rw [if_neg he, if_neg he]
theorem merge_l0 : ∀ (d k : Nat) (f b s l m : List Int), l.length + m.length = d → d < k → Asc l → Asc m → f.length + l.length < 17592186044416 → b.length + l.length < 17592186044416 → s.length + m.length < 17592186044416 →
    scopes_merge.l0 k f b s l m = some (f ++ l.filter (fun x => decide (x ∉ m)), b ++ l.filter (fun x => decide (x ∈ m)), s ++ m.filter (fun x => decide (x ∉ l)), 0) := by
  intro d
  induction d using Nat.strongRecOn with
  | _ d ih =>
  intro k f b s l m hd hk hl hm h1 h2 h3
  obtain ⟨k, rfl⟩ : ∃ q, k = q + 1 := ⟨k - 1, by omega⟩
  match l, m, hl, hm with
  | [], m, _, _ =>
    simp only [scopes_merge.l0]
    rw [if_pos (by simp), if_pos (by simpa using h3)]
    have : m.filter (fun x => decide (x ∉ ([] : List Int))) = m := List.filter_eq_self.2 (by simp)
    rw [this]
    simp
  | x :: l, [], _, _ =>
    simp only [scopes_merge.l0]
    rw [if_neg (by simp <;> omega), if_pos (by simp), if_pos (by simpa using h1)]
    have e1 : (x :: l).filter (fun z => decide (z ∉ ([] : List Int))) = x :: l := List.filter_eq_self.2 (by simp)
    have e2 : (x :: l).filter (fun z => decide (z ∈ ([] : List Int))) = [] := List.filter_eq_nil_iff.2 (by simp)
    rw [e1, e2]
    simp
  | x :: l, y :: m, hl, hm =>
    obtain ⟨hx, hl'⟩ := List.pairwise_cons.1 hl
    obtain ⟨hy, hm'⟩ := List.pairwise_cons.1 hm
    simp only [List.length_cons] at hd h1 h2 h3
    simp only [scopes_merge.l0]
    have e1 : rd (x :: l) 0 = x := rfl
    have e2 : rd (y :: m) 0 = y := rfl
    have e3 : (x :: l).drop (1 : Int).toNat = l := rfl
    have e4 : (y :: m).drop (1 : Int).toNat = m := rfl
    rw [if_neg (by simp <;> omega), if_neg (by simp <;> omega), if_pos (by simp <;> omega), if_pos (by simp <;> omega), e1, e2, e3, e4]
    by_cases c1 : x < y
    · rw [if_pos c1, if_pos (by omega), if_pos (by simp <;> omega)]
      rw [ih (l.length + (y :: m).length) (by simp <;> omega) k (f ++ [x]) b s l (y :: m) rfl (by simp <;> omega) hl' hm (by simp <;> omega) (by omega) (by simp <;> omega)]
      have hxm : x ∉ y :: m := fun h => by
        rcases List.mem_cons.1 h with rfl | h
        · omega
        · have := hy x h; omega
      have hf : (y :: m).filter (fun z => decide (z ∉ x :: l)) = (y :: m).filter (fun z => decide (z ∉ l)) := List.filter_congr fun z hz => by
        have : z ≠ x := fun e => hxm (e ▸ hz)
        simp [this]
      rw [hf, List.filter_cons_of_pos (p := fun z => decide (z ∉ y :: m)) (decide_eq_true hxm), List.filter_cons_of_neg (p := fun z => decide (z ∈ y :: m)) (fun e => hxm (of_decide_eq_true e))]
      simp
    · rw [if_neg c1]
      by_cases c2 : x > y
      · rw [if_pos c2, if_pos (by omega), if_pos (by simp <;> omega)]
        rw [ih ((x :: l).length + m.length) (by simp <;> omega) k f b (s ++ [y]) (x :: l) m rfl (by simp <;> omega) hl hm' (by simp <;> omega) (by simp <;> omega) (by simp <;> omega)]
        have hyl : y ∉ x :: l := fun h => by
          rcases List.mem_cons.1 h with rfl | h
          · omega
          · have := hx y h; omega
        have hf : ∀ z ∈ x :: l, (z ∈ y :: m ↔ z ∈ m) := fun z hz => by
          have : z ≠ y := fun e => hyl (e ▸ hz)
          simp [this]
        have hf1 : (x :: l).filter (fun z => decide (z ∉ y :: m)) = (x :: l).filter (fun z => decide (z ∉ m)) := List.filter_congr fun z hz => by simp only [hf z hz]
        have hf2 : (x :: l).filter (fun z => decide (z ∈ y :: m)) = (x :: l).filter (fun z => decide (z ∈ m)) := List.filter_congr fun z hz => by simp only [hf z hz]
        rw [hf1, hf2, List.filter_cons_of_pos (p := fun z => decide (z ∉ x :: l)) (decide_eq_true hyl)]
        simp
      · obtain rfl : x = y := by omega
        rw [if_neg c2, if_pos (by omega), if_pos (by simp <;> omega), if_pos (by simp <;> omega)]
        rw [ih (l.length + m.length) (by omega) k f (b ++ [x]) s l m rfl (by omega) hl' hm' (by omega) (by simp <;> omega) (by omega)]
        have hf1 : l.filter (fun z => decide (z ∉ x :: m)) = l.filter (fun z => decide (z ∉ m)) := List.filter_congr fun z hz => by
          have := hx z hz
          have : z ≠ x := by omega
          simp [this]
        have hf2 : l.filter (fun z => decide (z ∈ x :: m)) = l.filter (fun z => decide (z ∈ m)) := List.filter_congr fun z hz => by
          have := hx z hz
          have : z ≠ x := by omega
          simp [this]
        have hf3 : m.filter (fun z => decide (z ∉ x :: l)) = m.filter (fun z => decide (z ∉ l)) := List.filter_congr fun z hz => by
          have := hy z hz
          have : z ≠ x := by omega
          simp [this]
        rw [List.filter_cons_of_neg (p := fun z => decide (z ∉ x :: m)) (by simp), List.filter_cons_of_pos (p := fun z => decide (z ∈ x :: m)) (by simp), List.filter_cons_of_neg (p := fun z => decide (z ∉ x :: l)) (by simp), hf1, hf2, hf3]
        simp
theorem ids_l0 (s : ByteArray) (he : s.size % 2 = 0) (hb : s.size ≤ 1099511627776) : ∀ (d j k : Nat), j + d = s.size / 2 → d < k →
    mummerref09_ids.l0 k s (pairs s j) ((2 * j : Nat) : Int) = some (pairs s (s.size / 2)) := by
  intro d
  induction d with
  | zero =>
    intro j k hj hk
    obtain ⟨k, rfl⟩ : ∃ m, k = m + 1 := ⟨k - 1, by omega⟩
    simp only [mummerref09_ids.l0]
    rw [if_neg (by omega), show j = s.size / 2 by omega]
  | succ d ih =>
    intro j k hj hk
    obtain ⟨k, rfl⟩ : ∃ m, k = m + 1 := ⟨k - 1, by omega⟩
    have e1 : wrap64 (((2 * j : Nat) : Int) + 1) = ((2 * j + 1 : Nat) : Int) := by rw [w64 (by omega) (by omega)]; omega
    have e2 : wrap64 (((2 * j : Nat) : Int) + 2) = ((2 * (j + 1) : Nat) : Int) := by rw [w64 (by omega) (by omega)]; omega
    simp only [mummerref09_ids.l0, e1, e2]
    have r1 := bt_range s ((2 * j : Nat) : Int); have r2 := bt_range s ((2 * j + 1 : Nat) : Int)
    rw [if_pos (by omega), if_pos (by omega), if_pos (by omega), if_pos (by omega), if_pos (by rw [pairs_length]; omega)]
    rw [w64 (n := bt s ((2 * j : Nat) : Int)) (by omega) (by omega), w64 (n := bt s ((2 * j + 1 : Nat) : Int)) (by omega) (by omega), w64 (n := 256 * bt s ((2 * j : Nat) : Int)) (by omega) (by omega), w64 (by omega) (by omega)]
    have := ih (j + 1) k (by omega) (by omega)
    rw [pairs_succ] at this
    have e3 : 256 * bt s ((2 * j : Nat) : Int) + bt s ((2 * j + 1 : Nat) : Int) = pairAt s j := by unfold pairAt; omega
    rw [e3]; exact this
theorem ids_f (s : ByteArray) (he : s.size % 2 = 0) (hb : s.size ≤ 1099511627776) (k : Nat) (hk : s.size / 2 < k) : mummerref09_ids.f k s = some (pairs s (s.size / 2)) :=
  ids_l0 s he hb (s.size / 2) 0 k (by omega) hk
theorem of_l1 (l : List Int) (M : List Bool) (hM : M.length = 65536) (hm : ∀ i < 65536, M.getD i false = decide ((i : Int) ∈ l)) : ∀ (d j k : Nat) (L : List Int), InS L → L.length ≤ j → j + d = 65536 → d < k →
    mummerref09_Of.l1 k M (L.flatMap bsI) (j : Int) = some (setSpec (ofP (L ++ numsOf l j d))) := by
  intro d
  induction d with
  | zero =>
    intro j k L hL hLj hj hk
    obtain ⟨k, rfl⟩ : ∃ m, k = m + 1 := ⟨k - 1, by omega⟩
    simp only [mummerref09_Of.l1]
    rw [if_neg (by omega), strOfNums_flat L hL, show numsOf l j 0 = [] from rfl, List.append_nil]
    unfold mummerref09_set.f setSpec
    split <;> rfl
  | succ d ih =>
    intro j k L hL hLj hj hk
    obtain ⟨k, rfl⟩ : ∃ m, k = m + 1 := ⟨k - 1, by omega⟩
    simp only [mummerref09_Of.l1, wnext j (by omega)]
    have hlen : (L.flatMap bsI).length = 2 * L.length := by
      clear ih hL hLj
      induction L with
      | nil => rfl
      | cons x L ih => simp [List.flatMap_cons, bsI, ih]; omega
    have e : rdOf false M (j : Int) = decide ((j : Int) ∈ l) := by
      rw [← hm j (by omega)]; simp [rdOf]
    rw [if_pos (by omega), if_pos (by omega), e, numsOf_step]
    by_cases c : (j : Int) ∈ l
    · rw [if_pos (decide_eq_true c), if_pos c, Option.bind_some, if_pos (by simp only [List.length_cons, List.length_nil]; omega)]
      have := ih (j + 1) k (L ++ [(j : Int)]) (fun x hx => by
        rcases List.mem_append.1 hx with h | h
        · exact hL x h
        · rw [List.mem_singleton.1 h]; omega) (by simp; omega) (by omega) (by omega)
      rw [List.flatMap_append, List.append_assoc] at this
      exact this
    · rw [if_neg (fun h => c (of_decide_eq_true h)), if_neg c, List.nil_append]
      exact ih (j + 1) k L hL (by omega) (by omega) (by omega)
theorem of_l0 (l : List Int) (hb : l.length ≤ 1099511627776) : ∀ (d j k : Nat) (M : List Bool), markOf l M j → j + d = l.length → d + 65540 < k → (l.take j).all (fun x => decide (0 ≤ x ∧ x ≤ 65535)) = true →
    mummerref09_Of.l0 k l M (j : Int) = some (ofSpec l) := by
  intro d
  induction d with
  | zero =>
    intro j k M hM hj hk ha
    obtain ⟨k, rfl⟩ : ∃ m, k = m + 1 := ⟨k - 1, by omega⟩
    have e : l.take j = l := List.take_of_length_le (by omega)
    simp only [mummerref09_Of.l0]
    rw [e] at ha
    have := of_l1 l M hM.1 (fun i hi => by rw [hM.2 i hi, e]) 65536 0 k [] (fun x hx => by cases hx) (by simp) (by omega) (by omega)
    rw [if_neg (by omega)]
    unfold ofSpec
    rw [if_pos ha]
    exact this
  | succ d ih =>
    intro j k M hM hj hk ha
    obtain ⟨k, rfl⟩ : ∃ m, k = m + 1 := ⟨k - 1, by omega⟩
    have hjl : j < l.length := by omega
    have e : rd l (j : Int) = l[j] := by simp [rd, hjl]
    simp only [mummerref09_Of.l0, wnext j (by omega), e]
    rw [if_pos (by omega), if_pos (by omega)]
    have hal : (0 ≤ l[j] ∧ l[j] ≤ 65535) ∨ ¬ (0 ≤ l[j] ∧ l[j] ≤ 65535) := Classical.em _
    have es : mummerref09_scope.f l[j] = some (decide (0 ≤ l[j] ∧ l[j] ≤ 65535)) := by
      unfold mummerref09_scope.f
      by_cases c : l[j] ≥ 0
      · rw [if_pos c]; simp [c]
      · rw [if_neg c]; simp [c]
    rw [es, Option.bind_some]
    rcases hal with c | c
    · have hl := hM.1
      rw [if_pos (decide_eq_true c), if_pos c.1, if_pos (by omega)]
      refine ih (j + 1) k _ ⟨by simp [hM.1], fun i hi => ?_⟩ (by omega) (by omega) ?_
      · have hmem : (i : Int) ∈ l.take (j + 1) ↔ ((i : Int) ∈ l.take j ∨ (i : Int) = l[j]) := by
          rw [List.take_add_one, List.getElem?_eq_getElem hjl, List.mem_append, Option.toList_some, List.mem_singleton]
        rw [List.getD_eq_getElem?_getD, List.getElem?_set]
        have h0 := hM.2 i hi
        rw [List.getD_eq_getElem?_getD] at h0
        by_cases ei : l[j].toNat = i
        · rw [if_pos ei, if_pos (by omega)]
          have : (i : Int) = l[j] := by omega
          exact (decide_eq_true (hmem.2 (Or.inr this))).symm
        · rw [if_neg ei, h0]
          have hne : ¬ (i : Int) = l[j] := by omega
          exact decide_eq_decide.2 ⟨fun h => hmem.2 (Or.inl h), fun h => (hmem.1 h).resolve_right hne⟩
      · rw [List.take_add_one, List.getElem?_eq_getElem hjl, List.all_append, ha]
        simp [c]
    · rw [if_neg (fun h => c (of_decide_eq_true h))]
      unfold ofSpec
      rw [if_neg]
      intro h
      exact c (of_decide_eq_true (List.all_eq_true.1 h l[j] (List.getElem_mem hjl)))
theorem of_f (l : List Int) (hb : l.length ≤ 1099511627776) (k : Nat) (hk : l.length + 65540 < k) : mummerref09_Of.f k l = some (ofSpec l) := by
  unfold mummerref09_Of.f
  rw [if_pos (by decide)]
  refine of_l0 l hb l.length 0 k _ ⟨List.length_replicate, fun i hi => ?_⟩ (by omega) hk rfl
  rw [List.getD_eq_getElem?_getD, List.getElem?_replicate, if_pos hi]
  simp
theorem sIds (s : ByteArray) (h : s.size ≤ 2000000) : scopes_Ids.f s = some (Ids_p s) := by unfold scopes_Ids.f; rw [if_pos (by omega)]
theorem sOf (l : List Int) (h : l.length ≤ 1000000) : scopes_Of.f l = some (ofS l) := by unfold scopes_Of.f; rw [if_pos h]
theorem sAdd (s : ByteArray) (n : Int) (h : s.size ≤ 2000000) : scopes_Add.f s n = some (addS s n) := by unfold scopes_Add.f; rw [if_pos (by omega)]
theorem sDrop (s : ByteArray) (n : Int) (h : s.size ≤ 2000000) : scopes_Drop.f s n = some (dropS s n) := by unfold scopes_Drop.f; rw [if_pos (by omega)]
theorem sFlip (s : ByteArray) (n : Int) (h : s.size ≤ 2000000) : scopes_Flip.f s n = some (flipS s n) := by unfold scopes_Flip.f; rw [if_pos (by omega)]
theorem P_len_le (s : ByteArray) (h : s.size ≤ 2000000) : (P s).length ≤ 1000000 := by rw [P_length]; omega
/-- merge, whole. -/
def mergeS (a b : ByteArray) : List Int × List Int × List Int × Int := if chk a = 0 then (if chk b = 0 then (minusL (P a) (P b), meetL (P a) (P b), minusL (P b) (P a), 0) else ([], [], [], chk b)) else ([], [], [], chk a)
theorem filt_minus (l m : List Int) : l.filter (fun x => decide (x ∉ m)) = minusL l m := by
  unfold minusL
  congr 1
  funext x
  by_cases h : x ∈ m <;> simp [h]
theorem filt_meet (l m : List Int) : l.filter (fun x => decide (x ∈ m)) = meetL l m := by
  unfold meetL
  congr 1
  funext x
  by_cases h : x ∈ m <;> simp [h]
theorem merge_f (a b : ByteArray) (ha : a.size ≤ 2000000) (hb : b.size ≤ 2000000) (k : Nat) (hk : 5000000 < k) : scopes_merge.f k a b = some (mergeS a b) := by
  unfold scopes_merge.f mergeS
  rw [sIds a ha, Option.bind_some]
  by_cases c1 : chk a = 0
  · rw [ids_good c1, if_pos c1]
    dsimp only
    rw [if_pos rfl, sIds b hb, Option.bind_some]
    by_cases c2 : chk b = 0
    · rw [ids_good c2, if_pos c2]
      dsimp only
      rw [if_pos rfl]
      have h1 := P_len_le a ha
      have h2 := P_len_le b hb
      rw [merge_l0 _ k [] [] [] (P a) (P b) rfl (by omega) (chk_asc c1) (chk_asc c2) (by simp; omega) (by simp; omega) (by simp; omega)]
      rw [filt_minus, filt_meet, filt_minus]
      rfl
    · rw [ids_bad c2, if_neg c2]
      dsimp only
      rw [if_neg c2]
  · rw [ids_bad c1, if_neg c1]
    dsimp only
    rw [if_neg c1]
theorem sRel (a b : ByteArray) (ha : a.size ≤ 2000000) (hb : b.size ≤ 2000000) (k : Nat) (hk : 5000001 < k) : scopes_Relate.f k a b = some (relS a b) := by
  obtain ⟨k, rfl⟩ : ∃ m, k = m + 1 := ⟨k - 1, by omega⟩
  unfold scopes_Relate.f
  rw [merge_f a b ha hb (k + 1) (by omega), Option.bind_some]
  unfold mergeS relS
  by_cases c1 : chk a = 0
  · by_cases c2 : chk b = 0
    · rw [if_pos c1, if_pos c2, if_pos c1, if_pos c2]
      dsimp only
      rw [if_pos rfl]
      generalize minusL (P a) (P b) = x
      generalize minusL (P b) (P a) = y
      cases x with
      | nil =>
        rw [if_neg (by simp)]
        simp only [scopes_Relate.j0]
        cases y with
        | nil => simp
        | cons y ys =>
          have h1 : ((y :: ys).length : Int) > 0 := by rw [List.length_cons]; omega
          rw [if_neg (by decide), if_neg (by simp), if_pos h1]
          simp
      | cons x xs =>
        have h0 : ((x :: xs).length : Int) > 0 := by rw [List.length_cons]; omega
        rw [if_pos h0]
        simp only [scopes_Relate.j0]
        cases y with
        | nil =>
          rw [if_neg (by simp), if_pos h0]
          simp
        | cons y ys =>
          have h1 : ((y :: ys).length : Int) > 0 := by rw [List.length_cons]; omega
          rw [if_pos (decide_eq_true h1)]
          simp
    · rw [if_pos c1, if_neg c2, if_pos c1, if_neg c2]
      dsimp only
      rw [if_neg c2]
  · rw [if_neg c1, if_neg c1]
    dsimp only
    rw [if_neg c1]
theorem rIds (s : ByteArray) (h : s.size ≤ 2000000) (k : Nat) (hk : 2000000 < k) : mummerref09_Ids.f k s = some (Ids_p s) := by
  unfold mummerref09_Ids.f
  rw [check_f s (by omega) k (by omega), Option.bind_some]
  by_cases c : chk s = 0
  · rw [if_pos c, ids_f s (chk_even c) (by omega) k (by omega), Option.bind_some, ids_good c]
    rfl
  · rw [if_neg c, ids_bad c]
theorem g_of (l : List Int) (h : (l.all fun x => decide (0 ≤ x ∧ x < 65536)) = true) (ha : l.Pairwise (· < ·)) (hl : l.length ≤ 10000) : Good (ofP l) l := good_ofP (fun x hx => of_decide_eq_true (List.all_eq_true.1 h x hx)) ha hl
theorem ex_of : ofS [5, 258, 1, 5] = (ofP [1, 5, 258], 0) := by
  unfold ofS
  rw [if_pos (by decide), once_eq [5, 258, 1, 5] [1, 5, 258] (show List.Pairwise (· < ·) _ by decide) (by intro x; simp; omega)]
  exact setSpec_le (by rw [ofP_size]; decide)
end Go.Proofs.YtkalbdeopogbpaaGreatDoor.P
