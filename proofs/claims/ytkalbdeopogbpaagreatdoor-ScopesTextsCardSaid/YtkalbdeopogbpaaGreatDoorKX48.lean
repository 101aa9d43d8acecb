import Derived.Test.YtkalbdeopogbpaaGreatDoorKX38
import Derived.Test.YtkalbdeopogbpaaGreatDoorKX32
import Derived.Test.YtkalbdeopogbpaaGreatDoorKX35
import Derived.Test.YtkalbdeopogbpaaGreatDoorKX33
import Derived.Test.YtkalbdeopogbpaaGreatDoorKX34
import Derived.Test.YtkalbdeopogbpaaGreatDoorKX47
namespace Go.Proofs.YtkalbdeopogbpaaGreatDoor.P.Wq
open Go.RowKit Go.Proofs.YtkalbdeopogbpaaGreatDoorW.PrintWords Go.Proofs.YtkalbdeopogbpaaGreatDoorW.PrintLast
set_option linter.unusedVariables false
set_option linter.unusedSimpArgs false
set_option maxRecDepth 20000
def tlC (c : UInt8) : List (List UInt8) → List UInt8
  | [] => []
  | x :: xs => c :: x ++ tlC c xs
def jnC (c : UInt8) : List (List UInt8) → List UInt8
  | [] => []
  | x :: xs => x ++ tlC c xs
theorem tlC_jn (c : UInt8) {xs : List (List UInt8)} (h : xs ≠ []) : tlC c xs = c :: jnC c xs := by
  cases xs with
  | nil => exact absurd rfl h
  | cons x xs => rfl
theorem spA_nil (c : UInt8) (l acc : List UInt8) : spA c acc l ≠ [] := by
  intro h
  have := (spA_length c l acc).2
  rw [h] at this
  exact absurd this (by decide)
theorem spA_join (c : UInt8) : ∀ (l acc : List UInt8), jnC c (spA c acc l) = acc ++ l := by
  intro l
  induction l with
  | nil => intro acc; rw [spA, jnC, tlC]
  | cons b l ih =>
    intro acc
    rw [spA]
    split
    · rename_i h
      rw [jnC, tlC_jn c (spA_nil c l []), ih [], h]; rfl
    · rw [ih, List.append_assoc]; rfl
theorem join_spA (c : UInt8) : ∀ (xs : List (List UInt8)), xs ≠ [] → (∀ x ∈ xs, c ∉ x) → spA c [] (jnC c xs) = xs := by
  intro xs
  induction xs with
  | nil => intro h _; exact absurd rfl h
  | cons x xs ih =>
    intro _ hx
    have h0 := hx x (by simp)
    rw [jnC]
    by_cases he : xs = []
    · subst he
      have := spA_miss c x [] h0
      rw [List.nil_append] at this
      rw [tlC, List.append_nil, this]
    · have := spA_hit c x [] (jnC c xs) h0
      rw [List.nil_append] at this
      rw [tlC_jn c he, this, ih he (fun y hy => hx y (by simp [hy]))]
theorem first_in (c : UInt8) : ∀ (y : List UInt8), c ∈ y → ∃ u v, y = u ++ c :: v ∧ c ∉ u := by
  intro y
  induction y with
  | nil => intro h; cases h
  | cons b y ih =>
    intro h
    by_cases hb : c = b
    · exact ⟨[], y, by rw [hb]; rfl, by simp⟩
    · obtain ⟨u, v, h1, h2⟩ := ih ((List.mem_cons.1 h).resolve_left hb)
      exact ⟨b :: u, v, by rw [h1]; rfl, by simp [hb, h2]⟩
def nv (l : List UInt8) : Nat := (fv 0 l).toNat
theorem nv_dd (n : Nat) : nv (Lib.decDigits n) = n := by unfold nv; rw [fv_dd]; rfl
theorem dd45 (n : Nat) : (45 : UInt8) ∉ Lib.decDigits n := dd_not n 45 (by decide)
theorem dd44 (n : Nat) : (44 : UInt8) ∉ Lib.decDigits n := dd_not n 44 (by decide)
theorem spA_in (c : UInt8) (x y : List UInt8) (h : c ∉ x) : spA c [] (x ++ c :: y) = x :: spA c [] y := by
  have := spA_hit c x [] y h
  rwa [List.nil_append] at this
theorem spA_no (c : UInt8) (x : List UInt8) (h : c ∉ x) : spA c [] x = [x] := by
  have := spA_miss c x [] h
  rwa [List.nil_append] at this
/-- The numbers at the ends of a run. -/
def runOf (r : List UInt8) : Option (Nat × Nat) := match spA 45 [] r with
  | [x] => if decS (mkB x) = true then some (nv x, nv x) else none
  | [x, y] => if decS (mkB x) = true ∧ decS (mkB y) = true ∧ nv x < nv y then some (nv x, nv y) else none
  | _ => none
def segL (p : Nat × Nat) : List UInt8 := if p.1 = p.2 then Lib.decDigits p.1 else Lib.decDigits p.1 ++ 45 :: Lib.decDigits p.2
theorem segL_44 (p : Nat × Nat) : (44 : UInt8) ∉ segL p := by
  unfold segL
  split
  · exact dd44 _
  · intro h
    rcases List.mem_append.1 h with h | h
    · exact dd44 _ h
    · rcases List.mem_cons.1 h with h | h
      · exact absurd h (by decide)
      · exact dd44 _ h
theorem segL_len (p : Nat × Nat) : 1 ≤ (segL p).length := by
  have := List.length_pos_iff.2 (dd_ne p.1)
  unfold segL
  split
  · omega
  · rw [List.length_append]; omega
theorem runOf_iff (r : List UInt8) (p : Nat × Nat) : runOf r = some p ↔ r = segL p ∧ p.1 ≤ p.2 := by
  constructor
  · intro h
    unfold runOf at h
    split at h
    · rename_i x hx
      split at h
      · rename_i hd
        have hn := spA_not 45 r [] (by simp) x (by rw [hx]; simp)
        obtain ⟨n, hn'⟩ := (decS_iff x hn).1 hd
        have hr : r = x := by
          have := spA_join 45 r []
          rw [hx] at this
          simpa [jnC, tlC] using this.symm
        cases h
        subst hr
        refine ⟨?_, Nat.le_refl _⟩
        unfold segL
        rw [if_pos rfl]
        show r = Lib.decDigits (nv r)
        rw [hn', nv_dd]
      · cases h
    · rename_i x y hx
      split at h
      · rename_i hd
        obtain ⟨h1, h2, h3⟩ := hd
        have hnx := spA_not 45 r [] (by simp) x (by rw [hx]; simp)
        have hny := spA_not 45 r [] (by simp) y (by rw [hx]; simp)
        obtain ⟨n, hn'⟩ := (decS_iff x hnx).1 h1
        obtain ⟨m, hm'⟩ := (decS_iff y hny).1 h2
        have hr : r = x ++ 45 :: y := by
          have := spA_join 45 r []
          rw [hx] at this
          simpa [jnC, tlC] using this.symm
        cases h
        refine ⟨?_, Nat.le_of_lt h3⟩
        unfold segL
        rw [if_neg (show ¬ nv x = nv y by omega), hr]
        show x ++ 45 :: y = Lib.decDigits (nv x) ++ 45 :: Lib.decDigits (nv y)
        rw [hn', hm', nv_dd, nv_dd]
      · cases h
    · cases h
  · rintro ⟨rfl, h2⟩
    unfold runOf segL
    by_cases h : p.1 = p.2
    · rw [if_pos h, spA_no 45 _ (dd45 _)]
      show (if decS (mkB (Lib.decDigits p.1)) = true then some (nv (Lib.decDigits p.1), nv (Lib.decDigits p.1)) else none) = some p
      rw [if_pos (dd_good _).1, nv_dd]
      exact congrArg some (Prod.ext rfl h)
    · rw [if_neg h, spA_in 45 _ _ (dd45 _), spA_no 45 _ (dd45 _)]
      show (if decS (mkB (Lib.decDigits p.1)) = true ∧ decS (mkB (Lib.decDigits p.2)) = true ∧ nv (Lib.decDigits p.1) < nv (Lib.decDigits p.2) then some (nv (Lib.decDigits p.1), nv (Lib.decDigits p.2)) else none) = some p
      rw [nv_dd, nv_dd, if_pos ⟨(dd_good _).1, (dd_good _).1, by omega⟩]
theorem decS_no45 (y : List UInt8) (h : decS (mkB y) = true) (h0 : ¬ bt (mkB y) 0 = 45) : (45 : UInt8) ∉ y := by
  have hp : decP (mkB y) = 0 := by
    unfold decP
    rw [if_neg (fun e => h0 e.2)]
  unfold decS at h
  rw [hp, Nat.sub_zero, Bool.and_eq_true, Bool.and_eq_true, all_iff, mkB_data] at h
  intro hm
  have := h.1.2 45 hm
  revert this; decide
theorem no45_bt (y : List UInt8) (hne : y ≠ []) (h : (45 : UInt8) ∉ y) : ¬ bt (mkB y) 0 = 45 := by
  cases y with
  | nil => exact absurd rfl hne
  | cons c y =>
    rw [bt_zero]
    intro e
    exact h (List.mem_cons.2 (.inl (UInt8.toNat_inj.1 (show (45 : UInt8).toNat = c.toNat by exact_mod_cast e.symm))))
theorem decS_ne {y : List UInt8} (h : decS (mkB y) = true) : y ≠ [] := by
  rintro rfl
  exact absurd h (by decide)
/-- A run as strings.Cut cuts it. -/
theorem runOf_cut (x y : List UInt8) (b : Bool) (r : List UInt8) (h45 : 45 ∉ x) (h1 : b = false → r = x ∧ y = []) (h2 : b = true → r = x ++ 45 :: y) :
    runOf r = if decS (mkB x) = true ∧ decS (mkB (if b then y else x)) = true ∧ ¬ bt (mkB (if b then y else x)) 0 = 45 ∧ (b = true → nv x < nv y) then some (nv x, nv (if b then y else x)) else none := by
  cases b with
  | false =>
    obtain ⟨rfl, rfl⟩ := h1 rfl
    unfold runOf
    rw [spA_no 45 _ h45]
    simp only [Bool.false_eq_true, if_false]
    by_cases hd : decS (mkB r) = true
    · rw [if_pos hd, if_pos ⟨hd, hd, no45_bt _ (decS_ne hd) h45, fun h => by cases h⟩]
    · rw [if_neg hd, if_neg (fun h => hd h.1)]
  | true =>
    have hr := h2 rfl
    subst hr
    unfold runOf
    rw [spA_in 45 _ _ h45]
    simp only [if_true, true_imp_iff]
    by_cases hm : (45 : UInt8) ∈ y
    · have hf : ¬ (decS (mkB x) = true ∧ decS (mkB y) = true ∧ ¬ bt (mkB y) 0 = 45 ∧ nv x < nv y) := fun h => decS_no45 y h.2.1 h.2.2.1 hm
      rw [if_neg hf]
      obtain ⟨u, v, rfl, hu⟩ := first_in 45 y hm
      rw [spA_in 45 _ _ hu]
      obtain ⟨w, ws, hw, _⟩ := spA_head 45 v []
      rw [hw]
    · rw [spA_no 45 _ hm]
      show (if decS (mkB x) = true ∧ decS (mkB y) = true ∧ nv x < nv y then some (nv x, nv y) else none) = _
      by_cases hd : decS (mkB y) = true
      · have := no45_bt _ (decS_ne hd) hm
        simp only [this, not_false_eq_true, true_and]
      · simp only [hd, Bool.false_eq_true, false_and, and_false]
def okBy (o : Option Nat) (x : Nat) : Bool := match o with
  | none => true
  | some q => decide (q + 1 < x)
def chk : Option Nat → List (List UInt8) → Option (List (Nat × Nat))
  | _, [] => some []
  | o, r :: rs => match runOf r with
    | none => none
    | some p => if okBy o p.1 = true then (chk (some p.2) rs).map (fun l => p :: l) else none
def goodP : Option Nat → List (Nat × Nat) → Prop
  | _, [] => True
  | o, p :: ps => p.1 ≤ p.2 ∧ okBy o p.1 = true ∧ goodP (some p.2) ps
theorem chk_iff : ∀ (rs : List (List UInt8)) (o : Option Nat) (ps : List (Nat × Nat)), chk o rs = some ps ↔ rs = ps.map segL ∧ goodP o ps := by
  intro rs
  induction rs with
  | nil =>
    intro o ps
    rw [chk]
    cases ps with
    | nil => simp [goodP]
    | cons p ps => simp
  | cons r rs ih =>
    intro o ps
    rw [chk]
    cases hr : runOf r with
    | none =>
      simp only
      constructor
      · intro h; cases h
      · rintro ⟨h1, h2⟩
        cases ps with
        | nil => cases h1
        | cons p ps =>
          rw [List.map_cons] at h1
          injection h1 with e1 e2
          have := (runOf_iff r p).2 ⟨e1, h2.1⟩
          rw [hr] at this; cases this
    | some p =>
      simp only
      obtain ⟨hr1, hr2⟩ := (runOf_iff r p).1 hr
      by_cases ho : okBy o p.1 = true
      · rw [if_pos ho, Option.map_eq_some_iff]
        constructor
        · rintro ⟨l, hl, rfl⟩
          obtain ⟨h1, h2⟩ := (ih _ _).1 hl
          exact ⟨by rw [List.map_cons, ← h1, ← hr1], hr2, ho, h2⟩
        · rintro ⟨h1, h2⟩
          cases ps with
          | nil => cases h1
          | cons q ps =>
            rw [List.map_cons] at h1
            injection h1 with e1 e2
            have := (runOf_iff r q).2 ⟨e1, h2.1⟩
            rw [hr] at this
            cases this
            exact ⟨ps, (ih _ _).2 ⟨e2, h2.2.2⟩, rfl⟩
      · rw [if_neg ho]
        constructor
        · intro h; cases h
        · rintro ⟨h1, h2⟩
          cases ps with
          | nil => cases h1
          | cons q ps =>
            rw [List.map_cons] at h1
            injection h1 with e1 e2
            have := (runOf_iff r q).2 ⟨e1, h2.1⟩
            rw [hr] at this
            cases this
            exact absurd h2.2.1 ho
def rangeL (x n : Nat) : List Int := (List.range n).map (fun i => ((x + i : Nat) : Int))
theorem rangeL_zero (x : Nat) : rangeL x 0 = [] := rfl
theorem rangeL_succ (x n : Nat) : rangeL x (n + 1) = (x : Int) :: rangeL (x + 1) n := by
  unfold rangeL
  rw [List.range_succ_eq_map, List.map_cons, List.map_map]
  congr 1
  exact List.map_congr_left (fun i _ => by show ((x + (i + 1) : Nat) : Int) = ((x + 1 + i : Nat) : Int); omega)
theorem rangeL_len (x n : Nat) : (rangeL x n).length = n := by unfold rangeL; simp
def expand : List (Nat × Nat) → List Int → List Int × Int
  | [], acc => (acc, 0)
  | p :: ps, acc => if 500 < acc.length + (p.2 - p.1 + 1) then ([], 3) else expand ps (acc ++ rangeL p.1 (p.2 - p.1 + 1))
def lastN (ps : List (Nat × Nat)) : Nat := match ps.getLast? with
  | none => 0
  | some p => p.2
def parseS (a : ByteArray) : List Int × Int := if a.data.toList = [45] then ([], 0) else match chk none (spA 44 [] a.data.toList) with
  | none => ([], 6)
  | some ps => if 1000000000 < lastN ps then ([], 7) else expand ps []
theorem good_last : ∀ (ps : List (Nat × Nat)) (o : Option Nat), goodP o ps → ∀ p ∈ ps, p.1 ≤ p.2 ∧ p.2 ≤ lastN ps := by
  intro ps
  induction ps with
  | nil => intro o _ p hp; cases hp
  | cons q ps ih =>
    intro o h p hp
    cases ps with
    | nil =>
      rcases List.mem_cons.1 hp with e | e
      · subst e; exact ⟨h.1, Nat.le_refl _⟩
      · cases e
    | cons q' ps =>
      have hl : lastN (q :: q' :: ps) = lastN (q' :: ps) := by unfold lastN; rw [List.getLast?_cons_cons]
      rw [hl]
      rcases List.mem_cons.1 hp with e | e
      · subst e
        have h2 := ih _ h.2.2 q' (by simp)
        have h3 : decide (p.2 + 1 < q'.1) = true := h.2.2.2.1
        have := of_decide_eq_true h3
        exact ⟨h.1, by omega⟩
      · exact ih _ h.2.2 p e
end Go.Proofs.YtkalbdeopogbpaaGreatDoor.P.Wq
