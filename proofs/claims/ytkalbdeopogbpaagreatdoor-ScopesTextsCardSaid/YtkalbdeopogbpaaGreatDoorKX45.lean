import Derived.Test.YtkalbdeopogbpaaGreatDoorKX38
import Derived.Test.YtkalbdeopogbpaaGreatDoorKX32
import Derived.Test.YtkalbdeopogbpaaGreatDoorKX35
import Derived.Test.YtkalbdeopogbpaaGreatDoorKX33
import Derived.Test.YtkalbdeopogbpaaGreatDoorKX34
import Derived.Test.YtkalbdeopogbpaaGreatDoorKX44
import Derived.Test.YtkalbdeopogbpaaGreatDoorKX39
import Derived.Test.YtkalbdeopogbpaaGreatDoorKX40
namespace Go.Proofs.YtkalbdeopogbpaaGreatDoor.P.Wq
open Go.RowKit Go.Proofs.YtkalbdeopogbpaaGreatDoorW.PrintWords Go.Proofs.YtkalbdeopogbpaaGreatDoorW.PrintLast
set_option linter.unusedVariables false
set_option linter.unusedSimpArgs false
set_option maxRecDepth 20000
/-- Every byte from p on is as q says. -/
def allP (q : Int → Bool) (a : ByteArray) : Nat → Nat → Bool
  | 0, _ => true
  | g + 1, p => q (bt a p) && allP q a g (p + 1)
theorem drop_cons (a : ByteArray) (p : Nat) (h : p < a.size) : a.data.toList.drop p = a[p] :: a.data.toList.drop (p + 1) := by
  have hl : p < a.data.toList.length := by rw [← Lib.size_eq]; exact h
  rw [List.drop_eq_getElem_cons hl]; rfl
theorem all_drop (q : Int → Bool) (a : ByteArray) : ∀ (g p : Nat), p + g = a.size → (a.data.toList.drop p).all (fun b => q (b.toNat : Int)) = allP q a g p
  | 0, p, h => by rw [List.drop_eq_nil_of_le (by rw [← Lib.size_eq]; omega)]; rfl
  | g + 1, p, h => by
    rw [drop_cons a p (by omega), List.all_cons, all_drop q a g (p + 1) (by omega), allP, bt_get a p (by omega)]
theorem trim_nil (cs l : List UInt8) : Wd.trimL cs (Wd.trimR cs l) = [] ↔ l.all (fun x => cs.contains x) = true := by
  have dn : ∀ m : List UInt8, m.dropWhile (fun x => cs.contains x) = [] ↔ m.all (fun x => cs.contains x) = true := by
    intro m
    induction m with
    | nil => simp
    | cons x m ih =>
      rw [List.dropWhile_cons, List.all_cons]
      cases hx : cs.contains x with
      | true => rw [if_pos rfl, ih, Bool.true_and]
      | false => rw [if_neg (by simp)]; simp
  have hd : ∀ m : List UInt8, (m.dropWhile (fun x => cs.contains x)).all (fun x => cs.contains x) = true → m.dropWhile (fun x => cs.contains x) = [] := by
    intro m
    induction m with
    | nil => simp
    | cons x m ih =>
      rw [List.dropWhile_cons]
      cases hx : cs.contains x with
      | true => rw [if_pos rfl]; exact ih
      | false => rw [if_neg (by simp), List.all_cons, hx]; simp
  unfold Wd.trimL Wd.trimR
  rw [dn, List.all_reverse]
  constructor
  · intro h
    have h2 := (dn _).1 (hd _ h)
    rwa [List.all_reverse] at h2
  · intro h
    have h2 : l.reverse.all (fun x => cs.contains x) = true := by rwa [List.all_reverse]
    rw [(dn _).2 h2]; rfl
def isD (c : Int) : Bool := decide (48 ≤ c ∧ c ≤ 57)
def csD : List UInt8 := [48, 49, 50, 51, 52, 53, 54, 55, 56, 57]
theorem csD_all : (List.range 256).all (fun n => csD.contains (UInt8.ofNat n) == isD n) = true := by decide +kernel
theorem csD_f (b : UInt8) : csD.contains b = isD (b.toNat : Int) := by
  have := beq_iff_eq.1 (List.all_eq_true.1 csD_all b.toNat (List.mem_range.2 (UInt8.toNat_lt b)))
  rwa [UInt8.ofNat_toNat] at this
theorem trim_D (s : ByteArray) (hs : s.size ≤ 1000000) : ∃ t, strings_Trim.f s (⟨#[48, 49, 50, 51, 52, 53, 54, 55, 56, 57]⟩ : ByteArray) = some t ∧ (t.toList = [] ↔ s.data.toList.all (fun b => isD (b.toNat : Int)) = true) := by
  unfold strings_Trim.f
  rw [if_pos ⟨by omega, by decide, by decide, by decide⟩]
  refine ⟨_, rfl, ?_⟩
  rw [Lib.toList_data]
  have := trim_nil csD s.data.toList
  simp only [csD_f] at this
  exact this
theorem digit_f (c : Int) : mummerref01_digit.f c = some (isD c) := by
  unfold mummerref01_digit.f isD
  split
  · congr 1; exact decide_eq_decide.2 (by omega)
  · rw [decide_eq_false (by omega)]
/-- Whether a text is a decimal form. -/
def decP (a : ByteArray) : Nat := if 0 < a.size ∧ bt a 0 = 45 then 1 else 0
def decS (a : ByteArray) : Bool := decide (decP a < a.size) && allP isD a (a.size - decP a) (decP a) && decide (bt a (decP a) ≠ 48 ∨ a.size = 1)
theorem hasP (a : ByteArray) : Lib.trimPrefix a.data.toList (⟨#[45]⟩ : ByteArray).data.toList = a.data.toList.drop (decP a) := by
  unfold Lib.trimPrefix
  by_cases h : 0 < a.size
  · have hc := drop_cons a 0 h
    rw [List.drop_zero] at hc
    have hb := bt_get a 0 h
    simp only [Int.natCast_zero] at hb
    by_cases h45 : bt a 0 = 45
    · have hp : decP a = 1 := if_pos ⟨h, h45⟩
      have h0 : a[0] = 45 := by
        have : (a[0]).toNat = 45 := by rw [h45] at hb; exact_mod_cast hb
        exact UInt8.toNat_inj.1 this
      rw [hp, hc, h0, if_pos (by simp [Lib.hasPrefix])]; rfl
    · have hp : decP a = 0 := if_neg (fun h => h45 h.2)
      rw [hp, List.drop_zero, if_neg ?_]
      rw [hc]
      have h0 : a[0] ≠ 45 := by intro e; rw [e] at hb; exact h45 hb.symm
      intro hq
      have : ((45 : UInt8) == a[0]) = true := by simpa [Lib.hasPrefix] using hq
      exact h0 (beq_iff_eq.1 this).symm
  · have hp : decP a = 0 := if_neg (fun hh => h hh.1)
    have : a.data.toList = [] := List.length_eq_zero_iff.1 (by rw [← Lib.size_eq]; omega)
    rw [hp, List.drop_zero, this]; rfl
theorem bt_mk_drop (a : ByteArray) (p : Nat) : (⟨(a.data.toList.drop p).toArray⟩ : ByteArray) = a.extract p a.size := by
  have h := Lib.extract_mk a.data.toList p a.size
  rw [Lib.mk_data] at h
  rw [h, List.take_of_length_le]
  rw [List.length_drop, ← Lib.size_eq]; omega
theorem wDec_f (a : ByteArray) (hs : a.size ≤ 1000000) : words_isDecimal.f a = some (decS a) := by
  unfold words_isDecimal.f strings_TrimPrefix.f decS
  rw [hasP, bt_mk_drop]
  simp only [Option.bind_some]
  have hz : (a.extract (decP a) a.size).size = a.size - decP a := by rw [ByteArray.size_extract]; omega
  have hb : bt (a.extract (decP a) a.size) 0 = bt a ((decP a : Nat) : Int) := bt_tail a (decP a) 0
  by_cases h0 : decP a < a.size
  · rw [if_neg (fun h => by have := (toList_nil _).1 h; omega), decide_eq_true h0, Bool.true_and]
    obtain ⟨t, ht, hi⟩ := trim_D (a.extract (decP a) a.size) (by omega)
    rw [ht]
    simp only [Option.bind_some]
    have hd := all_drop isD (a.extract (decP a) a.size) (a.size - decP a) 0 (by omega)
    rw [List.drop_zero] at hd
    have hshift : ∀ g p, allP isD (a.extract (decP a) a.size) g p = allP isD a g (decP a + p) := by
      intro g
      induction g with
      | zero => intro p; rfl
      | succ g ih => intro p; rw [allP, allP, bt_tail, ih (p + 1)]; rfl
    rw [hd, hshift, Nat.add_zero] at hi
    by_cases hall : allP isD a (a.size - decP a) (decP a) = true
    · rw [if_pos (hi.2 hall), if_pos (by omega), hb, hall, Bool.true_and]
      by_cases h48 : bt a ((decP a : Nat) : Int) = 48
      · rw [if_pos h48]
        refine congrArg some ?_
        rw [decide_eq_decide.2 (show (bt a ((decP a : Nat) : Int) ≠ 48 ∨ a.size = 1) ↔ a.size = 1 from ⟨fun h => h.elim (fun h => absurd h48 h) id, .inr⟩)]
        by_cases h1 : a.size = 1
        · have hp0 : decP a = 0 := by omega
          rw [hp0] at h48
          have h00 : a.data.toList = [48] := by
            have hc := drop_cons a 0 (by omega)
            rw [List.drop_zero, List.drop_eq_nil_of_le (by rw [← Lib.size_eq]; omega)] at hc
            rw [hc]
            have hg := bt_get a 0 (by omega)
            simp only [Int.natCast_zero] at hg h48
            rw [h48] at hg
            have : (a[0]).toNat = 48 := by exact_mod_cast hg
            rw [UInt8.toNat_inj.1 (show (a[0]).toNat = (48 : UInt8).toNat from this)]
          rw [Lib.toList_data, h00, decide_eq_true h1]; rfl
        · rw [decide_eq_false h1]
          have : a.toList ≠ [48] := by
            rw [Lib.toList_data]; intro e
            have := congrArg List.length e
            rw [← Lib.size_eq] at this
            exact h1 this
          simpa using this
      · rw [if_neg h48, decide_eq_true (show bt a ((decP a : Nat) : Int) ≠ 48 ∨ a.size = 1 from .inl h48)]
    · rw [if_neg (fun h => hall (hi.1 h))]
      have : allP isD a (a.size - decP a) (decP a) = false := by simpa using hall
      rw [this]; rfl
  · rw [if_pos ((toList_nil _).2 (by omega)), decide_eq_false h0]; rfl
theorem rDec_l (a : ByteArray) (hs : a.size ≤ 1000000) : ∀ (g p k : Nat), p + g = a.size → g < k → mummerref01_decimal.l0 k a (p : Int) = some (allP isD a g p) := by
  intro g
  induction g with
  | zero =>
    intro p k hp hk
    obtain ⟨k, rfl⟩ : ∃ k', k = k' + 1 := ⟨k - 1, by omega⟩
    rw [mummerref01_decimal.l0, if_neg (by omega), allP]
  | succ g ih =>
    intro p k hp hk
    obtain ⟨k, rfl⟩ : ∃ k', k = k' + 1 := ⟨k - 1, by omega⟩
    have w1 : wrap64 ((p : Int) + 1) = ((p + 1 : Nat) : Int) := by rw [w64 (by omega) (by omega)]; omega
    rw [mummerref01_decimal.l0, if_pos (by omega), if_pos (by omega), digit_f, w1, ih (p + 1) k (by omega) (by omega), allP]
    simp only [Option.bind_some]
    cases isD (bt a p) <;> rfl
theorem rDec_j1 (a : ByteArray) (hs : a.size ≤ 1000000) (k : Nat) (hk : a.size + 3 ≤ k) : mummerref01_decimal.j1 k a = some (decide (1 ≤ a.size) && allP isD a a.size 0 && decide (bt a 0 ≠ 48 ∨ a.size = 1)) := by
  obtain ⟨k, rfl⟩ : ∃ k', k = k' + 2 := ⟨k - 2, by omega⟩
  rw [mummerref01_decimal.j1]
  by_cases h0 : a.size = 0
  · rw [if_pos (by omega), decide_eq_false (by omega)]; rfl
  · rw [if_neg (by omega), decide_eq_true (by omega), Bool.true_and]
    have hl := rDec_l a hs a.size 0 k (by omega) (by omega)
    by_cases h1 : (a.size : Int) > 1
    · rw [if_pos h1, if_pos (by omega), mummerref01_decimal.j2]
      by_cases h48 : bt a 0 = 48
      · rw [if_pos (by rw [h48]; rfl), decide_eq_false (show ¬ (bt a 0 ≠ 48 ∨ a.size = 1) by omega), Bool.and_false]
      · rw [if_neg (by simpa using h48), show mummerref01_decimal.l0 k a 0 = _ from hl, decide_eq_true (show bt a 0 ≠ 48 ∨ a.size = 1 from .inl h48), Bool.and_true]
    · rw [if_neg h1, mummerref01_decimal.j2, if_neg (by decide), show mummerref01_decimal.l0 k a 0 = _ from hl, decide_eq_true (show bt a 0 ≠ 48 ∨ a.size = 1 by omega), Bool.and_true]
theorem rDec_f (a : ByteArray) (hs : a.size ≤ 1000000) (k : Nat) (hk : a.size + 4 ≤ k) : mummerref01_decimal.f k a = some (decS a) := by
  obtain ⟨k, rfl⟩ : ∃ k', k = k' + 1 := ⟨k - 1, by omega⟩
  unfold mummerref01_decimal.f decS decP
  have noSign : bt a 0 = 45 → 0 < a.size → allP isD a a.size 0 = false := by
    intro h h0
    obtain ⟨n, hn⟩ : ∃ n, a.size = n + 1 := ⟨a.size - 1, by omega⟩
    rw [hn, allP, show ((0 : Nat) : Int) = 0 from rfl, h]; rfl
  by_cases h1 : (a.size : Int) > 1
  · rw [if_pos h1, if_pos (by omega)]
    by_cases h45 : bt a 0 = 45
    · rw [if_pos h45, if_pos (by omega), if_pos ⟨by omega, h45⟩]
      have hz : (a.extract 1 a.size).size = a.size - 1 := by rw [ByteArray.size_extract]; omega
      rw [mummerref01_decimal.j0]
      by_cases h48 : bt a 1 = 48
      · rw [if_neg (by rw [h48]; decide), rDec_j1 a hs k (by omega), noSign h45 (by omega), Bool.and_false, Bool.false_and]
        rw [decide_eq_false (show ¬ (bt a ((1 : Nat) : Int) ≠ 48 ∨ a.size = 1) from fun h => h.elim (fun h => h h48) (fun h => by omega)), Bool.and_false]
      · rw [if_pos (bne_iff_ne.2 h48), if_pos (by omega), rDec_j1 _ (by omega) k (by omega)]
        have hb : bt (a.extract 1 a.size) 0 = bt a 1 := bt_tail a 1 0
        have hshift : ∀ g p, allP isD (a.extract 1 a.size) g p = allP isD a g (1 + p) := by
          intro g
          induction g with
          | zero => intro p; rfl
          | succ g ih => intro p; rw [allP, allP, bt_tail, ih (p + 1)]; rfl
        rw [hz, hb, hshift, decide_eq_true (show 1 ≤ a.size - 1 by omega), decide_eq_true (show 1 < a.size by omega), decide_eq_true (show bt a 1 ≠ 48 ∨ a.size - 1 = 1 from .inl h48)]
        rw [decide_eq_true (show bt a ((1 : Nat) : Int) ≠ 48 ∨ a.size = 1 from .inl h48)]
    · rw [if_neg h45, if_neg (fun h => h45 h.2), mummerref01_decimal.j0, if_neg (by decide), rDec_j1 a hs k (by omega)]
      rw [Nat.sub_zero]; rfl
  · rw [if_neg h1, mummerref01_decimal.j0, if_neg (by decide), rDec_j1 a hs k (by omega)]
    by_cases h45 : 0 < a.size ∧ bt a 0 = 45
    · rw [if_pos h45, noSign h45.2 h45.1, Bool.and_false, Bool.false_and, decide_eq_false (show ¬ 1 < a.size by omega)]; rfl
    · rw [if_neg h45, Nat.sub_zero]; rfl
/-- The value of the digits from p on, behind acc. -/
def vl (a : ByteArray) : Nat → Nat → Int → Int
  | 0, _, acc => acc
  | g + 1, p, acc => vl a g (p + 1) (acc * 10 + (bt a p - 48))
theorem vl_ge (a : ByteArray) : ∀ (g p : Nat) (acc : Int), 0 ≤ acc → allP isD a g p = true → acc ≤ vl a g p acc
  | 0, _, _, _, _ => Int.le_refl _
  | g + 1, p, acc, h, hd => by
    rw [allP, Bool.and_eq_true] at hd
    have hq : 48 ≤ bt a p ∧ bt a p ≤ 57 := of_decide_eq_true hd.1
    have := vl_ge a g (p + 1) (acc * 10 + (bt a p - 48)) (by omega) hd.2
    rw [vl]; omega
theorem parse_vl (a : ByteArray) : ∀ (g p acc : Nat), p + g = a.size → allP isD a g p = true → acc ≤ 18446744073709551615 →
    Lib.parseUintM 18446744073709551615 acc (a.data.toList.drop p) = if vl a g p acc ≤ 18446744073709551615 then .ok (vl a g p acc).toNat else .range := by
  intro g
  induction g with
  | zero =>
    intro p acc hp hd hacc
    rw [List.drop_eq_nil_of_le (by rw [← Lib.size_eq]; omega), vl, if_pos (by omega), Int.toNat_natCast]; rfl
  | succ g ih =>
    intro p acc hp hd hacc
    have hd' := hd
    rw [allP, Bool.and_eq_true] at hd'
    have hq : 48 ≤ bt a p ∧ bt a p ≤ 57 := of_decide_eq_true hd'.1
    have hb := bt_get a p (by omega)
    have hge := vl_ge a g (p + 1) ((acc : Int) * 10 + (bt a p - 48)) (by omega) hd'.2
    rw [drop_cons a p (by omega), Lib.parseUintM, if_pos (by omega), vl]
    by_cases h1 : 1844674407370955162 ≤ acc
    · rw [if_pos h1, if_neg (by omega)]
    · rw [if_neg h1]
      by_cases h2 : 18446744073709551615 < acc * 10 + ((a[p]'(by omega)).toNat - 48)
      · rw [if_pos h2, if_neg (by omega)]
      · rw [if_neg h2, ih (p + 1) _ (by omega) hd'.2 (by omega)]
        rw [show ((acc * 10 + ((a[p]'(by omega)).toNat - 48) : Nat) : Int) = (acc : Int) * 10 + (bt a p - 48) by rw [← hb]; omega]
/-- words.Int at a decimal form. -/
def intS (a : ByteArray) (lo hi : Int) : Int × Int :=
  if decS a = false then (0, 6) else
    if decP a = 1 then (if 9223372036854775808 < vl a (a.size - 1) 1 0 then (0, 7) else if -(vl a (a.size - 1) 1 0) < lo ∨ hi < -(vl a (a.size - 1) 1 0) then (0, 7) else (-(vl a (a.size - 1) 1 0), 0))
    else (if 9223372036854775807 < vl a a.size 0 0 then (0, 7) else if vl a a.size 0 0 < lo ∨ hi < vl a a.size 0 0 then (0, 7) else (vl a a.size 0 0, 0))
theorem pib (l : List UInt8) (c : UInt8) (r : List UInt8) (hl : l = c :: r) (d : List UInt8) (hd : (if c.toNat = 43 ∨ c.toNat = 45 then r else l) = d) (hne : d ≠ []) (x : Lib.NumEnd Nat) (hx : Lib.parseUintM 18446744073709551615 0 d = x) :
    (∀ u, x = .ok u → Lib.parseIntB 64 l = if ¬ c.toNat = 45 ∧ 9223372036854775808 ≤ u then .range else if c.toNat = 45 ∧ 9223372036854775808 < u then .range else .ok (if c.toNat = 45 then -(u : Int) else u)) ∧ (x = .range → Lib.parseIntB 64 l = .range) := by
  subst hl
  have hu : Lib.parseUintB 64 (if c.toNat = 43 ∨ c.toNat = 45 then r else c :: r) = x := by
    rw [hd]; unfold Lib.parseUintB; rw [if_neg hne]; exact hx
  constructor
  · rintro u rfl
    unfold Lib.parseIntB
    simp only [hu]
    try rfl
  · rintro rfl
    unfold Lib.parseIntB
    simp only [hu]
theorem parseInt_f (a : ByteArray) (hd : decS a = true) : Lib.parseIntB 64 a.data.toList =
    if decP a = 1 then (if 9223372036854775808 < vl a (a.size - 1) 1 0 then .range else .ok (-(vl a (a.size - 1) 1 0))) else (if 9223372036854775807 < vl a a.size 0 0 then .range else .ok (vl a a.size 0 0)) := by
  unfold decS at hd
  rw [Bool.and_eq_true, Bool.and_eq_true] at hd
  obtain ⟨⟨h1, h2⟩, _⟩ := hd
  have h1 := of_decide_eq_true h1
  have h0s : 0 < a.size := by omega
  have hc := drop_cons a 0 h0s
  rw [List.drop_zero] at hc
  have hb := bt_get a 0 h0s
  simp only [Int.natCast_zero] at hb
  by_cases hp : decP a = 1
  · rw [hp] at h1 h2
    have h45 : bt a 0 = 45 := by unfold decP at hp; split at hp; rename_i h; exact h.2; cases hp
    have hv := vl_ge a (a.size - 1) 1 0 (by omega) h2
    have hne : a.data.toList.drop (0 + 1) ≠ [] := by
      intro e; have := congrArg List.length e; rw [List.length_drop, ← Lib.size_eq] at this; simp at this; omega
    have hpar := parse_vl a (a.size - 1) 1 0 (by omega) h2 (by omega)
    have e45 : (a[0]'h0s).toNat = 45 := by rw [h45] at hb; exact_mod_cast hb
    obtain ⟨q1, q2⟩ := pib a.data.toList _ _ hc (a.data.toList.drop (0 + 1)) (if_pos (.inr e45)) hne _ hpar
    rw [if_pos hp]
    by_cases hle : vl a (a.size - 1) 1 0 ≤ 18446744073709551615
    · have := q1 _ (if_pos hle)
      rw [this, if_neg (show ¬ (¬ (a[0]'h0s).toNat = 45 ∧ 9223372036854775808 ≤ (vl a (a.size - 1) 1 ((0 : Nat) : Int)).toNat) from fun h => h.1 e45)]
      by_cases h63 : 9223372036854775808 < vl a (a.size - 1) 1 0
      · rw [if_pos (show (a[0]'h0s).toNat = 45 ∧ 9223372036854775808 < (vl a (a.size - 1) 1 ((0 : Nat) : Int)).toNat from ⟨e45, by simp only [Int.natCast_zero]; omega⟩), if_pos h63]
      · rw [if_neg (show ¬ ((a[0]'h0s).toNat = 45 ∧ 9223372036854775808 < (vl a (a.size - 1) 1 ((0 : Nat) : Int)).toNat) from fun h => h63 (by have := h.2; simp only [Int.natCast_zero] at this; omega)), if_neg h63, if_pos e45, Int.toNat_of_nonneg (by simp only [Int.natCast_zero]; exact hv)]
        rfl
    · rw [q2 (if_neg hle), if_pos (show 9223372036854775808 < vl a (a.size - 1) 1 0 by omega)]
  · have hp0 : decP a = 0 := by unfold decP at hp ⊢; split at hp; exact absurd rfl hp; rename_i h; rw [if_neg h]
    rw [hp0] at h1 h2
    rw [Nat.sub_zero] at h2
    have h2' := h2
    obtain ⟨n, hn⟩ : ∃ n, a.size = n + 1 := ⟨a.size - 1, by omega⟩
    rw [hn, allP, Bool.and_eq_true] at h2'
    have hq : 48 ≤ bt a 0 ∧ bt a 0 ≤ 57 := of_decide_eq_true h2'.1
    have hv := vl_ge a a.size 0 0 (by omega) h2
    have hpar := parse_vl a a.size 0 0 (by omega) h2 (by omega)
    rw [List.drop_zero] at hpar
    have e1 : ¬ ((a[0]'h0s).toNat = 43 ∨ (a[0]'h0s).toNat = 45) := by omega
    have e2 : ¬ (a[0]'h0s).toNat = 45 := by omega
    obtain ⟨q1, q2⟩ := pib a.data.toList _ _ hc a.data.toList (if_neg e1) (by rw [hc]; exact List.cons_ne_nil _ _) _ hpar
    rw [if_neg hp]
    by_cases hle : vl a a.size 0 0 ≤ 18446744073709551615
    · have := q1 _ (if_pos hle)
      rw [this]
      by_cases h63 : 9223372036854775807 < vl a a.size 0 0
      · rw [if_pos (show ¬ (a[0]'h0s).toNat = 45 ∧ 9223372036854775808 ≤ (vl a a.size 0 ((0 : Nat) : Int)).toNat from ⟨e2, by simp only [Int.natCast_zero]; omega⟩), if_pos h63]
      · rw [if_neg (show ¬ (¬ (a[0]'h0s).toNat = 45 ∧ 9223372036854775808 ≤ (vl a a.size 0 ((0 : Nat) : Int)).toNat) from fun h => h63 (by have := h.2; simp only [Int.natCast_zero] at this; omega)), if_neg (show ¬ ((a[0]'h0s).toNat = 45 ∧ 9223372036854775808 < (vl a a.size 0 ((0 : Nat) : Int)).toNat) from fun h => e2 h.1), if_neg h63, if_neg e2, Int.toNat_of_nonneg (by simp only [Int.natCast_zero]; exact hv)]
        rfl
    · rw [q2 (if_neg hle), if_pos (show 9223372036854775807 < vl a a.size 0 0 by omega)]
theorem rInt_j1 (lo hi n : Int) (m b : Bool) (k : Nat) (hk : 1 ≤ k) : mummerref01_Int.j1 k lo hi m n b = if b = true then some (0, 7) else (if m = true then (if n < lo ∨ hi < n then some (0, 7) else some (n, 0)) else (if wrap64 (-n) < lo ∨ hi < wrap64 (-n) then some (0, 7) else some (wrap64 (-n), 0))) := by
  obtain ⟨k, rfl⟩ : ∃ k', k = k' + 1 := ⟨k - 1, by omega⟩
  rw [mummerref01_Int.j1]
  split
  · rfl
  · split
    · by_cases h1 : n < lo
      · rw [if_pos h1, if_pos (.inl h1)]
      · rw [if_neg h1]
        by_cases h2 : n > hi
        · rw [if_pos h2, if_pos (.inr h2)]
        · rw [if_neg h2, if_neg (by omega)]
    · by_cases h1 : wrap64 (-n) < lo
      · rw [if_pos h1, if_pos (.inl h1)]
      · rw [if_neg h1]
        by_cases h2 : wrap64 (-n) > hi
        · rw [if_pos h2, if_pos (.inr h2)]
        · rw [if_neg h2, if_neg (by omega)]
theorem tdiv_neg10 (x : Int) (h : 0 ≤ x) : Int.tdiv (-x) 10 = -(x / 10) := by rw [Int.neg_tdiv, Int.tdiv_eq_ediv_of_nonneg h]
theorem rInt_l (a : ByteArray) (hs : a.size ≤ 1000000) (lo hi : Int) (m : Bool) : ∀ (g p k : Nat) (V : Int), p + g = a.size → allP isD a g p = true → g + 2 ≤ k → 0 ≤ V → V ≤ 9223372036854775808 →
    mummerref01_Int.l0 k a lo hi m (-V) (p : Int) = if 9223372036854775808 < vl a g p V then some (0, 7) else mummerref01_Int.j1 (k - g - 1) lo hi m (-(vl a g p V)) (if m = true then false else decide (vl a g p V = 9223372036854775808)) := by
  intro g
  induction g with
  | zero =>
    intro p k V hp hd hk h0 h1
    obtain ⟨k, rfl⟩ : ∃ k', k = k' + 1 := ⟨k - 1, by omega⟩
    rw [mummerref01_Int.l0, if_neg (show ¬ (p : Int) < (a.size : Int) by omega), vl, if_neg (show ¬ 9223372036854775808 < V by omega)]
    cases m with
    | true => rfl
    | false =>
      simp only [Bool.false_eq_true, if_false]
      rw [show k + 1 - 0 - 1 = k by omega]
      refine congrArg _ ?_
      by_cases h : V = 9223372036854775808
      · subst h; rfl
      · rw [decide_eq_false h, beq_eq_false_iff_ne]; omega
  | succ g ih =>
    intro p k V hp hd hk h0 h1
    obtain ⟨k, rfl⟩ : ∃ k', k = k' + 1 := ⟨k - 1, by omega⟩
    have hd' := hd
    rw [allP, Bool.and_eq_true] at hd'
    have hq : 48 ≤ bt a p ∧ bt a p ≤ 57 := of_decide_eq_true hd'.1
    have w1 : wrap64 ((p : Int) + 1) = ((p + 1 : Nat) : Int) := by rw [w64 (by omega) (by omega)]; omega
    have hge := vl_ge a g (p + 1) (V * 10 + (bt a p - 48)) (by omega) hd'.2
    have hdv : wrap64 (Int.tdiv (-9223372036854775808 + (bt a p - 48) % 256) 10) = -((9223372036854775808 - (bt a p - 48)) / 10) := by
      rw [show (bt a p - 48) % 256 = bt a p - 48 by omega, show -9223372036854775808 + (bt a p - 48) = -(9223372036854775808 - (bt a p - 48)) by omega, tdiv_neg10 _ (by omega), w64 (by omega) (by omega)]
    rw [mummerref01_Int.l0, if_pos (show (p : Int) < (a.size : Int) by omega), if_pos (show (0 : Int) ≤ (p : Int) by omega), if_neg (show ¬ bt a (p : Int) = 45 by omega), hdv, vl]
    by_cases hov : 9223372036854775808 < V * 10 + (bt a p - 48)
    · rw [if_pos (show -V < -((9223372036854775808 - (bt a p - 48)) / 10) by omega), if_pos (show 9223372036854775808 < vl a g (p + 1) (V * 10 + (bt a p - 48)) by omega)]
    · rw [if_neg (show ¬ -V < -((9223372036854775808 - (bt a p - 48)) / 10) by omega)]
      have e : wrap64 (wrap64 (10 * -V) - (bt a p - 48) % 256) = -(V * 10 + (bt a p - 48)) := by
        rw [show (bt a p - 48) % 256 = bt a p - 48 by omega, w64 (n := 10 * -V) (by omega) (by omega), w64 (by omega) (by omega)]; omega
      rw [e, w1, ih (p + 1) k _ (by omega) hd'.2 (by omega) (by omega) (by omega)]
      rw [show k + 1 - (g + 1) - 1 = k - g - 1 by omega]
theorem rInt_f (a : ByteArray) (lo hi : Int) (hs : a.size ≤ 1000000) (k : Nat) (hk : a.size + 10 ≤ k) : mummerref01_Int.f k a lo hi = some (intS a lo hi) := by
  unfold mummerref01_Int.f intS
  rw [rDec_f a hs k (by omega)]
  simp only [Option.bind_some]
  cases hd : decS a with
  | false => rfl
  | true =>
    simp only [if_true, Bool.true_eq_false, if_false]
    have hd' := hd
    unfold decS at hd'
    rw [Bool.and_eq_true, Bool.and_eq_true] at hd'
    obtain ⟨⟨h1, h2⟩, _⟩ := hd'
    have h1 := of_decide_eq_true h1
    rw [if_pos (show (0 : Int) < (a.size : Int) by omega)]
    by_cases hp : decP a = 1
    · rw [hp] at h1 h2
      have h45 : bt a 0 = 45 := by unfold decP at hp; split at hp; rename_i h; exact h.2; cases hp
      have hv := vl_ge a (a.size - 1) 1 0 (by omega) h2
      rw [if_pos hp, h45, show ((45 : Int) == 45) = true from rfl]
      obtain ⟨k, rfl⟩ : ∃ k', k = k' + 1 := ⟨k - 1, by omega⟩
      rw [mummerref01_Int.l0, if_pos (by omega), if_pos (by omega), if_pos h45, show wrap64 (0 + 1) = ((1 : Nat) : Int) from w64 (by omega) (by omega), show (0 : Int) = -0 from rfl, rInt_l a hs lo hi true (a.size - 1) 1 k 0 (by omega) h2 (by omega) (by omega) (by omega)]
      simp only [Int.neg_zero]
      by_cases h63 : 9223372036854775808 < vl a (a.size - 1) 1 0
      · rw [if_pos h63, if_pos h63]
      · rw [if_neg h63, if_neg h63, rInt_j1 _ _ _ _ _ _ (by omega)]
        simp only [if_true, Bool.false_eq_true, if_false]
        split <;> rfl
    · have hp0 : decP a = 0 := by unfold decP at hp ⊢; split at hp; exact absurd rfl hp; rename_i h; rw [if_neg h]
      rw [hp0, Nat.sub_zero] at h2
      rw [hp0] at h1
      have hv := vl_ge a a.size 0 0 (by omega) h2
      have h45 : bt a 0 ≠ 45 := by unfold decP at hp0; split at hp0; cases hp0; rename_i h; exact fun e => h ⟨h1, e⟩
      rw [if_neg hp, beq_eq_false_iff_ne.2 h45, show (0 : Int) = -0 from rfl]
      have hl := rInt_l a hs lo hi false a.size 0 k 0 (by omega) h2 (by omega) (by omega) (by omega)
      simp only [Int.neg_zero, Int.natCast_zero] at hl ⊢
      rw [hl]
      by_cases h63 : 9223372036854775808 < vl a a.size 0 0
      · rw [if_pos h63, if_pos (by omega)]
      · rw [if_neg h63, rInt_j1 _ _ _ _ _ _ (by omega)]
        simp only [Bool.false_eq_true, if_false]
        by_cases he : vl a a.size 0 0 = 9223372036854775808
        · rw [if_pos (decide_eq_true he), if_pos (show 9223372036854775807 < vl a a.size 0 0 by omega)]
        · rw [if_neg (show ¬ decide (vl a a.size 0 0 = 9223372036854775808) = true by rw [decide_eq_false he]; exact Bool.false_ne_true), if_neg (show ¬ 9223372036854775807 < vl a a.size 0 0 by omega), Int.neg_neg, w64 (by omega) (by omega)]
          split <;> rfl
theorem dec_step (m : Nat) (h : ¬ m < 10) : Lib.decDigits m = Lib.decDigits (m / 10) ++ [UInt8.ofNat (48 + m % 10)] := by rw [Lib.decDigits, dif_neg h]
theorem nd_step (m : Nat) (h : ¬ m < 10) : Lib.nDigits m = Lib.nDigits (m / 10) + 1 := by rw [Lib.nDigits, dif_neg h]
theorem mk_app (x y : List UInt8) : (⟨x.toArray⟩ : ByteArray) ++ (⟨y.toArray⟩ : ByteArray) = ⟨(x ++ y).toArray⟩ := by
  apply ByteArray.ext
  simp
theorem nd_le (m : Nat) : Lib.nDigits m ≤ m + 1 := by
  induction m using Nat.strongRecOn with
  | _ m ih =>
    by_cases h : m < 10
    · rw [Lib.nDigits, dif_pos h]; omega
    · rw [nd_step m h]; have := ih (m / 10) (by omega); omega
theorem rDig_pos : ∀ (m : Nat), m ≤ 9223372036854775807 → ∀ (k : Nat), 3 * Lib.nDigits m ≤ k → mummerref01_Digits.f k (m : Int) = some ⟨(Lib.decDigits m).toArray⟩ := by
  intro m
  induction m using Nat.strongRecOn with
  | _ m ih =>
    intro hm k hk
    by_cases h : m < 10
    · rw [Lib.nDigits, dif_pos h] at hk
      obtain ⟨k, rfl⟩ : ∃ k', k = k' + 2 := ⟨k - 2, by omega⟩
      rw [mummerref01_Digits.f, if_neg (by omega), mummerref01_Digits.j0, decide_eq_false (by omega), if_neg (by decide), if_neg (by omega), w64 (by omega) (by omega), show (48 + (m : Int)) % 256 = 48 + m by omega, Lib.decDigits, dif_pos h]
      unfold strOfNums
      simp only [List.map_cons, List.map_nil]
      rw [show (48 + (m : Int)).toNat = 48 + m by omega]
    · rw [nd_step m h] at hk
      obtain ⟨k, rfl⟩ : ∃ k', k = k' + 3 := ⟨k - 3, by omega⟩
      have hlen : (Lib.decDigits (m / 10)).length ≤ m / 10 + 1 := by rw [Lib.decDigits_length]; exact nd_le _
      have ht : Int.tmod (m : Int) 10 = ((m % 10 : Nat) : Int) := by rw [Int.tmod_eq_emod_of_nonneg (by omega)]; omega
      have hq : wrap64 (Int.tdiv (m : Int) 10) = ((m / 10 : Nat) : Int) := by rw [Int.tdiv_eq_ediv_of_nonneg (by omega), w64 (by omega) (by omega)]; omega
      rw [mummerref01_Digits.f, if_pos (by omega), mummerref01_Digits.j0, if_pos rfl, ht, if_neg (by omega), mummerref01_Digits.j1, hq, ih (m / 10) (by omega) (by omega) k (by omega)]
      simp only [Option.bind_some]
      rw [str_size, Lib.size_mk, w64 (by omega) (by omega), show (48 + ((m % 10 : Nat) : Int)) % 256 = ((48 + m % 10 : Nat) : Int) by omega, if_pos (by simp; omega), dec_step m h]
      unfold strOfNums
      simp only [List.map_cons, List.map_nil, Int.toNat_natCast]
      rw [mk_app]
theorem rDig_neg : ∀ (m : Nat), 1 ≤ m → m ≤ 9223372036854775808 → ∀ (k : Nat), 3 * Lib.nDigits m + 6 ≤ k → mummerref01_Digits.f k (-(m : Int)) = some ⟨(45 :: Lib.decDigits m).toArray⟩ := by
  intro m
  induction m using Nat.strongRecOn with
  | _ m ih =>
    intro h1 hm k hk
    by_cases h : m < 10
    · obtain ⟨k, rfl⟩ : ∃ k', k = k' + 2 := ⟨k - 2, by omega⟩
      rw [mummerref01_Digits.f, if_neg (by omega), mummerref01_Digits.j0, decide_eq_false (by omega), if_neg (by decide), if_pos (by omega), Int.neg_neg, w64 (by omega) (by omega), rDig_pos m (by omega) k (by omega)]
      simp only [Option.bind_some]
      rw [Lib.size_mk, Lib.decDigits_length, if_pos (by have := nd_le m; omega)]
      rw [show (⟨#[45]⟩ : ByteArray) = ⟨([45] : List UInt8).toArray⟩ from rfl, mk_app]; rfl
    · rw [nd_step m h] at hk
      obtain ⟨k, rfl⟩ : ∃ k', k = k' + 3 := ⟨k - 3, by omega⟩
      have hlen : (Lib.decDigits (m / 10)).length ≤ m / 10 + 1 := by rw [Lib.decDigits_length]; exact nd_le _
      have ht : Int.tmod (-(m : Int)) 10 = -((m % 10 : Nat) : Int) := by rw [Int.neg_tmod, Int.tmod_eq_emod_of_nonneg (by omega)]; omega
      have hq : wrap64 (Int.tdiv (-(m : Int)) 10) = -((m / 10 : Nat) : Int) := by rw [tdiv_neg10 _ (by omega), w64 (by omega) (by omega)]; omega
      have hj : mummerref01_Digits.j0 (k + 2) (-(m : Int)) true = mummerref01_Digits.j1 (k + 1) (-(m : Int)) ((m % 10 : Nat) : Int) := by
        rw [mummerref01_Digits.j0, if_pos rfl, ht]
        by_cases h0 : -((m % 10 : Nat) : Int) < 0
        · rw [if_pos h0, Int.neg_neg, w64 (by omega) (by omega)]
        · rw [if_neg h0]; congr 1; omega
      rw [mummerref01_Digits.f, if_neg (by omega), decide_eq_true (by omega), hj, mummerref01_Digits.j1, hq, ih (m / 10) (by omega) (by omega) (by omega) k (by omega)]
      simp only [Option.bind_some]
      rw [str_size, Lib.size_mk, w64 (by omega) (by omega), show (48 + ((m % 10 : Nat) : Int)) % 256 = ((48 + m % 10 : Nat) : Int) by omega, if_pos (by simp; omega), dec_step m h]
      unfold strOfNums
      simp only [List.map_cons, List.map_nil, Int.toNat_natCast]
      rw [mk_app]; rfl
theorem rDig_f (n : Int) (h0 : -9223372036854775808 ≤ n) (h1 : n ≤ 9223372036854775807) (k : Nat) (hk : 3 * Lib.nDigits n.natAbs + 6 ≤ k) : mummerref01_Digits.f k n = some ⟨(Lib.itoa n).toArray⟩ := by
  unfold Lib.itoa
  by_cases hn : n < 0
  · rw [if_pos hn]
    have := rDig_neg n.natAbs (by omega) (by omega) k hk
    rwa [show -((n.natAbs : Nat) : Int) = n by omega] at this
  · rw [if_neg hn]
    have := rDig_pos n.toNat (by omega) k (by rw [show n.toNat = n.natAbs by omega]; omega)
    rwa [show ((n.toNat : Nat) : Int) = n by omega] at this
end Go.Proofs.YtkalbdeopogbpaaGreatDoor.P.Wq
