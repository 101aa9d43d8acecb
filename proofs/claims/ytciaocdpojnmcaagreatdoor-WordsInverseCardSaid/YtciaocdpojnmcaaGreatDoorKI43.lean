import Derived.Test.YtciaocdpojnmcaaGreatDoorKI38
import Derived.Test.YtciaocdpojnmcaaGreatDoorKI34
import Derived.Test.YtciaocdpojnmcaaGreatDoorKI35
namespace Go.Proofs.YtciaocdpojnmcaaGreatDoor.P
open Go.RowKit Go.Proofs.YtciaocdpojnmcaaGreatDoorW.PrintWords Go.Proofs.YtciaocdpojnmcaaGreatDoorW.PrintLast
set_option linter.unusedVariables false
set_option linter.unusedSimpArgs false
set_option maxRecDepth 20000
/-- Every byte from p on is as q says. -/
def allP (q : Int → Bool) (a : ByteArray) : Nat → Nat → Bool
  | 0, _ => true
  | g + 1, p => q (bt a p) && allP q a g (p + 1)
theorem drop_cons (a : ByteArray) (p : Nat) (h : p < a.size) : a.data.toList.drop p = a[p] :: a.data.toList.drop (p + 1) := by
  have hl : p < a.data.toList.length := by rw [← Lib.size_eq]; exact h
  rw [List.drop_eq_getElem_cons hl]; rfl
theorem all_drop (q : Int → Bool) (a : ByteArray) : ∀ (g p : Nat), p + g = a.size → (a.data.toList.drop p).all (fun b => q (b.toNat : Int)) = allP q a g p
  | 0, p, h => by rw [List.drop_eq_nil_of_le (by rw [← Lib.size_eq]; omega)]; rfl
  | g + 1, p, h => by
    rw [drop_cons a p (by omega), List.all_cons, all_drop q a g (p + 1) (by omega), allP, bt_get a p (by omega)]
theorem trim_nil (cs l : List UInt8) : Wd.trimL cs (Wd.trimR cs l) = [] ↔ l.all (fun x => cs.contains x) = true := by
  have dn : ∀ m : List UInt8, m.dropWhile (fun x => cs.contains x) = [] ↔ m.all (fun x => cs.contains x) = true := by
    intro m
    induction m with
    | nil => simp
    | cons x m ih =>
      rw [List.dropWhile_cons, List.all_cons]
      cases hx : cs.contains x with
      | true => rw [if_pos rfl, ih, Bool.true_and]
      | false => rw [if_neg (by simp)]; simp
  have hd : ∀ m : List UInt8, (m.dropWhile (fun x => cs.contains x)).all (fun x => cs.contains x) = true → m.dropWhile (fun x => cs.contains x) = [] := by
    intro m
    induction m with
    | nil => simp
    | cons x m ih =>
      rw [List.dropWhile_cons]
      cases hx : cs.contains x with
      | true => rw [if_pos rfl]; exact ih
      | false => rw [if_neg (by simp), List.all_cons, hx]; simp
  unfold Wd.trimL Wd.trimR
  rw [dn, List.all_reverse]
  constructor
  · intro h
    have h2 := (dn _).1 (hd _ h)
    rwa [List.all_reverse] at h2
  · intro h
    have h2 : l.reverse.all (fun x => cs.contains x) = true := by rwa [List.all_reverse]
    rw [(dn _).2 h2]; rfl
def isD (c : Int) : Bool := decide (48 ≤ c ∧ c ≤ 57)
def csD : List UInt8 := [48, 49, 50, 51, 52, 53, 54, 55, 56, 57]
theorem csD_all : (List.range 256).all (fun n => csD.contains (UInt8.ofNat n) == isD n) = true := by decide +kernel
theorem csD_f (b : UInt8) : csD.contains b = isD (b.toNat : Int) := by
  have := beq_iff_eq.1 (List.all_eq_true.1 csD_all b.toNat (List.mem_range.2 (UInt8.toNat_lt b)))
  rwa [UInt8.ofNat_toNat] at this
theorem trim_D (s : ByteArray) (hs : s.size ≤ 1000000) : ∃ t, strings_Trim.f s (⟨#[48, 49, 50, 51, 52, 53, 54, 55, 56, 57]⟩ : ByteArray) = some t ∧ (t.toList = [] ↔ s.data.toList.all (fun b => isD (b.toNat : Int)) = true) := by
  unfold strings_Trim.f
  rw [if_pos ⟨by omega, by decide, by decide, by decide⟩]
  refine ⟨_, rfl, ?_⟩
  rw [Lib.toList_data]
  have := trim_nil csD s.data.toList
  simp only [csD_f] at this
  exact this
/-- Whether a text is a decimal form. -/
def decP (a : ByteArray) : Nat := if 0 < a.size ∧ bt a 0 = 45 then 1 else 0
def decS (a : ByteArray) : Bool := decide (decP a < a.size) && allP isD a (a.size - decP a) (decP a) && decide (bt a (decP a) ≠ 48 ∨ a.size = 1)
theorem hasP (a : ByteArray) : Lib.trimPrefix a.data.toList (⟨#[45]⟩ : ByteArray).data.toList = a.data.toList.drop (decP a) := by
  unfold Lib.trimPrefix
  by_cases h : 0 < a.size
  · have hc := drop_cons a 0 h
    rw [List.drop_zero] at hc
    have hb := bt_get a 0 h
    simp only [Int.natCast_zero] at hb
    by_cases h45 : bt a 0 = 45
    · have hp : decP a = 1 := if_pos ⟨h, h45⟩
      have h0 : a[0] = 45 := by
        have : (a[0]).toNat = 45 := by rw [h45] at hb; exact_mod_cast hb
        exact UInt8.toNat_inj.1 this
      rw [hp, hc, h0, if_pos (by simp [Lib.hasPrefix])]; rfl
    · have hp : decP a = 0 := if_neg (fun h => h45 h.2)
      rw [hp, List.drop_zero, if_neg ?_]
      rw [hc]
      have h0 : a[0] ≠ 45 := by intro e; rw [e] at hb; exact h45 hb.symm
      intro hq
      have : ((45 : UInt8) == a[0]) = true := by simpa [Lib.hasPrefix] using hq
      exact h0 (beq_iff_eq.1 this).symm
  · have hp : decP a = 0 := if_neg (fun hh => h hh.1)
    have : a.data.toList = [] := List.length_eq_zero_iff.1 (by rw [← Lib.size_eq]; omega)
    rw [hp, List.drop_zero, this]; rfl
theorem bt_mk_drop (a : ByteArray) (p : Nat) : (⟨(a.data.toList.drop p).toArray⟩ : ByteArray) = a.extract p a.size := by
  have h := Lib.extract_mk a.data.toList p a.size
  rw [Lib.mk_data] at h
  rw [h, List.take_of_length_le]
  rw [List.length_drop, ← Lib.size_eq]; omega
theorem wDec_f (a : ByteArray) (hs : a.size ≤ 1000000) : words_isDecimal.f a = some (decS a) := by
  unfold words_isDecimal.f strings_TrimPrefix.f decS
  rw [hasP, bt_mk_drop]
  simp only [Option.bind_some]
  have hz : (a.extract (decP a) a.size).size = a.size - decP a := by rw [ByteArray.size_extract]; omega
  have hb : bt (a.extract (decP a) a.size) 0 = bt a ((decP a : Nat) : Int) := bt_tail a (decP a) 0
  by_cases h0 : decP a < a.size
  · rw [if_neg (fun h => by have := (toList_nil _).1 h; omega), decide_eq_true h0, Bool.true_and]
    obtain ⟨t, ht, hi⟩ := trim_D (a.extract (decP a) a.size) (by omega)
    rw [ht]
    simp only [Option.bind_some]
    have hd := all_drop isD (a.extract (decP a) a.size) (a.size - decP a) 0 (by omega)
    rw [List.drop_zero] at hd
    have hshift : ∀ g p, allP isD (a.extract (decP a) a.size) g p = allP isD a g (decP a + p) := by
      intro g
      induction g with
      | zero => intro p; rfl
      | succ g ih => intro p; rw [allP, allP, bt_tail, ih (p + 1)]; rfl
    rw [hd, hshift, Nat.add_zero] at hi
    by_cases hall : allP isD a (a.size - decP a) (decP a) = true
    · rw [if_pos (hi.2 hall), if_pos (by omega), hb, hall, Bool.true_and]
      by_cases h48 : bt a ((decP a : Nat) : Int) = 48
      · rw [if_pos h48]
        refine congrArg some ?_
        rw [decide_eq_decide.2 (show (bt a ((decP a : Nat) : Int) ≠ 48 ∨ a.size = 1) ↔ a.size = 1 from ⟨fun h => h.elim (fun h => absurd h48 h) id, .inr⟩)]
        by_cases h1 : a.size = 1
        · have hp0 : decP a = 0 := by omega
          rw [hp0] at h48
          have h00 : a.data.toList = [48] := by
            have hc := drop_cons a 0 (by omega)
            rw [List.drop_zero, List.drop_eq_nil_of_le (by rw [← Lib.size_eq]; omega)] at hc
            rw [hc]
            have hg := bt_get a 0 (by omega)
            simp only [Int.natCast_zero] at hg h48
            rw [h48] at hg
            have : (a[0]).toNat = 48 := by exact_mod_cast hg
            rw [UInt8.toNat_inj.1 (show (a[0]).toNat = (48 : UInt8).toNat from this)]
          rw [Lib.toList_data, h00, decide_eq_true h1]; rfl
        · rw [decide_eq_false h1]
          have : a.toList ≠ [48] := by
            rw [Lib.toList_data]; intro e
            have := congrArg List.length e
            rw [← Lib.size_eq] at this
            exact h1 this
          simpa using this
      · rw [if_neg h48, decide_eq_true (show bt a ((decP a : Nat) : Int) ≠ 48 ∨ a.size = 1 from .inl h48)]
    · rw [if_neg (fun h => hall (hi.1 h))]
      have : allP isD a (a.size - decP a) (decP a) = false := by simpa using hall
      rw [this]; rfl
  · rw [if_pos ((toList_nil _).2 (by omega)), decide_eq_false h0]; rfl
/-- The value of the digits from p on, behind acc. -/
def vl (a : ByteArray) : Nat → Nat → Int → Int
  | 0, _, acc => acc
  | g + 1, p, acc => vl a g (p + 1) (acc * 10 + (bt a p - 48))
theorem vl_ge (a : ByteArray) : ∀ (g p : Nat) (acc : Int), 0 ≤ acc → allP isD a g p = true → acc ≤ vl a g p acc
  | 0, _, _, _, _ => Int.le_refl _
  | g + 1, p, acc, h, hd => by
    rw [allP, Bool.and_eq_true] at hd
    have hq : 48 ≤ bt a p ∧ bt a p ≤ 57 := of_decide_eq_true hd.1
    have := vl_ge a g (p + 1) (acc * 10 + (bt a p - 48)) (by omega) hd.2
    rw [vl]; omega
theorem parse_vl (a : ByteArray) : ∀ (g p acc : Nat), p + g = a.size → allP isD a g p = true → acc ≤ 18446744073709551615 →
    Lib.parseUintM 18446744073709551615 acc (a.data.toList.drop p) = if vl a g p acc ≤ 18446744073709551615 then .ok (vl a g p acc).toNat else .range := by
  intro g
  induction g with
  | zero =>
    intro p acc hp hd hacc
    rw [List.drop_eq_nil_of_le (by rw [← Lib.size_eq]; omega), vl, if_pos (by omega), Int.toNat_natCast]; rfl
  | succ g ih =>
    intro p acc hp hd hacc
    have hd' := hd
    rw [allP, Bool.and_eq_true] at hd'
    have hq : 48 ≤ bt a p ∧ bt a p ≤ 57 := of_decide_eq_true hd'.1
    have hb := bt_get a p (by omega)
    have hge := vl_ge a g (p + 1) ((acc : Int) * 10 + (bt a p - 48)) (by omega) hd'.2
    rw [drop_cons a p (by omega), Lib.parseUintM, if_pos (by omega), vl]
    by_cases h1 : 1844674407370955162 ≤ acc
    · rw [if_pos h1, if_neg (by omega)]
    · rw [if_neg h1]
      by_cases h2 : 18446744073709551615 < acc * 10 + ((a[p]'(by omega)).toNat - 48)
      · rw [if_pos h2, if_neg (by omega)]
      · rw [if_neg h2, ih (p + 1) _ (by omega) hd'.2 (by omega)]
        rw [show ((acc * 10 + ((a[p]'(by omega)).toNat - 48) : Nat) : Int) = (acc : Int) * 10 + (bt a p - 48) by rw [← hb]; omega]
/-- words.Int at a decimal form. -/
def intS (a : ByteArray) (lo hi : Int) : Int × Int :=
  if decS a = false then (0, 6) else
    if decP a = 1 then (if 9223372036854775808 < vl a (a.size - 1) 1 0 then (0, 7) else if -(vl a (a.size - 1) 1 0) < lo ∨ hi < -(vl a (a.size - 1) 1 0) then (0, 7) else (-(vl a (a.size - 1) 1 0), 0))
    else (if 9223372036854775807 < vl a a.size 0 0 then (0, 7) else if vl a a.size 0 0 < lo ∨ hi < vl a a.size 0 0 then (0, 7) else (vl a a.size 0 0, 0))
theorem pib (l : List UInt8) (c : UInt8) (r : List UInt8) (hl : l = c :: r) (d : List UInt8) (hd : (if c.toNat = 43 ∨ c.toNat = 45 then r else l) = d) (hne : d ≠ []) (x : Lib.NumEnd Nat) (hx : Lib.parseUintM 18446744073709551615 0 d = x) :
    (∀ u, x = .ok u → Lib.parseIntB 64 l = if ¬ c.toNat = 45 ∧ 9223372036854775808 ≤ u then .range else if c.toNat = 45 ∧ 9223372036854775808 < u then .range else .ok (if c.toNat = 45 then -(u : Int) else u)) ∧ (x = .range → Lib.parseIntB 64 l = .range) := by
  subst hl
  have hu : Lib.parseUintB 64 (if c.toNat = 43 ∨ c.toNat = 45 then r else c :: r) = x := by
    rw [hd]; unfold Lib.parseUintB; rw [if_neg hne]; exact hx
  constructor
  · rintro u rfl
    unfold Lib.parseIntB
    simp only [hu]
    try rfl
  · rintro rfl
    unfold Lib.parseIntB
    simp only [hu]
theorem parseInt_f (a : ByteArray) (hd : decS a = true) : Lib.parseIntB 64 a.data.toList =
    if decP a = 1 then (if 9223372036854775808 < vl a (a.size - 1) 1 0 then .range else .ok (-(vl a (a.size - 1) 1 0))) else (if 9223372036854775807 < vl a a.size 0 0 then .range else .ok (vl a a.size 0 0)) := by
  unfold decS at hd
  rw [Bool.and_eq_true, Bool.and_eq_true] at hd
  obtain ⟨⟨h1, h2⟩, _⟩ := hd
  have h1 := of_decide_eq_true h1
  have h0s : 0 < a.size := by omega
  have hc := drop_cons a 0 h0s
  rw [List.drop_zero] at hc
  have hb := bt_get a 0 h0s
  simp only [Int.natCast_zero] at hb
  by_cases hp : decP a = 1
  · rw [hp] at h1 h2
    have h45 : bt a 0 = 45 := by unfold decP at hp; split at hp; rename_i h; exact h.2; cases hp
    have hv := vl_ge a (a.size - 1) 1 0 (by omega) h2
    have hne : a.data.toList.drop (0 + 1) ≠ [] := by
      intro e; have := congrArg List.length e; rw [List.length_drop, ← Lib.size_eq] at this; simp at this; omega
    have hpar := parse_vl a (a.size - 1) 1 0 (by omega) h2 (by omega)
    have e45 : (a[0]'h0s).toNat = 45 := by rw [h45] at hb; exact_mod_cast hb
    obtain ⟨q1, q2⟩ := pib a.data.toList _ _ hc (a.data.toList.drop (0 + 1)) (if_pos (.inr e45)) hne _ hpar
    rw [if_pos hp]
    by_cases hle : vl a (a.size - 1) 1 0 ≤ 18446744073709551615
    · have := q1 _ (if_pos hle)
      rw [this, if_neg (show ¬ (¬ (a[0]'h0s).toNat = 45 ∧ 9223372036854775808 ≤ (vl a (a.size - 1) 1 ((0 : Nat) : Int)).toNat) from fun h => h.1 e45)]
      by_cases h63 : 9223372036854775808 < vl a (a.size - 1) 1 0
      · rw [if_pos (show (a[0]'h0s).toNat = 45 ∧ 9223372036854775808 < (vl a (a.size - 1) 1 ((0 : Nat) : Int)).toNat from ⟨e45, by simp only [Int.natCast_zero]; omega⟩), if_pos h63]
      · rw [if_neg (show ¬ ((a[0]'h0s).toNat = 45 ∧ 9223372036854775808 < (vl a (a.size - 1) 1 ((0 : Nat) : Int)).toNat) from fun h => h63 (by have := h.2; simp only [Int.natCast_zero] at this; omega)), if_neg h63, if_pos e45, Int.toNat_of_nonneg (by simp only [Int.natCast_zero]; exact hv)]
        rfl
    · rw [q2 (if_neg hle), if_pos (show 9223372036854775808 < vl a (a.size - 1) 1 0 by omega)]
  · have hp0 : decP a = 0 := by unfold decP at hp ⊢; split at hp; exact absurd rfl hp; rename_i h; rw [if_neg h]
    rw [hp0] at h1 h2
    rw [Nat.sub_zero] at h2
    have h2' := h2
    obtain ⟨n, hn⟩ : ∃ n, a.size = n + 1 := ⟨a.size - 1, by omega⟩
    rw [hn, allP, Bool.and_eq_true] at h2'
    have hq : 48 ≤ bt a 0 ∧ bt a 0 ≤ 57 := of_decide_eq_true h2'.1
    have hv := vl_ge a a.size 0 0 (by omega) h2
    have hpar := parse_vl a a.size 0 0 (by omega) h2 (by omega)
    rw [List.drop_zero] at hpar
    have e1 : ¬ ((a[0]'h0s).toNat = 43 ∨ (a[0]'h0s).toNat = 45) := by omega
    have e2 : ¬ (a[0]'h0s).toNat = 45 := by omega
    obtain ⟨q1, q2⟩ := pib a.data.toList _ _ hc a.data.toList (if_neg e1) (by rw [hc]; exact List.cons_ne_nil _ _) _ hpar
    rw [if_neg hp]
    by_cases hle : vl a a.size 0 0 ≤ 18446744073709551615
    · have := q1 _ (if_pos hle)
      rw [this]
      by_cases h63 : 9223372036854775807 < vl a a.size 0 0
      · rw [if_pos (show ¬ (a[0]'h0s).toNat = 45 ∧ 9223372036854775808 ≤ (vl a a.size 0 ((0 : Nat) : Int)).toNat from ⟨e2, by simp only [Int.natCast_zero]; omega⟩), if_pos h63]
      · rw [if_neg (show ¬ (¬ (a[0]'h0s).toNat = 45 ∧ 9223372036854775808 ≤ (vl a a.size 0 ((0 : Nat) : Int)).toNat) from fun h => h63 (by have := h.2; simp only [Int.natCast_zero] at this; omega)), if_neg (show ¬ ((a[0]'h0s).toNat = 45 ∧ 9223372036854775808 < (vl a a.size 0 ((0 : Nat) : Int)).toNat) from fun h => e2 h.1), if_neg h63, if_neg e2, Int.toNat_of_nonneg (by simp only [Int.natCast_zero]; exact hv)]
        rfl
    · rw [q2 (if_neg hle), if_pos (show 9223372036854775807 < vl a a.size 0 0 by omega)]
theorem intP_range {a : ByteArray} {lo hi : Int} (h : Lib.parseIntB 64 a.data.toList = .range) : Wd.piOk a.data.toList = true ∧ Wd.intP a lo hi = (0, 7) := by
  unfold Wd.piOk Wd.intP
  rw [h]; exact ⟨rfl, rfl⟩
theorem intP_ok {a : ByteArray} {lo hi v : Int} (h : Lib.parseIntB 64 a.data.toList = .ok v) : Wd.piOk a.data.toList = true ∧ Wd.intP a lo hi = if v < lo ∨ hi < v then (0, 7) else (v, 0) := by
  unfold Wd.piOk Wd.intP
  rw [h]; exact ⟨rfl, rfl⟩
theorem wInt_f (a : ByteArray) (lo hi : Int) (hs : a.size ≤ 1000000) : words_Int.f a lo hi = some (intS a lo hi) := by
  unfold words_Int.f intS
  rw [wDec_f a hs]
  simp only [Option.bind_some]
  cases hd : decS a with
  | false => rfl
  | true =>
    have hp := parseInt_f a hd
    simp only [Bool.true_eq_false, if_false]
    by_cases h1 : decP a = 1
    · rw [if_pos h1] at hp
      rw [if_pos h1]
      by_cases h2 : 9223372036854775808 < vl a (a.size - 1) 1 0
      · rw [if_pos h2] at hp
        obtain ⟨q1, q2⟩ := intP_range (lo := lo) (hi := hi) hp
        rw [if_pos ⟨by omega, q1⟩, q2, if_pos h2]
      · rw [if_neg h2] at hp
        obtain ⟨q1, q2⟩ := intP_ok (lo := lo) (hi := hi) hp
        rw [if_pos ⟨by omega, q1⟩, q2, if_neg h2]
    · rw [if_neg h1] at hp
      rw [if_neg h1]
      by_cases h2 : 9223372036854775807 < vl a a.size 0 0
      · rw [if_pos h2] at hp
        obtain ⟨q1, q2⟩ := intP_range (lo := lo) (hi := hi) hp
        rw [if_pos ⟨by omega, q1⟩, q2, if_pos h2]
      · rw [if_neg h2] at hp
        obtain ⟨q1, q2⟩ := intP_ok (lo := lo) (hi := hi) hp
        rw [if_pos ⟨by omega, q1⟩, q2, if_neg h2]
theorem dec_step (m : Nat) (h : ¬ m < 10) : Lib.decDigits m = Lib.decDigits (m / 10) ++ [UInt8.ofNat (48 + m % 10)] := by rw [Lib.decDigits, dif_neg h]
theorem mk_app (x y : List UInt8) : (⟨x.toArray⟩ : ByteArray) ++ (⟨y.toArray⟩ : ByteArray) = ⟨(x ++ y).toArray⟩ := by
  apply ByteArray.ext
  simp
theorem wDig_f (n : Int) (h0 : -9223372036854775808 ≤ n) (h1 : n ≤ 9223372036854775807) : words_Digits.f n = some ⟨(Lib.itoa n).toArray⟩ := by
  unfold words_Digits.f strconv_FormatInt_39.f
  rw [if_pos ⟨h0, h1, rfl⟩]; rfl
end Go.Proofs.YtciaocdpojnmcaaGreatDoor.P
