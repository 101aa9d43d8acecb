import Derived.Test.YtkalbdeopogbpaaGreatDoorKX38
import Derived.Test.YtkalbdeopogbpaaGreatDoorKX32
import Derived.Test.YtkalbdeopogbpaaGreatDoorKX35
import Derived.Test.YtkalbdeopogbpaaGreatDoorKX33
import Derived.Test.YtkalbdeopogbpaaGreatDoorKX34
import Derived.Test.YtkalbdeopogbpaaGreatDoorKX46
import Derived.Test.YtkalbdeopogbpaaGreatDoorKX39
namespace Go.Proofs.YtkalbdeopogbpaaGreatDoor.P.Wq
open Go.RowKit Go.Proofs.YtkalbdeopogbpaaGreatDoorW.PrintWords Go.Proofs.YtkalbdeopogbpaaGreatDoorW.PrintLast
set_option linter.unusedVariables false
set_option linter.unusedSimpArgs false
set_option maxRecDepth 20000
theorem dd_cases (n : Nat) : (n < 10 ∧ Lib.decDigits n = [UInt8.ofNat (48 + n)]) ∨ (¬ n < 10 ∧ Lib.decDigits n = Lib.decDigits (n / 10) ++ [UInt8.ofNat (48 + n % 10)]) := by
  by_cases h : n < 10
  · exact .inl ⟨h, Lib.decDigits_one h⟩
  · exact .inr ⟨h, dec_step n h⟩
theorem dd_ne (n : Nat) : Lib.decDigits n ≠ [] := by
  rcases dd_cases n with ⟨_, h⟩ | ⟨_, h⟩ <;> rw [h] <;> simp
theorem u8n (n : Nat) (h : n < 256) : (UInt8.ofNat n).toNat = n := by simp; omega
theorem dd_digits : ∀ (n : Nat), ∀ b ∈ Lib.decDigits n, 48 ≤ b.toNat ∧ b.toNat ≤ 57 := by
  intro n
  induction n using Nat.strongRecOn with
  | _ n ih =>
    intro b hb
    rcases dd_cases n with ⟨h1, h⟩ | ⟨h1, h⟩
    · rw [h, List.mem_singleton] at hb
      rw [hb, u8n _ (by omega)]; omega
    · rw [h, List.mem_append, List.mem_singleton] at hb
      rcases hb with hb | hb
      · exact ih (n / 10) (by omega) b hb
      · rw [hb, u8n _ (by omega)]; omega
theorem dd_not (n : Nat) (c : UInt8) (h : c.toNat < 48) : c ∉ Lib.decDigits n := fun hm => by have := dd_digits n c hm; omega
theorem dd_head : ∀ (n : Nat), 1 ≤ n → ∃ b r, Lib.decDigits n = b :: r ∧ b ≠ 48 := by
  intro n
  induction n using Nat.strongRecOn with
  | _ n ih =>
    intro hn
    rcases dd_cases n with ⟨h1, h⟩ | ⟨h1, h⟩
    · refine ⟨_, _, h, fun e => ?_⟩
      have := congrArg UInt8.toNat e
      rw [u8n _ (by omega)] at this
      have : 48 + n = 48 := this
      omega
    · obtain ⟨b, r, e, hb⟩ := ih (n / 10) (by omega) (by omega)
      rw [h, e]
      exact ⟨b, r ++ _, rfl, hb⟩
theorem all_iff (a : ByteArray) : allP isD a a.size 0 = true ↔ ∀ b ∈ a.data.toList, 48 ≤ b.toNat ∧ b.toNat ≤ 57 := by
  have := all_drop isD a a.size 0 (by omega)
  rw [List.drop_zero] at this
  rw [← this, List.all_eq_true]
  unfold isD
  simp only [decide_eq_true_eq]
  constructor
  · intro h b hb; have := h b hb; omega
  · intro h b hb; have := h b hb; omega
theorem bt_zero (c : UInt8) (l : List UInt8) : bt (mkB (c :: l)) 0 = (c.toNat : Int) := by
  have h := bt_get (mkB (c :: l)) 0 (by rw [mkB_size]; simp)
  rw [← show ((0 : Nat) : Int) = 0 from rfl, ← h]; rfl
theorem decP_not (l : List UInt8) (h : (45 : UInt8) ∉ l) : decP (mkB l) = 0 := by
  unfold decP
  rw [if_neg ?_]
  rintro ⟨h1, h2⟩
  cases l with
  | nil => exact absurd h1 (by decide)
  | cons c l =>
    rw [bt_zero] at h2
    refine h (List.mem_cons.2 (.inl ?_))
    exact (UInt8.toNat_inj.1 (show c.toNat = (45 : UInt8).toNat from by exact_mod_cast h2)).symm
theorem decS_plain (l : List UInt8) (h : (45 : UInt8) ∉ l) : decS (mkB l) = true ↔ l ≠ [] ∧ (∀ b ∈ l, 48 ≤ b.toNat ∧ b.toNat ≤ 57) ∧ (∀ r, l = 48 :: r → r = []) := by
  have hp := decP_not l h
  have ha := all_iff (mkB l)
  rw [mkB_data] at ha
  unfold decS
  rw [hp, Nat.sub_zero, Bool.and_eq_true, Bool.and_eq_true, decide_eq_true_iff, decide_eq_true_iff, ha, mkB_size, and_assoc]
  cases l with
  | nil => simp
  | cons c l =>
    rw [show ((0 : Nat) : Int) = 0 from rfl, bt_zero]
    have e : ((c.toNat : Int) ≠ 48 ∨ (c :: l).length = 1) ↔ (∀ r, c :: l = 48 :: r → r = []) := by
      constructor
      · rintro (h1 | h1) r hr
        · injection hr with e1 e2; exact absurd (by rw [e1]; rfl) h1
        · injection hr with e1 e2; subst e2; exact List.length_eq_zero_iff.1 (by simpa using h1)
      · intro hr
        by_cases hc : c = 48
        · right; rw [hr l (by rw [hc])]; rfl
        · left; intro e; exact hc (UInt8.toNat_inj.1 (show c.toNat = (48 : UInt8).toNat from by exact_mod_cast e))
    rw [e]
    simp
theorem dd_good (n : Nat) : decS (mkB (Lib.decDigits n)) = true ∧ decP (mkB (Lib.decDigits n)) = 0 := by
  have h45 := dd_not n 45 (by decide)
  refine ⟨(decS_plain _ h45).2 ⟨dd_ne n, dd_digits n, fun r hr => ?_⟩, decP_not _ h45⟩
  rcases Nat.eq_zero_or_pos n with h | h
  · subst h
    rw [Lib.decDigits_one (by omega)] at hr
    injection hr with e1 e2; exact e2.symm
  · obtain ⟨b, r', e, hb⟩ := dd_head n h
    rw [e] at hr
    injection hr with e1 e2
    exact absurd e1 hb
theorem dd_of : ∀ (k : Nat) (l : List UInt8), l.length = k → l ≠ [] → (∀ b ∈ l, 48 ≤ b.toNat ∧ b.toNat ≤ 57) → (∀ r, l = 48 :: r → r = []) → ∃ n, l = Lib.decDigits n := by
  intro k
  induction k with
  | zero => intro l h0 hne; exact absurd (List.length_eq_zero_iff.1 h0) hne
  | succ k ih =>
    intro l hl hne hd hh
    obtain ⟨x, d, rfl⟩ : ∃ x d, l = x ++ [d] := ⟨l.dropLast, l.getLast hne, (List.dropLast_concat_getLast hne).symm⟩
    have hdd := hd d (by simp)
    have hdl : UInt8.ofNat (48 + (d.toNat - 48)) = d := by rw [show 48 + (d.toNat - 48) = d.toNat by omega, UInt8.ofNat_toNat]
    by_cases hx : x = []
    · subst hx
      exact ⟨d.toNat - 48, by rw [Lib.decDigits_one (by omega), hdl]; rfl⟩
    · obtain ⟨n, hn⟩ := ih x (by simp at hl; exact hl) hx (fun b hb => hd b (by simp [hb])) (fun r hr => by
        have := hh (r ++ [d]) (by rw [hr]; rfl)
        simp at this)
      have hn1 : 1 ≤ n := by
        rcases Nat.eq_zero_or_pos n with h | h
        · subst h
          rw [Lib.decDigits_one (by omega)] at hn
          have := hh [d] (by rw [hn]; rfl)
          cases this
        · exact h
      refine ⟨n * 10 + (d.toNat - 48), ?_⟩
      rw [dec_step _ (by omega), show (n * 10 + (d.toNat - 48)) / 10 = n by omega, show (n * 10 + (d.toNat - 48)) % 10 = d.toNat - 48 by omega, ← hn, hdl]
theorem decS_iff (l : List UInt8) (h : (45 : UInt8) ∉ l) : decS (mkB l) = true ↔ ∃ n, l = Lib.decDigits n := by
  rw [decS_plain l h]
  constructor
  · rintro ⟨h1, h2, h3⟩; exact dd_of _ l rfl h1 h2 h3
  · rintro ⟨n, rfl⟩; exact (decS_plain _ h).1 (dd_good n).1
def fv (x : Int) (l : List UInt8) : Int := l.foldl (fun n b => n * 10 + ((b.toNat : Int) - 48)) x
theorem vl_fv (a : ByteArray) : ∀ (g p : Nat) (x : Int), p + g = a.size → vl a g p x = fv x (a.data.toList.drop p) := by
  intro g
  induction g with
  | zero => intro p x h; rw [List.drop_eq_nil_of_le (by rw [← Lib.size_eq]; omega)]; rfl
  | succ g ih =>
    intro p x h
    rw [vl, ih (p + 1) _ (by omega), drop_cons a p (by omega), ← bt_get a p (by omega)]; rfl
theorem fv_dd : ∀ (n : Nat), fv 0 (Lib.decDigits n) = (n : Int) := by
  intro n
  induction n using Nat.strongRecOn with
  | _ n ih =>
    rcases dd_cases n with ⟨h1, h⟩ | ⟨h1, h⟩
    · rw [h]
      show 0 * 10 + (((UInt8.ofNat (48 + n)).toNat : Int) - 48) = n
      rw [u8n _ (by omega)]; omega
    · have := ih (n / 10) (by omega)
      unfold fv at this
      rw [h]
      unfold fv
      rw [List.foldl_append, this]
      show ((n / 10 : Nat) : Int) * 10 + (((UInt8.ofNat (48 + n % 10)).toNat : Int) - 48) = n
      rw [u8n _ (by omega)]; omega
theorem vl_dd (n : Nat) : vl (mkB (Lib.decDigits n)) (mkB (Lib.decDigits n)).size 0 0 = (n : Int) := by
  rw [vl_fv _ _ _ _ (by omega), List.drop_zero, mkB_data, fv_dd]
theorem nd_mono : ∀ (n m : Nat), m ≤ n → Lib.nDigits m ≤ Lib.nDigits n := by
  intro n
  induction n using Nat.strongRecOn with
  | _ n ih =>
    intro m h
    by_cases h1 : n < 10
    · rw [Lib.nDigits_small h1, Lib.nDigits_small (by omega)]; exact Nat.le_refl _
    · rw [Lib.nDigits_big h1]
      by_cases h2 : m < 10
      · rw [Lib.nDigits_small h2]; omega
      · rw [Lib.nDigits_big h2]; have := ih (n / 10) (by omega) (m / 10) (by omega); omega
theorem dd_len (n : Nat) : (Lib.decDigits n).length = Lib.nDigits n := Lib.decDigits_length n
theorem less_snoc : ∀ (x y : List UInt8) (a b : UInt8), x.length = y.length → Op.bytesLess (x ++ [a]) (y ++ [b]) = (Op.bytesLess x y || (decide (x = y) && decide (a < b))) := by
  intro x
  induction x with
  | nil =>
    intro y a b h
    have : y = [] := List.length_eq_zero_iff.1 h.symm
    subst this
    simp [Op.bytesLess]
  | cons c x ih =>
    intro y a b h
    cases y with
    | nil => cases h
    | cons d y =>
      rw [List.cons_append, List.cons_append, Op.bytesLess, ih y a b (by simpa using h), Op.bytesLess]
      by_cases h1 : c = d
      · subst h1; simp
      · have hb : (c == d) = false := beq_eq_false_iff_ne.2 h1
        have hd : decide (c :: x = d :: y) = false := decide_eq_false (fun e => h1 (by injection e))
        rw [hb, hd]; simp
theorem less_dd : ∀ (n m : Nat), Lib.nDigits m = Lib.nDigits n → Op.bytesLess (Lib.decDigits m) (Lib.decDigits n) = decide (m < n) := by
  intro n
  induction n using Nat.strongRecOn with
  | _ n ih =>
    intro m hmn
    have hlt : ∀ x y : Nat, x < 10 → y < 10 → (UInt8.ofNat (48 + x) < UInt8.ofNat (48 + y) ↔ x < y) := by
      intro x y hx hy
      rw [UInt8.lt_iff_toNat_lt, u8n _ (by omega), u8n _ (by omega)]; omega
    by_cases h1 : n < 10
    · rw [Lib.nDigits_small h1] at hmn
      have h2 : m < 10 := by
        by_cases h2 : m < 10
        · exact h2
        · rw [Lib.nDigits_big h2] at hmn
          have := Lib.nDigits_small (u := 0) (by omega)
          have := nd_mono (m / 10) 0 (by omega)
          omega
      rw [Lib.decDigits_one h1, Lib.decDigits_one h2]
      show (decide (UInt8.ofNat (48 + m) < UInt8.ofNat (48 + n)) || (UInt8.ofNat (48 + m) == UInt8.ofNat (48 + n) && false)) = _
      rw [Bool.and_false, Bool.or_false]
      exact decide_eq_decide.2 (hlt m n h2 h1)
    · have h2 : ¬ m < 10 := fun h2 => by
        rw [Lib.nDigits_small h2, Lib.nDigits_big h1] at hmn
        have := nd_mono (n / 10) 0 (by omega)
        rw [Lib.nDigits_small (u := 0) (by omega)] at this
        omega
      rw [Lib.nDigits_big h1, Lib.nDigits_big h2] at hmn
      rw [dec_step n h1, dec_step m h2, less_snoc _ _ _ _ (by rw [dd_len, dd_len]; omega), ih (n / 10) (by omega) (m / 10) (by omega)]
      by_cases h3 : m / 10 < n / 10
      · rw [decide_eq_true h3, decide_eq_true (show m < n by omega)]; rfl
      · rw [decide_eq_false h3, Bool.false_or]
        by_cases h4 : m / 10 = n / 10
        · rw [h4, decide_eq_true rfl, Bool.true_and]
          exact decide_eq_decide.2 (by rw [hlt _ _ (by omega) (by omega)]; omega)
        · rw [decide_eq_false (show ¬ Lib.decDigits (m / 10) = Lib.decDigits (n / 10) from fun e => h4 (by
            have := congrArg (fv 0) e
            rw [fv_dd, fv_dd] at this; omega)), Bool.false_and, decide_eq_false (by omega)]
theorem nd_lt {m n : Nat} (h : Lib.nDigits m < Lib.nDigits n) : m < n := by
  rcases Nat.lt_or_ge m n with h1 | h1
  · exact h1
  · have := nd_mono m n h1; omega
theorem rLess_f (m n : Nat) : mummerref01_less.f (mkB (Lib.decDigits m)) (mkB (Lib.decDigits n)) = some (decide (m < n)) := by
  unfold mummerref01_less.f
  rw [mkB_size, mkB_size, dd_len, dd_len, Lib.toList_data, Lib.toList_data, mkB_data, mkB_data]
  by_cases h : Lib.nDigits m = Lib.nDigits n
  · rw [if_pos (by omega), less_dd n m h]
  · rw [if_neg (by omega)]
    refine congrArg some (decide_eq_decide.2 ?_)
    constructor
    · intro h1; exact nd_lt (by omega)
    · intro h1; have := nd_mono n m (by omega); omega
theorem cmp_less : ∀ (x y : List UInt8), (Lib.compareBytes x y < 0 ↔ Op.bytesLess x y = true) ∧ (0 < Lib.compareBytes x y ↔ Op.bytesLess y x = true) := by
  intro x
  induction x with
  | nil => intro y; cases y <;> simp [Lib.compareBytes, Op.bytesLess]
  | cons a x ih =>
    intro y
    cases y with
    | nil => simp [Lib.compareBytes, Op.bytesLess]
    | cons b y =>
      unfold Lib.compareBytes Op.bytesLess
      by_cases h1 : a < b
      · have h2 : ¬ b < a := fun h => absurd (UInt8.lt_trans h1 h) (UInt8.lt_irrefl _)
        have h3 : ¬ b = a := fun e => absurd (e ▸ h1) (UInt8.lt_irrefl _)
        simp [h1, h2, h3]
      · by_cases h2 : b < a
        · have h3 : ¬ a = b := fun e => absurd (e ▸ h2) (UInt8.lt_irrefl _)
          simp [h1, h2, h3]
        · have h3 : a = b := UInt8.le_antisymm (UInt8.not_lt.1 h2) (UInt8.not_lt.1 h1)
          subst h3
          have := ih y
          simp [h1, this]
theorem wCmp_f (m n : Nat) (hm : Lib.nDigits m ≤ 1000000) (hn : Lib.nDigits n ≤ 1000000) : ∃ v, words_compare.f (mkB (Lib.decDigits m)) (mkB (Lib.decDigits n)) = some v ∧ (v < 0 ↔ m < n) ∧ (v ≥ 0 ↔ n ≤ m) ∧ (v > 0 ↔ n < m) := by
  unfold words_compare.f strings_Compare.f
  rw [mkB_size, mkB_size, dd_len, dd_len, mkB_data, mkB_data]
  by_cases h : Lib.nDigits m = Lib.nDigits n
  · rw [if_pos (by omega)]
    have hc := cmp_less (Lib.decDigits m) (Lib.decDigits n)
    rw [less_dd n m h, less_dd m n h.symm, decide_eq_true_iff, decide_eq_true_iff] at hc
    exact ⟨_, rfl, hc.1, by omega, by omega⟩
  · rw [if_neg (by omega), w64 (by omega) (by omega)]
    rcases Nat.lt_or_ge (Lib.nDigits m) (Lib.nDigits n) with h1 | h1
    · have := nd_lt h1
      exact ⟨_, rfl, by omega, by omega, by omega⟩
    · have := nd_lt (show Lib.nDigits n < Lib.nDigits m by omega)
      exact ⟨_, rfl, by omega, by omega, by omega⟩
def incR : List UInt8 → List UInt8
  | [] => [49]
  | b :: r => if b = 57 then 48 :: incR r else (b + 1) :: r
def nextL (l : List UInt8) : List UInt8 := (incR l.reverse).reverse
theorem inc_nines : ∀ (j : Nat) (r : List UInt8), incR (List.replicate j 57 ++ r) = List.replicate j 48 ++ incR r
  | 0, _ => rfl
  | j + 1, r => by rw [List.replicate_succ, List.cons_append, incR, if_pos rfl, inc_nines j r, List.replicate_succ]; rfl
theorem next_dd : ∀ n : Nat, nextL (Lib.decDigits n) = Lib.decDigits (n + 1) := by
  intro n
  induction n using Nat.strongRecOn with
  | _ n ih =>
    have add : ∀ x : Nat, x < 9 → UInt8.ofNat (48 + x) + 1 = UInt8.ofNat (48 + (x + 1)) := by decide
    have nn : ∀ x : Nat, x < 9 → UInt8.ofNat (48 + x) ≠ 57 := by decide
    rcases dd_cases n with ⟨h1, h⟩ | ⟨h1, h⟩
    · by_cases h9 : n = 9
      · subst h9; rw [h, dec_step 10 (by omega)]; rw [Lib.decDigits_one (show 10 / 10 < 10 by omega)]; decide
      · rw [h, Lib.decDigits_one (show n + 1 < 10 by omega)]
        unfold nextL
        rw [List.reverse_singleton, incR, if_neg (nn n (by omega)), add n (by omega)]; rfl
    · rw [h]
      unfold nextL
      rw [List.reverse_append, List.reverse_singleton, List.singleton_append, incR, dec_step (n + 1) (by omega)]
      by_cases h9 : n % 10 = 9
      · have := ih (n / 10) (by omega)
        unfold nextL at this
        rw [h9, if_pos (by decide), List.reverse_cons, this, show (n + 1) / 10 = n / 10 + 1 by omega, show (n + 1) % 10 = 0 by omega]; rfl
      · rw [if_neg (nn _ (by omega)), add _ (by omega), List.reverse_cons, List.reverse_reverse, show (n + 1) / 10 = n / 10 by omega, show (n + 1) % 10 = n % 10 + 1 by omega]
theorem lix_dec (l : List UInt8) : ∀ k : Nat, k ≤ l.length → (Wd.lix (mkB l) k = -1 ∧ l.take k = List.replicate k 57) ∨ (∃ (i : Nat) (d : UInt8), Wd.lix (mkB l) k = (i : Int) ∧ i < k ∧ l[i]? = some d ∧ l.take k = l.take i ++ d :: List.replicate (k - 1 - i) 57 ∧ d ≠ 57) := by
  intro k
  induction k with
  | zero => intro _; exact .inl ⟨rfl, rfl⟩
  | succ k ih =>
    intro hk
    have hlk : k < l.length := by omega
    have hb := bt_get (mkB l) k (by rw [mkB_size]; omega)
    have hg : (mkB l)[k]'(by rw [mkB_size]; omega) = l[k] := rfl
    rw [hg] at hb
    have ht : l.take (k + 1) = l.take k ++ [l[k]] := by rw [List.take_add_one, List.getElem?_eq_getElem hlk]; rfl
    rw [Wd.lix, ht]
    by_cases h : l[k] = 57
    · rw [if_pos (show bt (mkB l) (k : Int) = 57 by rw [← hb, h]; rfl), h]
      rcases ih (by omega) with ⟨h1, h2⟩ | ⟨i, d, h1, h2, h3, h4, h5⟩
      · exact .inl ⟨h1, by rw [h2, ← List.replicate_succ']⟩
      · refine .inr ⟨i, d, h1, by omega, h3, ?_, h5⟩
        rw [h4, List.append_assoc, List.cons_append, ← List.replicate_succ', show k - 1 - i + 1 = k + 1 - 1 - i by omega]
    · rw [if_neg (show ¬ bt (mkB l) (k : Int) = 57 by rw [← hb]; intro e; exact h (UInt8.toNat_inj.1 (by exact_mod_cast e)))]
      refine .inr ⟨k, l[k], rfl, by omega, List.getElem?_eq_getElem hlk, ?_, h⟩
      rw [show k + 1 - 1 - k = 0 by omega]; rfl
/-- What the two functions make of a and the place i. -/
def nxB (a : ByteArray) (i : Int) : ByteArray := if i < 0 then mkB (49 :: List.replicate a.size 48) else mkB (a.data.toList.take i.toNat ++ UInt8.ofNat ((bt a i + 1) % 256).toNat :: List.replicate (a.size - 1 - i.toNat) 48)
theorem nxB_next (l : List UInt8) : nxB (mkB l) (Wd.lix (mkB l) l.length) = mkB (nextL l) := by
  unfold nxB nextL
  rw [mkB_size, mkB_data]
  rcases lix_dec l l.length (Nat.le_refl _) with ⟨h1, h2⟩ | ⟨i, d, h1, h2, h3, h4, h5⟩
  · rw [List.take_length] at h2
    rw [h1, if_pos (by decide)]
    conv => rhs; rw [h2]
    rw [List.reverse_replicate, show List.replicate l.length (57 : UInt8) = List.replicate l.length 57 ++ [] by rw [List.append_nil], inc_nines, List.reverse_append, List.reverse_replicate]; rfl
  · rw [List.take_length] at h4
    have hl : (mkB l)[i]'(by rw [mkB_size]; omega) = d := by
      show l[i] = d
      rw [List.getElem?_eq_getElem (by omega)] at h3; exact Option.some.inj h3
    have hb := bt_get (mkB l) i (by rw [mkB_size]; omega)
    rw [hl] at hb
    rw [h1, if_neg (by omega), Int.toNat_natCast, ← hb]
    have hd : UInt8.ofNat (((d.toNat : Int) + 1) % 256).toNat = d + 1 := by
      apply UInt8.toNat_inj.1
      rw [UInt8.toNat_add]
      have := UInt8.toNat_lt d
      rw [u8n _ (by omega), show (1 : UInt8).toNat = 1 from rfl]; omega
    rw [hd]
    conv => rhs; rw [h4]
    rw [List.reverse_append, List.reverse_cons, List.reverse_replicate, List.append_assoc, inc_nines, List.singleton_append, incR, if_neg h5]
    simp
theorem nxB_dd (n : Nat) : nxB (mkB (Lib.decDigits n)) (Wd.lix (mkB (Lib.decDigits n)) (mkB (Lib.decDigits n)).size) = mkB (Lib.decDigits (n + 1)) := by
  rw [mkB_size, nxB_next, next_dd]
theorem repeat_one (c : UInt8) : ∀ n : Nat, Lib.repeatL [c] n = List.replicate n c
  | 0 => rfl
  | n + 1 => by rw [Lib.repeatL, repeat_one c n, List.replicate_succ]; rfl
theorem str_one (x : Int) : strOfNums [x] = mkB [UInt8.ofNat x.toNat] := rfl
theorem nxB_parts (a : ByteArray) (i : Int) (h0 : 0 ≤ i) (z : Nat) (hz : z = a.size - 1 - i.toNat) (hi : i < (a.size : Int)) : ((a.extract 0 i.toNat) ++ strOfNums [(bt a i + 1) % 256]) ++ mkB (List.replicate z 48) = nxB a i := by
  unfold nxB
  rw [if_neg (by omega), ext_mkB, str_one, mkB_app, mkB_app, List.drop_zero, Nat.sub_zero, List.append_assoc, hz]; rfl
theorem follows_f (m n : Nat) (hm : Lib.nDigits m + 1 ≤ 100000) (hn : Lib.nDigits n ≤ 100000) : words_follows.f (mkB (Lib.decDigits m)) (mkB (Lib.decDigits n)) = some (decide (m + 1 < n)) := by
  have hsz : (mkB (Lib.decDigits m)).size = Lib.nDigits m := by rw [mkB_size, dd_len]
  have hnx := nxB_dd m
  have hr := Wd.lix_range (mkB (Lib.decDigits m)) (mkB (Lib.decDigits m)).size
  have hpos : 1 ≤ Lib.nDigits m := by rw [← dd_len]; exact List.length_pos_iff.2 (dd_ne m)
  obtain ⟨i, hi⟩ : ∃ i, Wd.lix (mkB (Lib.decDigits m)) (mkB (Lib.decDigits m)).size = i := ⟨_, rfl⟩
  rw [hi] at hnx hr
  have hm1 : Lib.nDigits (m + 1) ≤ 1000000 := by
    have h := Lib.decDigits_length (m + 1)
    have hh := congrArg ByteArray.size hnx
    rw [mkB_size, h] at hh
    unfold nxB at hh
    split at hh
    · rw [mkB_size] at hh; simp at hh; omega
    · rw [mkB_size] at hh; simp at hh; omega
  obtain ⟨v, hv, v1, v2, v3⟩ := wCmp_f (m + 1) n hm1 (by omega)
  unfold words_follows.f strings_LastIndexFunc.f
  rw [if_pos ⟨by omega, by
    rw [mkB_data, List.all_eq_true]
    intro b hb
    have := dd_digits m b hb
    exact decide_eq_true (by omega)⟩]
  simp only [Option.bind_some]
  rw [hi, hsz]
  have e1 : wrap64 (wrap64 ((Lib.nDigits m : Int) - 1) - i) = ((Lib.nDigits m - 1 - i).toNat : Int) := by
    rw [w64 (n := (Lib.nDigits m : Int) - 1) (by omega) (by omega), w64 (by omega) (by omega)]; omega
  rw [e1]
  unfold strings_Repeat.f
  rw [if_pos ⟨by omega, by omega, by decide⟩, Int.toNat_natCast]
  simp only [Option.bind_some]
  have hrep : (⟨(Lib.repeatL (⟨#[48]⟩ : ByteArray).data.toList (Lib.nDigits m - 1 - i).toNat).toArray⟩ : ByteArray) = mkB (List.replicate (Lib.nDigits m - 1 - i).toNat 48) := by
    rw [← repeat_one]; rfl
  rw [hrep, mkB_size, List.length_replicate]
  by_cases h0 : i < 0
  · rw [if_pos h0, if_pos (by omega)]
    have : (⟨#[49]⟩ : ByteArray) ++ mkB (List.replicate (Lib.nDigits m - 1 - i).toNat 48) = mkB (Lib.decDigits (m + 1)) := by
      rw [← hnx]
      unfold nxB
      rw [if_pos h0, show (⟨#[49]⟩ : ByteArray) = mkB [49] from rfl, mkB_app, hsz, show (Lib.nDigits m - 1 - i).toNat = Lib.nDigits m by omega]; rfl
    rw [this, hv]
    simp only [Option.bind_some]
    exact congrArg some (decide_eq_decide.2 v1)
  · rw [if_neg h0, if_pos (by omega), if_pos (by omega), if_pos (by omega)]
    have hxs : ((mkB (Lib.decDigits m)).extract 0 i.toNat).size = i.toNat := by rw [ByteArray.size_extract, hsz]; omega
    have h2s : ((mkB (Lib.decDigits m)).extract 0 i.toNat ++ strOfNums [(bt (mkB (Lib.decDigits m)) i + 1) % 256]).size = i.toNat + 1 := by rw [ByteArray.size_append, hxs, str_one, mkB_size]; rfl
    rw [if_pos (by rw [hxs, str_one, mkB_size]; simp; omega), if_pos (by rw [h2s]; omega), nxB_parts _ i (by omega) _ (by rw [hsz]; omega) (by rw [hsz]; omega), hnx, hv]
    simp only [Option.bind_some]
    exact congrArg some (decide_eq_decide.2 v1)
end Go.Proofs.YtkalbdeopogbpaaGreatDoor.P.Wq
