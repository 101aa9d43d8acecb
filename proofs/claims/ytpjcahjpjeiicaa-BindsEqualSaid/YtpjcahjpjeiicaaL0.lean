/- Plain lemmas over the printed functions, for law_checks, law_greatest, law_others, law_resolves, law_same. -/
import Derived.Test.YtpjcahjpjeiicaaPx0
import Derived.Test.YtpjcahjpjeiicaaPx2
import Derived.Test.YtpjcahjpjeiicaaPx3
import Derived.Test.YtpjcahjpjeiicaaPx4
import Derived.Test.YtpjcahjpjeiicaaPx5
import Derived.Test.YtpjcahjpjeiicaaPx6
import Derived.Test.YtpjcahjpjeiicaaPx7
import Derived.Test.YtpjcahjpjeiicaaPx8
import Derived.Test.YtpjcahjpjeiicaaPx9
import Derived.Test.YtpjcahjpjeiicaaPx10
import Derived.Test.YtpjcahjpjeiicaaPx12
import Derived.Test.YtpjcahjpjeiicaaPx13
import Derived.Test.YtpjcahjpjeiicaaPx14
import Derived.Test.YtpjcahjpjeiicaaPx15
import Derived.Test.YtpjcahjpjeiicaaPx16
import Derived.Test.YtpjcahjpjeiicaaPx17
import Derived.Test.YtpjcahjpjeiicaaPx18
import Derived.Test.YtpjcahjpjeiicaaPx19
namespace Go.Proofs.Ytpjcahjpjeiicaa.P
open Go.RowKit Go.Proofs.YtpjcahjpjeiicaaW.PrintWords Go.Proofs.YtpjcahjpjeiicaaW.PrintLast Sc
theorem w64 {n : Int} (h : -9223372036854775808 ≤ n) (h' : n ≤ 9223372036854775807) : wrap64 n = n := by unfold wrap64; omega

theorem toList_extract2 (s : ByteArray) (i : Nat) (h : i + 2 ≤ s.size) : (s.extract i (i + 2)).toList = [s[i]'(by omega), s[i + 1]'(by omega)] := by
  rw [ByteArray.toList_eq]
  apply List.ext_getElem
  · simp; omega
  · intro n h1 h2
    have hn : n < 2 := by simpa using h2
    match n, hn with
    | 0, _ => simp; rfl
    | 1, _ => simp; rfl
theorem less2 (a b c d : UInt8) : (Op.bytesLess [a, b] [c, d] = true) ↔ ((a.toNat : Int) * 256 + b.toNat < (c.toNat : Int) * 256 + d.toNat) := by
  have ha := a.toNat_lt; have hb := b.toNat_lt; have hc := c.toNat_lt; have hd := d.toNat_lt
  simp only [Op.bytesLess, Bool.or_false, Bool.and_false, Bool.or_eq_true, Bool.and_eq_true, decide_eq_true_eq, beq_iff_eq, UInt8.lt_iff_toNat_lt, ← UInt8.toNat_inj]
  omega
theorem pairAt_eq (s : ByteArray) (j : Nat) (h : 2 * j + 1 < s.size) : pairAt s j = ((s[2 * j]'(by omega)).toNat : Int) * 256 + (s[2 * j + 1]).toNat := by
  unfold pairAt bt
  rw [dif_pos (by rw [Int.toNat_natCast]; omega), dif_pos (by rw [Int.toNat_natCast]; exact h)]
  rfl
theorem pairAt_nonneg (s : ByteArray) (j : Nat) : 0 ≤ pairAt s j := by
  unfold pairAt
  have h1 := bt_range s ((2 * j : Nat) : Int); have h2 := bt_range s ((2 * j + 1 : Nat) : Int); omega
theorem less_pairs (s : ByteArray) (i j : Nat) (hi : 2 * i + 1 < s.size) (hj : 2 * j + 1 < s.size) :
    (Op.bytesLess (s.extract (2 * i) (2 * i + 2)).toList (s.extract (2 * j) (2 * j + 2)).toList = true) ↔ pairAt s i < pairAt s j := by
  rw [toList_extract2 s (2 * i) (by omega), toList_extract2 s (2 * j) (by omega), less2, pairAt_eq s i hi, pairAt_eq s j hj]

/-- A number below 65536. -/
def InS (l : List Int) : Prop := ∀ x ∈ l, 0 ≤ x ∧ x < 65536
/-- The string of a list of scopes. -/
def bs (x : Int) : List UInt8 := [UInt8.ofNat (x / 256).toNat, UInt8.ofNat (x % 256).toNat]
def ofP (l : List Int) : ByteArray := ⟨(l.flatMap bs).toArray⟩
theorem ofP_toList (l : List Int) : (ofP l).toList = l.flatMap bs := by rw [ByteArray.toList_eq]; rfl
theorem ofP_data (l : List Int) : (ofP l).data.toList = l.flatMap bs := rfl
theorem flat_length (l : List Int) : (l.flatMap bs).length = 2 * l.length := by
  induction l with
  | nil => rfl
  | cons x r ih => rw [List.flatMap_cons, List.length_append, ih]; simp [bs]; omega
theorem ofP_size (l : List Int) : (ofP l).size = 2 * l.length := by
  show (l.flatMap bs).toArray.size = _
  rw [List.size_toArray, flat_length]
theorem ofP_append (l m : List Int) : ofP l ++ ofP m = ofP (l ++ m) := by
  apply ByteArray.ext
  apply Array.ext'
  rw [ByteArray.data_append, Array.toList_append, ofP_data, ofP_data, ofP_data, List.flatMap_append]
theorem flat_drop : ∀ (l : List Int) (i : Nat), (l.flatMap bs).drop (2 * i) = (l.drop i).flatMap bs
  | [], i => by simp
  | x :: r, 0 => by simp
  | x :: r, i + 1 => by rw [List.flatMap_cons, show 2 * (i + 1) = 2 * i + 2 by omega, List.drop_succ_cons]; exact (by rw [← flat_drop r i]; rfl)
theorem flat_take : ∀ (l : List Int) (i : Nat), (l.flatMap bs).take (2 * i) = (l.take i).flatMap bs
  | [], i => by simp
  | x :: r, 0 => by simp
  | x :: r, i + 1 => by
    rw [List.flatMap_cons, show 2 * (i + 1) = 2 * i + 2 by omega, List.take_succ_cons, List.flatMap_cons, ← flat_take r i]; rfl
theorem ofP_extract (l : List Int) (i j : Nat) : (ofP l).extract (2 * i) (2 * j) = ofP ((l.take j).drop i) := by
  apply ByteArray.ext
  apply Array.ext'
  rw [ByteArray.data_extract, Array.toList_extract, ofP_data, ofP_data, List.extract_eq_take_drop, ← flat_drop, ← flat_take, List.drop_take]
theorem ofNat_toNat_ (a : UInt8) : UInt8.ofNat a.toNat = a := by simp
theorem bs_pairAt (s : ByteArray) (q : Nat) (h : 2 * q + 1 < s.size) : bs (pairAt s q) = [s[2 * q]'(by omega), s[2 * q + 1]] := by
  rw [pairAt_eq s q h]
  have h1 := (s[2 * q]'(by omega)).toNat_lt
  have h2 := (s[2 * q + 1]).toNat_lt
  unfold bs
  rw [show (((s[2 * q]'(by omega)).toNat : Int) * 256 + (s[2 * q + 1]).toNat) / 256 = (s[2 * q]'(by omega)).toNat by omega, show (((s[2 * q]'(by omega)).toNat : Int) * 256 + (s[2 * q + 1]).toNat) % 256 = (s[2 * q + 1]).toNat by omega, Int.toNat_natCast, Int.toNat_natCast, ofNat_toNat_, ofNat_toNat_]
theorem pairs_get (s : ByteArray) (n i : Nat) (h : i < (pairs s n).length) : (pairs s n)[i] = pairAt s i := by simp [pairs]
theorem size_even (s : ByteArray) (h : s.size % 2 = 0) : s = ofP (pairs s (s.size / 2)) := by
  have hsz : (ofP (pairs s (s.size / 2))).size = s.size := by rw [ofP_size, pairs_length]; omega
  have key : ∀ q, 2 * q + 1 < s.size → ∀ (h1 : 2 * q < (ofP (pairs s (s.size / 2))).size) (h2 : 2 * q + 1 < (ofP (pairs s (s.size / 2))).size), [(ofP (pairs s (s.size / 2)))[2 * q], (ofP (pairs s (s.size / 2)))[2 * q + 1]] = [s[2 * q]'(by omega), s[2 * q + 1]'(by omega)] := by
    intro q hq h1 h2
    rw [← toList_extract2 (ofP (pairs s (s.size / 2))) (2 * q) (by omega), show 2 * q + 2 = 2 * (q + 1) by omega, ofP_extract, ofP_toList]
    have hl : q < (pairs s (s.size / 2)).length := by rw [pairs_length]; omega
    rw [List.take_succ_eq_append_getElem hl, List.drop_append_of_le_length (by simp; omega), List.drop_eq_nil_of_le (by simp; omega), pairs_get]
    simp only [List.nil_append, List.flatMap_cons, List.flatMap_nil, List.append_nil]
    exact bs_pairAt s q hq
  apply ByteArray.ext
  apply Array.ext
  · exact hsz.symm
  · intro i h1 h2
    have h1' : i < s.size := h1
    rcases Nat.mod_two_eq_zero_or_one i with e | e
    · obtain ⟨q, rfl⟩ : ∃ q, i = 2 * q := ⟨i / 2, by omega⟩
      have := key q (by omega) (by omega) (by omega)
      simp only [List.cons.injEq, and_true] at this
      exact this.1.symm
    · obtain ⟨q, rfl⟩ : ∃ q, i = 2 * q + 1 := ⟨i / 2, by omega⟩
      have := key q (by omega) (by omega) (by omega)
      simp only [List.cons.injEq, and_true] at this
      exact this.2.symm
theorem strOf_bs (x : Int) (hx : 0 ≤ x ∧ x < 65536) : strOfNums [(wrap64 (Int.tdiv x 256)) % 256, (Int.tmod x 256) % 256] = ofP [x] := by
  rw [Int.tdiv_eq_ediv_of_nonneg hx.1, Int.tmod_eq_emod_of_nonneg hx.1, w64 (by omega) (by omega), show x / 256 % 256 = x / 256 by omega, show x % 256 % 256 = x % 256 by omega]
  rfl
def tailFrom (s : ByteArray) (j : Nat) : List Int := (List.range' j (s.size / 2 - j)).map (pairAt s)
theorem tailFrom_step (s : ByteArray) (j : Nat) (h : j < s.size / 2) : tailFrom s j = pairAt s j :: tailFrom s (j + 1) := by
  unfold tailFrom
  obtain ⟨n, hn⟩ : ∃ n, s.size / 2 - j = n + 1 := ⟨s.size / 2 - j - 1, by omega⟩
  rw [hn, List.range'_succ, List.map_cons, show s.size / 2 - (j + 1) = n by omega]
theorem tailFrom_end (s : ByteArray) : tailFrom s (s.size / 2) = [] := by simp [tailFrom]
theorem pairs_tail (s : ByteArray) : pairs s (s.size / 2) = tailFrom s 0 := by simp [pairs, tailFrom, List.range_eq_range']
def chkEnd (s : ByteArray) : Int := if (s.size : Int) > 20000 then 3 else 0
theorem check_l0 (s : ByteArray) (hs : s.size ≤ 4611686018427387904) (he : s.size % 2 = 0) : ∀ (d j k : Nat), 1 ≤ j → j + d = s.size / 2 → d < k →
    mummerref09_Check.l0 k s ((2 * j : Nat) : Int) = some (if asc (pairAt s (j - 1)) (tailFrom s j) = true then chkEnd s else 6) := by
  intro d
  induction d with
  | zero =>
    intro j k h1 hj hk
    obtain ⟨k, rfl⟩ : ∃ m, k = m + 1 := ⟨k - 1, by omega⟩
    have : j = s.size / 2 := by omega
    subst this
    rw [tailFrom_end]
    simp only [mummerref09_Check.l0]
    have ha : asc (pairAt s (s.size / 2 - 1)) [] = true := rfl
    rw [if_neg (by omega), ha]
    simp only [if_true, chkEnd]
    by_cases hx : (s.size : Int) > 20000
    · rw [if_pos hx, if_pos hx]
    · rw [if_neg hx, if_neg hx]
  | succ d ih =>
    intro j k h1 hj hk
    obtain ⟨k, rfl⟩ : ∃ m, k = m + 1 := ⟨k - 1, by omega⟩
    have e1 : wrap64 (((2 * j : Nat) : Int) - 2) = ((2 * (j - 1) : Nat) : Int) := by rw [w64 (by omega) (by omega)]; omega
    have e2 : wrap64 (((2 * j : Nat) : Int) + 2) = ((2 * (j + 1) : Nat) : Int) := by rw [w64 (by omega) (by omega)]; omega
    simp only [mummerref09_Check.l0]
    rw [if_pos (by omega), e1, if_pos (by omega), if_pos (by omega), if_pos (by omega), if_pos (by omega), e2, if_pos (by omega), if_pos (by omega)]
    simp only [Int.toNat_natCast]
    have hl := less_pairs s (j - 1) j (by omega) (by omega)
    rw [show 2 * (j - 1) + 2 = 2 * j by omega] at hl
    rw [show 2 * (j + 1) = 2 * j + 2 by omega]
    rw [tailFrom_step s j (by omega)]
    by_cases hc : pairAt s (j - 1) < pairAt s j
    · rw [if_pos (hl.2 hc)]
      have := ih (j + 1) k (by omega) (by omega) (by omega)
      rw [show 2 * (j + 1) = 2 * j + 2 by omega] at this
      rw [this]
      simp [asc, hc]
    · rw [if_neg (fun h => hc (hl.1 h))]
      simp [asc, hc]
theorem check_f (s : ByteArray) (hs : s.size ≤ 4611686018427387904) (k : Nat) (hk : s.size / 2 < k) : mummerref09_Check.f k s = some (chk s) := by
  unfold mummerref09_Check.f chk
  by_cases he : (s.size : Int) % 2 = 0
  · rw [if_pos he, if_pos he, pairs_tail]
    by_cases h0 : s.size = 0
    · obtain ⟨k, rfl⟩ : ∃ m, k = m + 1 := ⟨k - 1, by omega⟩
      simp only [mummerref09_Check.l0]
      rw [if_neg (by omega)]
      simp [tailFrom, h0, asc]
    · have := check_l0 s hs (by omega) (s.size / 2 - 1) 1 k (by omega) (by omega) (by omega)
      simp only [Nat.mul_one, Nat.sub_self] at this
      rw [show (2 : Int) = ((2 : Nat) : Int) from rfl, this, tailFrom_step s 0 (by omega)]
      have hp := pairAt_nonneg s 0
      have : asc (-1) (pairAt s 0 :: tailFrom s (0 + 1)) = asc (pairAt s 0) (tailFrom s 1) := by simp [asc]; omega
      rw [this]
      rfl
  · rw [if_neg he, if_neg he]
def Asc (l : List Int) : Prop := l.Pairwise (· < ·)
theorem asc_pairwise : ∀ (l : List Int) (a : Int), asc a l = true → (∀ x ∈ l, a < x) ∧ Asc l
  | [], _, _ => ⟨by simp, List.Pairwise.nil⟩
  | x :: r, a, h => by
    obtain ⟨h1, h2⟩ := (asc_cons_eq a x r).1 h
    obtain ⟨h3, h4⟩ := asc_pairwise r x h2
    refine ⟨fun y hy => ?_, List.pairwise_cons.2 ⟨h3, h4⟩⟩
    rcases List.mem_cons.1 hy with rfl | hy
    · exact h1
    · exact Int.lt_trans h1 (h3 y hy)
theorem merge_l0 : ∀ (d k : Nat) (f b s l m : List Int), l.length + m.length = d → d < k → Asc l → Asc m → f.length + l.length < 17592186044416 → b.length + l.length < 17592186044416 → s.length + m.length < 17592186044416 →
    scopes_merge.l0 k f b s l m = some (f ++ l.filter (fun x => decide (x ∉ m)), b ++ l.filter (fun x => decide (x ∈ m)), s ++ m.filter (fun x => decide (x ∉ l)), 0) := by
  intro d
  induction d using Nat.strongRecOn with
  | _ d ih =>
  intro k f b s l m hd hk hl hm h1 h2 h3
  obtain ⟨k, rfl⟩ : ∃ q, k = q + 1 := ⟨k - 1, by omega⟩
  match l, m, hl, hm with
  | [], m, _, _ =>
    simp only [scopes_merge.l0]
    rw [if_pos (by simp), if_pos (by simpa using h3)]
    have : m.filter (fun x => decide (x ∉ ([] : List Int))) = m := List.filter_eq_self.2 (by simp)
    rw [this]
    simp
  | x :: l, [], _, _ =>
    simp only [scopes_merge.l0]
    rw [if_neg (by simp <;> omega), if_pos (by simp), if_pos (by simpa using h1)]
    have e1 : (x :: l).filter (fun z => decide (z ∉ ([] : List Int))) = x :: l := List.filter_eq_self.2 (by simp)
    have e2 : (x :: l).filter (fun z => decide (z ∈ ([] : List Int))) = [] := List.filter_eq_nil_iff.2 (by simp)
    rw [e1, e2]
    simp
  | x :: l, y :: m, hl, hm =>
    obtain ⟨hx, hl'⟩ := List.pairwise_cons.1 hl
    obtain ⟨hy, hm'⟩ := List.pairwise_cons.1 hm
    simp only [List.length_cons] at hd h1 h2 h3
    simp only [scopes_merge.l0]
    have e1 : rd (x :: l) 0 = x := rfl
    have e2 : rd (y :: m) 0 = y := rfl
    have e3 : (x :: l).drop (1 : Int).toNat = l := rfl
    have e4 : (y :: m).drop (1 : Int).toNat = m := rfl
    rw [if_neg (by simp <;> omega), if_neg (by simp <;> omega), if_pos (by simp <;> omega), if_pos (by simp <;> omega), e1, e2, e3, e4]
    by_cases c1 : x < y
    · rw [if_pos c1, if_pos (by omega), if_pos (by simp <;> omega)]
      rw [ih (l.length + (y :: m).length) (by simp <;> omega) k (f ++ [x]) b s l (y :: m) rfl (by simp <;> omega) hl' hm (by simp <;> omega) (by omega) (by simp <;> omega)]
      have hxm : x ∉ y :: m := fun h => by
        rcases List.mem_cons.1 h with rfl | h
        · omega
        · have := hy x h; omega
      have hf : (y :: m).filter (fun z => decide (z ∉ x :: l)) = (y :: m).filter (fun z => decide (z ∉ l)) := List.filter_congr fun z hz => by
        have : z ≠ x := fun e => hxm (e ▸ hz)
        simp [this]
      rw [hf, List.filter_cons_of_pos (p := fun z => decide (z ∉ y :: m)) (decide_eq_true hxm), List.filter_cons_of_neg (p := fun z => decide (z ∈ y :: m)) (fun e => hxm (of_decide_eq_true e))]
      simp
    · rw [if_neg c1]
      by_cases c2 : x > y
      · rw [if_pos c2, if_pos (by omega), if_pos (by simp <;> omega)]
        rw [ih ((x :: l).length + m.length) (by simp <;> omega) k f b (s ++ [y]) (x :: l) m rfl (by simp <;> omega) hl hm' (by simp <;> omega) (by simp <;> omega) (by simp <;> omega)]
        have hyl : y ∉ x :: l := fun h => by
          rcases List.mem_cons.1 h with rfl | h
          · omega
          · have := hx y h; omega
        have hf : ∀ z ∈ x :: l, (z ∈ y :: m ↔ z ∈ m) := fun z hz => by
          have : z ≠ y := fun e => hyl (e ▸ hz)
          simp [this]
        have hf1 : (x :: l).filter (fun z => decide (z ∉ y :: m)) = (x :: l).filter (fun z => decide (z ∉ m)) := List.filter_congr fun z hz => by simp only [hf z hz]
        have hf2 : (x :: l).filter (fun z => decide (z ∈ y :: m)) = (x :: l).filter (fun z => decide (z ∈ m)) := List.filter_congr fun z hz => by simp only [hf z hz]
        rw [hf1, hf2, List.filter_cons_of_pos (p := fun z => decide (z ∉ x :: l)) (decide_eq_true hyl)]
        simp
      · obtain rfl : x = y := by omega
        rw [if_neg c2, if_pos (by omega), if_pos (by simp <;> omega), if_pos (by simp <;> omega)]
        rw [ih (l.length + m.length) (by omega) k f (b ++ [x]) s l m rfl (by omega) hl' hm' (by omega) (by simp <;> omega) (by omega)]
        have hf1 : l.filter (fun z => decide (z ∉ x :: m)) = l.filter (fun z => decide (z ∉ m)) := List.filter_congr fun z hz => by
          have := hx z hz
          have : z ≠ x := by omega
          simp [this]
        have hf2 : l.filter (fun z => decide (z ∈ x :: m)) = l.filter (fun z => decide (z ∈ m)) := List.filter_congr fun z hz => by
          have := hx z hz
          have : z ≠ x := by omega
          simp [this]
        have hf3 : m.filter (fun z => decide (z ∉ x :: l)) = m.filter (fun z => decide (z ∉ l)) := List.filter_congr fun z hz => by
          have := hy z hz
          have : z ≠ x := by omega
          simp [this]
        rw [List.filter_cons_of_neg (p := fun z => decide (z ∉ x :: m)) (by simp), List.filter_cons_of_pos (p := fun z => decide (z ∈ x :: m)) (by simp), List.filter_cons_of_neg (p := fun z => decide (z ∉ x :: l)) (by simp), hf1, hf2, hf3]
        simp
/-- The scopes of a set. -/
def P (s : ByteArray) : List Int := pairs s (s.size / 2)
theorem chk_even {s : ByteArray} (h : chk s = 0) : s.size % 2 = 0 := by
  unfold chk at h
  by_cases c : (s.size : Int) % 2 = 0
  · omega
  · rw [if_neg c] at h; cases h
theorem chk_asc {s : ByteArray} (h : chk s = 0) : Asc (P s) := by
  unfold chk at h
  by_cases c : (s.size : Int) % 2 = 0
  · rw [if_pos c] at h
    by_cases c2 : asc (-1) (pairs s (s.size / 2)) = true
    · exact (asc_pairwise _ _ c2).2
    · rw [if_neg c2] at h; cases h
  · rw [if_neg c] at h; cases h
theorem ofP_P {s : ByteArray} (h : chk s = 0) : s = ofP (P s) := size_even s (chk_even h)
theorem P_length (s : ByteArray) : (P s).length = s.size / 2 := pairs_length s _
def subset (a b : ByteArray) : Bool := (P a).all fun x => (P b).contains x
theorem subset_iff (a b : ByteArray) : (subset a b = true) ↔ ∀ x ∈ P a, x ∈ P b := by simp [subset]
def subSpec (a b : ByteArray) : Bool × Int := if chk a = 0 then (if chk b = 0 then (subset a b, 0) else (false, chk b)) else (false, chk a)
theorem scopesSub_f (a b : ByteArray) (ha : a.size ≤ 1099511627776) (hb : b.size ≤ 1099511627776) (k : Nat) (hk : a.size + b.size < k) : scopes_Sub.f k a b = some (subSpec a b) := by
  unfold scopes_Sub.f scopes_merge.f scopes_Ids.f subSpec
  rw [if_pos (by omega), if_pos (by omega), Option.bind_some]
  unfold Ids_p
  by_cases c1 : chk a = 0
  · rw [if_pos c1, if_pos c1]
    simp only [if_true, Option.bind_some]
    by_cases c2 : chk b = 0
    · rw [if_pos c2, if_pos c2]
      simp only [if_true]
      have hla := P_length a; have hlb := P_length b
      have hm := merge_l0 ((P a).length + (P b).length) k [] [] [] (P a) (P b) rfl (by omega) (chk_asc c1) (chk_asc c2) (by simp; omega) (by simp; omega) (by simp; omega)
      rw [show pairs a (a.size / 2) = P a from rfl, show pairs b (b.size / 2) = P b from rfl, hm, Option.bind_some]
      simp only [List.nil_append, if_true]
      have hs : ((((P a).filter (fun x => decide (x ∉ P b))).length : Int) == 0) = subset a b := by
        rw [Bool.eq_iff_iff, beq_iff_eq, subset_iff]
        constructor
        · intro h x hx
          have h0 : (P a).filter (fun x => decide (x ∉ P b)) = [] := List.length_eq_zero_iff.1 (by omega)
          have := List.filter_eq_nil_iff.1 h0 x hx
          simpa using this
        · intro h
          have h0 : (P a).filter (fun x => decide (x ∉ P b)) = [] := List.filter_eq_nil_iff.2 fun x hx => by simpa using h x hx
          rw [h0]; rfl
      rw [hs]
    · rw [if_neg c2, if_neg c2]
      simp [c2]
  · rw [if_neg c1, if_neg c1]
    simp [c1]
/-- The error of a binding by itself. -/
def bindErr (b : S24) : Int := if b.f0.toList = [] then 6 else if (b.f0.size : Int) > 24 then 3 else if chk b.f1 = 0 then (if b.f2 < 1 then 7 else if b.f2 > 4 then 7 else if b.f3 < 0 then 7 else 0) else chk b.f1
def sameKey (x b : S24) : Bool := decide (x.f0.toList = b.f0.toList) && decide (x.f1.toList = b.f1.toList)
def oneErr (l : List S24) (i : Nat) (b : S24) : Int := if bindErr b = 0 then (if (l.take i).any (sameKey · b) = true then 8 else 0) else bindErr b
theorem bindcheck_f (b : S24) (h : b.f1.size ≤ 1099511627776) : binds_check.f b.f0 b.f1 b.f2 b.f3 = some (bindErr b) := by
  unfold binds_check.f bindErr scopes_Check.f
  rw [if_pos (show b.f1.size ≤ 9223372036854775807 by omega)]
  simp only [Option.bind_some]
  repeat' split
  all_goals first | rfl | simp_all
theorem rdT (l : List S24) (i : Nat) (h : i < l.length) : rd_T24 l (i : Int) = l[i] := by simp [rd_T24, h]
def tgo (l : List S24) : List S24 → Nat → Int × Int
  | [], _ => (0, 0)
  | b :: r, i => if oneErr l i b = 0 then tgo l r (i + 1) else ((i : Int), oneErr l i b)
/-- What is wrong with a table. -/
def tab (l : List S24) : Int × Int := if (l.length : Int) > 1000 then (-1, 3) else tgo l l 0
/-- A table whose strings are no longer than B. -/
def TB (B : Nat) (l : List S24) : Prop := ∀ b ∈ l, b.f0.size ≤ B ∧ b.f1.size ≤ B
theorem hasKey_any (seen : List (ByteArray × ByteArray)) (l : List S24) (h : ∀ x, x ∈ seen ↔ x ∈ l.map (fun b => (b.f0, b.f1))) (b : S24) : hasKey seen b.f0 b.f1 = l.any (sameKey · b) := by
  rw [Bool.eq_iff_iff]
  unfold hasKey sameKey
  rw [List.any_eq_true, List.any_eq_true]
  constructor
  · rintro ⟨x, hx, hs⟩
    obtain ⟨c, hc, rfl⟩ := List.mem_map.1 ((h x).1 hx)
    exact ⟨c, hc, hs⟩
  · rintro ⟨c, hc, hs⟩
    exact ⟨_, (h _).2 (List.mem_map.2 ⟨c, hc, rfl⟩), hs⟩
theorem check_go (l : List S24) (hl : TB 1099511627776 l) : ∀ (d i : Nat) (seen : List (ByteArray × ByteArray)), i + d = l.length → (∀ x, x ∈ seen ↔ x ∈ (l.take i).map (fun b => (b.f0, b.f1))) →
    binds_Check.go (l.drop i) (i : Int) seen = some (tgo l (l.drop i) i) := by
  intro d
  induction d with
  | zero =>
    intro i seen hi hs
    rw [List.drop_eq_nil_of_le (by omega)]; rfl
  | succ d ih =>
    intro i seen hi hs
    have hil : i < l.length := by omega
    have hsz := hl _ (List.getElem_mem hil)
    rw [List.drop_eq_getElem_cons hil]
    unfold binds_Check.go
    rw [if_pos ⟨by unfold maxLen; omega, by unfold maxLen; omega⟩, bindcheck_f _ hsz.2, Option.bind_some, tgo, hasKey_any seen (l.take i) hs]
    unfold oneErr
    by_cases c : bindErr l[i] = 0
    · rw [if_pos c, if_pos c]
      by_cases c2 : (l.take i).any (sameKey · l[i]) = true
      · rw [if_pos c2, if_pos c2]; rfl
      · rw [if_neg c2, if_neg c2, if_pos rfl]
        refine ih (i + 1) _ (by omega) ?_
        intro x
        rw [List.take_succ_eq_append_getElem hil, List.map_append, List.mem_append, ← hs x, List.mem_cons, or_comm]
        simp
    · rw [if_neg c, if_neg c, if_neg c]
theorem bindsCheck_f (l : List S24) (hl : TB 1099511627776 l) : binds_Check.f l = some (tab l) := by
  unfold binds_Check.f tab
  by_cases c : (l.length : Int) > 1000
  · rw [if_pos c, if_pos c]
  · rw [if_neg c, if_neg c]
    exact check_go l hl l.length 0 [] (by omega) (by simp)
def cnd (l : List S24) (name set : ByteArray) (i : Nat) : Bool := decide ((l.getD i z24).f0.toList = name.toList) && (subSpec (l.getD i z24).f1 set).1
def cands (l : List S24) (name set : ByteArray) (n : Nat) : List Int := ((List.range n).filter (cnd l name set)).map fun (i : Nat) => (i : Int)
theorem cands_succ (l : List S24) (name set : ByteArray) (n : Nat) : cands l name set (n + 1) = cands l name set n ++ (if cnd l name set n = true then [(n : Int)] else []) := by
  unfold cands
  rw [List.range_succ, List.filter_append, List.map_append]
  by_cases c : cnd l name set n = true <;> simp [c]
theorem cands_length (l : List S24) (name set : ByteArray) (n : Nat) : (cands l name set n).length ≤ n := by
  unfold cands
  rw [List.length_map]
  exact Nat.le_trans (List.length_filter_le _ _) (by simp)
theorem cnd_at (l : List S24) (name set : ByteArray) (i : Nat) (h : i < l.length) : cnd l name set i = (decide (l[i].f0.toList = name.toList) && (subSpec l[i].f1 set).1) := by
  unfold cnd
  simp [h]
def candSpec (l : List S24) (name set : ByteArray) : List Int × Int := if (tab l).2 = 0 then (if chk set = 0 then (cands l name set l.length, 0) else ([], chk set)) else ([], (tab l).2)
theorem bCand_l0 (B : Nat) (hB : B ≤ 1099511627776) (l : List S24) (hl : TB B l) (hb : l.length ≤ 1099511627776) (name set : ByteArray) (hs : set.size ≤ B) : ∀ (d j k : Nat), j + d = l.length → d + 2 * B + 1 < k →
    binds_Candidates.l0 k name set (cands l name set j) l (l.length : Int) (j : Int) = some (cands l name set l.length, 0) := by
  intro d
  induction d with
  | zero =>
    intro j k hj hk
    obtain ⟨k, rfl⟩ : ∃ m, k = m + 1 := ⟨k - 1, by omega⟩
    simp only [binds_Candidates.l0]
    rw [if_neg (by omega), show j = l.length by omega]
  | succ d ih =>
    intro j k hj hk
    obtain ⟨k, rfl⟩ : ∃ m, k = m + 1 := ⟨k - 1, by omega⟩
    have hjl : j < l.length := by omega
    have hsz := hl _ (List.getElem_mem hjl)
    have e2 : wrap64 ((j : Int) + 1) = ((j + 1 : Nat) : Int) := by rw [w64 (by omega) (by omega)]; omega
    simp only [binds_Candidates.l0, rdT l j hjl, e2]
    rw [if_pos (by omega), if_pos (by omega), if_pos (by omega), scopesSub_f _ _ (by omega) (by omega) k (by omega), Option.bind_some]
    have hn := ih (j + 1) k (by omega) (by omega)
    rw [cands_succ, cnd_at l name set j hjl] at hn
    have hlen := cands_length l name set j
    by_cases c1 : l[j].f0.toList = name.toList
    · rw [if_pos c1]
      by_cases c2 : (subSpec l[j].f1 set).1 = true
      · rw [if_pos c2, if_pos (by omega)]
        simpa [c1, c2] using hn
      · rw [if_neg c2]
        simpa [c1, c2] using hn
    · rw [if_neg c1]
      simpa [c1] using hn
theorem bCand_f (B : Nat) (hB : B ≤ 1099511627776) (l : List S24) (hl : TB B l) (hb : l.length ≤ 1099511627776) (name set : ByteArray) (hs : set.size ≤ B) (k : Nat) (hk : l.length + 2 * B + 1 < k) :
    binds_Candidates.f k l name set = some (candSpec l name set) := by
  unfold binds_Candidates.f candSpec scopes_Check.f
  rw [bindsCheck_f l (fun b hb => ⟨by have := (hl b hb).1; omega, by have := (hl b hb).2; omega⟩), Option.bind_some]
  by_cases c1 : (tab l).2 = 0
  · rw [if_pos c1, if_pos c1, if_pos (by omega), Option.bind_some]
    by_cases c2 : chk set = 0
    · rw [if_pos c2, if_pos c2]
      exact bCand_l0 B hB l hl hb name set hs l.length 0 k (by omega) (by omega)
    · rw [if_neg c2, if_neg c2]
  · rw [if_neg c1, if_neg c1]
def askSpec (l : List S24) (set : ByteArray) : Int := if (tab l).2 = 0 then chk set else (tab l).2
theorem wnext (i : Nat) (h : i ≤ 1099511627776) : wrap64 ((i : Int) + 1) = ((i + 1 : Nat) : Int) := by rw [w64 (by omega) (by omega)]; omega
def subT (l : List S24) (x y : Int) : Bool := (subSpec (rd_T24 l x).f1 (rd_T24 l y).f1).1
def top (l : List S24) (C : List Int) (y : Int) : Bool := C.all fun x => subT l x y
def findTop (l : List S24) (C : List Int) : List Int → Int × Int
  | [] => if (C.length : Int) > 0 then (0, 11) else (0, 10)
  | y :: r => if top l C y = true then (y, 0) else findTop l C r
def InT (l : List S24) (C : List Int) : Prop := ∀ x ∈ C, 0 ≤ x ∧ x < (l.length : Int)
theorem TB_rd {B : Nat} {l : List S24} (hl : TB B l) {x : Int} (h : 0 ≤ x ∧ x < (l.length : Int)) : (rd_T24 l x).f1.size ≤ B := by
  obtain ⟨n, rfl⟩ : ∃ n : Nat, x = n := ⟨x.toNat, by omega⟩
  rw [rdT l n (by omega)]
  exact (hl _ (List.getElem_mem _)).2
theorem cands_InT (l : List S24) (name set : ByteArray) : InT l (cands l name set l.length) := by
  intro x hx
  obtain ⟨i, hi, rfl⟩ := List.mem_map.1 hx
  have := List.mem_range.1 (List.mem_filter.1 hi).1
  omega
def resSpec (l : List S24) (name set : ByteArray) : Int × Int := if askSpec l set = 0 then findTop l (cands l name set l.length) (cands l name set l.length) else (0, askSpec l set)
theorem above_f (B : Nat) (hB : B ≤ 1099511627776) (l : List S24) (hl : TB B l) (k : Nat) (hk : 2 * B < k) (a b : Int) (ha : 0 ≤ a ∧ a < (l.length : Int)) (hb : 0 ≤ b ∧ b < (l.length : Int)) : Rs.above k l a b = some (subT l b a) := by
  unfold Rs.above
  have s1 := TB_rd hl ha; have s2 := TB_rd hl hb
  rw [if_pos ⟨ha.1, ha.2, hb.1, hb.2⟩, scopesSub_f _ _ (by omega) (by omega) k (by omega)]
  rfl
def g1s (l : List S24) : List Int → Int → Bool → Int × Bool
  | [], f, s => (f, s)
  | x :: r, f, s => if s = true then (if subT l f x = true then g1s l r x true else g1s l r f true) else g1s l r x true
theorem g1_f (B : Nat) (hB : B ≤ 1099511627776) (l : List S24) (hl : TB B l) (k : Nat) (hk : 2 * B < k) : ∀ (C : List Int) (f : Int) (s : Bool), InT l C → (s = true → 0 ≤ f ∧ f < (l.length : Int)) → Rs.g1 k l C f s = some (g1s l C f s)
  | [], _, _, _, _ => rfl
  | x :: r, f, s, hC, hf => by
    have hx := hC x (by simp)
    have hr : InT l r := fun y hy => hC y (by simp [hy])
    unfold Rs.g1 g1s
    cases s with
    | true =>
      rw [if_pos rfl, if_pos rfl, above_f B hB l hl k hk x f hx (hf rfl), Option.bind_some]
      by_cases c : subT l f x = true
      · rw [if_pos c, if_pos c]; exact g1_f B hB l hl k hk r x true hr (fun _ => hx)
      · rw [if_neg c, if_neg c]; exact g1_f B hB l hl k hk r f true hr hf
    | false =>
      rw [if_neg (by decide), if_neg (by decide)]
      exact g1_f B hB l hl k hk r x true hr (fun _ => hx)
theorem g2_f (B : Nat) (hB : B ≤ 1099511627776) (l : List S24) (hl : TB B l) (k : Nat) (hk : 2 * B < k) : ∀ (C : List Int) (f : Int) (s : Bool), InT l C → (s = true → 0 ≤ f ∧ f < (l.length : Int)) → Rs.g2 k l C f s = some (s && C.all fun x => subT l x f)
  | [], _, s, _, _ => by simp [Rs.g2]
  | x :: r, f, s, hC, hf => by
    have hx := hC x (by simp)
    have hr : InT l r := fun y hy => hC y (by simp [hy])
    unfold Rs.g2
    cases s with
    | true =>
      rw [if_pos rfl, above_f B hB l hl k hk f x (hf rfl) hx, Option.bind_some, g2_f B hB l hl k hk r f _ hr (fun _ => hf rfl)]
      simp
    | false =>
      rw [if_neg (by decide), g2_f B hB l hl k hk r f false hr (fun h => by cases h)]
      simp
theorem subSpec_iff {a b : ByteArray} : ((subSpec a b).1 = true) ↔ chk a = 0 ∧ chk b = 0 ∧ ∀ x ∈ P a, x ∈ P b := by
  unfold subSpec
  by_cases c1 : chk a = 0
  · by_cases c2 : chk b = 0
    · rw [if_pos c1, if_pos c2]; simp [c1, c2, subset_iff]
    · rw [if_pos c1, if_neg c2]; simp [c2]
  · rw [if_neg c1]; simp [c1]
theorem asc_eq : ∀ (l m : List Int), Asc l → Asc m → (∀ x, x ∈ l ↔ x ∈ m) → l = m
  | [], [], _, _, _ => rfl
  | [], y :: m, _, _, h => by simpa using (h y).2 (by simp)
  | x :: l, [], _, _, h => by simpa using (h x).1 (by simp)
  | x :: l, y :: m, hl, hm, h => by
    obtain ⟨hx, hl'⟩ := List.pairwise_cons.1 hl
    obtain ⟨hy, hm'⟩ := List.pairwise_cons.1 hm
    have e : x = y := by
      rcases List.mem_cons.1 ((h x).1 (by simp)) with e | h1
      · exact e
      · rcases List.mem_cons.1 ((h y).2 (by simp)) with e | h2
        · exact e.symm
        · have := hy x h1; have := hx y h2; omega
    subst e
    rw [asc_eq l m hl' hm' fun z => ?_]
    have := h z
    constructor
    · intro hz
      have hne := hx z hz
      rcases List.mem_cons.1 (this.1 (by simp [hz])) with e | h1
      · omega
      · exact h1
    · intro hz
      have hne := hy z hz
      rcases List.mem_cons.1 (this.2 (by simp [hz])) with e | h1
      · omega
      · exact h1
theorem sub_antisymm {a b : ByteArray} (h1 : (subSpec a b).1 = true) (h2 : (subSpec b a).1 = true) : a = b := by
  obtain ⟨ca, cb, hab⟩ := subSpec_iff.1 h1
  obtain ⟨_, _, hba⟩ := subSpec_iff.1 h2
  rw [ofP_P ca, ofP_P cb, asc_eq (P a) (P b) (chk_asc ca) (chk_asc cb) fun x => ⟨hab x, hba x⟩]
theorem tgo_ok (l : List S24) : ∀ (d i : Nat), i + d = l.length → (tgo l (l.drop i) i).2 = 0 → ∀ (j : Nat) (h : j < l.length), i ≤ j → oneErr l j l[j] = 0
  | 0, i, hi, _, j, h, hij => by omega
  | d + 1, i, hi, ht, j, h, hij => by
    have hil : i < l.length := by omega
    rw [List.drop_eq_getElem_cons hil, tgo] at ht
    by_cases c : oneErr l i l[i] = 0
    · rw [if_pos c] at ht
      by_cases e : j = i
      · subst e; exact c
      · exact tgo_ok l d (i + 1) (by omega) ht j h (by omega)
    · rw [if_neg c] at ht; exact absurd ht c
theorem tab_ok (l : List S24) (h : (tab l).2 = 0) (j : Nat) (hj : j < l.length) : oneErr l j l[j] = 0 := by
  unfold tab at h
  by_cases c : (l.length : Int) > 1000
  · rw [if_pos c] at h; cases h
  · rw [if_neg c] at h; exact tgo_ok l l.length 0 (by omega) h j hj (by omega)
theorem one_key (l : List S24) (h : (tab l).2 = 0) (i j : Nat) (hij : i < j) (hj : j < l.length) : sameKey (l[i]'(by omega)) l[j] = false := by
  have h1 := tab_ok l h j hj
  unfold oneErr at h1
  by_cases c : bindErr l[j] = 0
  · rw [if_pos c] at h1
    by_cases c2 : (l.take j).any (sameKey · l[j]) = true
    · rw [if_pos c2] at h1; cases h1
    · cases hs : sameKey (l[i]'(by omega)) l[j] with
      | false => rfl
      | true =>
        refine absurd (List.any_eq_true.2 ⟨l[i]'(by omega), ?_, hs⟩) c2
        exact List.mem_take_iff_getElem.2 ⟨i, by omega, rfl⟩
  · rw [if_neg c] at h1; exact absurd h1 c
theorem g1s_stay (l : List S24) (y : Int) : ∀ (r : List Int), (∀ x ∈ r, subT l y x = true → x = y) → g1s l r y true = (y, true)
  | [], _ => rfl
  | x :: r, h => by
    unfold g1s
    rw [if_pos rfl]
    by_cases c : subT l y x = true
    · rw [if_pos c, h x (by simp) c]; exact g1s_stay l y r fun z hz => h z (by simp [hz])
    · rw [if_neg c]; exact g1s_stay l y r fun z hz => h z (by simp [hz])
theorem g1s_top (l : List S24) (y : Int) : ∀ (r : List Int) (f : Int) (s : Bool), (∀ x ∈ r, subT l y x = true → x = y) → (∀ x ∈ r, subT l x y = true) → (s = true → subT l f y = true) → y ∈ r → g1s l r f s = (y, true)
  | x :: r, f, s, h, ht, hf, hy => by
    unfold g1s
    have h' : ∀ z ∈ r, subT l y z = true → z = y := fun z hz => h z (by simp [hz])
    have ht' : ∀ z ∈ r, subT l z y = true := fun z hz => ht z (by simp [hz])
    by_cases e : x = y
    · subst e
      cases s with
      | true => rw [if_pos rfl, if_pos (hf rfl)]; exact g1s_stay l x r h'
      | false => rw [if_neg (by decide)]; exact g1s_stay l x r h'
    · have hyr : y ∈ r := by
        rcases List.mem_cons.1 hy with e' | h1
        · exact absurd e'.symm e
        · exact h1
      cases s with
      | true =>
        rw [if_pos rfl]
        by_cases c : subT l f x = true
        · rw [if_pos c]; exact g1s_top l y r x true h' ht' (fun _ => ht x (by simp)) hyr
        · rw [if_neg c]; exact g1s_top l y r f true h' ht' hf hyr
      | false => rw [if_neg (by decide)]; exact g1s_top l y r x true h' ht' (fun _ => ht x (by simp)) hyr
theorem findTop_first (l : List S24) (C : List Int) (y : Int) (hu : ∀ x ∈ C, top l C x = true → x = y) : ∀ (r : List Int), (∀ x ∈ r, x ∈ C) → y ∈ r → top l C y = true → findTop l C r = (y, 0)
  | x :: r, hr, hy, ht => by
    unfold findTop
    by_cases c : top l C x = true
    · rw [if_pos c, hu x (hr x (by simp)) c]
    · rw [if_neg c]
      have hyr : y ∈ r := by
        rcases List.mem_cons.1 hy with e | h
        · exact absurd (e ▸ ht) c
        · exact h
      exact findTop_first l C y hu r (fun z hz => hr z (by simp [hz])) hyr ht
theorem findTop_none (l : List S24) (C : List Int) (hC : C ≠ []) : ∀ (r : List Int), (∀ x ∈ r, ¬ top l C x = true) → findTop l C r = (0, 11)
  | [], _ => by
    unfold findTop
    have : 0 < C.length := List.length_pos_iff.2 hC
    rw [if_pos (by omega)]
  | x :: r, h => by
    unfold findTop
    rw [if_neg (h x (by simp))]
    exact findTop_none l C hC r fun z hz => h z (by simp [hz])
/-- What greatest tells is what the reference finds. -/
theorem greatest_eq (l : List S24) (C : List Int) (hne : C ≠ []) (ha : ∀ x ∈ C, ∀ y ∈ C, subT l x y = true → subT l y x = true → x = y) (hf : ∀ (f : Int), (g1s l C 0 false).1 = f → top l C f = true → f ∈ C) :
    (if ((g1s l C 0 false).2 && top l C (g1s l C 0 false).1) = true then ((g1s l C 0 false).1, (0 : Int)) else ((0 : Int), (11 : Int))) = findTop l C C := by
  by_cases h : ∃ y ∈ C, top l C y = true
  · obtain ⟨y, hy, ht⟩ := h
    have hts : ∀ x ∈ C, subT l x y = true := fun x hx => List.all_eq_true.1 ht x hx
    rw [g1s_top l y C 0 false (fun x hx hs => ha x hx y hy (hts x hx) hs) hts (fun e => by cases e) hy]
    rw [findTop_first l C y (fun x hx hx' => ha x hx y hy (hts x hx) (List.all_eq_true.1 hx' y hy)) C (fun _ h => h) hy ht]
    simp [ht]
  · rw [findTop_none l C hne C (fun x hx hx' => h ⟨x, hx, hx'⟩)]
    rw [if_neg]
    intro hh
    rw [Bool.and_eq_true] at hh
    exact h ⟨_, hf _ rfl hh.2, hh.2⟩
theorem g1s_mem (l : List S24) (D : List Int) : ∀ (C : List Int) (f : Int), f ∈ D → (∀ x ∈ C, x ∈ D) → (g1s l C f true).1 ∈ D
  | [], f, hf, _ => hf
  | x :: r, f, hf, h => by
    unfold g1s
    rw [if_pos rfl]
    by_cases c : subT l f x = true
    · rw [if_pos c]; exact g1s_mem l D r x (h x (by simp)) fun z hz => h z (by simp [hz])
    · rw [if_neg c]; exact g1s_mem l D r f hf fun z hz => h z (by simp [hz])
theorem g1s_mem0 (l : List S24) (C : List Int) (hC : C ≠ []) (f : Int) : (g1s l C f false).1 ∈ C := by
  match C, hC with
  | x :: r, _ =>
    unfold g1s
    rw [if_neg (by decide)]
    exact g1s_mem l (x :: r) r x (by simp) fun z hz => by simp [hz]
theorem cands_mem {l : List S24} {name set : ByteArray} {x : Int} (h : x ∈ cands l name set l.length) : ∃ i : Nat, i < l.length ∧ x = (i : Int) ∧ cnd l name set i = true := by
  obtain ⟨i, hi, rfl⟩ := List.mem_map.1 h
  obtain ⟨h1, h2⟩ := List.mem_filter.1 hi
  exact ⟨i, List.mem_range.1 h1, rfl, h2⟩
theorem cands_anti (l : List S24) (name set : ByteArray) (ht : (tab l).2 = 0) : ∀ x ∈ cands l name set l.length, ∀ y ∈ cands l name set l.length, subT l x y = true → subT l y x = true → x = y := by
  intro x hx y hy h1 h2
  obtain ⟨i, hi, rfl, ci⟩ := cands_mem hx
  obtain ⟨j, hj, rfl, cj⟩ := cands_mem hy
  unfold subT at h1 h2
  rw [rdT l i hi, rdT l j hj] at h1 h2
  have e := sub_antisymm h1 h2
  rw [cnd_at l name set i hi, Bool.and_eq_true, decide_eq_true_eq] at ci
  rw [cnd_at l name set j hj, Bool.and_eq_true, decide_eq_true_eq] at cj
  rcases Nat.lt_trichotomy i j with h | h | h
  · have := one_key l ht i j h hj
    unfold sameKey at this
    rw [ci.1, cj.1, e] at this
    simp at this
  · rw [h]
  · have := one_key l ht j i h hi
    unfold sameKey at this
    rw [ci.1, cj.1, e] at this
    simp at this
theorem bResolve_f (B : Nat) (hB : B ≤ 1099511627776) (l : List S24) (hl : TB B l) (hb : l.length ≤ 2000) (name set : ByteArray) (hs : set.size ≤ B) (k : Nat) (hk : 5000000 + 2 * B < k) :
    binds_Resolve.f k l name set = some (resSpec l name set) := by
  unfold binds_Resolve.f resSpec
  rw [bCand_f B hB l hl (by omega) name set hs k (by omega), Option.bind_some]
  unfold candSpec askSpec
  by_cases c1 : (tab l).2 = 0
  · rw [if_pos c1, if_pos c1]
    by_cases c2 : chk set = 0
    · rw [if_pos c2, if_pos c2]
      dsimp only
      rw [if_pos rfl]
      have hlen := cands_length l name set l.length
      by_cases c3 : cands l name set l.length = []
      · rw [c3]; simp [findTop]
      · have hpos : 0 < (cands l name set l.length).length := List.length_pos_iff.2 c3
        rw [if_neg (by omega), if_pos (by omega)]
        have hin := cands_InT l name set
        rw [g1_f B hB l hl k (by omega) _ 0 false hin (fun e => by cases e), Option.bind_some]
        have hmem := g1s_mem0 l _ c3 0
        rw [g2_f B hB l hl k (by omega) _ _ _ hin (fun _ => hin _ hmem), Option.bind_some]
        rw [← greatest_eq l _ c3 (cands_anti l name set c1) (fun f hf _ => hf ▸ hmem)]
        unfold top
        split <;> rfl
    · rw [if_neg c2, if_neg c2]
      dsimp only
      rw [if_neg c2]
  · rw [if_neg c1, if_neg c1, if_neg c1]
    dsimp only
    rw [if_neg c1]
def addSpec (l : List S24) (b : S24) : List S24 × Int := if (tab l).2 = 0 then (if (tab (l ++ [b])).2 = 0 then (l ++ [b], 0) else ([], (tab (l ++ [b])).2)) else ([], (tab l).2)
theorem TB_add {B : Nat} {l : List S24} (hl : TB B l) {b : S24} (h : b.f0.size ≤ B ∧ b.f1.size ≤ B) : TB B (l ++ [b]) := by
  intro x hx
  rcases List.mem_append.1 hx with h1 | h1
  · exact hl x h1
  · rw [List.mem_singleton.1 h1]; exact h
theorem bAdd_f (B : Nat) (hB : B ≤ 1099511627776) (l : List S24) (hl : TB B l) (hb : l.length ≤ 1099511627) (b : S24) (h : b.f0.size ≤ B ∧ b.f1.size ≤ B) :
    binds_Add.f l b.f0 b.f1 b.f2 b.f3 = some (addSpec l b) := by
  have big : ∀ {m : List S24}, TB B m → TB 1099511627776 m := fun h x hx => ⟨by have := (h x hx).1; omega, by have := (h x hx).2; omega⟩
  unfold binds_Add.f addSpec
  rw [bindsCheck_f l (big hl), Option.bind_some]
  by_cases c : (tab l).2 = 0
  · rw [if_pos c, if_pos c]
    unfold api_BnBind.f
    rw [if_pos (by omega), Option.bind_some, Option.bind_some, if_pos (by simp only [List.length_singleton]; omega), Option.bind_some, bindsCheck_f _ (big (TB_add hl h)), Option.bind_some]
    split <;> rfl
  · rw [if_neg c, if_neg c]
theorem ints_l0 (l : List Int) (hb : l.length ≤ 1099511627776) : ∀ (d i k : Nat), i + d = l.length → d < k → mummerref11_Ints.l0 k l l (i : Int) = some true := by
  intro d
  induction d with
  | zero =>
    intro i k hi hk
    obtain ⟨k, rfl⟩ : ∃ m, k = m + 1 := ⟨k - 1, by omega⟩
    simp only [mummerref11_Ints.l0]
    rw [if_neg (by omega)]
  | succ d ih =>
    intro i k hi hk
    obtain ⟨k, rfl⟩ : ∃ m, k = m + 1 := ⟨k - 1, by omega⟩
    simp only [mummerref11_Ints.l0, wnext i (by omega)]
    rw [if_pos (by omega), if_pos (by omega), if_pos (by omega), if_pos trivial]
    exact ih (i + 1) k (by omega) (by omega)
theorem ints_f (l : List Int) (hb : l.length ≤ 1099511627776) (k : Nat) (hk : l.length < k) : mummerref11_Ints.f k l l = some true := by
  unfold mummerref11_Ints.f
  rw [if_pos rfl]
  exact ints_l0 l hb l.length 0 k (by omega) hk
def long (b : S24) : Bool := decide ((b.f0.size : Int) > 150) || decide ((b.f1.size : Int) > 150)
def wide (s : ByteArray) : Bool := decide ((s.size : Int) > 150)
def farB (l : List S24) (ss : List ByteArray) : Bool := (decide ((l.length : Int) > 60) && decide ((l.length : Int) ≤ 1000) || decide ((l.length : Int) > 1005)) || (l.any long || ss.any wide)
theorem far_l1 (ss : List ByteArray) (hb : ss.length ≤ 1099511627776) : ∀ (d i k : Nat), i + d = ss.length → d < k → mummerlaw11_far.l1 k ss (i : Int) = some ((ss.drop i).any wide) := by
  intro d
  induction d with
  | zero =>
    intro i k hi hk
    obtain ⟨k, rfl⟩ : ∃ m, k = m + 1 := ⟨k - 1, by omega⟩
    simp only [mummerlaw11_far.l1]
    rw [if_neg (by omega), List.drop_eq_nil_of_le (by omega)]; rfl
  | succ d ih =>
    intro i k hi hk
    obtain ⟨k, rfl⟩ : ∃ m, k = m + 1 := ⟨k - 1, by omega⟩
    have hil : i < ss.length := by omega
    simp only [mummerlaw11_far.l1, wnext i (by omega)]
    rw [if_pos (by omega), if_pos (by omega), List.drop_eq_getElem_cons hil, List.any_cons]
    have e : rdOf ByteArray.empty ss (i : Int) = ss[i] := by simp [rdOf, hil]
    rw [e]
    by_cases c : (ss[i].size : Int) > 150
    · rw [if_pos c, show wide ss[i] = true from by simp [wide]; omega]; rfl
    · rw [if_neg c, show wide ss[i] = false from by simp [wide]; omega, Bool.false_or]
      exact ih (i + 1) k (by omega) (by omega)
theorem far_l0 (l : List S24) (hlb : l.length ≤ 1099511627776) (ss : List ByteArray) (hb : ss.length ≤ 1099511627776) : ∀ (d i k : Nat), i + d = l.length → d + ss.length + 1 < k → mummerlaw11_far.l0 k l ss (i : Int) = some ((l.drop i).any long || ss.any wide) := by
  intro d
  induction d with
  | zero =>
    intro i k hi hk
    obtain ⟨k, rfl⟩ : ∃ m, k = m + 1 := ⟨k - 1, by omega⟩
    simp only [mummerlaw11_far.l0]
    rw [if_neg (by omega), List.drop_eq_nil_of_le (by omega)]
    exact far_l1 ss hb ss.length 0 k (by omega) (by omega)
  | succ d ih =>
    intro i k hi hk
    obtain ⟨k, rfl⟩ : ∃ m, k = m + 1 := ⟨k - 1, by omega⟩
    have hil : i < l.length := by omega
    simp only [mummerlaw11_far.l0, wnext i (by omega), rdT l i hil]
    rw [if_pos (by omega), if_pos (by omega), List.drop_eq_getElem_cons hil, List.any_cons]
    by_cases c : (l[i].f0.size : Int) > 150
    · rw [if_pos c, show long l[i] = true from by simp [long]; omega]; rfl
    · rw [if_neg c]
      by_cases c2 : (l[i].f1.size : Int) > 150
      · rw [if_pos c2, show long l[i] = true from by simp [long]; omega]; rfl
      · rw [if_neg c2, show long l[i] = false from by simp [long]; omega, Bool.false_or]
        exact ih (i + 1) k (by omega) (by omega)
theorem far_f (l : List S24) (ss : List ByteArray) (hb : ss.length ≤ 1099511627776) (k : Nat) (hk : 1010 + ss.length < k) : mummerlaw11_far.f k l ss = some (farB l ss) := by
  have hj : ∀ b : Bool, (b = false → l.length ≤ 1005) → mummerlaw11_far.j0 k l ss b = some (b || (l.any long || ss.any wide)) := by
    intro b h
    obtain ⟨k, rfl⟩ : ∃ m, k = m + 1 := ⟨k - 1, by omega⟩
    simp only [mummerlaw11_far.j0]
    cases b with
    | true => rfl
    | false =>
      have := h rfl
      rw [if_neg (by decide), Bool.false_or]
      exact far_l0 l (by omega) ss hb l.length 0 k (by omega) (by omega)
  unfold mummerlaw11_far.f farB
  by_cases c1 : (l.length : Int) > 60
  · rw [if_pos c1]
    by_cases c2 : (l.length : Int) ≤ 1000
    · rw [if_pos c2, hj true (fun e => by cases e)]; simp [c1, c2]
    · rw [if_neg c2, hj _ (fun e => by simp at e; omega)]; simp [c2]
  · rw [if_neg c1, hj _ (fun e => by simp at e; omega)]; simp [c1]
theorem far_no {l : List S24} {ss : List ByteArray} (h : farB l ss = false) : l.length ≤ 1005 ∧ TB 150 l ∧ ∀ s ∈ ss, s.size ≤ 150 := by
  unfold farB at h
  simp only [Bool.or_eq_false_iff, Bool.and_eq_false_iff, decide_eq_false_iff_not, List.any_eq_false, long, wide, Bool.or_eq_true, decide_eq_true_eq] at h
  obtain ⟨⟨_, h2⟩, h3, h4⟩ := h
  refine ⟨by omega, fun b hb => ?_, fun s hs => ?_⟩
  · have := h3 b hb; omega
  · have := h4 s hs; omega
def same2 (an bn : ByteArray) (a b : Int × Int) : Bool × Int :=
  if a.2 = 11 then (false, 11) else if b.2 = 11 then (false, 11) else if a.2 = 0 then (if b.2 = 0 then (a.1 == b.1, 0) else (if a.2 = b.2 then (an.toList == bn.toList, 0) else (false, 0))) else (if a.2 = b.2 then (an.toList == bn.toList, 0) else (false, 0))
def sameSpec (l : List S24) (an sa bn sb : ByteArray) : Bool × Int :=
  if askSpec l sa = 0 then (if askSpec l sb = 0 then same2 an bn (resSpec l an sa) (resSpec l bn sb) else (false, askSpec l sb)) else (false, askSpec l sa)
theorem findTop_code (l : List S24) (C : List Int) : ∀ r, (∀ x ∈ r, x ∈ C) → ((findTop l C r).2 = 0 ∧ (findTop l C r).1 ∈ C) ∨ (findTop l C r).2 = 10 ∨ (findTop l C r).2 = 11
  | [], _ => by
    unfold findTop
    split <;> simp
  | y :: r, h => by
    unfold findTop
    split
    · exact Or.inl ⟨rfl, h y (by simp)⟩
    · exact findTop_code l C r fun x hx => h x (by simp [hx])
theorem chk_codes (s : ByteArray) : chk s = 0 ∨ (chk s ≠ 10 ∧ chk s ≠ 11) := by
  unfold chk
  split
  · split
    · split <;> simp
    · simp
  · simp
theorem bindErr_codes (b : S24) : bindErr b = 0 ∨ (bindErr b ≠ 10 ∧ bindErr b ≠ 11) := by
  unfold bindErr
  have := chk_codes b.f1
  split
  · simp
  · split
    · simp
    · split
      · split
        · simp
        · split
          · simp
          · split <;> simp
      · exact this
theorem tgo_codes (l : List S24) : ∀ (r : List S24) (i : Nat), (tgo l r i).2 = 0 ∨ ((tgo l r i).2 ≠ 10 ∧ (tgo l r i).2 ≠ 11)
  | [], _ => Or.inl rfl
  | b :: r, i => by
    unfold tgo
    split
    · exact tgo_codes l r (i + 1)
    · dsimp only
      unfold oneErr
      split
      · split <;> simp
      · exact bindErr_codes b
theorem tab_codes (l : List S24) : (tab l).2 = 0 ∨ ((tab l).2 ≠ 10 ∧ (tab l).2 ≠ 11) := by
  unfold tab
  split
  · simp
  · exact tgo_codes l l 0
theorem ask_codes (l : List S24) (s : ByteArray) : askSpec l s = 0 ∨ (askSpec l s ≠ 10 ∧ askSpec l s ≠ 11) := by
  unfold askSpec
  split
  · exact chk_codes s
  · exact tab_codes l
theorem ask_tab {l : List S24} {s : ByteArray} (h : askSpec l s = 0) : (tab l).2 = 0 := by
  unfold askSpec at h
  by_cases c : (tab l).2 = 0
  · exact c
  · rw [if_neg c] at h; exact h
theorem resSpec_codes {l : List S24} {n s : ByteArray} (h : askSpec l s = 0) : ((resSpec l n s).2 = 0 ∧ 0 ≤ (resSpec l n s).1 ∧ (resSpec l n s).1 < (l.length : Int)) ∨ (resSpec l n s).2 = 10 ∨ (resSpec l n s).2 = 11 := by
  unfold resSpec
  rw [if_pos h]
  rcases findTop_code l (cands l n s l.length) (cands l n s l.length) (fun _ h => h) with ⟨h1, h2⟩ | h1
  · exact Or.inl ⟨h1, cands_InT l n s _ h2⟩
  · exact Or.inr h1
theorem whole_eq (l : List S24) (ht : (tab l).2 = 0) (x y : Int) (hx : 0 ≤ x ∧ x < (l.length : Int)) (hy : 0 ≤ y ∧ y < (l.length : Int)) :
    ((((rd_T24 l x).f0).toList) == (((rd_T24 l y).f0).toList) && ((((rd_T24 l x).f1).toList) == (((rd_T24 l y).f1).toList) && (((rd_T24 l x).f2) == ((rd_T24 l y).f2) && (((rd_T24 l x).f3) == ((rd_T24 l y).f3))))) = (x == y) := by
  obtain ⟨i, rfl⟩ : ∃ n : Nat, x = n := ⟨x.toNat, by omega⟩
  obtain ⟨j, rfl⟩ : ∃ n : Nat, y = n := ⟨y.toNat, by omega⟩
  have hi : i < l.length := by omega
  have hj : j < l.length := by omega
  rw [rdT l i hi, rdT l j hj]
  have hn : ∀ (i j : Nat) (hi : i < l.length) (hj : j < l.length), i < j → (decide (l[i].f0.toList = l[j].f0.toList) && decide (l[i].f1.toList = l[j].f1.toList)) = false := fun i j hi hj h => one_key l ht i j h hj
  rcases Nat.lt_trichotomy i j with h | h | h
  · have h1 := hn i j hi hj h
    rw [show ((i : Int) == (j : Int)) = false from by simp; omega]
    rw [Bool.and_eq_false_iff, decide_eq_false_iff_not, decide_eq_false_iff_not] at h1
    rcases h1 with h1 | h1
    · rw [show ((l[i].f0.toList == l[j].f0.toList) = false) from beq_eq_false_iff_ne.2 h1, Bool.false_and]
    · rw [show ((l[i].f1.toList == l[j].f1.toList) = false) from beq_eq_false_iff_ne.2 h1, Bool.false_and, Bool.and_false]
  · subst h; simp
  · have h1 := hn j i hj hi h
    rw [show ((i : Int) == (j : Int)) = false from by simp; omega]
    rw [Bool.and_eq_false_iff, decide_eq_false_iff_not, decide_eq_false_iff_not] at h1
    rcases h1 with h1 | h1
    · rw [show ((l[i].f0.toList == l[j].f0.toList) = false) from beq_eq_false_iff_ne.2 (fun e => h1 e.symm), Bool.false_and]
    · rw [show ((l[i].f1.toList == l[j].f1.toList) = false) from beq_eq_false_iff_ne.2 (fun e => h1 e.symm), Bool.false_and, Bool.and_false]
theorem bSame_f (B : Nat) (hB : B ≤ 1099511627776) (l : List S24) (hl : TB B l) (hb : l.length ≤ 2000) (an sa bn sb : ByteArray) (p q p' q' : Int) (ha : sa.size ≤ B) (hb' : sb.size ≤ B) (k : Nat) (hk : 5000000 + 2 * B < k) :
    binds_Same.f k l an sa p q bn sb p' q' = some (sameSpec l an sa bn sb) := by
  unfold binds_Same.f sameSpec
  rw [bResolve_f B hB l hl hb an sa ha k hk, Option.bind_some, bResolve_f B hB l hl hb bn sb hb' k hk, Option.bind_some]
  obtain ⟨k, rfl⟩ : ∃ m, k = m + 3 := ⟨k - 3, by omega⟩
  by_cases c1 : askSpec l sa = 0
  · rw [if_pos c1]
    have ra := resSpec_codes (n := an) c1
    have hj1 : binds_Same.j0 (k + 3) l (resSpec l an sa).1 (resSpec l an sa).2 (resSpec l bn sb).1 (resSpec l bn sb).2 false an sa p q bn sb p' q' = some (if askSpec l sb = 0 then same2 an bn (resSpec l an sa) (resSpec l bn sb) else (false, askSpec l sb)) := by
      simp only [binds_Same.j0]
      rw [if_neg (by decide)]
      by_cases c2 : askSpec l sb = 0
      · rw [if_pos c2]
        have rb := resSpec_codes (n := bn) c2
        have hj2 : binds_Same.j1 (k + 2) l (resSpec l an sa).1 (resSpec l an sa).2 (resSpec l bn sb).1 (resSpec l bn sb).2 false an sa p q bn sb p' q' = some (same2 an bn (resSpec l an sa) (resSpec l bn sb)) := by
          simp only [binds_Same.j1]
          rw [if_neg (by decide)]
          unfold same2
          by_cases d1 : (resSpec l an sa).2 = 11
          · rw [if_pos d1, if_pos d1]; simp only [binds_Same.j2]; rw [if_pos trivial]
          · rw [if_neg d1, if_neg d1]
            simp only [binds_Same.j2]
            by_cases d2 : (resSpec l bn sb).2 = 11
            · rw [if_pos d2, if_pos (by simp [d2])]
            · rw [if_neg d2, if_neg (by simp [d2])]
              by_cases d3 : (resSpec l an sa).2 = 0
              · rw [if_pos d3, if_pos d3]
                by_cases d4 : (resSpec l bn sb).2 = 0
                · rw [if_pos d4, if_pos d4]
                  have ia : 0 ≤ (resSpec l an sa).1 ∧ (resSpec l an sa).1 < (l.length : Int) := by omega
                  have ib : 0 ≤ (resSpec l bn sb).1 ∧ (resSpec l bn sb).1 < (l.length : Int) := by omega
                  rw [if_pos ia.1, if_pos ia.2, if_pos ib.1, if_pos ib.2, whole_eq l (ask_tab c1) _ _ ia ib]
                · rw [if_neg d4, if_neg d4]; split <;> rfl
              · rw [if_neg d3, if_neg d3]; split <;> rfl
        rcases rb with ⟨h1, _⟩ | h1 | h1
        · rw [if_pos h1]; exact hj2
        · rw [if_neg (by rw [h1]; decide), if_pos h1]; exact hj2
        · rw [if_neg (by rw [h1]; decide), if_neg (by rw [h1]; decide), show ((resSpec l bn sb).2 != 11) = false from by rw [h1]; rfl]; exact hj2
      · rw [if_neg c2]
        have e : resSpec l bn sb = (0, askSpec l sb) := by unfold resSpec; rw [if_neg c2]
        have hc := (ask_codes l sb).resolve_left c2
        rw [e]
        dsimp only
        rw [if_neg c2, if_neg hc.1, show (askSpec l sb != 11) = true from by simp [hc.2]]
        simp only [binds_Same.j1]
        rw [if_pos trivial]
    rcases ra with ⟨h1, _⟩ | h1 | h1
    · rw [if_pos h1]; exact hj1
    · rw [if_neg (by rw [h1]; decide), if_pos h1]; exact hj1
    · rw [if_neg (by rw [h1]; decide), if_neg (by rw [h1]; decide), show ((resSpec l an sa).2 != 11) = false from by rw [h1]; rfl]; exact hj1
  · rw [if_neg c1]
    have e : resSpec l an sa = (0, askSpec l sa) := by unfold resSpec; rw [if_neg c1]
    have hc := (ask_codes l sa).resolve_left c1
    rw [e]
    dsimp only
    rw [if_neg c1, if_neg hc.1, show (askSpec l sa != 11) = true from by simp [hc.2]]
    simp only [binds_Same.j0]
    rw [if_pos trivial]
def bsI (x : Int) : List Int := [(wrap64 (Int.tdiv x 256)) % 256, (Int.tmod x 256) % 256]
theorem strOfNums_flat : ∀ (l : List Int), InS l → strOfNums (l.flatMap bsI) = ofP l
  | [], _ => rfl
  | x :: l, h => by
    have h1 := strOf_bs x (h x (by simp))
    have h2 := strOfNums_flat l fun y hy => h y (by simp [hy])
    have h3 : strOfNums ((x :: l).flatMap bsI) = strOfNums (bsI x) ++ strOfNums (l.flatMap bsI) := by
      rw [List.flatMap_cons]
      unfold strOfNums
      simp [ByteArray.ext_iff]
    rw [h3, h2]
    unfold bsI
    rw [h1, ofP_append]
    rfl
def markOf (l : List Int) (M : List Bool) (j : Nat) : Prop := M.length = 65536 ∧ ∀ i < 65536, M.getD i false = decide ((i : Int) ∈ l.take j)
def numsOf (l : List Int) (j d : Nat) : List Int := ((List.range' j d).filter fun (i : Nat) => decide ((i : Int) ∈ l)).map fun (i : Nat) => (i : Int)
theorem numsOf_step (l : List Int) (j d : Nat) : numsOf l j (d + 1) = (if (j : Int) ∈ l then [(j : Int)] else []) ++ numsOf l (j + 1) d := by
  unfold numsOf
  rw [List.range'_succ, List.filter_cons]
  split <;> rename_i c
  · rw [if_pos (of_decide_eq_true c)]; rfl
  · rw [if_neg (fun h => c (decide_eq_true h))]; rfl
def setSpec (s : ByteArray) : ByteArray × Int := if (s.size : Int) > 20000 then ((⟨#[]⟩ : ByteArray), 3) else (s, 0)
def ofSpec (l : List Int) : ByteArray × Int := if (l.all fun x => decide (0 ≤ x ∧ x ≤ 65535)) = true then setSpec (ofP (numsOf l 0 65536)) else ((⟨#[]⟩ : ByteArray), 7)
theorem of_l1 (l : List Int) (M : List Bool) (hM : M.length = 65536) (hm : ∀ i < 65536, M.getD i false = decide ((i : Int) ∈ l)) : ∀ (d j k : Nat) (L : List Int), InS L → L.length ≤ j → j + d = 65536 → d < k →
    mummerref09_Of.l1 k M (L.flatMap bsI) (j : Int) = some (setSpec (ofP (L ++ numsOf l j d))) := by
  intro d
  induction d with
  | zero =>
    intro j k L hL hLj hj hk
    obtain ⟨k, rfl⟩ : ∃ m, k = m + 1 := ⟨k - 1, by omega⟩
    simp only [mummerref09_Of.l1]
    rw [if_neg (by omega), strOfNums_flat L hL, show numsOf l j 0 = [] from rfl, List.append_nil]
    unfold mummerref09_set.f setSpec
    split <;> rfl
  | succ d ih =>
    intro j k L hL hLj hj hk
    obtain ⟨k, rfl⟩ : ∃ m, k = m + 1 := ⟨k - 1, by omega⟩
    simp only [mummerref09_Of.l1, wnext j (by omega)]
    have hlen : (L.flatMap bsI).length = 2 * L.length := by
      clear ih hL hLj
      induction L with
      | nil => rfl
      | cons x L ih => simp [List.flatMap_cons, bsI, ih]; omega
    have e : rdOf false M (j : Int) = decide ((j : Int) ∈ l) := by
      rw [← hm j (by omega)]; simp [rdOf]
    rw [if_pos (by omega), if_pos (by omega), e, numsOf_step]
    by_cases c : (j : Int) ∈ l
    · rw [if_pos (decide_eq_true c), if_pos c, Option.bind_some, if_pos (by simp only [List.length_cons, List.length_nil]; omega)]
      have := ih (j + 1) k (L ++ [(j : Int)]) (fun x hx => by
        rcases List.mem_append.1 hx with h | h
        · exact hL x h
        · rw [List.mem_singleton.1 h]; omega) (by simp; omega) (by omega) (by omega)
      rw [List.flatMap_append, List.append_assoc] at this
      exact this
    · rw [if_neg (fun h => c (of_decide_eq_true h)), if_neg c, List.nil_append]
      exact ih (j + 1) k L hL (by omega) (by omega) (by omega)
theorem of_l0 (l : List Int) (hb : l.length ≤ 1099511627776) : ∀ (d j k : Nat) (M : List Bool), markOf l M j → j + d = l.length → d + 65540 < k → (l.take j).all (fun x => decide (0 ≤ x ∧ x ≤ 65535)) = true →
    mummerref09_Of.l0 k l M (j : Int) = some (ofSpec l) := by
  intro d
  induction d with
  | zero =>
    intro j k M hM hj hk ha
    obtain ⟨k, rfl⟩ : ∃ m, k = m + 1 := ⟨k - 1, by omega⟩
    have e : l.take j = l := List.take_of_length_le (by omega)
    simp only [mummerref09_Of.l0]
    rw [e] at ha
    have := of_l1 l M hM.1 (fun i hi => by rw [hM.2 i hi, e]) 65536 0 k [] (fun x hx => by cases hx) (by simp) (by omega) (by omega)
    rw [if_neg (by omega)]
    unfold ofSpec
    rw [if_pos ha]
    exact this
  | succ d ih =>
    intro j k M hM hj hk ha
    obtain ⟨k, rfl⟩ : ∃ m, k = m + 1 := ⟨k - 1, by omega⟩
    have hjl : j < l.length := by omega
    have e : rd l (j : Int) = l[j] := by simp [rd, hjl]
    simp only [mummerref09_Of.l0, wnext j (by omega), e]
    rw [if_pos (by omega), if_pos (by omega)]
    have hal : (0 ≤ l[j] ∧ l[j] ≤ 65535) ∨ ¬ (0 ≤ l[j] ∧ l[j] ≤ 65535) := Classical.em _
    have es : mummerref09_scope.f l[j] = some (decide (0 ≤ l[j] ∧ l[j] ≤ 65535)) := by
      unfold mummerref09_scope.f
      by_cases c : l[j] ≥ 0
      · rw [if_pos c]; simp [c]
      · rw [if_neg c]; simp [c]
    rw [es, Option.bind_some]
    rcases hal with c | c
    · have hl := hM.1
      rw [if_pos (decide_eq_true c), if_pos c.1, if_pos (by omega)]
      refine ih (j + 1) k _ ⟨by simp [hM.1], fun i hi => ?_⟩ (by omega) (by omega) ?_
      · have hmem : (i : Int) ∈ l.take (j + 1) ↔ ((i : Int) ∈ l.take j ∨ (i : Int) = l[j]) := by
          rw [List.take_add_one, List.getElem?_eq_getElem hjl, List.mem_append, Option.toList_some, List.mem_singleton]
        rw [List.getD_eq_getElem?_getD, List.getElem?_set]
        have h0 := hM.2 i hi
        rw [List.getD_eq_getElem?_getD] at h0
        by_cases ei : l[j].toNat = i
        · rw [if_pos ei, if_pos (by omega)]
          have : (i : Int) = l[j] := by omega
          exact (decide_eq_true (hmem.2 (Or.inr this))).symm
        · rw [if_neg ei, h0]
          have hne : ¬ (i : Int) = l[j] := by omega
          exact decide_eq_decide.2 ⟨fun h => hmem.2 (Or.inl h), fun h => (hmem.1 h).resolve_right hne⟩
      · rw [List.take_add_one, List.getElem?_eq_getElem hjl, List.all_append, ha]
        simp [c]
    · rw [if_neg (fun h => c (of_decide_eq_true h))]
      unfold ofSpec
      rw [if_neg]
      intro h
      exact c (of_decide_eq_true (List.all_eq_true.1 h l[j] (List.getElem_mem hjl)))
theorem of_f (l : List Int) (hb : l.length ≤ 1099511627776) (k : Nat) (hk : l.length + 65540 < k) : mummerref09_Of.f k l = some (ofSpec l) := by
  unfold mummerref09_Of.f
  rw [if_pos (by decide)]
  refine of_l0 l hb l.length 0 k _ ⟨List.length_replicate, fun i hi => ?_⟩ (by omega) hk rfl
  rw [List.getD_eq_getElem?_getD, List.getElem?_replicate, if_pos hi]
  simp
theorem numsOf_small (l : List Int) (m : Nat) (hm : m ≤ 65536) (h : ∀ x ∈ l, x < (m : Int)) : numsOf l 0 65536 = numsOf l 0 m := by
  have e : List.range' 0 65536 = List.range' 0 m ++ List.range' m (65536 - m) := by
    rw [show 65536 = m + (65536 - m) by omega, ← List.range'_append_1]
    simp
  unfold numsOf
  rw [e, List.filter_append]
  rw [show (List.range' m (65536 - m)).filter (fun (i : Nat) => decide ((i : Int) ∈ l)) = [] from ?_, List.append_nil]
  rw [List.filter_eq_nil_iff]
  intro i hi hd
  have h1 := h _ (of_decide_eq_true hd)
  have h2 := (List.mem_range'_1.1 hi).1
  omega
theorem set_ex (l : List Int) (hl : l.length ≤ 10) (k : Nat) (hk : 65560 < k) (hs : ∀ x ∈ l, 0 ≤ x ∧ x < 10) (s : ByteArray) (h : ofP (numsOf l 0 10) = s) (h2 : s.size ≤ 20000) : mummerlaw11_set.f k l = some s := by
  unfold mummerlaw11_set.f
  rw [of_f l (by omega) k (by omega), Option.bind_some]
  unfold ofSpec
  rw [if_pos (List.all_eq_true.2 fun x hx => decide_eq_true (by have := hs x hx; omega)), numsOf_small l 10 (by decide) (fun x hx => (hs x hx).2), h]
  unfold setSpec
  rw [if_neg (by omega)]
def exT : List S24 := [⟨⟨#[120]⟩, ⟨#[0, 1]⟩, 1, 0⟩, ⟨⟨#[120]⟩, ⟨#[0, 1, 0, 2]⟩, 1, 1⟩, ⟨⟨#[120]⟩, ⟨#[0, 1, 0, 3]⟩, 1, 2⟩, ⟨⟨#[121]⟩, ⟨#[]⟩, 3, 5⟩]
theorem exT_TB : TB 100 exT := by
  intro b hb
  have h : exT.all (fun b => decide (b.f0.size ≤ 100 ∧ b.f1.size ≤ 100)) = true := by decide +kernel
  exact of_decide_eq_true (List.all_eq_true.1 h b hb)
theorem ex_f (k : Nat) (hk : 65560 < k) : mummerlaw11_Example.f k = some exT := by
  unfold mummerlaw11_Example.f
  rw [set_ex [1] (by decide) k hk (by decide) ⟨#[0, 1]⟩ (by decide +kernel) (by decide), Option.bind_some,
    set_ex [1, 2] (by decide) k hk (by decide) ⟨#[0, 1, 0, 2]⟩ (by decide +kernel) (by decide), Option.bind_some,
    set_ex [1, 3] (by decide) k hk (by decide) ⟨#[0, 1, 0, 3]⟩ (by decide +kernel) (by decide), Option.bind_some]
  rfl
theorem awake_f (k : Nat) (hk : 6000000 < k) : mummerlaw11_awake.f k = some true := by
  unfold mummerlaw11_awake.f
  have hT : TB 100 exT := exT_TB
  have hB : (100 : Nat) ≤ 1099511627776 := by decide
  have hl : exT.length ≤ 2000 := by decide
  rw [ex_f k (by omega), Option.bind_some,
    set_ex [1, 2, 9] (by decide) k (by omega) (by decide) ⟨#[0, 1, 0, 2, 0, 9]⟩ (by decide +kernel) (by decide), Option.bind_some,
    bResolve_f 100 hB exT hT hl _ _ (by decide) k (by omega), Option.bind_some,
    set_ex [1, 2, 3] (by decide) k (by omega) (by decide) ⟨#[0, 1, 0, 2, 0, 3]⟩ (by decide +kernel) (by decide), Option.bind_some,
    bResolve_f 100 hB exT hT hl _ _ (by decide) k (by omega), Option.bind_some,
    set_ex [2] (by decide) k (by omega) (by decide) ⟨#[0, 2]⟩ (by decide +kernel) (by decide), Option.bind_some,
    bResolve_f 100 hB exT hT hl _ _ (by decide) k (by omega), Option.bind_some, Option.bind_some,
    bCand_f 100 hB exT hT (by decide) _ _ (by decide) k (by rw [show exT.length = 4 from rfl]; omega), Option.bind_some,
    set_ex [1] (by decide) k (by omega) (by decide) ⟨#[0, 1]⟩ (by decide +kernel) (by decide), Option.bind_some,
    set_ex [1, 4] (by decide) k (by omega) (by decide) ⟨#[0, 1, 0, 4]⟩ (by decide +kernel) (by decide), Option.bind_some,
    bSame_f 100 hB exT hT hl _ _ _ _ _ _ _ _ (by decide) (by decide) k (by omega), Option.bind_some,
    set_ex [1, 2] (by decide) k (by omega) (by decide) ⟨#[0, 1, 0, 2]⟩ (by decide +kernel) (by decide), Option.bind_some,
    bAdd_f 100 hB exT hT (by decide) ⟨⟨#[120]⟩, ⟨#[0, 1, 0, 2]⟩, 1, 0⟩ (by decide), Option.bind_some]
  rw [show resSpec exT ⟨#[120]⟩ ⟨#[0, 1, 0, 2, 0, 9]⟩ = (1, 0) from by decide +kernel,
    show resSpec exT ⟨#[120]⟩ ⟨#[0, 1, 0, 2, 0, 3]⟩ = (0, 11) from by decide +kernel,
    show resSpec exT ⟨#[120]⟩ ⟨#[0, 2]⟩ = (0, 10) from by decide +kernel,
    show candSpec exT ⟨#[120]⟩ ⟨#[0, 1, 0, 2, 0, 3]⟩ = ([0, 1, 2], 0) from by decide +kernel,
    show sameSpec exT ⟨#[120]⟩ ⟨#[0, 1]⟩ ⟨#[120]⟩ ⟨#[0, 1, 0, 4]⟩ = (true, 0) from by decide +kernel,
    show (addSpec exT ⟨⟨#[120]⟩, ⟨#[0, 1, 0, 2]⟩, 1, 0⟩).2 = 8 from by decide +kernel]
  dsimp only
  rw [if_pos rfl, if_pos rfl, if_pos rfl, if_pos rfl, ints_f _ (by decide) k (by simp only [List.length_cons, List.length_nil]; omega), Option.bind_some, if_pos rfl, if_pos rfl, if_pos rfl, if_pos rfl]
  rfl
end Go.Proofs.Ytpjcahjpjeiicaa.P
