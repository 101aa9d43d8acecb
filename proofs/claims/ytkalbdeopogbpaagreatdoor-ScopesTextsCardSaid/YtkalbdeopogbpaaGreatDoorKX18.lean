import Derived.Test.YtkalbdeopogbpaaGreatDoorKX16
import Derived.Lib.SlicesCompact
import Derived.Test.YtkalbdeopogbpaaGreatDoorKX17
namespace Go.Proofs.YtkalbdeopogbpaaGreatDoor.P
open Go.RowKit Go.Shelf Go.Proofs.YtkalbdeopogbpaaGreatDoorW.PrintWords Go.Proofs.YtkalbdeopogbpaaGreatDoorW.PrintLast Go.Proofs.YtkalbdeopogbpaaGreatDoorW.PrintMore Go.Proofs.YtkalbdeopogbpaaGreatDoor.P.Sc
set_option linter.unusedVariables false
set_option linter.unusedSimpArgs false
theorem w64 {n : Int} (h : -9223372036854775808 ≤ n) (h' : n ≤ 9223372036854775807) : wrap64 n = n := by unfold wrap64; omega
theorem toList_extract2 (s : ByteArray) (i : Nat) (h : i + 2 ≤ s.size) : (s.extract i (i + 2)).toList = [s[i]'(by omega), s[i + 1]'(by omega)] := by
  rw [ByteArray.toList_eq]
  apply List.ext_getElem
  · simp; omega
  · intro n h1 h2
    have hn : n < 2 := by simpa using h2
    match n, hn with
    | 0, _ => simp; rfl
    | 1, _ => simp; rfl
theorem less2 (a b c d : UInt8) : (Op.bytesLess [a, b] [c, d] = true) ↔ ((a.toNat : Int) * 256 + b.toNat < (c.toNat : Int) * 256 + d.toNat) := by
  have ha := a.toNat_lt; have hb := b.toNat_lt; have hc := c.toNat_lt; have hd := d.toNat_lt
  simp only [Op.bytesLess, Bool.or_false, Bool.and_false, Bool.or_eq_true, Bool.and_eq_true, decide_eq_true_eq, beq_iff_eq, UInt8.lt_iff_toNat_lt, ← UInt8.toNat_inj]
  omega
theorem pairAt_eq (s : ByteArray) (j : Nat) (h : 2 * j + 1 < s.size) : pairAt s j = ((s[2 * j]'(by omega)).toNat : Int) * 256 + (s[2 * j + 1]).toNat := by
  unfold pairAt bt
  rw [dif_pos (by rw [Int.toNat_natCast]; omega), dif_pos (by rw [Int.toNat_natCast]; exact h)]
  rfl
theorem pairAt_nonneg (s : ByteArray) (j : Nat) : 0 ≤ pairAt s j := by
  unfold pairAt
  have h1 := bt_range s ((2 * j : Nat) : Int); have h2 := bt_range s ((2 * j + 1 : Nat) : Int); omega
theorem pairAt_lt (s : ByteArray) (j : Nat) : pairAt s j < 65536 := by
  unfold pairAt
  have h1 := bt_range s ((2 * j : Nat) : Int); have h2 := bt_range s ((2 * j + 1 : Nat) : Int); omega
theorem less_pairs (s : ByteArray) (i j : Nat) (hi : 2 * i + 1 < s.size) (hj : 2 * j + 1 < s.size) :
    (Op.bytesLess (s.extract (2 * i) (2 * i + 2)).toList (s.extract (2 * j) (2 * j + 2)).toList = true) ↔ pairAt s i < pairAt s j := by
  rw [toList_extract2 s (2 * i) (by omega), toList_extract2 s (2 * j) (by omega), less2, pairAt_eq s i hi, pairAt_eq s j hj]
/-- A number below 65536. -/
def InS (l : List Int) : Prop := ∀ x ∈ l, 0 ≤ x ∧ x < 65536
/-- The string of a list of scopes. -/
def bs (x : Int) : List UInt8 := [UInt8.ofNat (x / 256).toNat, UInt8.ofNat (x % 256).toNat]
def ofP (l : List Int) : ByteArray := ⟨(l.flatMap bs).toArray⟩
theorem ofP_toList (l : List Int) : (ofP l).toList = l.flatMap bs := by rw [ByteArray.toList_eq]; rfl
theorem ofP_data (l : List Int) : (ofP l).data.toList = l.flatMap bs := rfl
theorem flat_length (l : List Int) : (l.flatMap bs).length = 2 * l.length := by
  induction l with
  | nil => rfl
  | cons x r ih => rw [List.flatMap_cons, List.length_append, ih]; simp [bs]; omega
theorem ofP_size (l : List Int) : (ofP l).size = 2 * l.length := by
  show (l.flatMap bs).toArray.size = _
  rw [List.size_toArray, flat_length]
theorem ofP_append (l m : List Int) : ofP l ++ ofP m = ofP (l ++ m) := by
  apply ByteArray.ext
  apply Array.ext'
  rw [ByteArray.data_append, Array.toList_append, ofP_data, ofP_data, ofP_data, List.flatMap_append]
theorem flat_drop : ∀ (l : List Int) (i : Nat), (l.flatMap bs).drop (2 * i) = (l.drop i).flatMap bs
  | [], i => by simp
  | x :: r, 0 => by simp
  | x :: r, i + 1 => by rw [List.flatMap_cons, show 2 * (i + 1) = 2 * i + 2 by omega, List.drop_succ_cons]; exact (by rw [← flat_drop r i]; rfl)
theorem flat_take : ∀ (l : List Int) (i : Nat), (l.flatMap bs).take (2 * i) = (l.take i).flatMap bs
  | [], i => by simp
  | x :: r, 0 => by simp
  | x :: r, i + 1 => by
    rw [List.flatMap_cons, show 2 * (i + 1) = 2 * i + 2 by omega, List.take_succ_cons, List.flatMap_cons, ← flat_take r i]; rfl
theorem ofP_extract (l : List Int) (i j : Nat) : (ofP l).extract (2 * i) (2 * j) = ofP ((l.take j).drop i) := by
  apply ByteArray.ext
  apply Array.ext'
  rw [ByteArray.data_extract, Array.toList_extract, ofP_data, ofP_data, List.extract_eq_take_drop, ← flat_drop, ← flat_take, List.drop_take]
theorem bs_inj {x y : Int} (hx : 0 ≤ x ∧ x < 65536) (hy : 0 ≤ y ∧ y < 65536) (h : bs x = bs y) : x = y := by
  simp only [bs, List.cons.injEq, and_true] at h
  have h1 := congrArg UInt8.toNat h.1
  have h2 := congrArg UInt8.toNat h.2
  rw [UInt8.toNat_ofNat', UInt8.toNat_ofNat'] at h1 h2
  omega
theorem ofNat_toNat_ (a : UInt8) : UInt8.ofNat a.toNat = a := by simp
theorem bs_pairAt (s : ByteArray) (q : Nat) (h : 2 * q + 1 < s.size) : bs (pairAt s q) = [s[2 * q]'(by omega), s[2 * q + 1]] := by
  rw [pairAt_eq s q h]
  have h1 := (s[2 * q]'(by omega)).toNat_lt
  have h2 := (s[2 * q + 1]).toNat_lt
  unfold bs
  rw [show (((s[2 * q]'(by omega)).toNat : Int) * 256 + (s[2 * q + 1]).toNat) / 256 = (s[2 * q]'(by omega)).toNat by omega, show (((s[2 * q]'(by omega)).toNat : Int) * 256 + (s[2 * q + 1]).toNat) % 256 = (s[2 * q + 1]).toNat by omega, Int.toNat_natCast, Int.toNat_natCast, ofNat_toNat_, ofNat_toNat_]
theorem pairs_get (s : ByteArray) (n i : Nat) (h : i < (pairs s n).length) : (pairs s n)[i] = pairAt s i := by simp [pairs]
theorem size_even (s : ByteArray) (h : s.size % 2 = 0) : s = ofP (pairs s (s.size / 2)) := by
  have hsz : (ofP (pairs s (s.size / 2))).size = s.size := by rw [ofP_size, pairs_length]; omega
  have key : ∀ q, 2 * q + 1 < s.size → ∀ (h1 : 2 * q < (ofP (pairs s (s.size / 2))).size) (h2 : 2 * q + 1 < (ofP (pairs s (s.size / 2))).size), [(ofP (pairs s (s.size / 2)))[2 * q], (ofP (pairs s (s.size / 2)))[2 * q + 1]] = [s[2 * q]'(by omega), s[2 * q + 1]'(by omega)] := by
    intro q hq h1 h2
    rw [← toList_extract2 (ofP (pairs s (s.size / 2))) (2 * q) (by omega), show 2 * q + 2 = 2 * (q + 1) by omega, ofP_extract, ofP_toList]
    have hl : q < (pairs s (s.size / 2)).length := by rw [pairs_length]; omega
    rw [List.take_succ_eq_append_getElem hl, List.drop_append_of_le_length (by simp; omega), List.drop_eq_nil_of_le (by simp; omega), pairs_get]
    simp only [List.nil_append, List.flatMap_cons, List.flatMap_nil, List.append_nil]
    exact bs_pairAt s q hq
  apply ByteArray.ext
  apply Array.ext
  · exact hsz.symm
  · intro i h1 h2
    have h1' : i < s.size := h1
    rcases Nat.mod_two_eq_zero_or_one i with e | e
    · obtain ⟨q, rfl⟩ : ∃ q, i = 2 * q := ⟨i / 2, by omega⟩
      have := key q (by omega) (by omega) (by omega)
      simp only [List.cons.injEq, and_true] at this
      exact this.1.symm
    · obtain ⟨q, rfl⟩ : ∃ q, i = 2 * q + 1 := ⟨i / 2, by omega⟩
      have := key q (by omega) (by omega) (by omega)
      simp only [List.cons.injEq, and_true] at this
      exact this.2.symm
theorem pairs_ofP (l : List Int) (h : InS l) : pairs (ofP l) ((ofP l).size / 2) = l := by
  rw [ofP_size, show 2 * l.length / 2 = l.length by omega]
  apply List.ext_getElem
  · rw [pairs_length]
  · intro n h1 h2
    rw [pairs_get]
    have hb := bs_pairAt (ofP l) n (by rw [ofP_size]; omega)
    rw [← toList_extract2 (ofP l) (2 * n) (by rw [ofP_size]; omega), show 2 * n + 2 = 2 * (n + 1) by omega, ofP_extract, ofP_toList, List.take_succ_eq_append_getElem h2, List.drop_append_of_le_length (by simp; omega), List.drop_eq_nil_of_le (by simp; omega)] at hb
    simp only [List.nil_append, List.flatMap_cons, List.flatMap_nil, List.append_nil] at hb
    exact bs_inj ⟨pairAt_nonneg _ _, pairAt_lt _ _⟩ (h _ (List.getElem_mem h2)) hb
theorem pairs_InS (s : ByteArray) (n : Nat) : InS (pairs s n) := by
  intro x hx
  obtain ⟨j, _, rfl⟩ := List.mem_map.1 hx
  exact ⟨pairAt_nonneg _ _, pairAt_lt _ _⟩
theorem strOf_bs (x : Int) (hx : 0 ≤ x ∧ x < 65536) : strOfNums [(wrap64 (Int.tdiv x 256)) % 256, (Int.tmod x 256) % 256] = ofP [x] := by
  rw [Int.tdiv_eq_ediv_of_nonneg hx.1, Int.tmod_eq_emod_of_nonneg hx.1, w64 (by omega) (by omega), show x / 256 % 256 = x / 256 by omega, show x % 256 % 256 = x % 256 by omega]
  rfl
def tailFrom (s : ByteArray) (j : Nat) : List Int := (List.range' j (s.size / 2 - j)).map (pairAt s)
theorem tailFrom_step (s : ByteArray) (j : Nat) (h : j < s.size / 2) : tailFrom s j = pairAt s j :: tailFrom s (j + 1) := by
  unfold tailFrom
  obtain ⟨n, hn⟩ : ∃ n, s.size / 2 - j = n + 1 := ⟨s.size / 2 - j - 1, by omega⟩
  rw [hn, List.range'_succ, List.map_cons, show s.size / 2 - (j + 1) = n by omega]
theorem tailFrom_end (s : ByteArray) : tailFrom s (s.size / 2) = [] := by simp [tailFrom]
theorem pairs_tail (s : ByteArray) : pairs s (s.size / 2) = tailFrom s 0 := by simp [pairs, tailFrom, List.range_eq_range']
def chkEnd (s : ByteArray) : Int := if (s.size : Int) > 20000 then 3 else 0
def Asc (l : List Int) : Prop := l.Pairwise (· < ·)
theorem asc_pairwise : ∀ (l : List Int) (a : Int), asc a l = true → (∀ x ∈ l, a < x) ∧ Asc l
  | [], _, _ => ⟨by simp, List.Pairwise.nil⟩
  | x :: r, a, h => by
    obtain ⟨h1, h2⟩ := (asc_cons_eq a x r).1 h
    obtain ⟨h3, h4⟩ := asc_pairwise r x h2
    refine ⟨fun y hy => ?_, List.pairwise_cons.2 ⟨h3, h4⟩⟩
    rcases List.mem_cons.1 hy with rfl | hy
    · exact h1
    · exact Int.lt_trans h1 (h3 y hy)
/-- The scopes of a set. -/
def P (s : ByteArray) : List Int := pairs s (s.size / 2)
theorem chk_even {s : ByteArray} (h : chk s = 0) : s.size % 2 = 0 := by
  unfold chk at h
  by_cases c : (s.size : Int) % 2 = 0
  · omega
  · rw [if_neg c] at h; cases h
theorem chk_asc {s : ByteArray} (h : chk s = 0) : Asc (P s) := by
  unfold chk at h
  by_cases c : (s.size : Int) % 2 = 0
  · rw [if_pos c] at h
    by_cases c2 : asc (-1) (pairs s (s.size / 2)) = true
    · exact (asc_pairwise _ _ c2).2
    · rw [if_neg c2] at h; cases h
  · rw [if_neg c] at h; cases h
theorem ofP_P {s : ByteArray} (h : chk s = 0) : s = ofP (P s) := size_even s (chk_even h)
theorem P_InS (s : ByteArray) : InS (P s) := pairs_InS s _
theorem P_length (s : ByteArray) : (P s).length = s.size / 2 := pairs_length s _
theorem wnext (i : Nat) (h : i ≤ 1099511627776) : wrap64 ((i : Int) + 1) = ((i + 1 : Nat) : Int) := by rw [w64 (by omega) (by omega)]; omega
theorem asc_eq : ∀ (l m : List Int), Asc l → Asc m → (∀ x, x ∈ l ↔ x ∈ m) → l = m
  | [], [], _, _, _ => rfl
  | [], y :: m, _, _, h => by simpa using (h y).2 (by simp)
  | x :: l, [], _, _, h => by simpa using (h x).1 (by simp)
  | x :: l, y :: m, hl, hm, h => by
    obtain ⟨hx, hl'⟩ := List.pairwise_cons.1 hl
    obtain ⟨hy, hm'⟩ := List.pairwise_cons.1 hm
    have e : x = y := by
      rcases List.mem_cons.1 ((h x).1 (by simp)) with e | h1
      · exact e
      · rcases List.mem_cons.1 ((h y).2 (by simp)) with e | h2
        · exact e.symm
        · have := hy x h1; have := hx y h2; omega
    subst e
    rw [asc_eq l m hl' hm' fun z => ?_]
    have := h z
    constructor
    · intro hz
      have hne := hx z hz
      rcases List.mem_cons.1 (this.1 (by simp [hz])) with e | h1
      · omega
      · exact h1
    · intro hz
      have hne := hy z hz
      rcases List.mem_cons.1 (this.2 (by simp [hz])) with e | h1
      · omega
      · exact h1
def wide (s : ByteArray) : Bool := decide ((s.size : Int) > 150)
def bsI (x : Int) : List Int := [(wrap64 (Int.tdiv x 256)) % 256, (Int.tmod x 256) % 256]
theorem strOfNums_flat : ∀ (l : List Int), InS l → strOfNums (l.flatMap bsI) = ofP l
  | [], _ => rfl
  | x :: l, h => by
    have h1 := strOf_bs x (h x (by simp))
    have h2 := strOfNums_flat l fun y hy => h y (by simp [hy])
    have h3 : strOfNums ((x :: l).flatMap bsI) = strOfNums (bsI x) ++ strOfNums (l.flatMap bsI) := by
      rw [List.flatMap_cons]
      unfold strOfNums
      simp [ByteArray.ext_iff]
    rw [h3, h2]
    unfold bsI
    rw [h1, ofP_append]
    rfl
def markOf (l : List Int) (M : List Bool) (j : Nat) : Prop := M.length = 65536 ∧ ∀ i < 65536, M.getD i false = decide ((i : Int) ∈ l.take j)
def numsOf (l : List Int) (j d : Nat) : List Int := ((List.range' j d).filter fun (i : Nat) => decide ((i : Int) ∈ l)).map fun (i : Nat) => (i : Int)
theorem numsOf_step (l : List Int) (j d : Nat) : numsOf l j (d + 1) = (if (j : Int) ∈ l then [(j : Int)] else []) ++ numsOf l (j + 1) d := by
  unfold numsOf
  rw [List.range'_succ, List.filter_cons]
  split <;> rename_i c
  · rw [if_pos (of_decide_eq_true c)]; rfl
  · rw [if_neg (fun h => c (decide_eq_true h))]; rfl
def setSpec (s : ByteArray) : ByteArray × Int := if (s.size : Int) > 20000 then ((⟨#[]⟩ : ByteArray), 3) else (s, 0)
def ofSpec (l : List Int) : ByteArray × Int := if (l.all fun x => decide (0 ≤ x ∧ x ≤ 65535)) = true then setSpec (ofP (numsOf l 0 65536)) else ((⟨#[]⟩ : ByteArray), 7)
/-- Where a scope goes. -/
def insAt (x : Int) : List Int → Nat
  | [] => 0
  | y :: r => if y < x then insAt x r + 1 else 0
def ins (x : Int) (l : List Int) : List Int := if x ∈ l then l else l.take (insAt x l) ++ x :: l.drop (insAt x l)
theorem insAt_le (x : Int) : ∀ l : List Int, insAt x l ≤ l.length
  | [] => Nat.le_refl 0
  | y :: r => by
    unfold insAt
    have := insAt_le x r
    split <;> simp <;> omega
theorem insAt_lt (x : Int) : ∀ (l : List Int), ∀ y ∈ l.take (insAt x l), y < x
  | [], y, h => by simp at h
  | z :: r, y, h => by
    unfold insAt at h
    by_cases c : z < x
    · rw [if_pos c, List.take_succ_cons] at h
      rcases List.mem_cons.1 h with e | h
      · rw [e]; exact c
      · exact insAt_lt x r y h
    · rw [if_neg c] at h; simp at h
theorem asc_of : ∀ (l : List Int) (a : Int), (∀ x ∈ l, a < x) → Asc l → asc a l = true
  | [], _, _, _ => rfl
  | x :: r, a, h, ha => by
    have hp := List.pairwise_cons.1 ha
    exact (asc_cons_eq a x r).2 ⟨h x (by simp), asc_of r x hp.1 hp.2⟩
theorem P_ofP {l : List Int} (h : InS l) : P (ofP l) = l := pairs_ofP l h
theorem chk_ofP {l : List Int} (h : InS l) (ha : Asc l) (hl : l.length ≤ 10000) : chk (ofP l) = 0 := by
  unfold chk
  have e : pairs (ofP l) ((ofP l).size / 2) = l := pairs_ofP l h
  rw [e, if_pos (by rw [ofP_size]; omega), if_pos (asc_of l (-1) (fun x hx => by have := (h x hx).1; omega) ha), if_neg (by rw [ofP_size]; omega)]
theorem cut_sorted (zs : List Int) (hs : zs.Pairwise (· ≤ ·)) : ∀ m, m ≤ zs.length →
    Asc (Lib.compactUpTo zs.toArray m) ∧ (∀ x, x ∈ Lib.compactUpTo zs.toArray m ↔ x ∈ zs.take m) ∧ (∀ x ∈ Lib.compactUpTo zs.toArray m, ∀ (h : m - 1 < zs.length), 0 < m → x ≤ zs[m - 1]) := by
  intro m
  induction m with
  | zero => intro _; refine ⟨List.Pairwise.nil, fun x => by simp [Lib.compactUpTo], fun x hx => by simp [Lib.compactUpTo] at hx⟩
  | succ m ih =>
    intro hm
    obtain ⟨h1, h2, h3⟩ := ih (by omega)
    have hml : m < zs.length := by omega
    have hle : ∀ i j (hi : i < zs.length) (hj : j < zs.length), i ≤ j → zs[i] ≤ zs[j] := by
      intro i j hi hj hij
      rcases Nat.lt_or_ge i j with h | h
      · exact List.pairwise_iff_getElem.1 hs i j hi hj h
      · have : i = j := by omega
        subst this; exact Int.le_refl _
    have e : zs.toArray[m]! = zs[m] := by simp [hml]
    have mem : ∀ x, x ∈ zs.take (m + 1) ↔ x ∈ zs.take m ∨ x = zs[m] := fun x => by
      rw [List.take_add_one, List.getElem?_eq_getElem hml, List.mem_append, Option.toList_some, List.mem_singleton]
    rw [Lib.compactUpTo_succ, e]
    by_cases k : Lib.keeps zs.toArray m = true
    · rw [if_pos k]
      have hlt : ∀ x ∈ Lib.compactUpTo zs.toArray m, x < zs[m] := by
        intro x hx
        by_cases h0 : m = 0
        · subst h0; simp [Lib.compactUpTo] at hx
        · have hx1 := h3 x hx (by omega) (by omega)
          have hne : zs.toArray[m]! ≠ zs.toArray[m - 1]! := by
            have := k; simp [Lib.keeps, h0] at this; simpa using this
          have e' : zs.toArray[m - 1]! = zs[m - 1]'(by omega) := by simp [show m - 1 < zs.length by omega]
          rw [e, e'] at hne
          have := hle (m - 1) m (by omega) hml (by omega)
          omega
      refine ⟨List.pairwise_append.2 ⟨h1, List.pairwise_singleton _ _, fun x hx y hy => ?_⟩, fun x => ?_, fun x hx hh _ => ?_⟩
      · rw [List.mem_singleton.1 hy]; exact hlt x hx
      · rw [List.mem_append, List.mem_singleton, h2, mem]
      · rcases List.mem_append.1 hx with hx | hx
        · have := hlt x hx
          simp only [Nat.add_sub_cancel]; omega
        · rw [List.mem_singleton.1 hx]; simp only [Nat.add_sub_cancel]; exact Int.le_refl _
    · rw [if_neg k, List.append_nil]
      have h0 : m ≠ 0 := fun h => by subst h; simp [Lib.keeps] at k
      have heq : zs[m] = zs[m - 1]'(by omega) := by
        have e' : zs.toArray[m - 1]! = zs[m - 1]'(by omega) := by simp [show m - 1 < zs.length by omega]
        simp [Lib.keeps, h0] at k
        simpa [hml, show m - 1 < zs.length by omega] using k
      refine ⟨h1, fun x => ?_, fun x hx hh _ => ?_⟩
      · rw [h2, mem]
        constructor
        · exact Or.inl
        · rintro (h | h)
          · exact h
          · rw [h, heq]
            exact List.mem_take_iff_getElem.2 ⟨m - 1, by omega, rfl⟩
      · have := h3 x hx (by omega) (by omega)
        simp only [Nat.add_sub_cancel]; omega
theorem compact_sorted (zs : List Int) (hs : zs.Pairwise (· ≤ ·)) : Asc (Lib.compact zs) ∧ ∀ x, x ∈ Lib.compact zs ↔ x ∈ zs := by
  obtain ⟨h1, h2, _⟩ := cut_sorted zs hs zs.length (Nat.le_refl _)
  refine ⟨h1, fun x => ?_⟩
  have := h2 x
  rwa [List.take_length] at this
def srt (l : List Int) : List Int := l.mergeSort fun x y => decide (x ≤ y)
theorem srt_sorted (l : List Int) : (srt l).Pairwise (· ≤ ·) := by
  have := List.pairwise_mergeSort (le := fun x y : Int => decide (x ≤ y)) (fun a b c h1 h2 => by simp at *; omega) (fun a b => by simp; omega) l
  exact this.imp fun h => by simpa using h
theorem mem_srt (l : List Int) (x : Int) : x ∈ srt l ↔ x ∈ l := List.mem_mergeSort
theorem srt_length (l : List Int) : (srt l).length = l.length := List.length_mergeSort ..
/-- What Of makes of a list: its elements, each once, ascending. -/
def once (l : List Int) : List Int := Lib.compact (srt l)
theorem once_asc (l : List Int) : Asc (once l) := (compact_sorted _ (srt_sorted l)).1
theorem mem_once (l : List Int) (x : Int) : x ∈ once l ↔ x ∈ l := ((compact_sorted _ (srt_sorted l)).2 x).trans (mem_srt l x)
theorem once_eq (l m : List Int) (h : Asc m) (hm : ∀ x, x ∈ l ↔ x ∈ m) : once l = m := asc_eq _ _ (once_asc l) h fun x => (mem_once l x).trans (hm x)
theorem numsOf_asc (l : List Int) (j d : Nat) : Asc (numsOf l j d) := by
  unfold numsOf Asc
  rw [List.pairwise_map]
  refine List.Pairwise.imp ?_ ((List.pairwise_lt_range' (s := j) (n := d)).filter _)
  intro a b h; omega
theorem once_nums (l : List Int) (h : InS l) : once l = numsOf l 0 65536 := by
  refine once_eq l _ (numsOf_asc l 0 65536) fun x => ?_
  constructor
  · intro hx
    have := h x hx
    refine List.mem_map.2 ⟨x.toNat, List.mem_filter.2 ⟨List.mem_range'_1.2 ⟨Nat.zero_le _, by omega⟩, ?_⟩, by omega⟩
    have e : ((x.toNat : Nat) : Int) = x := by omega
    simp [e, hx]
  · intro hx
    obtain ⟨i, hi, rfl⟩ := List.mem_map.1 hx
    simpa using (List.mem_filter.1 hi).2
/-- The first and the last of a sorted list tell whether all are in a range. -/
theorem ends_tell (l : List Int) (hne : l ≠ []) : (∀ x ∈ l, 0 ≤ x ∧ x ≤ 65535) ↔ (0 ≤ (srt l)[0]'(by rw [srt_length]; exact List.length_pos_iff.2 hne) ∧ (srt l)[(srt l).length - 1]'(by have := List.length_pos_iff.2 hne; rw [srt_length]; omega) ≤ 65535) := by
  have hpos : 0 < (srt l).length := by rw [srt_length]; exact List.length_pos_iff.2 hne
  have hs := srt_sorted l
  have hle : ∀ i j (hi : i < (srt l).length) (hj : j < (srt l).length), i ≤ j → (srt l)[i] ≤ (srt l)[j] := by
    intro i j hi hj hij
    rcases Nat.lt_or_ge i j with h | h
    · exact List.pairwise_iff_getElem.1 hs i j hi hj h
    · have : i = j := by omega
      subst this; exact Int.le_refl _
  constructor
  · intro h
    exact ⟨(h _ ((mem_srt l _).1 (List.getElem_mem _))).1, (h _ ((mem_srt l _).1 (List.getElem_mem _))).2⟩
  · rintro ⟨h1, h2⟩ x hx
    obtain ⟨i, hi, rfl⟩ := List.getElem_of_mem ((mem_srt l x).2 hx)
    have a := hle 0 i hpos hi (by omega)
    have b := hle i ((srt l).length - 1) hi (by omega) (by omega)
    omega
/-- Where BinarySearch says that a scope is, or would be. -/
theorem count_insAt (n : Int) : ∀ l : List Int, Asc l → l.countP (fun x => decide (x < n)) = insAt n l
  | [], _ => rfl
  | y :: r, h => by
    have hp := List.pairwise_cons.1 h
    unfold insAt
    rw [List.countP_cons]
    by_cases c : y < n
    · rw [if_pos c, count_insAt n r hp.2]; simp [c]
    · rw [if_neg c]
      have : r.countP (fun x => decide (x < n)) = 0 := by
        rw [List.countP_eq_zero]
        intro x hx
        have := hp.1 x hx
        simp; omega
      rw [this]; simp [c]
theorem erase_insAt (n : Int) : ∀ l : List Int, Asc l → n ∈ l → l.take (insAt n l) ++ l.drop (insAt n l + 1) = l.erase n
  | y :: r, h, hn => by
    have hp := List.pairwise_cons.1 h
    unfold insAt
    by_cases c : y < n
    · have hr : n ∈ r := by
        rcases List.mem_cons.1 hn with e | h'
        · omega
        · exact h'
      rw [if_pos c, List.take_succ_cons, List.drop_succ_cons, List.cons_append, erase_insAt n r hp.2 hr, List.erase_cons_tail (by simp; omega)]
    · rw [if_neg c]
      have e : y = n := by
        rcases List.mem_cons.1 hn with e | h'
        · exact e.symm
        · have := hp.1 n h'; omega
      subst e
      simp
theorem once_self {l : List Int} (h : Asc l) : once l = l := once_eq l l h fun _ => Iff.rfl
def inR (n : Int) : Bool := decide (0 ≤ n) && decide (n ≤ 65535)
theorem inR_iff (n : Int) : inR n = true ↔ (0 ≤ n ∧ n < 65536) := by unfold inR; simp; omega
def hasS (s : ByteArray) (n : Int) : Bool × Int := if chk s = 0 then (if inR n = true then (decide (n ∈ P s), 0) else (false, 7)) else (false, chk s)
def addS (s : ByteArray) (n : Int) : ByteArray × Int := if chk s = 0 then (if inR n = true then setSpec (ofP (ins n (P s))) else ((⟨#[]⟩ : ByteArray), 7)) else ((⟨#[]⟩ : ByteArray), chk s)
def dropS (s : ByteArray) (n : Int) : ByteArray × Int := if chk s = 0 then (if inR n = true then setSpec (ofP ((P s).erase n)) else ((⟨#[]⟩ : ByteArray), 7)) else ((⟨#[]⟩ : ByteArray), chk s)
def flipS (s : ByteArray) (n : Int) : ByteArray × Int := if (hasS s n).1 = true then dropS s n else addS s n
def fl (n : Int) (l : List Int) : List Int := if n ∈ l then l.erase n else ins n l
theorem flipS_ok (s : ByteArray) (n : Int) (hc : chk s = 0) (hn : inR n = true) : flipS s n = setSpec (ofP (fl n (P s))) := by
  unfold flipS hasS addS dropS fl
  rw [if_pos hc, if_pos hn, if_pos hc, if_pos hn, if_pos hc, if_pos hn]
  by_cases c : n ∈ P s
  · rw [if_pos (decide_eq_true c), if_pos c]
  · rw [if_neg (by simpa using c), if_neg c]
theorem setSpec_ok {s x : ByteArray} (h : setSpec s = (x, 0)) : x = s ∧ s.size ≤ 20000 := by
  unfold setSpec at h
  by_cases c : (s.size : Int) > 20000
  · rw [if_pos c] at h; cases h
  · rw [if_neg c] at h
    exact ⟨(congrArg Prod.fst h).symm, by omega⟩
theorem setSpec_le {s : ByteArray} (h : s.size ≤ 20000) : setSpec s = (s, 0) := by unfold setSpec; rw [if_neg (by omega)]
theorem chk_size {s : ByteArray} (h : chk s = 0) : s.size ≤ 20000 := by
  unfold chk at h
  split at h
  · split at h
    · split at h
      · cases h
      · omega
    · cases h
  · cases h
def meetL (l m : List Int) : List Int := l.filter fun x => m.contains x
def minusL (l m : List Int) : List Int := l.filter fun x => !m.contains x
/-- A good string of some scopes. -/
structure Good (s : ByteArray) (l : List Int) : Prop where
  ok : chk s = 0
  pl : P s = l
  es : s = ofP l
  asc : Asc l
  ins : InS l
theorem good_ofP {l : List Int} (h : InS l) (ha : Asc l) (hl : l.length ≤ 10000) : Good (ofP l) l := ⟨chk_ofP h ha hl, P_ofP h, rfl, ha, h⟩
theorem Good.len {s : ByteArray} {l : List Int} (h : Good s l) : s.size = 2 * l.length := by rw [h.es, ofP_size]
def relS (a b : ByteArray) : Int × Int := if chk a = 0 then (if chk b = 0 then ((if minusL (P a) (P b) = [] then (if minusL (P b) (P a) = [] then 0 else 1) else (if minusL (P b) (P a) = [] then 2 else 3)), 0) else (0, chk b)) else (0, chk a)
def ofS (l : List Int) : ByteArray × Int := if (l.all fun x => decide (0 ≤ x ∧ x ≤ 65535)) = true then setSpec (ofP (once l)) else ((⟨#[]⟩ : ByteArray), 7)
theorem ofS_eq (l : List Int) : ofS l = ofSpec l := by
  unfold ofS ofSpec
  by_cases c : (l.all fun x => decide (0 ≤ x ∧ x ≤ 65535)) = true
  · rw [if_pos c, if_pos c, once_nums l fun x hx => by
      have := of_decide_eq_true (List.all_eq_true.1 c x hx); omega]
  · rw [if_neg c, if_neg c]
theorem ofS_asc {l : List Int} (hI : InS l) (h : Asc l) : ofS l = setSpec (ofP l) := by
  unfold ofS
  rw [if_pos (List.all_eq_true.2 fun x hx => decide_eq_true (by have := hI x hx; omega)), once_self h]
end Go.Proofs.YtkalbdeopogbpaaGreatDoor.P
