import Derived.Test.YtkalbdeopogbpaaDoorScIds
import Derived.Lib.SlicesCompact
import Derived.Test.YtkalbdeopogbpaaDoorWTab
namespace Go.Proofs.YtkalbdeopogbpaaDoor.P
open Go.RowKit Go.Shelf Go.Proofs.YtkalbdeopogbpaaDoorW.PrintWords Go.Proofs.YtkalbdeopogbpaaDoorW.PrintLast Go.Proofs.YtkalbdeopogbpaaDoorW.PrintMore Go.Proofs.YtkalbdeopogbpaaDoor.P.Sc
set_option linter.unusedVariables false
set_option linter.unusedSimpArgs false
theorem w64 {n : Int} (h : -9223372036854775808 ≤ n) (h' : n ≤ 9223372036854775807) : wrap64 n = n := by unfold wrap64; omega

theorem toList_extract2 (s : ByteArray) (i : Nat) (h : i + 2 ≤ s.size) : (s.extract i (i + 2)).toList = [s[i]'(by omega), s[i + 1]'(by omega)] := by
  rw [ByteArray.toList_eq]
  apply List.ext_getElem
  · simp; omega
  · intro n h1 h2
    have hn : n < 2 := by simpa using h2
    match n, hn with
    | 0, _ => simp; rfl
    | 1, _ => simp; rfl
theorem less2 (a b c d : UInt8) : (Op.bytesLess [a, b] [c, d] = true) ↔ ((a.toNat : Int) * 256 + b.toNat < (c.toNat : Int) * 256 + d.toNat) := by
  have ha := a.toNat_lt; have hb := b.toNat_lt; have hc := c.toNat_lt; have hd := d.toNat_lt
  simp only [Op.bytesLess, Bool.or_false, Bool.and_false, Bool.or_eq_true, Bool.and_eq_true, decide_eq_true_eq, beq_iff_eq, UInt8.lt_iff_toNat_lt, ← UInt8.toNat_inj]
  omega
theorem pairAt_eq (s : ByteArray) (j : Nat) (h : 2 * j + 1 < s.size) : pairAt s j = ((s[2 * j]'(by omega)).toNat : Int) * 256 + (s[2 * j + 1]).toNat := by
  unfold pairAt bt
  rw [dif_pos (by rw [Int.toNat_natCast]; omega), dif_pos (by rw [Int.toNat_natCast]; exact h)]
  rfl
theorem pairAt_nonneg (s : ByteArray) (j : Nat) : 0 ≤ pairAt s j := by
  unfold pairAt
  have h1 := bt_range s ((2 * j : Nat) : Int); have h2 := bt_range s ((2 * j + 1 : Nat) : Int); omega
theorem pairAt_lt (s : ByteArray) (j : Nat) : pairAt s j < 65536 := by
  unfold pairAt
  have h1 := bt_range s ((2 * j : Nat) : Int); have h2 := bt_range s ((2 * j + 1 : Nat) : Int); omega
theorem less_pairs (s : ByteArray) (i j : Nat) (hi : 2 * i + 1 < s.size) (hj : 2 * j + 1 < s.size) :
    (Op.bytesLess (s.extract (2 * i) (2 * i + 2)).toList (s.extract (2 * j) (2 * j + 2)).toList = true) ↔ pairAt s i < pairAt s j := by
  rw [toList_extract2 s (2 * i) (by omega), toList_extract2 s (2 * j) (by omega), less2, pairAt_eq s i hi, pairAt_eq s j hj]

/-- A number below 65536. -/
def InS (l : List Int) : Prop := ∀ x ∈ l, 0 ≤ x ∧ x < 65536
/-- The string of a list of scopes. -/
def bs (x : Int) : List UInt8 := [UInt8.ofNat (x / 256).toNat, UInt8.ofNat (x % 256).toNat]
def ofP (l : List Int) : ByteArray := ⟨(l.flatMap bs).toArray⟩
theorem ofP_toList (l : List Int) : (ofP l).toList = l.flatMap bs := by rw [ByteArray.toList_eq]; rfl
theorem ofP_data (l : List Int) : (ofP l).data.toList = l.flatMap bs := rfl
theorem flat_length (l : List Int) : (l.flatMap bs).length = 2 * l.length := by
  induction l with
  | nil => rfl
  | cons x r ih => rw [List.flatMap_cons, List.length_append, ih]; simp [bs]; omega
theorem ofP_size (l : List Int) : (ofP l).size = 2 * l.length := by
  show (l.flatMap bs).toArray.size = _
  rw [List.size_toArray, flat_length]
theorem ofP_append (l m : List Int) : ofP l ++ ofP m = ofP (l ++ m) := by
  apply ByteArray.ext
  apply Array.ext'
  rw [ByteArray.data_append, Array.toList_append, ofP_data, ofP_data, ofP_data, List.flatMap_append]
theorem flat_drop : ∀ (l : List Int) (i : Nat), (l.flatMap bs).drop (2 * i) = (l.drop i).flatMap bs
  | [], i => by simp
  | x :: r, 0 => by simp
  | x :: r, i + 1 => by rw [List.flatMap_cons, show 2 * (i + 1) = 2 * i + 2 by omega, List.drop_succ_cons]; exact (by rw [← flat_drop r i]; rfl)
theorem flat_take : ∀ (l : List Int) (i : Nat), (l.flatMap bs).take (2 * i) = (l.take i).flatMap bs
  | [], i => by simp
  | x :: r, 0 => by simp
  | x :: r, i + 1 => by
    rw [List.flatMap_cons, show 2 * (i + 1) = 2 * i + 2 by omega, List.take_succ_cons, List.flatMap_cons, ← flat_take r i]; rfl
theorem ofP_extract (l : List Int) (i j : Nat) : (ofP l).extract (2 * i) (2 * j) = ofP ((l.take j).drop i) := by
  apply ByteArray.ext
  apply Array.ext'
  rw [ByteArray.data_extract, Array.toList_extract, ofP_data, ofP_data, List.extract_eq_take_drop, ← flat_drop, ← flat_take, List.drop_take]
theorem bs_inj {x y : Int} (hx : 0 ≤ x ∧ x < 65536) (hy : 0 ≤ y ∧ y < 65536) (h : bs x = bs y) : x = y := by
  simp only [bs, List.cons.injEq, and_true] at h
  have h1 := congrArg UInt8.toNat h.1
  have h2 := congrArg UInt8.toNat h.2
  rw [UInt8.toNat_ofNat', UInt8.toNat_ofNat'] at h1 h2
  omega
theorem ofP_one {x y : Int} (hx : 0 ≤ x ∧ x < 65536) (hy : 0 ≤ y ∧ y < 65536) : ((ofP [x]).toList = (ofP [y]).toList) ↔ x = y := by
  constructor
  · intro h
    rw [ofP_toList, ofP_toList] at h
    exact bs_inj hx hy (by simpa using h)
  · rintro rfl; rfl
theorem ofNat_toNat_ (a : UInt8) : UInt8.ofNat a.toNat = a := by simp
theorem bs_pairAt (s : ByteArray) (q : Nat) (h : 2 * q + 1 < s.size) : bs (pairAt s q) = [s[2 * q]'(by omega), s[2 * q + 1]] := by
  rw [pairAt_eq s q h]
  have h1 := (s[2 * q]'(by omega)).toNat_lt
  have h2 := (s[2 * q + 1]).toNat_lt
  unfold bs
  rw [show (((s[2 * q]'(by omega)).toNat : Int) * 256 + (s[2 * q + 1]).toNat) / 256 = (s[2 * q]'(by omega)).toNat by omega, show (((s[2 * q]'(by omega)).toNat : Int) * 256 + (s[2 * q + 1]).toNat) % 256 = (s[2 * q + 1]).toNat by omega, Int.toNat_natCast, Int.toNat_natCast, ofNat_toNat_, ofNat_toNat_]
theorem pairs_get (s : ByteArray) (n i : Nat) (h : i < (pairs s n).length) : (pairs s n)[i] = pairAt s i := by simp [pairs]
theorem size_even (s : ByteArray) (h : s.size % 2 = 0) : s = ofP (pairs s (s.size / 2)) := by
  have hsz : (ofP (pairs s (s.size / 2))).size = s.size := by rw [ofP_size, pairs_length]; omega
  have key : ∀ q, 2 * q + 1 < s.size → ∀ (h1 : 2 * q < (ofP (pairs s (s.size / 2))).size) (h2 : 2 * q + 1 < (ofP (pairs s (s.size / 2))).size), [(ofP (pairs s (s.size / 2)))[2 * q], (ofP (pairs s (s.size / 2)))[2 * q + 1]] = [s[2 * q]'(by omega), s[2 * q + 1]'(by omega)] := by
    intro q hq h1 h2
    rw [← toList_extract2 (ofP (pairs s (s.size / 2))) (2 * q) (by omega), show 2 * q + 2 = 2 * (q + 1) by omega, ofP_extract, ofP_toList]
    have hl : q < (pairs s (s.size / 2)).length := by rw [pairs_length]; omega
    rw [List.take_succ_eq_append_getElem hl, List.drop_append_of_le_length (by simp; omega), List.drop_eq_nil_of_le (by simp; omega), pairs_get]
    simp only [List.nil_append, List.flatMap_cons, List.flatMap_nil, List.append_nil]
    exact bs_pairAt s q hq
  apply ByteArray.ext
  apply Array.ext
  · exact hsz.symm
  · intro i h1 h2
    have h1' : i < s.size := h1
    rcases Nat.mod_two_eq_zero_or_one i with e | e
    · obtain ⟨q, rfl⟩ : ∃ q, i = 2 * q := ⟨i / 2, by omega⟩
      have := key q (by omega) (by omega) (by omega)
      simp only [List.cons.injEq, and_true] at this
      exact this.1.symm
    · obtain ⟨q, rfl⟩ : ∃ q, i = 2 * q + 1 := ⟨i / 2, by omega⟩
      have := key q (by omega) (by omega) (by omega)
      simp only [List.cons.injEq, and_true] at this
      exact this.2.symm
theorem pairs_ofP (l : List Int) (h : InS l) : pairs (ofP l) ((ofP l).size / 2) = l := by
  rw [ofP_size, show 2 * l.length / 2 = l.length by omega]
  apply List.ext_getElem
  · rw [pairs_length]
  · intro n h1 h2
    rw [pairs_get]
    have hb := bs_pairAt (ofP l) n (by rw [ofP_size]; omega)
    rw [← toList_extract2 (ofP l) (2 * n) (by rw [ofP_size]; omega), show 2 * n + 2 = 2 * (n + 1) by omega, ofP_extract, ofP_toList, List.take_succ_eq_append_getElem h2, List.drop_append_of_le_length (by simp; omega), List.drop_eq_nil_of_le (by simp; omega)] at hb
    simp only [List.nil_append, List.flatMap_cons, List.flatMap_nil, List.append_nil] at hb
    exact bs_inj ⟨pairAt_nonneg _ _, pairAt_lt _ _⟩ (h _ (List.getElem_mem h2)) hb
theorem pairs_InS (s : ByteArray) (n : Nat) : InS (pairs s n) := by
  intro x hx
  obtain ⟨j, _, rfl⟩ := List.mem_map.1 hx
  exact ⟨pairAt_nonneg _ _, pairAt_lt _ _⟩
theorem strOf_bs (x : Int) (hx : 0 ≤ x ∧ x < 65536) : strOfNums [(wrap64 (Int.tdiv x 256)) % 256, (Int.tmod x 256) % 256] = ofP [x] := by
  rw [Int.tdiv_eq_ediv_of_nonneg hx.1, Int.tmod_eq_emod_of_nonneg hx.1, w64 (by omega) (by omega), show x / 256 % 256 = x / 256 by omega, show x % 256 % 256 = x % 256 by omega]
  rfl
/-! ### mummerref09.Check -/
def tailFrom (s : ByteArray) (j : Nat) : List Int := (List.range' j (s.size / 2 - j)).map (pairAt s)
theorem tailFrom_step (s : ByteArray) (j : Nat) (h : j < s.size / 2) : tailFrom s j = pairAt s j :: tailFrom s (j + 1) := by
  unfold tailFrom
  obtain ⟨n, hn⟩ : ∃ n, s.size / 2 - j = n + 1 := ⟨s.size / 2 - j - 1, by omega⟩
  rw [hn, List.range'_succ, List.map_cons, show s.size / 2 - (j + 1) = n by omega]
theorem tailFrom_end (s : ByteArray) : tailFrom s (s.size / 2) = [] := by simp [tailFrom]
theorem pairs_tail (s : ByteArray) : pairs s (s.size / 2) = tailFrom s 0 := by simp [pairs, tailFrom, List.range_eq_range']
def chkEnd (s : ByteArray) : Int := if (s.size : Int) > 20000 then 3 else 0
/-! ### scopes.merge -/
def Asc (l : List Int) : Prop := l.Pairwise (· < ·)
theorem asc_pairwise : ∀ (l : List Int) (a : Int), asc a l = true → (∀ x ∈ l, a < x) ∧ Asc l
  | [], _, _ => ⟨by simp, List.Pairwise.nil⟩
  | x :: r, a, h => by
    obtain ⟨h1, h2⟩ := (asc_cons_eq a x r).1 h
    obtain ⟨h3, h4⟩ := asc_pairwise r x h2
    refine ⟨fun y hy => ?_, List.pairwise_cons.2 ⟨h3, h4⟩⟩
    rcases List.mem_cons.1 hy with rfl | hy
    · exact h1
    · exact Int.lt_trans h1 (h3 y hy)
theorem get_drop_take (l : List Int) (j : Nat) (h : j < l.length) : (l.take (j + 1)).drop j = [l[j]] := by
  rw [List.take_succ_eq_append_getElem h, List.drop_append_of_le_length (by simp; omega), List.drop_eq_nil_of_le (by simp; omega)]; rfl
theorem erase_at (l : List Int) (j : Nat) (x : Int) (h : j < l.length) (hx : l[j] = x) (hn : x ∉ l.take j) : l.erase x = l.take j ++ l.drop (j + 1) := by
  have e : l = l.take j ++ x :: l.drop (j + 1) := by rw [← hx, ← List.drop_eq_getElem_cons h, List.take_append_drop]
  rw [show l.erase x = (l.take j ++ x :: l.drop (j + 1)).erase x by rw [← e], List.erase_append_right _ hn, List.erase_cons_head]
theorem InS_erase {l : List Int} (h : InS l) (x : Int) : InS (l.erase x) := fun y hy => h y (List.mem_of_mem_erase hy)
/-! ### the sets' subset test -/
/-- The scopes of a set. -/
def P (s : ByteArray) : List Int := pairs s (s.size / 2)
theorem chk_even {s : ByteArray} (h : chk s = 0) : s.size % 2 = 0 := by
  unfold chk at h
  by_cases c : (s.size : Int) % 2 = 0
  · omega
  · rw [if_neg c] at h; cases h
theorem chk_asc {s : ByteArray} (h : chk s = 0) : Asc (P s) := by
  unfold chk at h
  by_cases c : (s.size : Int) % 2 = 0
  · rw [if_pos c] at h
    by_cases c2 : asc (-1) (pairs s (s.size / 2)) = true
    · exact (asc_pairwise _ _ c2).2
    · rw [if_neg c2] at h; cases h
  · rw [if_neg c] at h; cases h
theorem ofP_P {s : ByteArray} (h : chk s = 0) : s = ofP (P s) := size_even s (chk_even h)
theorem P_InS (s : ByteArray) : InS (P s) := pairs_InS s _
theorem P_length (s : ByteArray) : (P s).length = s.size / 2 := pairs_length s _
theorem Asc.nodup {l : List Int} (h : Asc l) : l.Nodup := h.imp fun hab => by omega
def subset (a b : ByteArray) : Bool := (P a).all fun x => (P b).contains x
theorem subset_iff (a b : ByteArray) : (subset a b = true) ↔ ∀ x ∈ P a, x ∈ P b := by simp [subset]
def subSpec (a b : ByteArray) : Bool × Int := if chk a = 0 then (if chk b = 0 then (subset a b, 0) else (false, chk b)) else (false, chk a)
theorem mem_foldl_erase (x : Int) : ∀ (m l : List Int), l.Nodup → (x ∈ m.foldl List.erase l ↔ x ∈ l ∧ x ∉ m)
  | [], l, _ => by simp
  | y :: m, l, h => by
    rw [List.foldl_cons, mem_foldl_erase x m (l.erase y) (h.erase y), h.mem_erase_iff]
    simp; grind
theorem foldl_erase_nil (m l : List Int) (h : l.Nodup) : (m.foldl List.erase l = []) ↔ ∀ x ∈ l, x ∈ m := by
  rw [List.eq_nil_iff_forall_not_mem]
  constructor
  · intro hn x hx
    by_cases hm : x ∈ m
    · exact hm
    · exact absurd ((mem_foldl_erase x m l h).2 ⟨hx, hm⟩) (hn x)
  · intro hs x hx
    obtain ⟨h1, h2⟩ := (mem_foldl_erase x m l h).1 hx
    exact h2 (hs x h1)
theorem ofP_nil_iff (l : List Int) : ((ofP l).toList = []) ↔ l = [] := by
  rw [ofP_toList]
  cases l with
  | nil => simp
  | cons x r => simp [bs]
/-! ### tables -/
/-! ### candidates -/
/-! ### resolve -/
theorem wnext (i : Nat) (h : i ≤ 1099511627776) : wrap64 ((i : Int) + 1) = ((i + 1 : Nat) : Int) := by rw [w64 (by omega) (by omega)]; omega
/-! ### the library's Resolve -/
theorem subSpec_iff {a b : ByteArray} : ((subSpec a b).1 = true) ↔ chk a = 0 ∧ chk b = 0 ∧ ∀ x ∈ P a, x ∈ P b := by
  unfold subSpec
  by_cases c1 : chk a = 0
  · by_cases c2 : chk b = 0
    · rw [if_pos c1, if_pos c2]; simp [c1, c2, subset_iff]
    · rw [if_pos c1, if_neg c2]; simp [c2]
  · rw [if_neg c1]; simp [c1]
theorem asc_eq : ∀ (l m : List Int), Asc l → Asc m → (∀ x, x ∈ l ↔ x ∈ m) → l = m
  | [], [], _, _, _ => rfl
  | [], y :: m, _, _, h => by simpa using (h y).2 (by simp)
  | x :: l, [], _, _, h => by simpa using (h x).1 (by simp)
  | x :: l, y :: m, hl, hm, h => by
    obtain ⟨hx, hl'⟩ := List.pairwise_cons.1 hl
    obtain ⟨hy, hm'⟩ := List.pairwise_cons.1 hm
    have e : x = y := by
      rcases List.mem_cons.1 ((h x).1 (by simp)) with e | h1
      · exact e
      · rcases List.mem_cons.1 ((h y).2 (by simp)) with e | h2
        · exact e.symm
        · have := hy x h1; have := hx y h2; omega
    subst e
    rw [asc_eq l m hl' hm' fun z => ?_]
    have := h z
    constructor
    · intro hz
      have hne := hx z hz
      rcases List.mem_cons.1 (this.1 (by simp [hz])) with e | h1
      · omega
      · exact h1
    · intro hz
      have hne := hy z hz
      rcases List.mem_cons.1 (this.2 (by simp [hz])) with e | h1
      · omega
      · exact h1
theorem sub_antisymm {a b : ByteArray} (h1 : (subSpec a b).1 = true) (h2 : (subSpec b a).1 = true) : a = b := by
  obtain ⟨ca, cb, hab⟩ := subSpec_iff.1 h1
  obtain ⟨_, _, hba⟩ := subSpec_iff.1 h2
  rw [ofP_P ca, ofP_P cb, asc_eq (P a) (P b) (chk_asc ca) (chk_asc cb) fun x => ⟨hab x, hba x⟩]
/-! ### the library's Resolve is the reference's -/
/-! ### Add -/
/-! ### lists that are the same -/
/-! ### far -/
def wide (s : ByteArray) : Bool := decide ((s.size : Int) > 150)
/-! ### Same -/
def same2 (an bn : ByteArray) (a b : Int × Int) : Bool × Int :=
  if a.2 = 11 then (false, 11) else if b.2 = 11 then (false, 11) else if a.2 = 0 then (if b.2 = 0 then (a.1 == b.1, 0) else (if a.2 = b.2 then (an.toList == bn.toList, 0) else (false, 0))) else (if a.2 = b.2 then (an.toList == bn.toList, 0) else (false, 0))
theorem chk_codes (s : ByteArray) : chk s = 0 ∨ (chk s ≠ 10 ∧ chk s ≠ 11) := by
  unfold chk
  split
  · split
    · split <;> simp
    · simp
  · simp
/-! ### sets out of lists of scopes -/
def bsI (x : Int) : List Int := [(wrap64 (Int.tdiv x 256)) % 256, (Int.tmod x 256) % 256]
theorem strOfNums_flat : ∀ (l : List Int), InS l → strOfNums (l.flatMap bsI) = ofP l
  | [], _ => rfl
  | x :: l, h => by
    have h1 := strOf_bs x (h x (by simp))
    have h2 := strOfNums_flat l fun y hy => h y (by simp [hy])
    have h3 : strOfNums ((x :: l).flatMap bsI) = strOfNums (bsI x) ++ strOfNums (l.flatMap bsI) := by
      rw [List.flatMap_cons]
      unfold strOfNums
      simp [ByteArray.ext_iff]
    rw [h3, h2]
    unfold bsI
    rw [h1, ofP_append]
    rfl
def markOf (l : List Int) (M : List Bool) (j : Nat) : Prop := M.length = 65536 ∧ ∀ i < 65536, M.getD i false = decide ((i : Int) ∈ l.take j)
def numsOf (l : List Int) (j d : Nat) : List Int := ((List.range' j d).filter fun (i : Nat) => decide ((i : Int) ∈ l)).map fun (i : Nat) => (i : Int)
theorem numsOf_InS (l : List Int) (j d : Nat) (h : j + d ≤ 65536) : InS (numsOf l j d) := by
  intro x hx
  obtain ⟨i, hi, rfl⟩ := List.mem_map.1 hx
  have := List.mem_range'_1.1 (List.mem_filter.1 hi).1
  omega
theorem numsOf_step (l : List Int) (j d : Nat) : numsOf l j (d + 1) = (if (j : Int) ∈ l then [(j : Int)] else []) ++ numsOf l (j + 1) d := by
  unfold numsOf
  rw [List.range'_succ, List.filter_cons]
  split <;> rename_i c
  · rw [if_pos (of_decide_eq_true c)]; rfl
  · rw [if_neg (fun h => c (decide_eq_true h))]; rfl
def setSpec (s : ByteArray) : ByteArray × Int := if (s.size : Int) > 20000 then ((⟨#[]⟩ : ByteArray), 3) else (s, 0)
def ofSpec (l : List Int) : ByteArray × Int := if (l.all fun x => decide (0 ≤ x ∧ x ≤ 65535)) = true then setSpec (ofP (numsOf l 0 65536)) else ((⟨#[]⟩ : ByteArray), 7)
theorem numsOf_small (l : List Int) (m : Nat) (hm : m ≤ 65536) (h : ∀ x ∈ l, x < (m : Int)) : numsOf l 0 65536 = numsOf l 0 m := by
  have e : List.range' 0 65536 = List.range' 0 m ++ List.range' m (65536 - m) := by
    rw [show 65536 = m + (65536 - m) by omega, ← List.range'_append_1]
    simp
  unfold numsOf
  rw [e, List.filter_append]
  rw [show (List.range' m (65536 - m)).filter (fun (i : Nat) => decide ((i : Int) ∈ l)) = [] from ?_, List.append_nil]
  rw [List.filter_eq_nil_iff]
  intro i hi hd
  have h1 := h _ (of_decide_eq_true hd)
  have h2 := (List.mem_range'_1.1 hi).1
  omega
/-! ### the law's own example -/
/-! ### the laws -/
/-! ### greatest -/
theorem rdI (C : List Int) (j : Nat) (h : j < C.length) : rd C (j : Int) = C[j] := by simp [rd, h]
/-- Of a chain one has all the others. -/
theorem chain_top (R : Int → Int → Bool) : ∀ (C D : List Int), (∀ x ∈ C, x ∈ D) → (∀ x ∈ D, R x x = true) → (∀ x ∈ D, ∀ y ∈ D, ∀ z ∈ D, R x y = true → R y z = true → R x z = true) → (∀ x ∈ D, ∀ y ∈ D, R x y = true ∨ R y x = true) → C ≠ [] → ∃ y ∈ C, ∀ x ∈ C, R x y = true := by
  intro C
  induction C with
  | nil => intro D _ _ _ _ h; exact absurd rfl h
  | cons a C ih =>
    intro D hD h1 h2 h3 _
    by_cases e : C = []
    · subst e; exact ⟨a, by simp, fun x hx => by rw [List.mem_singleton.1 hx]; exact h1 a (hD a (by simp))⟩
    · obtain ⟨y, hy, ht⟩ := ih D (fun x hx => hD x (by simp [hx])) h1 h2 h3 e
      have ha := hD a (by simp)
      have hyD := hD y (by simp [hy])
      rcases h3 a ha y hyD with h | h
      · refine ⟨y, by simp [hy], fun x hx => ?_⟩
        rcases List.mem_cons.1 hx with e | hx'
        · rw [e]; exact h
        · exact ht x hx'
      · refine ⟨a, by simp, fun x hx => ?_⟩
        rcases List.mem_cons.1 hx with e | hx'
        · rw [e]; exact h1 a ha
        · exact h2 x (hD x (by simp [hx'])) y hyD a ha (ht x hx') h
/-! ### others -/
/-! ### sets with one more, and unions -/
/-- Where a scope goes. -/
def insAt (x : Int) : List Int → Nat
  | [] => 0
  | y :: r => if y < x then insAt x r + 1 else 0
def ins (x : Int) (l : List Int) : List Int := if x ∈ l then l else l.take (insAt x l) ++ x :: l.drop (insAt x l)
theorem insAt_le (x : Int) : ∀ l : List Int, insAt x l ≤ l.length
  | [] => Nat.le_refl 0
  | y :: r => by
    unfold insAt
    have := insAt_le x r
    split <;> simp <;> omega
theorem insAt_at (x : Int) : ∀ (l : List Int) (j : Nat) (hj : j ≤ l.length), (∀ i (h : i < j), l[i]'(by omega) < x) → (∀ h : j < l.length, ¬ l[j] < x) → insAt x l = j
  | [], j, hj, _, _ => by simp at hj; rw [hj]; rfl
  | y :: r, 0, _, _, h2 => by
    unfold insAt
    rw [if_neg (show ¬ y < x from h2 (by simp))]
  | y :: r, j + 1, hj, h1, h2 => by
    unfold insAt
    rw [if_pos (show y < x from h1 0 (by omega)), insAt_at x r j (by simpa using hj) (fun i h => h1 (i + 1) (by omega)) (fun h => h2 (by simpa using h))]
theorem insAt_lt (x : Int) : ∀ (l : List Int), ∀ y ∈ l.take (insAt x l), y < x
  | [], y, h => by simp at h
  | z :: r, y, h => by
    unfold insAt at h
    by_cases c : z < x
    · rw [if_pos c, List.take_succ_cons] at h
      rcases List.mem_cons.1 h with e | h
      · rw [e]; exact c
      · exact insAt_lt x r y h
    · rw [if_neg c] at h; simp at h
theorem insAt_ge (x : Int) : ∀ (l : List Int), Asc l → ∀ y ∈ l.drop (insAt x l), x ≤ y
  | [], _, y, h => by simp at h
  | z :: r, ha, y, h => by
    unfold insAt at h
    have hp := List.pairwise_cons.1 ha
    by_cases c : z < x
    · rw [if_pos c, List.drop_succ_cons] at h
      exact insAt_ge x r hp.2 y h
    · rw [if_neg c, List.drop_zero] at h
      rcases List.mem_cons.1 h with e | h
      · omega
      · have := hp.1 y h; omega
theorem mem_ins (x y : Int) (l : List Int) : y ∈ ins x l ↔ y = x ∨ y ∈ l := by
  unfold ins
  by_cases c : x ∈ l
  · rw [if_pos c]
    exact ⟨Or.inr, fun h => h.elim (fun e => e ▸ c) id⟩
  · rw [if_neg c]
    have : y ∈ l ↔ y ∈ l.take (insAt x l) ∨ y ∈ l.drop (insAt x l) := by rw [← List.mem_append, List.take_append_drop]
    rw [this]
    simp only [List.mem_append, List.mem_cons]
    constructor
    · rintro (h | h | h)
      · exact Or.inr (Or.inl h)
      · exact Or.inl h
      · exact Or.inr (Or.inr h)
    · rintro (h | h | h)
      · exact Or.inr (Or.inl h)
      · exact Or.inl h
      · exact Or.inr (Or.inr h)
theorem ins_InS {l : List Int} (h : InS l) {x : Int} (hx : 0 ≤ x ∧ x < 65536) : InS (ins x l) := fun y hy => by
  rcases (mem_ins x y l).1 hy with e | h1
  · rw [e]; exact hx
  · exact h y h1
theorem ins_len (x : Int) (l : List Int) : (ins x l).length ≤ l.length + 1 := by
  unfold ins
  split
  · omega
  · have := insAt_le x l
    simp; omega
theorem ins_asc {l : List Int} (h : Asc l) (x : Int) : Asc (ins x l) := by
  unfold ins
  by_cases c : x ∈ l
  · rw [if_pos c]; exact h
  · rw [if_neg c]
    have hs : Asc (l.take (insAt x l) ++ l.drop (insAt x l)) := by rw [List.take_append_drop]; exact h
    have hp := List.pairwise_append.1 hs
    have hge := insAt_ge x l h
    refine List.pairwise_append.2 ⟨hp.1, List.pairwise_cons.2 ⟨fun y hy => ?_, hp.2.1⟩, fun y hy z hz => ?_⟩
    · have h1 := hge y hy
      have h2 : y ≠ x := fun e => c (e ▸ List.mem_of_mem_drop hy)
      omega
    · rcases List.mem_cons.1 hz with e | hz
      · rw [e]; exact insAt_lt x l y hy
      · exact hp.2.2 y hy z hz
theorem less_one {x y : Int} (hx : 0 ≤ x ∧ x < 65536) (hy : 0 ≤ y ∧ y < 65536) : (Op.bytesLess (ofP [x]).toList (ofP [y]).toList = true) ↔ x < y := by
  rw [ofP_toList, ofP_toList]
  have e : ∀ z : Int, [z].flatMap bs = [UInt8.ofNat (z / 256).toNat, UInt8.ofNat (z % 256).toNat] := fun z => rfl
  rw [e, e, less2]
  have h1 : ∀ z : Int, 0 ≤ z ∧ z < 65536 → ((UInt8.ofNat (z / 256).toNat).toNat : Int) * 256 + (UInt8.ofNat (z % 256).toNat).toNat = z := by
    intro z hz
    simp only [UInt8.toNat_ofNat']
    omega
  rw [h1 x hx, h1 y hy]
def uni (l m : List Int) : List Int := m.foldl (fun a x => ins x a) l
theorem uni_InS : ∀ (m l : List Int), InS l → InS m → InS (uni l m)
  | [], _, h, _ => h
  | x :: m, l, h, hm => uni_InS m (ins x l) (ins_InS h (hm x (by simp))) fun y hy => hm y (by simp [hy])
theorem uni_asc : ∀ (m l : List Int), Asc l → Asc (uni l m)
  | [], _, h => h
  | x :: m, l, h => uni_asc m (ins x l) (ins_asc h x)
theorem uni_len : ∀ (m l : List Int), (uni l m).length ≤ l.length + m.length
  | [], l => by simp [uni]
  | x :: m, l => by
    have h1 := uni_len m (ins x l); have h2 := ins_len x l
    have : uni l (x :: m) = uni (ins x l) m := rfl
    rw [this, List.length_cons]; omega
theorem mem_uni (y : Int) : ∀ (m l : List Int), y ∈ uni l m ↔ y ∈ l ∨ y ∈ m
  | [], l => by simp [uni]
  | x :: m, l => by
    have : uni l (x :: m) = uni (ins x l) m := rfl
    rw [this, mem_uni y m (ins x l), mem_ins, List.mem_cons]
    constructor
    · rintro ((h | h) | h)
      · exact Or.inr (Or.inl h)
      · exact Or.inl h
      · exact Or.inr (Or.inr h)
    · rintro (h | h | h)
      · exact Or.inl (Or.inr h)
      · exact Or.inl (Or.inl h)
      · exact Or.inr h
def unionSpec (a b : ByteArray) : ByteArray × Int := if chk a = 0 then (if chk b = 0 then setSpec (ofP (uni (P a) (P b))) else ((⟨#[]⟩ : ByteArray), chk b)) else ((⟨#[]⟩ : ByteArray), chk a)
theorem asc_of : ∀ (l : List Int) (a : Int), (∀ x ∈ l, a < x) → Asc l → asc a l = true
  | [], _, _, _ => rfl
  | x :: r, a, h, ha => by
    have hp := List.pairwise_cons.1 ha
    exact (asc_cons_eq a x r).2 ⟨h x (by simp), asc_of r x hp.1 hp.2⟩
theorem P_ofP {l : List Int} (h : InS l) : P (ofP l) = l := pairs_ofP l h
theorem chk_ofP {l : List Int} (h : InS l) (ha : Asc l) (hl : l.length ≤ 10000) : chk (ofP l) = 0 := by
  unfold chk
  have e : pairs (ofP l) ((ofP l).size / 2) = l := pairs_ofP l h
  rw [e, if_pos (by rw [ofP_size]; omega), if_pos (asc_of l (-1) (fun x hx => by have := (h x hx).1; omega) ha), if_neg (by rw [ofP_size]; omega)]
/-! ### more -/
/-! ### what the library's functions on slices compute, over ascending lists -/
theorem cut_sorted (zs : List Int) (hs : zs.Pairwise (· ≤ ·)) : ∀ m, m ≤ zs.length →
    Asc (Lib.compactUpTo zs.toArray m) ∧ (∀ x, x ∈ Lib.compactUpTo zs.toArray m ↔ x ∈ zs.take m) ∧ (∀ x ∈ Lib.compactUpTo zs.toArray m, ∀ (h : m - 1 < zs.length), 0 < m → x ≤ zs[m - 1]) := by
  intro m
  induction m with
  | zero => intro _; refine ⟨List.Pairwise.nil, fun x => by simp [Lib.compactUpTo], fun x hx => by simp [Lib.compactUpTo] at hx⟩
  | succ m ih =>
    intro hm
    obtain ⟨h1, h2, h3⟩ := ih (by omega)
    have hml : m < zs.length := by omega
    have hle : ∀ i j (hi : i < zs.length) (hj : j < zs.length), i ≤ j → zs[i] ≤ zs[j] := by
      intro i j hi hj hij
      rcases Nat.lt_or_ge i j with h | h
      · exact List.pairwise_iff_getElem.1 hs i j hi hj h
      · have : i = j := by omega
        subst this; exact Int.le_refl _
    have e : zs.toArray[m]! = zs[m] := by simp [hml]
    have mem : ∀ x, x ∈ zs.take (m + 1) ↔ x ∈ zs.take m ∨ x = zs[m] := fun x => by
      rw [List.take_add_one, List.getElem?_eq_getElem hml, List.mem_append, Option.toList_some, List.mem_singleton]
    rw [Lib.compactUpTo_succ, e]
    by_cases k : Lib.keeps zs.toArray m = true
    · rw [if_pos k]
      have hlt : ∀ x ∈ Lib.compactUpTo zs.toArray m, x < zs[m] := by
        intro x hx
        by_cases h0 : m = 0
        · subst h0; simp [Lib.compactUpTo] at hx
        · have hx1 := h3 x hx (by omega) (by omega)
          have hne : zs.toArray[m]! ≠ zs.toArray[m - 1]! := by
            have := k; simp [Lib.keeps, h0] at this; simpa using this
          have e' : zs.toArray[m - 1]! = zs[m - 1]'(by omega) := by simp [show m - 1 < zs.length by omega]
          rw [e, e'] at hne
          have := hle (m - 1) m (by omega) hml (by omega)
          omega
      refine ⟨List.pairwise_append.2 ⟨h1, List.pairwise_singleton _ _, fun x hx y hy => ?_⟩, fun x => ?_, fun x hx hh _ => ?_⟩
      · rw [List.mem_singleton.1 hy]; exact hlt x hx
      · rw [List.mem_append, List.mem_singleton, h2, mem]
      · rcases List.mem_append.1 hx with hx | hx
        · have := hlt x hx
          simp only [Nat.add_sub_cancel]; omega
        · rw [List.mem_singleton.1 hx]; simp only [Nat.add_sub_cancel]; exact Int.le_refl _
    · rw [if_neg k, List.append_nil]
      have h0 : m ≠ 0 := fun h => by subst h; simp [Lib.keeps] at k
      have heq : zs[m] = zs[m - 1]'(by omega) := by
        have e' : zs.toArray[m - 1]! = zs[m - 1]'(by omega) := by simp [show m - 1 < zs.length by omega]
        simp [Lib.keeps, h0] at k
        simpa [hml, show m - 1 < zs.length by omega] using k
      refine ⟨h1, fun x => ?_, fun x hx hh _ => ?_⟩
      · rw [h2, mem]
        constructor
        · exact Or.inl
        · rintro (h | h)
          · exact h
          · rw [h, heq]
            exact List.mem_take_iff_getElem.2 ⟨m - 1, by omega, rfl⟩
      · have := h3 x hx (by omega) (by omega)
        simp only [Nat.add_sub_cancel]; omega
theorem compact_sorted (zs : List Int) (hs : zs.Pairwise (· ≤ ·)) : Asc (Lib.compact zs) ∧ ∀ x, x ∈ Lib.compact zs ↔ x ∈ zs := by
  obtain ⟨h1, h2, _⟩ := cut_sorted zs hs zs.length (Nat.le_refl _)
  refine ⟨h1, fun x => ?_⟩
  have := h2 x
  rwa [List.take_length] at this
def srt (l : List Int) : List Int := l.mergeSort fun x y => decide (x ≤ y)
theorem srt_sorted (l : List Int) : (srt l).Pairwise (· ≤ ·) := by
  have := List.pairwise_mergeSort (le := fun x y : Int => decide (x ≤ y)) (fun a b c h1 h2 => by simp at *; omega) (fun a b => by simp; omega) l
  exact this.imp fun h => by simpa using h
theorem mem_srt (l : List Int) (x : Int) : x ∈ srt l ↔ x ∈ l := List.mem_mergeSort
theorem srt_length (l : List Int) : (srt l).length = l.length := List.length_mergeSort ..
/-- What Of makes of a list: its elements, each once, ascending. -/
def once (l : List Int) : List Int := Lib.compact (srt l)
theorem once_asc (l : List Int) : Asc (once l) := (compact_sorted _ (srt_sorted l)).1
theorem mem_once (l : List Int) (x : Int) : x ∈ once l ↔ x ∈ l := ((compact_sorted _ (srt_sorted l)).2 x).trans (mem_srt l x)
theorem once_eq (l m : List Int) (h : Asc m) (hm : ∀ x, x ∈ l ↔ x ∈ m) : once l = m := asc_eq _ _ (once_asc l) h fun x => (mem_once l x).trans (hm x)
theorem numsOf_asc (l : List Int) (j d : Nat) : Asc (numsOf l j d) := by
  unfold numsOf Asc
  rw [List.pairwise_map]
  refine List.Pairwise.imp ?_ ((List.pairwise_lt_range' (s := j) (n := d)).filter _)
  intro a b h; omega
theorem once_nums (l : List Int) (h : InS l) : once l = numsOf l 0 65536 := by
  refine once_eq l _ (numsOf_asc l 0 65536) fun x => ?_
  constructor
  · intro hx
    have := h x hx
    refine List.mem_map.2 ⟨x.toNat, List.mem_filter.2 ⟨List.mem_range'_1.2 ⟨Nat.zero_le _, by omega⟩, ?_⟩, by omega⟩
    have e : ((x.toNat : Nat) : Int) = x := by omega
    simp [e, hx]
  · intro hx
    obtain ⟨i, hi, rfl⟩ := List.mem_map.1 hx
    simpa using (List.mem_filter.1 hi).2
/-- The first and the last of a sorted list tell whether all are in a range. -/
theorem ends_tell (l : List Int) (hne : l ≠ []) : (∀ x ∈ l, 0 ≤ x ∧ x ≤ 65535) ↔ (0 ≤ (srt l)[0]'(by rw [srt_length]; exact List.length_pos_iff.2 hne) ∧ (srt l)[(srt l).length - 1]'(by have := List.length_pos_iff.2 hne; rw [srt_length]; omega) ≤ 65535) := by
  have hpos : 0 < (srt l).length := by rw [srt_length]; exact List.length_pos_iff.2 hne
  have hs := srt_sorted l
  have hle : ∀ i j (hi : i < (srt l).length) (hj : j < (srt l).length), i ≤ j → (srt l)[i] ≤ (srt l)[j] := by
    intro i j hi hj hij
    rcases Nat.lt_or_ge i j with h | h
    · exact List.pairwise_iff_getElem.1 hs i j hi hj h
    · have : i = j := by omega
      subst this; exact Int.le_refl _
  constructor
  · intro h
    exact ⟨(h _ ((mem_srt l _).1 (List.getElem_mem _))).1, (h _ ((mem_srt l _).1 (List.getElem_mem _))).2⟩
  · rintro ⟨h1, h2⟩ x hx
    obtain ⟨i, hi, rfl⟩ := List.getElem_of_mem ((mem_srt l x).2 hx)
    have a := hle 0 i hpos hi (by omega)
    have b := hle i ((srt l).length - 1) hi (by omega) (by omega)
    omega
/-- Where BinarySearch says that a scope is, or would be. -/
theorem count_insAt (n : Int) : ∀ l : List Int, Asc l → l.countP (fun x => decide (x < n)) = insAt n l
  | [], _ => rfl
  | y :: r, h => by
    have hp := List.pairwise_cons.1 h
    unfold insAt
    rw [List.countP_cons]
    by_cases c : y < n
    · rw [if_pos c, count_insAt n r hp.2]; simp [c]
    · rw [if_neg c]
      have : r.countP (fun x => decide (x < n)) = 0 := by
        rw [List.countP_eq_zero]
        intro x hx
        have := hp.1 x hx
        simp; omega
      rw [this]; simp [c]
theorem erase_insAt (n : Int) : ∀ l : List Int, Asc l → n ∈ l → l.take (insAt n l) ++ l.drop (insAt n l + 1) = l.erase n
  | y :: r, h, hn => by
    have hp := List.pairwise_cons.1 h
    unfold insAt
    by_cases c : y < n
    · have hr : n ∈ r := by
        rcases List.mem_cons.1 hn with e | h'
        · omega
        · exact h'
      rw [if_pos c, List.take_succ_cons, List.drop_succ_cons, List.cons_append, erase_insAt n r hp.2 hr, List.erase_cons_tail (by simp; omega)]
    · rw [if_neg c]
      have e : y = n := by
        rcases List.mem_cons.1 hn with e | h'
        · exact e.symm
        · have := hp.1 n h'; omega
      subst e
      simp

/-! ### set algebra over ascending lists -/
theorem asc_filter {l : List Int} (h : Asc l) (p : Int → Bool) : Asc (l.filter p) := h.filter p
theorem asc_erase : ∀ (m l : List Int), Asc l → Asc (m.foldl List.erase l)
  | [], _, h => h
  | x :: m, l, h => asc_erase m (l.erase x) (List.Pairwise.sublist List.erase_sublist h)
theorem minus_filter {l : List Int} (h : Asc l) (m : List Int) : m.foldl List.erase l = l.filter fun x => !m.contains x := by
  refine asc_eq _ _ (asc_erase m l h) (asc_filter h _) fun x => ?_
  rw [mem_foldl_erase x m l h.nodup, List.mem_filter]
  simp
theorem meet_filter {l : List Int} (h : Asc l) (m : List Int) : (m.foldl List.erase l).foldl List.erase l = l.filter fun x => m.contains x := by
  rw [minus_filter h]
  refine asc_eq _ _ (asc_filter h _) (asc_filter h _) fun x => ?_
  rw [minus_filter h, List.mem_filter, List.mem_filter]
  constructor
  · rintro ⟨h1, h2⟩
    refine ⟨h1, ?_⟩
    cases c : m.contains x with
    | true => rfl
    | false =>
      have : x ∈ l.filter fun x => !m.contains x := List.mem_filter.2 ⟨h1, by rw [c]; rfl⟩
      rw [show (l.filter fun x => !m.contains x).contains x = true from by simpa using this] at h2
      cases h2
  · rintro ⟨h1, h2⟩
    refine ⟨h1, ?_⟩
    have : x ∉ l.filter fun x => !m.contains x := fun h' => by
      have := (List.mem_filter.1 h').2
      rw [h2] at this; cases this
    rw [show (l.filter fun x => !m.contains x).contains x = false from by simpa [Bool.eq_false_iff] using fun (a : x ∈ l) (b : x ∉ m) => this (List.mem_filter.2 ⟨a, by simpa using b⟩)]
    rfl
theorem union_once {l m : List Int} (h : Asc l) : once (l.filter (fun x => !m.contains x) ++ (l.filter (fun x => m.contains x) ++ m.filter fun x => !l.contains x)) = uni l m := by
  refine once_eq _ _ (uni_asc m l h) fun x => ?_
  rw [mem_uni, List.mem_append, List.mem_append, List.mem_filter, List.mem_filter, List.mem_filter]
  by_cases a : x ∈ l <;> by_cases b : x ∈ m <;> simp [a, b]
theorem once_self {l : List Int} (h : Asc l) : once l = l := once_eq l l h fun _ => Iff.rfl

/-! ### the operations, plainly -/
def inR (n : Int) : Bool := decide (0 ≤ n) && decide (n ≤ 65535)
theorem inR_iff (n : Int) : inR n = true ↔ (0 ≤ n ∧ n < 65536) := by unfold inR; simp; omega
def hasS (s : ByteArray) (n : Int) : Bool × Int := if chk s = 0 then (if inR n = true then (decide (n ∈ P s), 0) else (false, 7)) else (false, chk s)
def addS (s : ByteArray) (n : Int) : ByteArray × Int := if chk s = 0 then (if inR n = true then setSpec (ofP (ins n (P s))) else ((⟨#[]⟩ : ByteArray), 7)) else ((⟨#[]⟩ : ByteArray), chk s)
def dropS (s : ByteArray) (n : Int) : ByteArray × Int := if chk s = 0 then (if inR n = true then setSpec (ofP ((P s).erase n)) else ((⟨#[]⟩ : ByteArray), 7)) else ((⟨#[]⟩ : ByteArray), chk s)
def flipS (s : ByteArray) (n : Int) : ByteArray × Int := if (hasS s n).1 = true then dropS s n else addS s n
def fl (n : Int) (l : List Int) : List Int := if n ∈ l then l.erase n else ins n l
theorem fl_asc {l : List Int} (h : Asc l) (n : Int) : Asc (fl n l) := by
  unfold fl
  split
  · exact List.Pairwise.sublist List.erase_sublist h
  · exact ins_asc h n
theorem fl_InS {l : List Int} (h : InS l) {n : Int} (hn : 0 ≤ n ∧ n < 65536) : InS (fl n l) := by
  unfold fl
  split
  · exact InS_erase h n
  · exact ins_InS h hn
theorem mem_fl {l : List Int} (h : Asc l) (n x : Int) : x ∈ fl n l ↔ (if x = n then n ∉ l else x ∈ l) := by
  unfold fl
  by_cases c : n ∈ l
  · rw [if_pos c, h.nodup.mem_erase_iff]
    by_cases e : x = n
    · subst e; simp [c]
    · simp [e]
  · rw [if_neg c, mem_ins]
    by_cases e : x = n
    · subst e; simp [c]
    · simp [e]
theorem fl_fl {l : List Int} (h : Asc l) (n : Int) : fl n (fl n l) = l := by
  refine asc_eq _ _ (fl_asc (fl_asc h n) n) h fun x => ?_
  rw [mem_fl (fl_asc h n), mem_fl h n n, mem_fl h n x]
  by_cases e : x = n
  · subst e; simp
  · simp [e]
theorem fl_comm {l : List Int} (h : Asc l) (a b : Int) : fl a (fl b l) = fl b (fl a l) := by
  refine asc_eq _ _ (fl_asc (fl_asc h b) a) (fl_asc (fl_asc h a) b) fun x => ?_
  rw [mem_fl (fl_asc h b), mem_fl (fl_asc h a), mem_fl h b a, mem_fl h a b, mem_fl h b x, mem_fl h a x]
  by_cases e1 : x = a <;> by_cases e2 : x = b
  · subst e1; subst e2; rfl
  · subst e1; simp [e2]
  · subst e2; simp [e1]
  · simp [e1, e2]
theorem flipS_ok (s : ByteArray) (n : Int) (hc : chk s = 0) (hn : inR n = true) : flipS s n = setSpec (ofP (fl n (P s))) := by
  unfold flipS hasS addS dropS fl
  rw [if_pos hc, if_pos hn, if_pos hc, if_pos hn, if_pos hc, if_pos hn]
  by_cases c : n ∈ P s
  · rw [if_pos (decide_eq_true c), if_pos c]
  · rw [if_neg (by simpa using c), if_neg c]
theorem flipS_bad (s : ByteArray) (n : Int) (h : ¬ (chk s = 0 ∧ inR n = true)) : flipS s n = ((⟨#[]⟩ : ByteArray), if chk s = 0 then 7 else chk s) ∧ (if chk s = 0 then (7 : Int) else chk s) ≠ 0 := by
  unfold flipS hasS addS dropS
  by_cases c : chk s = 0
  · have hn : ¬ inR n = true := fun h' => h ⟨c, h'⟩
    refine ⟨?_, by rw [if_pos c]; decide⟩
    rw [if_pos c, if_neg hn, if_neg (by decide), if_pos c, if_neg hn, if_pos c]
  · rw [if_neg c, if_neg c, if_neg c, if_neg c]
    exact ⟨by simp, c⟩
theorem setSpec_ok {s x : ByteArray} (h : setSpec s = (x, 0)) : x = s ∧ s.size ≤ 20000 := by
  unfold setSpec at h
  by_cases c : (s.size : Int) > 20000
  · rw [if_pos c] at h; cases h
  · rw [if_neg c] at h
    exact ⟨(congrArg Prod.fst h).symm, by omega⟩
theorem setSpec_le {s : ByteArray} (h : s.size ≤ 20000) : setSpec s = (s, 0) := by unfold setSpec; rw [if_neg (by omega)]
theorem chk_size {s : ByteArray} (h : chk s = 0) : s.size ≤ 20000 := by
  unfold chk at h
  split at h
  · split at h
    · split at h
      · cases h
      · omega
    · cases h
  · cases h
theorem flipS_get {s x : ByteArray} {n : Int} (h : flipS s n = (x, 0)) : chk s = 0 ∧ inR n = true ∧ x = ofP (fl n (P s)) ∧ chk x = 0 ∧ P x = fl n (P s) := by
  by_cases c : chk s = 0 ∧ inR n = true
  · obtain ⟨hc, hn⟩ := c
    rw [flipS_ok s n hc hn] at h
    obtain ⟨e, hs⟩ := setSpec_ok h
    have hn' := (inR_iff n).1 hn
    have hI := fl_InS (P_InS s) hn'
    have hA := fl_asc (chk_asc hc) n
    rw [ofP_size] at hs
    exact ⟨hc, hn, e, by rw [e]; exact chk_ofP hI hA (by omega), by rw [e, P_ofP hI]⟩
  · have := flipS_bad s n c
    rw [this.1] at h
    exact absurd (congrArg Prod.snd h) this.2
/-- Flip twice is nothing; it changes whether the scope is there. -/
theorem flip_back {s x : ByteArray} {n : Int} (h : flipS s n = (x, 0)) : flipS x n = (s, 0) ∧ hasS s n = (decide (n ∈ P s), 0) ∧ hasS x n = (!decide (n ∈ P s), 0) ∧ chk x = 0 := by
  obtain ⟨hc, hn, e, hx, hP⟩ := flipS_get h
  refine ⟨?_, ?_, ?_, hx⟩
  · rw [flipS_ok x n hx hn, hP, fl_fl (chk_asc hc), ← ofP_P hc, setSpec_le (chk_size hc)]
  · unfold hasS; rw [if_pos hc, if_pos hn]
  · unfold hasS
    rw [if_pos hx, if_pos hn, hP]
    congr 1
    have := mem_fl (chk_asc hc) n n
    rw [if_pos rfl] at this
    have e2 : decide (n ∈ fl n (P s)) = decide (¬ n ∈ P s) := decide_eq_decide.2 this
    rw [e2]
    simp
theorem flip_swap {s x y u v : ByteArray} {a b : Int} (h1 : flipS s a = (x, 0)) (h2 : flipS s b = (y, 0)) (h3 : flipS x b = (u, 0)) (h4 : flipS y a = (v, 0)) : u = v := by
  obtain ⟨hc, _, _, _, hP⟩ := flipS_get h1
  obtain ⟨_, _, _, _, hQ⟩ := flipS_get h2
  obtain ⟨_, _, e3, _, _⟩ := flipS_get h3
  obtain ⟨_, _, e4, _, _⟩ := flipS_get h4
  rw [e3, e4, hP, hQ, fl_comm (chk_asc hc)]
theorem flip_else {s x u : ByteArray} {a b : Int} (hab : a ≠ b) (h1 : flipS s a = (x, 0)) (h2 : flipS x b = (u, 0)) : hasS s b = (decide (b ∈ P s), 0) ∧ hasS x b = (decide (b ∈ P s), 0) := by
  obtain ⟨hc, _, _, hx, hP⟩ := flipS_get h1
  obtain ⟨_, hb, _, _, _⟩ := flipS_get h2
  constructor
  · unfold hasS; rw [if_pos hc, if_pos hb]
  · unfold hasS
    rw [if_pos hx, if_pos hb, hP]
    congr 1
    have := mem_fl (chk_asc hc) a b
    rw [if_neg (Ne.symm hab)] at this
    exact decide_eq_decide.2 this

/-! ### unions, meets, differences of strings -/
def meetL (l m : List Int) : List Int := l.filter fun x => m.contains x
def minusL (l m : List Int) : List Int := l.filter fun x => !m.contains x
theorem mem_meetL (x : Int) (l m : List Int) : x ∈ meetL l m ↔ x ∈ l ∧ x ∈ m := by unfold meetL; rw [List.mem_filter]; simp
theorem mem_minusL (x : Int) (l m : List Int) : x ∈ minusL l m ↔ x ∈ l ∧ x ∉ m := by unfold minusL; rw [List.mem_filter]; simp
/-- A good string of some scopes. -/
structure Good (s : ByteArray) (l : List Int) : Prop where
  ok : chk s = 0
  pl : P s = l
  es : s = ofP l
  asc : Asc l
  ins : InS l
theorem good_of {s : ByteArray} (h : chk s = 0) : Good s (P s) := ⟨h, rfl, ofP_P h, chk_asc h, P_InS s⟩
theorem good_ofP {l : List Int} (h : InS l) (ha : Asc l) (hl : l.length ≤ 10000) : Good (ofP l) l := ⟨chk_ofP h ha hl, P_ofP h, rfl, ha, h⟩
theorem Good.eq {s t : ByteArray} {l m : List Int} (h : Good s l) (h' : Good t m) (e : ∀ x, x ∈ l ↔ x ∈ m) : s = t := by rw [h.es, h'.es, asc_eq l m h.asc h'.asc e]
theorem Good.eq_iff {s t : ByteArray} {l m : List Int} (h : Good s l) (h' : Good t m) : s = t ↔ ∀ x, x ∈ l ↔ x ∈ m := by
  constructor
  · intro e x
    have : P s = P t := by rw [e]
    rw [h.pl, h'.pl] at this
    rw [this]
  · exact h.eq h'
theorem Good.len {s : ByteArray} {l : List Int} (h : Good s l) : s.size = 2 * l.length := by rw [h.es, ofP_size]
def meetS (a b : ByteArray) : ByteArray × Int := if chk a = 0 then (if chk b = 0 then (ofP (meetL (P a) (P b)), 0) else ((⟨#[]⟩ : ByteArray), chk b)) else ((⟨#[]⟩ : ByteArray), chk a)
def minusS (a b : ByteArray) : ByteArray × Int := if chk a = 0 then (if chk b = 0 then (ofP (minusL (P a) (P b)), 0) else ((⟨#[]⟩ : ByteArray), chk b)) else ((⟨#[]⟩ : ByteArray), chk a)
def relS (a b : ByteArray) : Int × Int := if chk a = 0 then (if chk b = 0 then ((if minusL (P a) (P b) = [] then (if minusL (P b) (P a) = [] then 0 else 1) else (if minusL (P b) (P a) = [] then 2 else 3)), 0) else (0, chk b)) else (0, chk a)
theorem good_meet {a b : ByteArray} {l m : List Int} (ha : Good a l) (hb : Good b m) : meetS a b = (ofP (meetL l m), 0) ∧ Good (ofP (meetL l m)) (meetL l m) := by
  have hl := chk_size ha.ok
  rw [ha.len] at hl
  refine ⟨?_, good_ofP (fun x hx => ha.ins x ((mem_meetL x l m).1 hx).1) (asc_filter ha.asc _) (Nat.le_trans (List.length_filter_le _ _) (by omega))⟩
  unfold meetS
  rw [if_pos ha.ok, if_pos hb.ok, ha.pl, hb.pl]
theorem good_minus {a b : ByteArray} {l m : List Int} (ha : Good a l) (hb : Good b m) : minusS a b = (ofP (minusL l m), 0) ∧ Good (ofP (minusL l m)) (minusL l m) := by
  have hl := chk_size ha.ok
  rw [ha.len] at hl
  refine ⟨?_, good_ofP (fun x hx => ha.ins x ((mem_minusL x l m).1 hx).1) (asc_filter ha.asc _) (Nat.le_trans (List.length_filter_le _ _) (by omega))⟩
  unfold minusS
  rw [if_pos ha.ok, if_pos hb.ok, ha.pl, hb.pl]
theorem good_union {a b : ByteArray} {l m : List Int} (ha : Good a l) (hb : Good b m) (hs : l.length + m.length ≤ 10000) : unionSpec a b = (ofP (uni l m), 0) ∧ Good (ofP (uni l m)) (uni l m) := by
  have hu := uni_len m l
  refine ⟨?_, good_ofP (uni_InS m l ha.ins hb.ins) (uni_asc m l ha.asc) (by omega)⟩
  unfold unionSpec
  rw [if_pos ha.ok, if_pos hb.ok, ha.pl, hb.pl]
  exact setSpec_le (by rw [ofP_size]; omega)
theorem good_sub {a b : ByteArray} {l m : List Int} (ha : Good a l) (hb : Good b m) : subSpec a b = (decide (∀ x ∈ l, x ∈ m), 0) := by
  unfold subSpec
  rw [if_pos ha.ok, if_pos hb.ok]
  congr 1
  rw [Bool.eq_iff_iff, subset_iff, ha.pl, hb.pl]
  simp
theorem minusL_nil (l m : List Int) : minusL l m = [] ↔ ∀ x ∈ l, x ∈ m := by
  rw [List.eq_nil_iff_forall_not_mem]
  constructor
  · intro h x hx
    apply Classical.byContradiction
    intro hn
    exact h x ((mem_minusL x l m).2 ⟨hx, hn⟩)
  · intro h x hx
    obtain ⟨h1, h2⟩ := (mem_minusL x l m).1 hx
    exact h2 (h x h1)
/-! ### the laws, plainly -/
theorem lattice_union {a b : ByteArray} {l m : List Int} (ha : Good a l) (hb : Good b m) (hs : l.length + m.length ≤ 10000) : unionSpec a b = unionSpec b a := by
  obtain ⟨e1, g1⟩ := good_union ha hb hs
  obtain ⟨e2, g2⟩ := good_union hb ha (by omega)
  rw [e1, e2, g1.eq g2 fun x => by rw [mem_uni, mem_uni]; exact Or.comm]
theorem lattice_meet {a b : ByteArray} {l m : List Int} (ha : Good a l) (hb : Good b m) : meetS a b = meetS b a := by
  obtain ⟨e1, g1⟩ := good_meet ha hb
  obtain ⟨e2, g2⟩ := good_meet hb ha
  rw [e1, e2, g1.eq g2 fun x => by rw [mem_meetL, mem_meetL]; exact And.comm]
theorem lattice_meet3 {a b c : ByteArray} {l m n : List Int} (ha : Good a l) (hb : Good b m) (hc : Good c n) : (meetS (meetS a b).1 c) = meetS a (meetS b c).1 := by
  obtain ⟨e1, g1⟩ := good_meet ha hb
  obtain ⟨e2, g2⟩ := good_meet hb hc
  rw [e1, e2]
  obtain ⟨e3, g3⟩ := good_meet g1 hc
  obtain ⟨e4, g4⟩ := good_meet ha g2
  rw [e3, e4, g3.eq g4 fun x => by rw [mem_meetL, mem_meetL, mem_meetL, mem_meetL]; exact and_assoc]
theorem lattice_union3 {a b c : ByteArray} {l m n : List Int} (ha : Good a l) (hb : Good b m) (hc : Good c n) (hs : l.length + m.length + n.length ≤ 10000) : unionSpec (unionSpec a b).1 c = unionSpec a (unionSpec b c).1 := by
  obtain ⟨e1, g1⟩ := good_union ha hb (by omega)
  obtain ⟨e2, g2⟩ := good_union hb hc (by omega)
  rw [e1, e2]
  have h1 := uni_len m l; have h2 := uni_len n m
  obtain ⟨e3, g3⟩ := good_union g1 hc (by omega)
  obtain ⟨e4, g4⟩ := good_union ha g2 (by omega)
  rw [e3, e4, g3.eq g4 fun x => by rw [mem_uni, mem_uni, mem_uni, mem_uni]; exact or_assoc]
theorem lattice_spread {a b c : ByteArray} {l m n : List Int} (ha : Good a l) (hb : Good b m) (hc : Good c n) (hs : l.length + l.length + m.length + n.length ≤ 10000) : meetS a (unionSpec b c).1 = unionSpec (meetS a b).1 (meetS a c).1 := by
  obtain ⟨e1, g1⟩ := good_union hb hc (by omega)
  obtain ⟨e2, g2⟩ := good_meet ha hb
  obtain ⟨e3, g3⟩ := good_meet ha hc
  rw [e1, e2, e3]
  have h2 : (meetL l m).length ≤ l.length := List.length_filter_le _ _
  have h3 : (meetL l n).length ≤ l.length := List.length_filter_le _ _
  obtain ⟨e4, g4⟩ := good_meet ha g1
  obtain ⟨e5, g5⟩ := good_union g2 g3 (by omega)
  rw [e4, e5, g4.eq g5 fun x => by
    rw [mem_meetL, mem_uni, mem_uni, mem_meetL, mem_meetL]
    exact and_or_left]
theorem sub_union {a b : ByteArray} {l m : List Int} (ha : Good a l) (hb : Good b m) (hs : l.length + m.length ≤ 10000) : (subSpec a b).1 = true ↔ (unionSpec a b).1 = b := by
  obtain ⟨e1, g1⟩ := good_union ha hb hs
  rw [good_sub ha hb, e1, decide_eq_true_eq, g1.eq_iff hb]
  constructor
  · intro h x
    rw [mem_uni]
    exact ⟨fun h' => h'.elim (h x) id, Or.inr⟩
  · intro h x hx
    exact (h x).1 ((mem_uni x m l).2 (Or.inl hx))
theorem sub_meet {a b : ByteArray} {l m : List Int} (ha : Good a l) (hb : Good b m) : (subSpec a b).1 = true ↔ (meetS a b).1 = a := by
  obtain ⟨e1, g1⟩ := good_meet ha hb
  rw [good_sub ha hb, e1, decide_eq_true_eq, g1.eq_iff ha]
  constructor
  · intro h x
    rw [mem_meetL]
    exact ⟨And.left, fun hx => ⟨hx, h x hx⟩⟩
  · intro h x hx
    exact ((mem_meetL x l m).1 ((h x).2 hx)).2
theorem sub_minus {a b : ByteArray} {l m : List Int} (ha : Good a l) (hb : Good b m) : (subSpec a b).1 = true ↔ (minusS a b).1.toList = [] := by
  obtain ⟨e1, g1⟩ := good_minus ha hb
  rw [good_sub ha hb, e1, decide_eq_true_eq, ofP_nil_iff, minusL_nil]
theorem parts_join {a b : ByteArray} {l m : List Int} (ha : Good a l) (hb : Good b m) (hs : 2 * l.length ≤ 10000) : unionSpec (minusS a b).1 (meetS a b).1 = (a, 0) := by
  obtain ⟨e1, g1⟩ := good_minus ha hb
  obtain ⟨e2, g2⟩ := good_meet ha hb
  rw [e1, e2]
  have h1 : (minusL l m).length ≤ l.length := List.length_filter_le _ _
  have h2 : (meetL l m).length ≤ l.length := List.length_filter_le _ _
  obtain ⟨e3, g3⟩ := good_union g1 g2 (by omega)
  rw [e3, g3.eq ha fun x => by
    rw [mem_uni, mem_minusL, mem_meetL]
    constructor
    · rintro (h | h) <;> exact h.1
    · intro h
      by_cases c : x ∈ m
      · exact Or.inr ⟨h, c⟩
      · exact Or.inl ⟨h, c⟩]
theorem parts_apart {a b : ByteArray} {l m : List Int} (ha : Good a l) (hb : Good b m) : (meetS (minusS a b).1 b) = ((⟨#[]⟩ : ByteArray), 0) := by
  obtain ⟨e1, g1⟩ := good_minus ha hb
  rw [e1]
  obtain ⟨e2, g2⟩ := good_meet g1 hb
  have : meetL (minusL l m) m = [] := by
    rw [List.eq_nil_iff_forall_not_mem]
    intro x hx
    obtain ⟨h1, h2⟩ := (mem_meetL x _ _).1 hx
    exact ((mem_minusL x l m).1 h1).2 h2
  rw [e2, this]
  rfl
theorem sub_trans {a b c : ByteArray} {l m n : List Int} (ha : Good a l) (hb : Good b m) (hc : Good c n) (h1 : (subSpec a b).1 = true) (h2 : (subSpec b c).1 = true) : (subSpec a c).1 = true := by
  rw [good_sub ha hb, decide_eq_true_eq] at h1
  rw [good_sub hb hc, decide_eq_true_eq] at h2
  rw [good_sub ha hc, decide_eq_true_eq]
  exact fun x hx => h2 x (h1 x hx)
theorem rel_says {a b : ByteArray} {l m : List Int} (ha : Good a l) (hb : Good b m) : relS a b = ((if (subSpec a b).1 = true then (if (subSpec b a).1 = true then 0 else 1) else (if (subSpec b a).1 = true then 2 else 3)), 0) := by
  unfold relS
  rw [if_pos ha.ok, if_pos hb.ok, ha.pl, hb.pl, good_sub ha hb, good_sub hb ha]
  simp only [decide_eq_true_eq, minusL_nil]

/-! ### the library's answers are the reference's -/
def ofS (l : List Int) : ByteArray × Int := if (l.all fun x => decide (0 ≤ x ∧ x ≤ 65535)) = true then setSpec (ofP (once l)) else ((⟨#[]⟩ : ByteArray), 7)
theorem ofS_eq (l : List Int) : ofS l = ofSpec l := by
  unfold ofS ofSpec
  by_cases c : (l.all fun x => decide (0 ≤ x ∧ x ≤ 65535)) = true
  · rw [if_pos c, if_pos c, once_nums l fun x hx => by
      have := of_decide_eq_true (List.all_eq_true.1 c x hx); omega]
  · rw [if_neg c, if_neg c]
theorem ofS_asc {l : List Int} (hI : InS l) (h : Asc l) : ofS l = setSpec (ofP l) := by
  unfold ofS
  rw [if_pos (List.all_eq_true.2 fun x hx => decide_eq_true (by have := hI x hx; omega)), once_self h]
theorem dropS_eq (s : ByteArray) (n : Int) : dropS s n = if chk s = 0 then (if inR n = true then (ofP ((P s).erase n), 0) else ((⟨#[]⟩ : ByteArray), 7)) else ((⟨#[]⟩ : ByteArray), chk s) := by
  unfold dropS
  by_cases c : chk s = 0
  · rw [if_pos c, if_pos c]
    by_cases c2 : inR n = true
    · rw [if_pos c2, if_pos c2]
      refine setSpec_le ?_
      have h1 := chk_size c
      have h2 : ((P s).erase n).length ≤ (P s).length := List.length_erase_le
      rw [P_length] at h2
      rw [ofP_size]; omega
    · rw [if_neg c2, if_neg c2]
  · rw [if_neg c, if_neg c]
theorem minusS_ref (a b : ByteArray) (ha : chk a = 0) (hb : chk b = 0) : (ofP ((P b).foldl List.erase (P a)), (0 : Int)) = minusS a b := by
  unfold minusS minusL
  rw [if_pos ha, if_pos hb, minus_filter (chk_asc ha)]
theorem meetS_ref (a b : ByteArray) (ha : chk a = 0) (hb : chk b = 0) : (ofP (((P b).foldl List.erase (P a)).foldl List.erase (P a)), (0 : Int)) = meetS a b := by
  unfold meetS meetL
  rw [if_pos ha, if_pos hb, meet_filter (chk_asc ha)]
theorem unionS_lib (a b : ByteArray) (ha : chk a = 0) (hb : chk b = 0) : ofS ((P a).filter (fun x => !(P b).contains x) ++ ((P a).filter (fun x => (P b).contains x) ++ (P b).filter fun x => !(P a).contains x)) = unionSpec a b := by
  have e := union_once (l := P a) (m := P b) (chk_asc ha)
  unfold ofS unionSpec
  rw [if_pos ha, if_pos hb, e, if_pos]
  refine List.all_eq_true.2 fun x hx => decide_eq_true ?_
  have hI : InS (uni (P a) (P b)) := uni_InS _ _ (P_InS a) (P_InS b)
  have : x ∈ uni (P a) (P b) := by
    rw [← e, mem_once]; exact hx
  have := hI x this
  omega
def relRef (a b : ByteArray) : Int × Int := if (subSpec a b).2 = 0 then (if (subSpec b a).2 = 0 then ((if (subSpec a b).1 = true then (if (subSpec b a).1 = true then 0 else 1) else (if (subSpec b a).1 = true then 2 else 3)), 0) else (0, (subSpec b a).2)) else (0, (subSpec a b).2)
theorem relS_ref (a b : ByteArray) : relRef a b = relS a b := by
  by_cases c1 : chk a = 0
  · by_cases c2 : chk b = 0
    · have ga := good_of c1; have gb := good_of c2
      rw [rel_says ga gb]
      unfold relRef
      have e1 : (subSpec a b).2 = 0 := by rw [good_sub ga gb]
      have e2 : (subSpec b a).2 = 0 := by rw [good_sub gb ga]
      rw [if_pos e1, if_pos e2]
    · have e1 : subSpec a b = (false, chk b) := by unfold subSpec; rw [if_pos c1, if_neg c2]
      unfold relRef relS
      rw [e1, if_pos c1, if_neg c2]
      dsimp only
      rw [if_neg c2]
  · have e1 : subSpec a b = (false, chk a) := by unfold subSpec; rw [if_neg c1]
    unfold relRef relS
    rw [e1, if_neg c1]
    dsimp only
    rw [if_neg c1]

end Go.Proofs.YtkalbdeopogbpaaDoor.P
