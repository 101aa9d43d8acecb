import Derived.Test.YtciaocdpojnmcaaDoorKL42
import Derived.Test.YtciaocdpojnmcaaDoorKL33
namespace Go.Proofs.YtciaocdpojnmcaaDoor.P
open Go.RowKit Go.Proofs.YtciaocdpojnmcaaDoorW.PrintWords Go.Proofs.YtciaocdpojnmcaaDoorW.PrintLast
set_option linter.unusedVariables false
set_option linter.unusedSimpArgs false
set_option maxRecDepth 20000
theorem index_one (c : UInt8) : ∀ l : List UInt8, Lib.index l [c] = Lib.indexByte l c
  | [] => rfl
  | b :: l => by
    unfold Lib.index Lib.indexByte
    rw [index_one c l]
    have h : [c].isPrefixOf (b :: l) = (b == c) := by
      rw [List.isPrefixOf_cons_cons]; simp [BEq.comm]
    rw [h]
def nlB : ByteArray := ⟨#[10]⟩
/-- Behind the last line. -/
def finL (x : List ByteArray) : List ByteArray × Int := if 5000 < x.length then ([], 3) else (x, 0)
theorem lines_scan (a : ByteArray) (hs : a.size ≤ 2000000) (acc : List ByteArray) (p q k : Nat) (hq : q < a.size) : ∀ (e i : Nat), p ≤ i → i + e = q → (∀ j, i ≤ j → j < q → bt a (j : Int) ≠ 10) → mummerref01_Lines.l0 (k + e) a acc (p : Int) (i : Int) = mummerref01_Lines.l0 k a acc (p : Int) (q : Int) := by
  intro e
  induction e with
  | zero => intro i hp he hn; rw [show i = q by omega]; rfl
  | succ e ih =>
    intro i hp he hn
    have w1 : wrap64 ((i : Int) + 1) = ((i + 1 : Nat) : Int) := by rw [w64 (by omega) (by omega)]; omega
    rw [show k + (e + 1) = (k + e) + 1 by omega, mummerref01_Lines.l0, if_pos (show (i : Int) < (a.size : Int) by omega), if_pos (show (0 : Int) ≤ (i : Int) by omega), if_neg (hn i (Nat.le_refl _) (by omega)), w1]
    exact ih (i + 1) (by omega) (by omega) (fun j h1 h2 => hn j (by omega) h2)
theorem lines_hit (a : ByteArray) (hs : a.size ≤ 2000000) (acc : List ByteArray) (p q k : Nat) (hq : q < a.size) (hpq : p ≤ q) (h10 : bt a (q : Int) = 10) (hacc : acc.length ≤ 2000000) : mummerref01_Lines.l0 (k + 1) a acc (p : Int) (q : Int) = mummerref01_Lines.l0 k a (acc ++ [a.extract p q]) ((q + 1 : Nat) : Int) ((q + 1 : Nat) : Int) := by
  have w1 : wrap64 ((q : Int) + 1) = ((q + 1 : Nat) : Int) := by rw [w64 (by omega) (by omega)]; omega
  rw [mummerref01_Lines.l0, if_pos (show (q : Int) < (a.size : Int) by omega), if_pos (show (0 : Int) ≤ (q : Int) by omega), if_pos h10, if_pos (show (0 : Int) ≤ (p : Int) by omega), if_pos (show (p : Int) ≤ (q : Int) by omega), if_pos (show (q : Int) ≤ (a.size : Int) by omega), if_pos (show acc.length < 8796093022208 by omega), w1, Int.toNat_natCast, Int.toNat_natCast]
theorem lines_l (a : ByteArray) (hs : a.size ≤ 2000000) (N : Nat) (hN : a.size = N + 1) (h10 : bt a (N : Int) = 10) : ∀ (d p k : Nat) (acc : List ByteArray), p + d = N → a.size - p + 1 ≤ k → acc.length ≤ p →
    mummerref01_Lines.l0 k a acc (p : Int) (p : Int) = some (finL (acc ++ Lib.splitB nlB 0 (Lib.countB (a.extract p N) nlB) (a.extract p N))) := by
  intro d
  induction d using Nat.strongRecOn with
  | _ d ih =>
    intro p k acc hd hk hacc
    have hsz : (a.extract p N).size = N - p := by rw [ByteArray.size_extract]; omega
    have hbt : ∀ j, j < N - p → bt (a.extract p N) (j : Int) = bt a ((p + j : Nat) : Int) := fun j hj => bt_ext a p N j (by omega) (by omega)
    have hix : Lib.indexB (a.extract p N) nlB = Lib.indexByte (a.extract p N).data.toList 10 := index_one 10 _
    by_cases hm : Lib.indexByte (a.extract p N).data.toList 10 = -1
    · have hno : ∀ j, p ≤ j → j < N → bt a (j : Int) ≠ 10 := by
        intro j h1 h2 e
        refine Lib.indexByte_none hm (j - p) ((bt_byte _ (j - p) (by omega) 10).2 ?_)
        rw [hbt (j - p) (by omega), show p + (j - p) = j by omega]
        exact e
      rw [Lib.splitB_miss _ _ _ _ (hix.trans hm)]
      obtain ⟨k', rfl⟩ : ∃ k', k = (k' + 2) + (N - p) := ⟨k - 2 - (N - p), by omega⟩
      rw [lines_scan a hs acc p N (k' + 2) (by omega) (N - p) p (Nat.le_refl _) (by omega) hno, lines_hit a hs acc p N (k' + 1) (by omega) (by omega) h10 (by omega)]
      rw [mummerref01_Lines.l0, if_neg (show ¬ (((N + 1 : Nat) : Int) < (a.size : Int)) by omega)]
      unfold finL
      by_cases h5 : 5000 < (acc ++ [a.extract p N]).length
      · rw [if_pos (show (((acc ++ [a.extract p N]).length : Nat) : Int) > 5000 by omega), if_pos h5]
      · rw [if_neg (show ¬ (((acc ++ [a.extract p N]).length : Nat) : Int) > 5000 by omega), if_neg h5]
    · have hge := Lib.indexByte_ge (a.extract p N).data.toList 10
      obtain ⟨o, ho⟩ : ∃ o : Nat, Lib.indexByte (a.extract p N).data.toList 10 = (o : Int) := ⟨(Lib.indexByte (a.extract p N).data.toList 10).toNat, by omega⟩
      obtain ⟨g1, g2⟩ := Lib.indexByte_some ho
      have hol : o < N - p := by
        have := (List.getElem?_eq_some_iff.1 g1).1
        rw [← Lib.size_eq] at this; omega
      have hq10 : bt a ((p + o : Nat) : Int) = 10 := by rw [← hbt o hol]; exact (bt_byte _ o (by omega) 10).1 g1
      have hno : ∀ j, p ≤ j → j < p + o → bt a (j : Int) ≠ 10 := by
        intro j h1 h2 e
        refine g2 (j - p) (by omega) ((bt_byte _ (j - p) (by omega) 10).2 ?_)
        rw [hbt (j - p) (by omega), show p + (j - p) = j by omega]
        exact e
      have hnx : (a.extract p N).extract (o + nlB.size) (a.extract p N).size = a.extract (p + o + 1) N := by
        rw [ByteArray.extract_extract, hsz, show nlB.size = 1 from rfl]; congr 1; omega
      have hpc : (a.extract p N).extract 0 (o + 0) = a.extract p (p + o) := by
        rw [ByteArray.extract_extract]; congr 1; omega
      have hcb := Lib.countB_hit (a.extract p N) nlB o (by decide) (hix.trans ho)
      rw [hnx] at hcb
      rw [hcb, Nat.add_comm 1, Lib.splitB_hit _ _ _ _ o (hix.trans ho), hnx, hpc]
      obtain ⟨k', rfl⟩ : ∃ k', k = (k' + 1) + o := ⟨k - 1 - o, by omega⟩
      rw [lines_scan a hs acc p (p + o) (k' + 1) (by omega) o p (Nat.le_refl _) rfl hno, lines_hit a hs acc p (p + o) k' (by omega) (by omega) hq10 (by omega)]
      rw [ih (d - o - 1) (by omega) (p + o + 1) k' (acc ++ [a.extract p (p + o)]) (by omega) (by omega) (by simp; omega), List.append_assoc]
      rfl
theorem suffix_f (a : ByteArray) (N : Nat) (hN : a.size = N + 1) : Lib.hasSuffix a.data.toList (⟨#[10]⟩ : ByteArray).data.toList = decide (bt a (N : Int) = 10) := by
  have hl : a.data.toList.length = N + 1 := by rw [← Lib.size_eq]; exact hN
  unfold Lib.hasSuffix
  have hiff : [(10 : UInt8)].isSuffixOf a.data.toList = true ↔ bt a (N : Int) = 10 := by
    rw [List.isSuffixOf_iff_suffix]
    have hb := bt_byte a N (by omega) 10
    rw [show (((10 : UInt8).toNat : Nat) : Int) = 10 from rfl] at hb
    rw [← hb]
    constructor
    · rintro ⟨t, ht⟩
      have hlt : t.length = N := by have := congrArg List.length ht; simp at this; omega
      rw [← ht, List.getElem?_append_right (by omega), hlt, Nat.sub_self]; rfl
    · intro h
      refine ⟨a.data.toList.take N, ?_⟩
      have h1 := List.take_append_drop N a.data.toList
      have h2 : a.data.toList.drop N = [10] := by
        rw [List.drop_eq_getElem_cons (by omega), List.drop_eq_nil_of_le (by omega)]
        rw [List.getElem?_eq_getElem (by omega)] at h
        rw [Option.some.inj h]
      rw [h2] at h1
      exact h1
  show [(10 : UInt8)].isSuffixOf a.data.toList = _
  by_cases h : bt a (N : Int) = 10
  · rw [decide_eq_true h]; exact hiff.2 h
  · rw [decide_eq_false h]
    cases hq : [(10 : UInt8)].isSuffixOf a.data.toList with
    | false => rfl
    | true => exact absurd (hiff.1 hq) h
theorem finL_len (x : List ByteArray) : (finL x).1.length ≤ 5000 := by
  unfold finL
  split
  · simp
  · rename_i h; exact Nat.not_lt.1 h
theorem lines_same (a : ByteArray) (hs : a.size ≤ 2000000) (k : Nat) (hk : a.size + 2 ≤ k) : ∃ r, words_Lines.f a = some r ∧ mummerref01_Lines.f k a = some r ∧ r.1.length ≤ 5000 := by
  unfold words_Lines.f mummerref01_Lines.f
  by_cases h1 : 1048576 < a.size
  · rw [if_pos (show (a.size : Int) > 1048576 by omega), if_pos (show (a.size : Int) > 1048576 by omega)]; exact ⟨_, rfl, rfl, by simp⟩
  · rw [if_neg (show ¬ (a.size : Int) > 1048576 by omega), if_neg (show ¬ (a.size : Int) > 1048576 by omega)]
    by_cases h0 : a.size = 0
    · rw [if_pos ((toList_nil a).2 h0), if_pos ((toList_nil a).2 h0)]; exact ⟨_, rfl, rfl, by simp⟩
    · rw [if_neg (fun h => h0 ((toList_nil a).1 h)), if_neg (fun h => h0 ((toList_nil a).1 h))]
      obtain ⟨N, hN⟩ : ∃ N, a.size = N + 1 := ⟨a.size - 1, by omega⟩
      have w1 : wrap64 ((a.size : Int) - 1) = (N : Int) := by rw [w64 (by omega) (by omega)]; omega
      rw [w1, if_pos (show (0 : Int) ≤ (N : Int) by omega), if_pos (show (0 : Int) ≤ (N : Int) by omega), if_pos (show (N : Int) < (a.size : Int) by omega), if_pos (show (N : Int) ≤ (a.size : Int) by omega)]
      unfold strings_HasSuffix.f
      rw [if_pos (show a.size ≤ 9223372036854775807 by omega), suffix_f a N hN]
      simp only [Option.bind_some]
      by_cases h10 : bt a (N : Int) = 10
      · rw [decide_eq_true h10, if_pos rfl, if_pos h10, Int.toNat_natCast]
        unfold strings_Split.f
        have hsz : (a.extract 0 N).size = N := by rw [ByteArray.size_extract]; omega
        rw [if_pos ⟨by omega, by decide⟩]
        simp only [Option.bind_some]
        have hl := lines_l a hs N hN h10 N 0 k [] (by omega) (by omega) (by simp)
        simp only [Int.natCast_zero, List.nil_append] at hl
        rw [hl]
        refine ⟨_, ?_, rfl, finL_len _⟩
        unfold finL
        show (if ((Lib.splitB nlB 0 (Lib.countB (a.extract 0 N) nlB) (a.extract 0 N)).length : Int) > 5000 then some ([], 3) else some (Lib.splitB nlB 0 (Lib.countB (a.extract 0 N) nlB) (a.extract 0 N), 0)) = _
        by_cases h5 : 5000 < (Lib.splitB nlB 0 (Lib.countB (a.extract 0 N) nlB) (a.extract 0 N)).length
        · rw [if_pos (by omega), if_pos h5]
        · rw [if_neg (by omega), if_neg h5]
      · rw [decide_eq_false h10, if_neg Bool.false_ne_true, if_neg h10]; exact ⟨_, rfl, rfl, by simp⟩
theorem same_lines (x : List ByteArray) (hx : x.length ≤ 5000) : ∀ (g p k : Nat), p + g = x.length → g < k → mummerlaw01_lines.l0 k x x (p : Int) = some true := by
  intro g
  induction g with
  | zero =>
    intro p k hp hk
    obtain ⟨k, rfl⟩ : ∃ k', k = k' + 1 := ⟨k - 1, by omega⟩
    rw [mummerlaw01_lines.l0, if_neg (show ¬ (p : Int) < (x.length : Int) by omega)]
  | succ g ih =>
    intro p k hp hk
    obtain ⟨k, rfl⟩ : ∃ k', k = k' + 1 := ⟨k - 1, by omega⟩
    have w1 : wrap64 ((p : Int) + 1) = ((p + 1 : Nat) : Int) := by rw [w64 (by omega) (by omega)]; omega
    rw [mummerlaw01_lines.l0, if_pos (show (p : Int) < (x.length : Int) by omega), if_pos (show (0 : Int) ≤ (p : Int) by omega), if_pos (show (p : Int) < (x.length : Int) by omega), if_pos rfl, w1]
    exact ih (p + 1) k (by omega) (by omega)
theorem lines_f (a : ByteArray) (hs : a.size ≤ 2000000) (k : Nat) (hk : 2006000 ≤ k) : mummerlaw01_lines.f k a = some true := by
  obtain ⟨r, h1, h2, h3⟩ := lines_same a hs k (by omega)
  obtain ⟨k, rfl⟩ : ∃ k', k = k' + 1 := ⟨k - 1, by omega⟩
  unfold mummerlaw01_lines.f
  rw [h1, h2]
  simp only [Option.bind_some]
  rw [if_pos trivial, show (r.2 != r.2) = false by simp, mummerlaw01_lines.j0, if_neg Bool.false_ne_true]
  exact same_lines r.1 h3 r.1.length 0 k (by omega) (by omega)
theorem law_lines_l (a0 a1 : ByteArray) (a2 : Bool) (h0 : a0.size ≤ 12000) (h1 : a1.size ≤ 100) (k : Nat) (hk : 3000000 ≤ k) : ∀ (d i : Nat) (x : List Int), i + d = x.length → x.length ≤ 1048556 → mummerlaw01_WordsLines.l0 (k + 1 + d) a0 a1 a2 x (i : Int) = some true := by
  intro d
  induction d with
  | zero =>
    intro i x hi hx
    rw [Nat.add_zero, mummerlaw01_WordsLines.l0, if_neg (show ¬ (i : Int) < (x.length : Int) by omega), lines_f a0 (by omega) k (by omega)]
    simp only [Option.bind_some]
    have hz : (strOfNums x ++ a1).size ≤ 2000000 := by rw [ByteArray.size_append, str_size]; omega
    rw [if_pos trivial, if_pos (show (strOfNums x).size + a1.size ≤ 9223372036854775807 by rw [str_size]; omega), lines_f _ hz k (by omega)]
    simp only [Option.bind_some]
    rw [if_pos trivial, shown_f k (by omega)]; rfl
  | succ d ih =>
    intro i x hi hx
    have w1 : wrap64 ((i : Int) + 1) = ((i + 1 : Nat) : Int) := by rw [w64 (by omega) (by omega)]; omega
    rw [show k + 1 + (d + 1) = (k + 1 + d) + 1 by omega, mummerlaw01_WordsLines.l0, if_pos (show (i : Int) < (x.length : Int) by omega), if_pos (show (0 : Int) ≤ (i : Int) by omega), w1]
    simp only [Option.bind_some]
    split
    · split
      · exact ih (i + 1) _ (by rw [List.length_set]; omega) (by rw [List.length_set]; exact hx)
      · exact ih (i + 1) _ (by rw [List.length_set, List.length_set]; omega) (by rw [List.length_set, List.length_set]; exact hx)
    · exact ih (i + 1) _ (by rw [List.length_set]; omega) (by rw [List.length_set]; exact hx)
theorem law_lines_j (a0 a1 : ByteArray) (a2 : Bool) (h0 : a0.size ≤ 12000) (h1 : a1.size ≤ 100) (k : Nat) (hk : 4100000 ≤ k) (n : Nat) (hn : n ≤ 1048556) : mummerlaw01_WordsLines.j1 k a0 a1 a2 (List.replicate n 0) = some true := by
  obtain ⟨k, rfl⟩ : ∃ k', k = (k' + 1 + n) + 1 := ⟨k - 2 - n, by omega⟩
  rw [mummerlaw01_WordsLines.j1]
  exact law_lines_l a0 a1 a2 h0 h1 k (by omega) n 0 (List.replicate n 0) (by rw [List.length_replicate]; omega) (by rw [List.length_replicate]; exact hn)
theorem law_lines (a0 a1 : ByteArray) (a2 : Bool) : ∃ k, mummerlaw01_WordsLines.f k a0 a1 a2 = some true := by
  obtain ⟨K, hK⟩ : ∃ K, K = 5000000 := ⟨_, rfl⟩
  refine ⟨K + 1, ?_⟩
  have easy : mummerlaw01_WordsLines.j0 (K + 1) a0 a1 a2 true = some true := by
    rw [mummerlaw01_WordsLines.j0, if_pos rfl, shown_f K (by omega)]; rfl
  unfold mummerlaw01_WordsLines.f
  by_cases h0 : 12000 < a0.size
  · rw [if_pos (show (a0.size : Int) > 12000 by omega)]; exact easy
  · rw [if_neg (show ¬ (a0.size : Int) > 12000 by omega)]
    by_cases h1 : 100 < a1.size
    · rw [decide_eq_true (show (a1.size : Int) > 100 by omega)]; exact easy
    · rw [decide_eq_false (show ¬ (a1.size : Int) > 100 by omega), mummerlaw01_WordsLines.j0, if_neg Bool.false_ne_true, if_pos (by omega)]
      split
      · rw [if_pos (by omega)]
        exact law_lines_j a0 a1 a2 (by omega) (by omega) K (by omega) 1048556 (Nat.le_refl _)
      · exact law_lines_j a0 a1 a2 (by omega) (by omega) K (by omega) 5000 (by omega)
end Go.Proofs.YtciaocdpojnmcaaDoor.P
