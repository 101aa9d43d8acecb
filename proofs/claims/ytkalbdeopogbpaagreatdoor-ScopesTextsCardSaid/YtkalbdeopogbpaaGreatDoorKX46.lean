import Derived.Test.YtkalbdeopogbpaaGreatDoorKX38
import Derived.Test.YtkalbdeopogbpaaGreatDoorKX32
import Derived.Test.YtkalbdeopogbpaaGreatDoorKX35
import Derived.Test.YtkalbdeopogbpaaGreatDoorKX33
import Derived.Test.YtkalbdeopogbpaaGreatDoorKX34
import Derived.Test.YtkalbdeopogbpaaGreatDoorKX45
import Derived.Test.YtkalbdeopogbpaaGreatDoorKX39
import Derived.Lib.SplitLaws
import Derived.Lib.ParseIntBTie
namespace Go.Proofs.YtkalbdeopogbpaaGreatDoor.P.Wq
open Go.RowKit Go.Proofs.YtkalbdeopogbpaaGreatDoorW.PrintWords Go.Proofs.YtkalbdeopogbpaaGreatDoorW.PrintLast
set_option linter.unusedVariables false
set_option linter.unusedSimpArgs false
set_option maxRecDepth 20000
/-- A text cut at each byte c; acc: what stands of the first piece. -/
def spA (c : UInt8) : List UInt8 → List UInt8 → List (List UInt8)
  | acc, [] => [acc]
  | acc, b :: l => if b = c then acc :: spA c [] l else spA c (acc ++ [b]) l
def mkB (l : List UInt8) : ByteArray := ⟨l.toArray⟩
theorem mkB_data (l : List UInt8) : (mkB l).data.toList = l := rfl
theorem mkB_of (a : ByteArray) : mkB a.data.toList = a := Lib.mk_data a
theorem mkB_size (l : List UInt8) : (mkB l).size = l.length := Lib.size_mk l
theorem mkB_app (x y : List UInt8) : mkB x ++ mkB y = mkB (x ++ y) := mk_app x y
theorem mkB_ext (l : List UInt8) (p q : Nat) : (mkB l).extract p q = mkB ((l.drop p).take (q - p)) := Lib.extract_mk l p q
theorem ext_mkB (a : ByteArray) (p q : Nat) : a.extract p q = mkB ((a.data.toList.drop p).take (q - p)) := by
  have h := mkB_ext a.data.toList p q
  rwa [mkB_of] at h
theorem spA_head (c : UInt8) : ∀ (l acc : List UInt8), ∃ x xs, spA c [] l = x :: xs ∧ spA c acc l = (acc ++ x) :: xs := by
  intro l
  induction l with
  | nil => intro acc; exact ⟨[], [], rfl, by rw [spA, List.append_nil]⟩
  | cons b l ih =>
    intro acc
    by_cases h : b = c
    · refine ⟨[], spA c [] l, by rw [spA, if_pos h], by rw [spA, if_pos h, List.append_nil]⟩
    · obtain ⟨x, xs, h1, h2⟩ := ih (acc ++ [b])
      obtain ⟨x', xs', h1', h2'⟩ := ih ([] ++ [b])
      rw [h1] at h1'
      injection h1' with e1 e2
      subst e1; subst e2
      exact ⟨[] ++ [b] ++ x, xs, by rw [spA, if_neg h, h2'], by rw [spA, if_neg h, h2]; simp⟩
theorem spA_miss (c : UInt8) : ∀ (l acc : List UInt8), c ∉ l → spA c acc l = [acc ++ l] := by
  intro l
  induction l with
  | nil => intro acc _; rw [spA, List.append_nil]
  | cons b l ih =>
    intro acc h
    rw [List.mem_cons, not_or] at h
    rw [spA, if_neg (fun e => h.1 e.symm), ih _ h.2, List.append_assoc]; rfl
theorem spA_hit (c : UInt8) : ∀ (x acc y : List UInt8), c ∉ x → spA c acc (x ++ c :: y) = (acc ++ x) :: spA c [] y := by
  intro x
  induction x with
  | nil => intro acc y _; rw [List.nil_append, spA, if_pos rfl, List.append_nil]
  | cons b x ih =>
    intro acc y h
    rw [List.mem_cons, not_or] at h
    rw [List.cons_append, spA, if_neg (fun e => h.1 e.symm), ih _ _ h.2, List.append_assoc]; rfl
theorem spA_not (c : UInt8) : ∀ (l acc : List UInt8), c ∉ acc → ∀ x ∈ spA c acc l, c ∉ x := by
  intro l
  induction l with
  | nil => intro acc h x hx; rw [spA, List.mem_singleton] at hx; rw [hx]; exact h
  | cons b l ih =>
    intro acc h x hx
    rw [spA] at hx
    split at hx
    · rcases List.mem_cons.1 hx with e | e
      · rw [e]; exact h
      · exact ih [] (by simp) x e
    · rename_i hb
      exact ih (acc ++ [b]) (by simp [h]; exact fun e => hb e.symm) x hx
theorem spA_length (c : UInt8) : ∀ (l acc : List UInt8), (spA c acc l).length ≤ l.length + 1 ∧ 1 ≤ (spA c acc l).length := by
  intro l
  induction l with
  | nil => intro acc; simp [spA]
  | cons b l ih =>
    intro acc
    rw [spA]
    split
    · have := ih []; simp; omega
    · have := ih (acc ++ [b]); simp; omega
theorem spA_small (c : UInt8) : ∀ (l acc : List UInt8), ∀ x ∈ spA c acc l, x.length ≤ acc.length + l.length := by
  intro l
  induction l with
  | nil => intro acc x hx; rw [spA, List.mem_singleton] at hx; rw [hx]; simp
  | cons b l ih =>
    intro acc x hx
    rw [spA] at hx
    split at hx
    · rcases List.mem_cons.1 hx with e | e
      · rw [e]; omega
      · have := ih [] x e; simp at this ⊢; omega
    · have := ih (acc ++ [b]) x hx; simp at this ⊢; omega
theorem idx_cons (b c : UInt8) (l : List UInt8) : Lib.index (b :: l) [c] = if b = c then 0 else if Lib.index l [c] = -1 then -1 else Lib.index l [c] + 1 := by
  have hone : ∀ l : List UInt8, Lib.index l [c] = Lib.indexByte l c := by
    intro l
    induction l with
    | nil => rfl
    | cons b l ih =>
      unfold Lib.index Lib.indexByte
      rw [ih]
      have h : [c].isPrefixOf (b :: l) = (b == c) := by rw [List.isPrefixOf_cons_cons]; simp [BEq.comm]
      rw [h]
  rw [hone, hone, Lib.indexByte]
  by_cases h : b = c
  · subst h; simp
  · simp [h]
theorem splitK_spA (c : UInt8) : ∀ l : List UInt8, Lib.splitK [c] 0 (Lib.count l [c]) l = spA c [] l := by
  intro l
  induction l with
  | nil => rw [Lib.count_one]; rfl
  | cons b l ih =>
    have hi := idx_cons b c l
    by_cases h : b = c
    · subst h
      rw [if_pos rfl] at hi
      rw [Lib.count_cons_eq, Nat.add_comm 1, Lib.splitK, hi, if_neg (by decide), spA, if_pos rfl, ← ih]
      rfl
    · rw [if_neg h] at hi
      obtain ⟨x, xs, h1, h2⟩ := spA_head c l ([] ++ [b])
      rw [h1] at ih
      rw [Lib.count_cons_ne b c l h, spA, if_neg h, h2]
      cases hn : Lib.count l [c] with
      | zero =>
        rw [hn, Lib.splitK] at ih
        injection ih with e1 e2
        subst e1; subst e2
        rw [Lib.splitK]; rfl
      | succ m =>
        rw [hn, Lib.splitK] at ih
        rw [Lib.splitK, hi]
        by_cases hm : Lib.index l [c] = -1
        · rw [if_pos (beq_iff_eq.2 hm)] at ih
          injection ih with e1 e2
          subst e1; subst e2
          rw [if_pos hm, if_pos (by decide)]; rfl
        · rw [if_neg (by simpa using hm)] at ih
          injection ih with e1 e2
          have hge : 0 ≤ Lib.index l [c] := by
            have h0 : ∀ l : List UInt8, -1 ≤ Lib.index l [c] := by
              intro l
              induction l with
              | nil => show (-1 : Int) ≤ -1; omega
              | cons b l ih => rw [idx_cons]; split; decide; split; decide; omega
            have := h0 l; omega
          rw [if_neg hm, if_neg (by simp; omega), ← e1, ← e2, show (Lib.index l [c] + 1).toNat = (Lib.index l [c]).toNat + 1 by omega]
          rfl
theorem splitB_spA (c : UInt8) (a : ByteArray) : Lib.splitB (mkB [c]) 0 (Lib.countB a (mkB [c])) a = (spA c [] a.data.toList).map mkB := by
  have h := Lib.splitB_data (mkB [c]) 0 (Lib.countB a (mkB [c])) a
  rw [mkB_data, show Lib.countB a (mkB [c]) = Lib.count a.data.toList [c] from rfl, splitK_spA] at h
  rw [show Lib.countB a (mkB [c]) = Lib.count a.data.toList [c] from rfl, ← h, List.map_map]
  conv => lhs; rw [← List.map_id (Lib.splitB (mkB [c]) 0 (Lib.count a.data.toList [c]) a)]
  exact List.map_congr_left (fun x _ => (mkB_of x).symm)
theorem wSplit44 (a : ByteArray) (hs : a.size ≤ 1000000) : strings_Split.f a (⟨#[44]⟩ : ByteArray) = some ((spA 44 [] a.data.toList).map mkB) := by
  unfold strings_Split.f
  rw [if_pos ⟨by omega, by decide⟩, show (⟨#[44]⟩ : ByteArray) = mkB [44] from rfl, splitB_spA]
theorem rParts_l (a : ByteArray) (hs : a.size ≤ 1000000) (c : UInt8) : ∀ (g p q k : Nat) (acc : List ByteArray), q + g = a.size → p ≤ q → g + 1 ≤ k → acc.length ≤ q →
    mummerref01_parts.l0 k a (c.toNat : Int) acc (p : Int) (q : Int) = some (acc ++ (spA c ((a.data.toList.drop p).take (q - p)) (a.data.toList.drop q)).map mkB) := by
  intro g
  induction g with
  | zero =>
    intro p q k acc hq hp hk hacc
    obtain ⟨k, rfl⟩ : ∃ k', k = k' + 1 := ⟨k - 1, by omega⟩
    rw [mummerref01_parts.l0, if_neg (show ¬ (q : Int) < (a.size : Int) by omega), if_pos (show (0 : Int) ≤ (p : Int) by omega), if_pos (show (p : Int) ≤ (a.size : Int) by omega), if_pos (by omega), Int.toNat_natCast, ext_mkB]
    rw [show a.data.toList.drop q = [] from List.drop_eq_nil_of_le (by rw [← Lib.size_eq]; omega), spA, show a.size = q by omega]; rfl
  | succ g ih =>
    intro p q k acc hq hp hk hacc
    obtain ⟨k, rfl⟩ : ∃ k', k = k' + 1 := ⟨k - 1, by omega⟩
    have w1 : wrap64 ((q : Int) + 1) = ((q + 1 : Nat) : Int) := by rw [w64 (by omega) (by omega)]; omega
    have hb := bt_get a q (by omega)
    rw [mummerref01_parts.l0, if_pos (show (q : Int) < (a.size : Int) by omega), if_pos (show (0 : Int) ≤ (q : Int) by omega), w1, drop_cons a q (by omega), spA]
    by_cases h : a[q] = c
    · rw [if_pos (show bt a (q : Int) = (c.toNat : Int) by rw [← hb, h]), if_pos (show (0 : Int) ≤ (p : Int) by omega), if_pos (show (p : Int) ≤ (q : Int) by omega), if_pos (show (q : Int) ≤ (a.size : Int) by omega), if_pos (by omega), Int.toNat_natCast, Int.toNat_natCast]
      rw [ih (q + 1) (q + 1) k _ (by omega) (by omega) (by omega) (by simp; omega), if_pos h, ext_mkB, Nat.sub_self, List.take_zero, List.map_cons, List.append_assoc]
      rfl
    · rw [if_neg (show ¬ bt a (q : Int) = (c.toNat : Int) by rw [← hb]; intro e; exact h (UInt8.toNat_inj.1 (by exact_mod_cast e))), if_neg h, ih p (q + 1) k acc (by omega) (by omega) (by omega) (by omega)]
      have e : (a.data.toList.drop p).take (q + 1 - p) = (a.data.toList.drop p).take (q - p) ++ [a[q]] := by
        have hl : q - p < (a.data.toList.drop p).length := by rw [List.length_drop, ← Lib.size_eq]; omega
        rw [show q + 1 - p = (q - p) + 1 by omega, List.take_add_one, List.getElem?_eq_getElem hl]
        simp only [List.getElem_drop, Option.toList_some]
        congr 2
        have : p + (q - p) = q := by omega
        simp only [this]; rfl
      rw [e]
theorem rParts_f (a : ByteArray) (c : UInt8) (hs : a.size ≤ 1000000) (k : Nat) (hk : a.size + 1 ≤ k) : mummerref01_parts.f k a (c.toNat : Int) = some ((spA c [] a.data.toList).map mkB) := by
  unfold mummerref01_parts.f
  exact rParts_l a hs c a.size 0 0 k [] (by omega) (by omega) (by omega) (by simp)
theorem wCut45 (a : ByteArray) (hs : a.size ≤ 1000000) : ∃ x y b, strings_Cut.f a (⟨#[45]⟩ : ByteArray) = some (mkB x, mkB y, b) ∧ 45 ∉ x ∧ (b = false → a.data.toList = x ∧ y = []) ∧ (b = true → a.data.toList = x ++ 45 :: y) := by
  unfold strings_Cut.f
  rw [dif_pos (by decide), if_pos hs]
  have hc : (⟨#[45]⟩ : ByteArray)[0]'(by decide) = 45 := rfl
  simp only [hc]
  unfold Wd.ahead Wd.behind Wd.isThere
  by_cases h : 0 ≤ Lib.indexByte a.data.toList 45
  · obtain ⟨o, ho⟩ : ∃ o : Nat, Lib.indexByte a.data.toList 45 = (o : Int) := ⟨_, (Int.toNat_of_nonneg h).symm⟩
    obtain ⟨h1, h2⟩ := Lib.indexByte_some ho
    rw [if_pos h, if_pos h, decide_eq_true h, ho, Int.toNat_natCast, ext_mkB, ext_mkB]
    have ho2 := (List.getElem?_eq_some_iff.1 h1)
    obtain ⟨hol, hoe⟩ := ho2
    have hd : a.data.toList.drop o = 45 :: a.data.toList.drop (o + 1) := by rw [List.drop_eq_getElem_cons hol, hoe]
    refine ⟨_, _, _, rfl, ?_, (fun h => by cases h), fun _ => ?_⟩
    · rw [List.drop_zero, Nat.sub_zero]
      intro hm
      obtain ⟨j, hj, e⟩ := List.getElem_of_mem hm
      rw [List.length_take] at hj
      rw [List.getElem_take] at e
      exact h2 j (by omega) (by rw [List.getElem?_eq_getElem (by omega), e])
    · rw [List.drop_zero, Nat.sub_zero, List.take_of_length_le (l := a.data.toList.drop (o + 1)) (by rw [List.length_drop, ← Lib.size_eq]; omega), ← hd, List.take_append_drop]
  · have hn : Lib.indexByte a.data.toList 45 = -1 := by have := Lib.indexByte_ge a.data.toList 45; omega
    rw [if_neg h, if_neg h, decide_eq_false h]
    refine ⟨a.data.toList, [], false, by rw [mkB_of]; rfl, ?_, fun _ => ⟨rfl, rfl⟩, (fun h => by cases h)⟩
    intro hm
    obtain ⟨j, hj, e⟩ := List.getElem_of_mem hm
    exact Lib.indexByte_none hn j (by rw [List.getElem?_eq_getElem hj, e])
end Go.Proofs.YtkalbdeopogbpaaGreatDoor.P.Wq
