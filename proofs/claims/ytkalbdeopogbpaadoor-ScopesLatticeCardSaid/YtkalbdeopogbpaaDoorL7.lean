/- Plain lemmas over the printed functions, for law_lattice, law_meets. -/
import Derived.Test.YtkalbdeopogbpaaDoorPx1
import Derived.Test.YtkalbdeopogbpaaDoorPx23
import Derived.Test.YtkalbdeopogbpaaDoorL0
namespace Go.Proofs.YtkalbdeopogbpaaDoor.P
open Go.RowKit Go.Proofs.YtkalbdeopogbpaaDoorW.PrintWords Go.Proofs.YtkalbdeopogbpaaDoorW.PrintLast Sc
set_option linter.unusedVariables false
set_option linter.unusedSimpArgs false
set_option maxRecDepth 20000
theorem sWrite (l : List Int) (h : l.length ≤ 1000000) (hI : InS l) : scopes_write.f l = some (ofP l) := by unfold scopes_write.f; rw [if_pos ⟨h, hI⟩]
theorem minusL_len (l m : List Int) : (minusL l m).length ≤ l.length := List.length_filter_le _ _
theorem meetL_len (l m : List Int) : (meetL l m).length ≤ l.length := List.length_filter_le _ _
theorem meetL_InS {l : List Int} (h : InS l) (m : List Int) : InS (meetL l m) := fun x hx => h x ((mem_meetL x l m).1 hx).1
theorem sUnion (a b : ByteArray) (ha : a.size ≤ 300000) (hb : b.size ≤ 300000) (k : Nat) (hk : 5000000 < k) : scopes_Union.f k a b = some (unionSpec a b) := by
  unfold scopes_Union.f
  rw [merge_f a b (by omega) (by omega) k hk, Option.bind_some]
  unfold mergeS
  by_cases c1 : chk a = 0
  · by_cases c2 : chk b = 0
    · rw [if_pos c1, if_pos c2]
      dsimp only
      have e := unionS_lib a b c1 c2
      have h1 := minusL_len (P a) (P b)
      have h2 := meetL_len (P a) (P b)
      have h3 := minusL_len (P b) (P a)
      have h4 : (P a).length ≤ 150000 := by rw [P_length]; omega
      have h5 : (P b).length ≤ 150000 := by rw [P_length]; omega
      rw [if_pos rfl, if_pos (by omega), List.append_assoc]
      exact congrArg some e
    · rw [if_pos c1, if_neg c2]
      dsimp only
      rw [if_neg c2]
      unfold unionSpec
      rw [if_pos c1, if_neg c2]
  · rw [if_neg c1]
    dsimp only
    rw [if_neg c1]
    unfold unionSpec
    rw [if_neg c1]
theorem sMeet (a b : ByteArray) (ha : a.size ≤ 2000000) (hb : b.size ≤ 2000000) (k : Nat) (hk : 5000000 < k) : scopes_Meet.f k a b = some (meetS a b) := by
  unfold scopes_Meet.f
  rw [merge_f a b ha hb k hk, Option.bind_some]
  unfold mergeS meetS
  by_cases c1 : chk a = 0
  · by_cases c2 : chk b = 0
    · rw [if_pos c1, if_pos c2, if_pos c1, if_pos c2]
      dsimp only
      have h4 := P_len_le a ha
      have h2 := meetL_len (P a) (P b)
      rw [sWrite _ (by omega) (meetL_InS (P_InS a) _)]
      rfl
    · rw [if_pos c1, if_neg c2, if_pos c1, if_neg c2]
      rfl
  · rw [if_neg c1, if_neg c1]
    rfl
end Go.Proofs.YtkalbdeopogbpaaDoor.P
