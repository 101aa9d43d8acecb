import Derived.Test.YtpjcahjpjeiicaaProg
import Derived.DeepKeys4
import Derived.Maps.OwnSet
import Derived.Maps.Views
import Derived.WalkKit
namespace Go.Proofs.Ytpjcahjpjeiicaa.P.Sc
open Go Go.Maps

theorem laid : laidOutB Try.prog = true := by kernel_rfl
theorem law60 : Keyed Try.prog 60 := Keyed.of_law (deep_law_laid laid (m := 2) (by omega) (of_decide_eq_true (by kernel_rfl)) (by kernel_rfl) (by kernel_rfl))
/-- How a key of two strings reads. -/
def kl (a b : ByteArray) : Lit := .string (keyBytes [.string a.data.toList, .string b.data.toList])
theorem keyOf60 {a b : ByteArray} (ha : a.size ≤ maxLen) (hb : b.size ≤ maxLen) : keyOf Try.prog 60 (.agg #[.string a, .string b]) = some (kl a b) := by
  have h1 : Try.prog.keyType 60 = true := by kernel_rfl
  have h2 : Try.prog.cellsOf 60 = 2 := by kernel_rfl
  have h3 : Try.prog.cellsOf 9 = 1 := by kernel_rfl
  obtain ⟨d, hd⟩ : ∃ d, Try.prog.types.size + 1 = d + 2 := ⟨Try.prog.types.size - 1, by have : Try.prog.types.size ≥ 1 := of_decide_eq_true (by kernel_rfl); omega⟩
  unfold keyOf
  rw [Try.underlying60]
  show (if (Try.prog.keyType 60 && Value.formed Try.prog 60 (.agg #[.string a, .string b])) = true then _ else none) = _
  rw [h1]
  have h4 : Value.formed Try.prog 60 (.agg #[.string a, .string b]) = true := by simp [Value.formed, Try.underlying60, h2]
  rw [h4, if_pos (by rfl), hd]
  simp [Program.keyLits, Try.underlying60, Try.underlying9, h2, h3, ha, hb, Value.cells, kl]
theorem kl_inj {a b a' b' : ByteArray} (ha : a.size ≤ maxLen) (hb : b.size ≤ maxLen) (ha' : a'.size ≤ maxLen) (hb' : b'.size ≤ maxLen) (h : kl a b = kl a' b') : a = a' ∧ b = b' := by
  have := law60.inj (keyOf60 ha hb) (by rw [h]; exact keyOf60 ha' hb')
  simp only [Value.agg.injEq, Array.mk.injEq, List.cons.injEq, Value.string.injEq, and_true] at this
  exact this

theorem toList_inj_ {a b : ByteArray} (h : a.toList = b.toList) : a = b := by
  rw [ByteArray.toList_eq, ByteArray.toList_eq] at h
  exact Go.WideShapes.bytes_inj h
/-- The keys that have come, as the map's datum. -/
def met : List (ByteArray × ByteArray) → DataW Unit
  | [] => .map []
  | x :: r => (met r).put (kl x.1 x.2) (.lit (.bool true))
def small (l : List (ByteArray × ByteArray)) : Prop := ∀ x ∈ l, x.1.size ≤ maxLen ∧ x.2.size ≤ maxLen
theorem met_map : ∀ l, IsMap (met l)
  | [] => isMap_empty
  | _ :: r => (met_map r).put _ _
def hasKey (l : List (ByteArray × ByteArray)) (a b : ByteArray) : Bool := l.any fun x => decide (x.1.toList = a.toList) && decide (x.2.toList = b.toList)
theorem met_at (l : List (ByteArray × ByteArray)) (h : small l) (a b : ByteArray) (ha : a.size ≤ maxLen) (hb : b.size ≤ maxLen) : (met l).atKey (kl a b) (.lit (.bool false)) = .lit (.bool (hasKey l a b)) := by
  induction l with
  | nil => rfl
  | cons x r ih =>
    have hx := h x (by simp)
    have hr : small r := fun y hy => h y (by simp [hy])
    by_cases e : x.1.toList = a.toList ∧ x.2.toList = b.toList
    · have e1 : x.1 = a := toList_inj_ e.1
      have e2 : x.2 = b := toList_inj_ e.2
      rw [met, ← e1, ← e2, atKey_put_same (met_map r) (law60.key (keyOf60 hx.1 hx.2))]
      simp [hasKey]
    · have hne : kl a b ≠ kl x.1 x.2 := fun e' => e (by obtain ⟨e1, e2⟩ := kl_inj ha hb hx.1 hx.2 e'; rw [e1, e2]; exact ⟨rfl, rfl⟩)
      rw [met, atKey_put_other hne, ih hr]
      have : (decide (x.1.toList = a.toList) && decide (x.2.toList = b.toList)) = false := by
        rw [Bool.and_eq_false_iff, decide_eq_false_iff_not, decide_eq_false_iff_not]
        by_cases h1 : x.1.toList = a.toList
        · exact .inr fun h2 => e ⟨h1, h2⟩
        · exact .inl h1
      simp [hasKey, this]
end Go.Proofs.Ytpjcahjpjeiicaa.P.Sc
