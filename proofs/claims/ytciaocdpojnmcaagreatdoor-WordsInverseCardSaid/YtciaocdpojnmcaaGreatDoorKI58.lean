import Derived.Test.YtciaocdpojnmcaaGreatDoorKI38
import Derived.Test.YtciaocdpojnmcaaGreatDoorKI34
namespace Go.Proofs.YtciaocdpojnmcaaGreatDoor.P
open Go.RowKit Go.Proofs.YtciaocdpojnmcaaGreatDoorW.PrintWords Go.Proofs.YtciaocdpojnmcaaGreatDoorW.PrintLast
set_option linter.unusedVariables false
set_option linter.unusedSimpArgs false
set_option maxRecDepth 20000
theorem bt_byte (s : ByteArray) (j : Nat) (h : j < s.size) (c : UInt8) : s.data.toList[j]? = some c ↔ bt s j = (c.toNat : Int) := by
  have hl : j < s.data.toList.length := by rw [← Lib.size_eq]; exact h
  rw [List.getElem?_eq_getElem hl, ← bt_get s j h]
  have : s.data.toList[j] = s[j] := rfl
  rw [this]
  constructor
  · intro e; rw [Option.some.inj e]
  · intro e
    have : (s[j]).toNat = c.toNat := by exact_mod_cast e
    rw [UInt8.toNat_inj.1 this]
/-- How many bytes stand ahead of the first space. -/
def mlen (s : ByteArray) : Nat := if 0 ≤ Lib.indexByte s.data.toList 32 then (Lib.indexByte s.data.toList 32).toNat else s.size
theorem mlen_facts (s : ByteArray) : mlen s ≤ s.size ∧ (∀ j, j < mlen s → bt s j ≠ 32) ∧ (mlen s < s.size → bt s (mlen s) = 32) := by
  unfold mlen
  split
  · rename_i h
    have hl := Wd.ib_lt s 32 h
    obtain ⟨o, ho⟩ : ∃ o : Nat, Lib.indexByte s.data.toList 32 = (o : Int) := ⟨_, (Int.toNat_of_nonneg h).symm⟩
    obtain ⟨h1, h2⟩ := Lib.indexByte_some ho
    rw [ho] at hl ⊢
    simp only [Int.toNat_natCast]
    refine ⟨by omega, fun j hj e => h2 j hj ((bt_byte s j (by omega) 32).2 e), fun _ => (bt_byte s o (by omega) 32).1 h1⟩
  · rename_i h
    have hn : Lib.indexByte s.data.toList 32 = -1 := by have := Lib.indexByte_ge s.data.toList 32; omega
    exact ⟨Nat.le_refl _, fun j hj e => Lib.indexByte_none hn j ((bt_byte s j hj 32).2 e), fun h => absurd h (Nat.lt_irrefl _)⟩
theorem ext_all (s : ByteArray) : s.extract 0 s.size = s := by
  apply ByteArray.ext
  simp
theorem ahead_f (s : ByteArray) : Wd.ahead s 32 = s.extract 0 (mlen s) := by
  unfold Wd.ahead mlen
  split
  · rfl
  · rw [ext_all]
theorem ahead_size (s : ByteArray) : (Wd.ahead s 32).size = mlen s := by
  have := (mlen_facts s).1
  rw [ahead_f, ByteArray.size_extract]; omega
/-- Whether a text is bare, from p on. -/
def bareL (s : ByteArray) : Nat → Nat → Bool
  | 0, _ => decide (s.size ≠ 0)
  | g + 1, p => if isP (bt s p) = true then (if bt s p = 32 then false else bareL s g (p + 1)) else false
theorem wBare_l (s : ByteArray) (hs : s.size ≤ 1000000) : ∀ (g p k : Nat), p + g = s.size → g < k → words_isBare.l0 k s (s.size : Int) (p : Int) = some (bareL s g p) := by
  intro g
  induction g with
  | zero =>
    intro p k hp hk
    obtain ⟨k, rfl⟩ : ∃ k', k = k' + 1 := ⟨k - 1, by omega⟩
    rw [words_isBare.l0, if_neg (by omega), bareL]
    congr 1
    by_cases h : s.size = 0
    · rw [(toList_nil s).2 h]; simp [h]
    · have h2 : s.toList ≠ [] := fun e => h ((toList_nil s).1 e)
      simp [h, h2]
  | succ g ih =>
    intro p k hp hk
    obtain ⟨k, rfl⟩ : ∃ k', k = k' + 1 := ⟨k - 1, by omega⟩
    have w1 : wrap64 ((p : Int) + 1) = ((p + 1 : Nat) : Int) := by rw [w64 (by omega) (by omega)]; omega
    rw [words_isBare.l0, if_pos (by omega), if_pos (by omega), if_pos (by omega), isPlain_f, bareL]
    simp only [Option.bind_some]
    rw [w1, ih (p + 1) k (by omega) (by omega)]
    split
    · split <;> rfl
    · rfl
def bareS (s : ByteArray) : Bool := bareL s s.size 0
theorem isBare_f (s : ByteArray) (hs : s.size ≤ 1000000) (k : Nat) (hk : s.size < k) : words_isBare.f k s = some (bareS s) := wBare_l s hs s.size 0 k (by omega) hk
theorem bareS_pos {s : ByteArray} (h : bareS s = true) : 1 ≤ s.size := by
  unfold bareS at h
  cases hs : s.size with
  | zero => rw [hs] at h; simp [bareL, hs] at h
  | succ n => omega
theorem same_l (l : List S47) (hl : l.length ≤ 1000000) : ∀ (g p k : Nat), p + g = l.length → g < k → mummerref01_Same.l0 k l l (p : Int) = some true := by
  intro g
  induction g with
  | zero =>
    intro p k hp hk
    obtain ⟨k, rfl⟩ : ∃ k', k = k' + 1 := ⟨k - 1, by omega⟩
    rw [mummerref01_Same.l0, if_neg (by omega)]
  | succ g ih =>
    intro p k hp hk
    obtain ⟨k, rfl⟩ : ∃ k', k = k' + 1 := ⟨k - 1, by omega⟩
    have w1 : wrap64 ((p : Int) + 1) = ((p + 1 : Nat) : Int) := by rw [w64 (by omega) (by omega)]; omega
    rw [mummerref01_Same.l0, if_pos (by omega), if_pos (by omega), if_pos (by omega), if_neg (by simp), w1]
    exact ih (p + 1) k (by omega) (by omega)
theorem same_f (l : List S47) (hl : l.length ≤ 1000000) (k : Nat) (hk : l.length < k) : mummerref01_Same.f k l l = some true := by
  unfold mummerref01_Same.f
  rw [if_pos rfl]
  exact same_l l hl l.length 0 k (by omega) hk
end Go.Proofs.YtciaocdpojnmcaaGreatDoor.P
