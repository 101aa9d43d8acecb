import Derived.Test.YtciaocdpojnmcaaGreatDoorKI38
import Derived.Test.YtciaocdpojnmcaaGreatDoorKI34
import Derived.Test.YtciaocdpojnmcaaGreatDoorKI35
namespace Go.Proofs.YtciaocdpojnmcaaGreatDoor.P
open Go.RowKit Go.Proofs.YtciaocdpojnmcaaGreatDoorW.PrintWords Go.Proofs.YtciaocdpojnmcaaGreatDoorW.PrintLast
set_option linter.unusedVariables false
set_option linter.unusedSimpArgs false
set_option maxRecDepth 20000
theorem quote_all : (List.range 256).all (fun n => decide ((if isP n = true then [(n : Int)] else if Wd.letterP n = 0 then ([92, 120, bt (⟨#[48, 49, 50, 51, 52, 53, 54, 55, 56, 57, 97, 98, 99, 100, 101, 102]⟩ : ByteArray) ((n : Int) / 16), bt (⟨#[48, 49, 50, 51, 52, 53, 54, 55, 56, 57, 97, 98, 99, 100, 101, 102]⟩ : ByteArray) (Go.bits .and .u8 (n : Int) 15)] : List Int) else [92, Wd.letterP n]) = E n) && (decide (0 ≤ (n : Int) / 16) && decide ((n : Int) / 16 < 16) && decide (0 ≤ Go.bits .and .u8 (n : Int) 15) && decide (Go.bits .and .u8 (n : Int) 15 < 16))) = true := by decide +kernel
theorem quote_E (c : Int) (h0 : 0 ≤ c) (h1 : c ≤ 255) : (if isP c = true then [c] else if Wd.letterP c = 0 then ([92, 120, bt (⟨#[48, 49, 50, 51, 52, 53, 54, 55, 56, 57, 97, 98, 99, 100, 101, 102]⟩ : ByteArray) (c / 16), bt (⟨#[48, 49, 50, 51, 52, 53, 54, 55, 56, 57, 97, 98, 99, 100, 101, 102]⟩ : ByteArray) (Go.bits .and .u8 c 15)] : List Int) else [92, Wd.letterP c]) = E c ∧ 0 ≤ c / 16 ∧ c / 16 < 16 ∧ 0 ≤ Go.bits .and .u8 c 15 ∧ Go.bits .and .u8 c 15 < 16 := by
  have := all256 quote_all c h0 (by omega)
  rw [show ((c.toNat : Nat) : Int) = c from Int.toNat_of_nonneg h0] at this
  simpa [and_assoc] using this
/-- The forms of the bytes from p on. -/
def qq (a : ByteArray) : Nat → Nat → List Int
  | 0, _ => []
  | g + 1, p => E (bt a p) ++ qq a g (p + 1)
theorem wQuote_l (a : ByteArray) (hs : a.size ≤ 1000000) : ∀ (g p k : Nat) (acc : List Int), p + g = a.size → g < k → acc.length ≤ 4 * p + 1 → words_Quote.l0 k a acc (a.size : Int) (p : Int) = some (strOfNums (acc ++ qq a g p ++ [34])) := by
  intro g
  induction g with
  | zero =>
    intro p k acc hp hk hacc
    obtain ⟨k, rfl⟩ : ∃ k', k = k' + 1 := ⟨k - 1, by omega⟩
    rw [words_Quote.l0, if_neg (by omega), if_pos (by omega), qq, List.append_nil]
  | succ g ih =>
    intro p k acc hp hk hacc
    obtain ⟨k, rfl⟩ : ∃ k', k = k' + 1 := ⟨k - 1, by omega⟩
    have hr := bt_range a p
    obtain ⟨hE, q1, q2, q3, q4⟩ := quote_E (bt a p) hr.1 hr.2
    have hl := (E_in (bt a p) hr.1 (by omega)).2
    have w1 : wrap64 ((p : Int) + 1) = ((p + 1 : Nat) : Int) := by rw [w64 (by omega) (by omega)]; omega
    have hrec := ih (p + 1) k (acc ++ E (bt a p)) (by omega) (by omega) (by rw [List.length_append]; omega)
    rw [words_Quote.l0, if_pos (by omega), if_pos (by omega), if_pos (by omega)]
    unfold words_letterOf.f
    rw [isPlain_f]
    simp only [Option.bind_some]
    rw [w1]
    have fin : words_Quote.l0 k a (acc ++ E (bt a p)) (a.size : Int) ((p + 1 : Nat) : Int) = some (strOfNums (acc ++ qq a (g + 1) p ++ [34])) := by
      rw [hrec, qq, List.append_assoc acc]
    by_cases h1 : isP (bt a p) = true
    · rw [if_pos h1] at hE
      rw [if_pos h1, if_pos (by omega), hE]; exact fin
    · rw [if_neg h1] at hE
      rw [if_neg h1]
      by_cases h2 : Wd.letterP (bt a p) = 0
      · rw [if_pos h2] at hE
        rw [if_pos h2, if_pos q1, if_pos q2, if_pos q3, if_pos q4, if_pos (by simp; omega), hE]; exact fin
      · rw [if_neg h2] at hE
        rw [if_neg h2, if_pos (by simp; omega), hE]; exact fin
def quoteS (a : ByteArray) : ByteArray := strOfNums ([34] ++ qq a a.size 0 ++ [34])
theorem wQuote_f (a : ByteArray) (hs : a.size ≤ 1000000) (k : Nat) (hk : a.size < k) : words_Quote.f k a = some (quoteS a) := by
  unfold words_Quote.f quoteS
  rw [w64 (by omega) (by omega), if_pos (by omega), if_pos (by omega)]
  simp only [Option.bind_some]
  rw [if_pos (by decide)]
  exact wQuote_l a hs a.size 0 k ([] ++ [34]) (by omega) hk (by simp)
def unquoteS (a : ByteArray) : ByteArray × Int := if (unq a).2 = (a.size : Int) ∧ a.size ≠ 0 then ((unq a).1, 0) else (⟨#[]⟩, 6)
theorem wUnquote_f (a : ByteArray) (hs : a.size ≤ 1000000) (k : Nat) (hk : a.size + 2 ≤ k) : words_Unquote.f k a = some (unquoteS a) := by
  unfold words_Unquote.f unquoteS
  rw [unquote_f a hs k hk]
  simp only [Option.bind_some]
  have hl := unq_le a
  by_cases h0 : (unq a).2 = 0
  · rw [if_pos h0, if_neg (by omega)]
  · rw [if_neg h0]
    by_cases h1 : (unq a).2 < (a.size : Int)
    · rw [if_pos h1, if_neg (by omega)]
    · rw [if_neg h1, if_pos (by omega)]
end Go.Proofs.YtciaocdpojnmcaaGreatDoor.P
