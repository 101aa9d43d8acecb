import Derived.Test.YtdjkdlbokepoaaaGreatDoorKW41
import Derived.Test.YtdjkdlbokepoaaaGreatDoorKW36
import Derived.Test.YtdjkdlbokepoaaaGreatDoorKW37
import Derived.Test.YtdjkdlbokepoaaaGreatDoorKW38
namespace Go.Proofs.YtdjkdlbokepoaaaGreatDoor.P
open Go.RowKit Go.Proofs.YtdjkdlbokepoaaaGreatDoorW.PrintWords Go.Proofs.YtdjkdlbokepoaaaGreatDoorW.PrintLast Go.Proofs.YtdjkdlbokepoaaaGreatDoorW.PrintMore Sc
set_option linter.unusedVariables false
set_option linter.unusedSimpArgs false
set_option maxRecDepth 20000
theorem sizeMk (l : List UInt8) : (⟨l.toArray⟩ : ByteArray).size = l.length := by simp [ByteArray.size]
theorem dec_step (m : Nat) (h : ¬ m < 10) : Lib.decDigits m = Lib.decDigits (m / 10) ++ [UInt8.ofNat (48 + m % 10)] := by rw [Lib.decDigits, dif_neg h]
theorem nd_step (m : Nat) (h : ¬ m < 10) : Lib.nDigits m = Lib.nDigits (m / 10) + 1 := by rw [Lib.nDigits, dif_neg h]
theorem mk_app (x y : List UInt8) : (⟨x.toArray⟩ : ByteArray) ++ (⟨y.toArray⟩ : ByteArray) = ⟨(x ++ y).toArray⟩ := by
  apply ByteArray.ext
  simp
theorem nd_le (m : Nat) : Lib.nDigits m ≤ m + 1 := by
  induction m using Nat.strongRecOn with
  | _ m ih =>
    by_cases h : m < 10
    · rw [Lib.nDigits, dif_pos h]; omega
    · rw [nd_step m h]; have := ih (m / 10) (by omega); omega
theorem rDig_pos : ∀ (m : Nat), m ≤ 9223372036854775807 → ∀ (k : Nat), 3 * Lib.nDigits m ≤ k → mummerref01_Digits.f k (m : Int) = some ⟨(Lib.decDigits m).toArray⟩ := by
  intro m
  induction m using Nat.strongRecOn with
  | _ m ih =>
    intro hm k hk
    by_cases h : m < 10
    · rw [Lib.nDigits, dif_pos h] at hk
      obtain ⟨k, rfl⟩ : ∃ k', k = k' + 2 := ⟨k - 2, by omega⟩
      rw [mummerref01_Digits.f, if_neg (by omega), mummerref01_Digits.j0, decide_eq_false (by omega), if_neg (by decide), if_neg (by omega), w64 (by omega) (by omega), show (48 + (m : Int)) % 256 = 48 + m by omega, Lib.decDigits, dif_pos h]
      unfold strOfNums
      simp only [List.map_cons, List.map_nil]
      rw [show (48 + (m : Int)).toNat = 48 + m by omega]
    · rw [nd_step m h] at hk
      obtain ⟨k, rfl⟩ : ∃ k', k = k' + 3 := ⟨k - 3, by omega⟩
      have hlen : (Lib.decDigits (m / 10)).length ≤ m / 10 + 1 := by rw [Lib.decDigits_length]; exact nd_le _
      have ht : Int.tmod (m : Int) 10 = ((m % 10 : Nat) : Int) := by rw [Int.tmod_eq_emod_of_nonneg (by omega)]; omega
      have hq : wrap64 (Int.tdiv (m : Int) 10) = ((m / 10 : Nat) : Int) := by rw [Int.tdiv_eq_ediv_of_nonneg (by omega), w64 (by omega) (by omega)]; omega
      rw [mummerref01_Digits.f, if_pos (by omega), mummerref01_Digits.j0, if_pos rfl, ht, if_neg (by omega), mummerref01_Digits.j1, hq, ih (m / 10) (by omega) (by omega) k (by omega)]
      simp only [Option.bind_some]
      rw [strOfNums_size, sizeMk, w64 (by omega) (by omega), show (48 + ((m % 10 : Nat) : Int)) % 256 = ((48 + m % 10 : Nat) : Int) by omega, if_pos (by simp; omega), dec_step m h]
      unfold strOfNums
      simp only [List.map_cons, List.map_nil, Int.toNat_natCast]
      rw [mk_app]
/-- No byte 10. -/
def NoNl (s : ByteArray) : Prop := ∀ x ∈ s.data.toList, x ≠ 10
instance (s : ByteArray) : Decidable (NoNl s) := by unfold NoNl; infer_instance
theorem appData (a b : ByteArray) : (a ++ b).data.toList = a.data.toList ++ b.data.toList := by rw [ByteArray.data_append, Array.toList_append]
theorem NoNl.app {a b : ByteArray} (h : NoNl a) (h' : NoNl b) : NoNl (a ++ b) := by
  intro x hx
  rw [appData, List.mem_append] at hx
  rcases hx with hx | hx
  · exact h x hx
  · exact h' x hx
theorem dd_ge : ∀ (n : Nat), ∀ b ∈ Lib.decDigits n, 48 ≤ b.toNat := by
  intro n
  induction n using Nat.strongRecOn with
  | _ n ih =>
    intro b hb
    by_cases h : n < 10
    · rw [Lib.decDigits, dif_pos h] at hb
      simp at hb
      subst hb
      simp
      omega
    · rw [dec_step n h, List.mem_append] at hb
      rcases hb with hb | hb
      · exact ih (n / 10) (by omega) b hb
      · simp at hb
        subst hb
        simp
        omega
theorem dd_nonl (n : Nat) : NoNl ⟨(Lib.decDigits n).toArray⟩ := by
  intro x hx
  have := dd_ge n x (by simpa using hx)
  intro h
  subst h
  exact absurd this (by decide)
theorem nd_small (n : Nat) (h : n < 100000) : Lib.nDigits n ≤ 6 := by
  have s : ∀ m, Lib.nDigits m = if m < 10 then 1 else Lib.nDigits (m / 10) + 1 := fun m => by
    by_cases c : m < 10
    · rw [if_pos c, Lib.nDigits, dif_pos c]
    · rw [if_neg c, nd_step m c]
  by_cases c1 : n < 10
  · rw [s, if_pos c1]; omega
  · rw [s, if_neg c1]
    by_cases c2 : n / 10 < 10
    · rw [s, if_pos c2]; omega
    · rw [s, if_neg c2]
      by_cases c3 : n / 10 / 10 < 10
      · rw [s, if_pos c3]; omega
      · rw [s, if_neg c3]
        by_cases c4 : n / 10 / 10 / 10 < 10
        · rw [s, if_pos c4]; omega
        · rw [s, if_neg c4, s, if_pos (by omega)]; omega
/-- Both write a number from 0 on in the same way. -/
theorem dig_same (n : Int) (h0 : 0 ≤ n) (h1 : n < 100000) (k : Nat) (hk : 100 ≤ k) : ∃ s, strconv_Itoa_54.f n = some s ∧ mummerref01_Digits.f k n = some s ∧ s.size ≤ 6 ∧ NoNl s := by
  refine ⟨⟨(Lib.decDigits n.toNat).toArray⟩, ?_, ?_, ?_, dd_nonl _⟩
  · unfold strconv_Itoa_54.f Lib.itoa
    rw [if_pos ⟨h0, by omega⟩, if_neg (by omega)]
  · have := rDig_pos n.toNat (by omega) k (by have := nd_small n.toNat (by omega); omega)
    rwa [show ((n.toNat : Nat) : Int) = n by omega] at this
  · rw [sizeMk, Lib.decDigits_length]
    exact nd_small _ (by omega)
theorem word_same (c : Int) (k : Nat) (hk : 200 ≤ k) : ∃ s e, faults_Word.f c = some (s, e) ∧ mummerref08_Word.f k c = some (s, e) ∧ s.size ≤ 100 ∧ NoNl s := by
  obtain ⟨k, rfl⟩ : ∃ K, k = K + 1 := ⟨k - 1, by omega⟩
  by_cases c1 : c < 1
  · refine ⟨⟨#[]⟩, 2, ?_, ?_, ?_, ?_⟩
    · unfold faults_Word.f; rw [if_pos (.inl c1)]
    · unfold mummerref08_Word.f; rw [if_pos c1, mummerref08_Word.j0, if_pos rfl]
    · decide
    · decide
  · by_cases c2 : 999 < c
    · refine ⟨⟨#[]⟩, 2, ?_, ?_, ?_, ?_⟩
      · unfold faults_Word.f; rw [if_pos (.inr c2)]
      · unfold mummerref08_Word.f; rw [if_neg c1, decide_eq_true (by omega), mummerref08_Word.j0, if_pos rfl]
      · decide
      · decide
    · by_cases c3 : c < 22
      · rcases (show c = 1 ∨ c = 2 ∨ c = 3 ∨ c = 4 ∨ c = 5 ∨ c = 6 ∨ c = 7 ∨ c = 8 ∨ c = 9 ∨ c = 10 ∨ c = 11 ∨ c = 12 ∨ c = 13 ∨ c = 14 ∨ c = 15 ∨ c = 16 ∨ c = 17 ∨ c = 18 ∨ c = 19 ∨ c = 20 ∨ c = 21 by omega) with rfl | rfl | rfl | rfl | rfl | rfl | rfl | rfl | rfl | rfl | rfl | rfl | rfl | rfl | rfl | rfl | rfl | rfl | rfl | rfl | rfl
        all_goals exact ⟨_, _, rfl, rfl, by decide, by decide⟩
      · obtain ⟨s, e1, e2, e3, e4⟩ := dig_same c (by omega) (by omega) k (by omega)
        refine ⟨errPre ++ s, 0, ?_, ?_, ?_, ?_⟩
        · unfold faults_Word.f
          rw [if_neg (by omega), if_neg c3, e1, Option.bind_some, if_pos (by omega)]
        · unfold mummerref08_Word.f
          rw [if_neg c1, decide_eq_false (by omega), mummerref08_Word.j0, if_neg (by decide), Option.bind_some, if_neg (by simp; omega), e2, Option.bind_some, if_pos (by omega)]
          rfl
        · rw [ByteArray.size_append, show errPre.size = 6 from rfl]; omega
        · exact NoNl.app (by decide) e4
theorem pass_same (c : Int) : ∃ s e, faults_Pass.f c = some (s, e) ∧ mummerref08_Pass.f c = some (s, e) ∧ s.size ≤ 100 ∧ NoNl s := by
  by_cases c1 : c < 1
  · refine ⟨⟨#[]⟩, 2, ?_, ?_, ?_, ?_⟩
    · unfold faults_Pass.f; rw [if_pos (.inl c1)]
    · unfold mummerref08_Pass.f; rw [if_pos c1]
    · decide
    · decide
  · by_cases c2 : 8 < c
    · refine ⟨⟨#[]⟩, 2, ?_, ?_, ?_, ?_⟩
      · unfold faults_Pass.f; rw [if_pos (.inr (by omega))]
      · unfold mummerref08_Pass.f; rw [if_neg c1, if_pos (by omega)]
      · decide
      · decide
    · rcases (show c = 1 ∨ c = 2 ∨ c = 3 ∨ c = 4 ∨ c = 5 ∨ c = 6 ∨ c = 7 ∨ c = 8 by omega) with rfl | rfl | rfl | rfl | rfl | rfl | rfl | rfl
      all_goals exact ⟨_, _, rfl, rfl, by decide, by decide⟩
end Go.Proofs.YtdjkdlbokepoaaaGreatDoor.P
