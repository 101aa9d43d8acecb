import Derived.Test.YtkalbdeopogbpaaGreatDoorKX1
import Derived.Test.YtkalbdeopogbpaaGreatDoorKX28
import Derived.Lib.AsciiSet
namespace Go.Proofs.YtkalbdeopogbpaaGreatDoor.P.Wd
open Go.RowKit Go.Shelf Go.Proofs.YtkalbdeopogbpaaGreatDoorW.PrintWords Go.Proofs.YtkalbdeopogbpaaGreatDoorW.PrintLast Go.Proofs.YtkalbdeopogbpaaGreatDoorW.PrintMore
set_option linter.unusedVariables false
set_option linter.unusedSimpArgs false
/-- A block holds the set of the bytes cs. -/
def HasSet (w : World) (B : Nat) (cs : List UInt8) : Prop := ∀ x : UInt8, w.cell? ⟨B, x.toNat, none⟩ = some (.bool (cs.contains x))
def trimL (cs l : List UInt8) : List UInt8 := l.dropWhile (fun x => cs.contains x)
def trimR (cs l : List UInt8) : List UInt8 := (l.reverse.dropWhile (fun x => cs.contains x)).reverse
theorem trimL_drop (cs l : List UInt8) (k : Nat) (hk : k ≤ l.length) (ha : ∀ (j : Nat) b, j < k → l[j]? = some b → cs.contains b = true) (hb : ∀ b, l[k]? = some b → cs.contains b = false) : trimL cs l = l.drop k := by
  induction l generalizing k with
  | nil => simp [trimL]
  | cons x l ih =>
    cases k with
    | zero =>
      have := hb x (by simp)
      unfold trimL
      rw [List.dropWhile_cons, if_neg (by rw [this]; decide)]
      rfl
    | succ k =>
      have h1 := ha 0 x (by omega) (by simp)
      unfold trimL
      rw [List.dropWhile_cons, if_pos h1]
      exact ih k (by simpa using hk) (fun j b hj hb' => ha (j + 1) b (by omega) (by simpa using hb')) (fun b hb' => hb b (by simpa using hb'))
theorem trimR_take (cs l : List UInt8) (k : Nat) (hk : k ≤ l.length) (ha : ∀ (j : Nat) b, k ≤ j → l[j]? = some b → cs.contains b = true) (hb : ∀ b, 0 < k → l[k - 1]? = some b → cs.contains b = false) : trimR cs l = l.take k := by
  have h := trimL_drop cs l.reverse (l.length - k) (by simp) (fun j b hj hb' => by
    rw [List.getElem?_reverse (by omega)] at hb'
    exact ha _ b (by omega) hb') (fun b hb' => by
    by_cases h0 : k = 0
    · rw [List.getElem?_eq_none (by simp; omega)] at hb'; cases hb'
    · rw [List.getElem?_reverse (by omega)] at hb'
      exact hb b (by omega) (by rw [← hb']; congr 1; omega))
  unfold trimL at h
  unfold trimR
  rw [h, List.drop_reverse, List.reverse_reverse]
  congr 1; omega
set_option maxHeartbeats 1000000 in
set_option maxRecDepth 100000 in
theorem trimLeft_calls (s : ByteArray) (B : Nat) (cs : List UInt8) (w : World) (hS : HasSet w B cs) :
    Calls Tryz.prog 98 #[.string s, .pointer (some ⟨B, 0, none⟩)] w fun e w' => e = .returned (.string ⟨(trimL cs s.data.toList).toArray⟩) ∧ w' = w := by
  have HS := Aside0.mk hS
  clear hS
  go_enter Tryz.func98, Tryz.ntmps98
  go_wp2
  go_loop [0] (fun v => ∃ k : Nat, k ≤ s.size ∧ v = .string ⟨(s.data.toList.drop k).toArray⟩ ∧ ∀ (j : Nat) b, j < k → s.data.toList[j]? = some b → cs.contains b = true) (fun v => Lib.strSize v)
  case atStart => exact ⟨0, Nat.zero_le _, by simp, fun j b hj => absurd hj (Nat.not_lt_zero _)⟩
  case round =>
    obtain ⟨k, hk, rfl, hc⟩ := hrel
    have hts : (⟨(s.data.toList.drop k).toArray⟩ : ByteArray).size = s.size - k := by rw [Lib.size_mk, List.length_drop, ← Lib.size_eq]
    have hb0 : ∀ h, s.data.toList[k]? = some ((⟨(s.data.toList.drop k).toArray⟩ : ByteArray)[0]'h) := by
      intro h
      rw [← Lib.getElem_mk (s.data.toList.drop k) 0 h, List.getElem?_drop]
      rfl
    have hx1 : (⟨(s.data.toList.drop k).toArray⟩ : ByteArray).extract 1 (s.size - k) = ⟨(s.data.toList.drop (k + 1)).toArray⟩ := by
      rw [Lib.extract_mk, List.drop_drop, List.take_of_length_le (by simp; omega)]
    have hK : Lib.Kept (∀ (j : Nat) b, j < k → s.data.toList[j]? = some b → cs.contains b = true) := hc
    clear hc
    generalize ht : (⟨(s.data.toList.drop k).toArray⟩ : ByteArray) = t at hts hb0 hx1 ⊢
    have hK3 : Lib.Kept ((⟨(s.data.toList.drop k).toArray⟩ : ByteArray) = t) := ht
    clear ht
    have hkl : Lib.Kept (k ≤ s.data.toList.length) := by rw [← Lib.size_eq]; exact hk
    by_cases h0 : 0 < t.size
    · have hbk := hb0 h0
      clear hb0
      have hK2 : Lib.Kept (s.data.toList[k]? = some (t[0]'h0)) := hbk
      clear hbk
      by_cases heq : cs.contains (t[0]'h0) = true
      · have HC := Aside0.mk (Tryz.asciiSet_contains B (t[0]'h0) true w (by rw [HS.out, heq]))
        go_wp2_with (go_at_call 131; refine HC.out.mono ?_; rintro e w2 ⟨rfl, rfl⟩)
        go_wp2
        refine ⟨⟨k + 1, by omega, rfl, fun j b hj hb => ?_⟩, ?_⟩
        · by_cases e : j = k
          · subst e
            have h2 : s.data.toList[j]? = some (t[0]'h0) := hK2
            rw [h2] at hb
            rw [← Option.some.inj hb, heq]
          · exact hK j b (by omega) (by simpa using hb)
        · rw [Lib.strSize_string, Lib.strSize_string, Lib.size_mk, List.length_drop, ← Lib.size_eq]
          omega
      · have heq' : cs.contains (t[0]'h0) = false := by simpa using heq
        have HC := Aside0.mk (Tryz.asciiSet_contains B (t[0]'h0) false w (by rw [HS.out, heq']))
        go_wp2_with (go_at_call 131; refine HC.out.mono ?_; rintro e w2 ⟨rfl, rfl⟩)
        go_wp2
        go_ret
        refine ⟨?_, rfl⟩
        have ht' : (⟨(s.data.toList.drop k).toArray⟩ : ByteArray) = t := hK3
        show Ending.returned (Value.string t) = _
        rw [trimL_drop cs s.data.toList k hkl hK (fun b hb => by
          have h2 : s.data.toList[k]? = some (t[0]'h0) := hK2
          rw [h2] at hb
          rw [← Option.some.inj hb]
          exact heq'), ht']
    · clear hb0
      go_wp2
      go_ret
      refine ⟨?_, rfl⟩
      have ht' : (⟨(s.data.toList.drop k).toArray⟩ : ByteArray) = t := hK3
      show Ending.returned (Value.string t) = _
      rw [trimL_drop cs s.data.toList k hkl hK (fun b hb => by
        have : s.data.toList.length ≤ k := by rw [← Lib.size_eq]; omega
        simp [List.getElem?_eq_none this] at hb), ht']
set_option maxHeartbeats 1000000 in
set_option maxRecDepth 100000 in
theorem trimRight_calls (s : ByteArray) (hs : s.size ≤ 9223372036854775807) (B : Nat) (cs : List UInt8) (w : World) (hS : HasSet w B cs) :
    Calls Tryz.prog 99 #[.string s, .pointer (some ⟨B, 0, none⟩)] w fun e w' => e = .returned (.string ⟨(trimR cs s.data.toList).toArray⟩) ∧ w' = w := by
  have HS := Aside0.mk hS
  clear hS
  go_enter Tryz.func99, Tryz.ntmps99
  go_wp2
  go_loop [0] (fun v => ∃ k : Nat, k ≤ s.size ∧ v = .string ⟨(s.data.toList.take k).toArray⟩ ∧ ∀ (j : Nat) b, k ≤ j → s.data.toList[j]? = some b → cs.contains b = true) (fun v => Lib.strSize v)
  case atStart =>
    refine ⟨s.size, Nat.le_refl _, ?_, fun j b hj hb => ?_⟩
    · rw [Lib.size_eq, List.take_length, Lib.mk_data]
    · have : s.data.toList.length ≤ j := by rw [← Lib.size_eq]; exact hj
      simp [List.getElem?_eq_none this] at hb
  case round =>
    obtain ⟨k, hk, rfl, hc⟩ := hrel
    have hkl : k ≤ s.data.toList.length := by rw [← Lib.size_eq]; exact hk
    have hts : (⟨(s.data.toList.take k).toArray⟩ : ByteArray).size = k := by rw [Lib.size_mk, List.length_take]; omega
    have hb0 : ∀ h, s.data.toList[k - 1]? = some ((⟨(s.data.toList.take k).toArray⟩ : ByteArray)[k - 1]'h) := by
      intro h
      rw [← Lib.getElem_mk (s.data.toList.take k) (k - 1) h, List.getElem?_take]
      rw [hts] at h
      rw [if_pos h]
    have hx1 : (⟨(s.data.toList.take k).toArray⟩ : ByteArray).extract 0 (k - 1) = ⟨(s.data.toList.take (k - 1)).toArray⟩ := by
      rw [Lib.extract_mk, List.drop_zero, List.take_take]
      congr 3
      omega
    have hK : Lib.Kept (∀ (j : Nat) b, k ≤ j → s.data.toList[j]? = some b → cs.contains b = true) := hc
    clear hc
    have hkl' : Lib.Kept (k ≤ s.data.toList.length) := hkl
    clear hkl
    generalize ht : (⟨(s.data.toList.take k).toArray⟩ : ByteArray) = t at hts hb0 hx1 ⊢
    have hK3 : Lib.Kept ((⟨(s.data.toList.take k).toArray⟩ : ByteArray) = t) := ht
    clear ht
    by_cases h0 : 0 < k
    · have h1 : k - 1 < t.size := by omega
      have hwr : ((k : Int) - 1 + 9223372036854775808) % 18446744073709551616 - 9223372036854775808 = ((k - 1 : Nat) : Int) := by omega
      have hbk := hb0 h1
      clear hb0
      have hK2 : Lib.Kept (s.data.toList[k - 1]? = some (t[k - 1]'h1)) := hbk
      clear hbk
      by_cases heq : cs.contains (t[k - 1]'h1) = true
      · have HC := Aside0.mk (Tryz.asciiSet_contains B (t[k - 1]'h1) true w (by rw [HS.out, heq]))
        go_wp2_with (go_at_call 131; refine HC.out.mono ?_; rintro e w2 ⟨rfl, rfl⟩)
        go_wp2
        refine ⟨⟨k - 1, by omega, rfl, fun j b hj hb => ?_⟩, ?_⟩
        · by_cases e : j = k - 1
          · subst e
            have h2 : s.data.toList[k - 1]? = some (t[k - 1]'h1) := hK2
            rw [h2] at hb
            rw [← Option.some.inj hb, heq]
          · exact hK j b (by omega) (by simpa using hb)
        · have hkl : k ≤ s.data.toList.length := hkl'
          rw [Lib.strSize_string, Lib.strSize_string, Lib.size_mk, List.length_take]
          omega
      · have heq' : cs.contains (t[k - 1]'h1) = false := by simpa using heq
        have HC := Aside0.mk (Tryz.asciiSet_contains B (t[k - 1]'h1) false w (by rw [HS.out, heq']))
        go_wp2_with (go_at_call 131; refine HC.out.mono ?_; rintro e w2 ⟨rfl, rfl⟩)
        go_wp2
        go_ret
        refine ⟨?_, rfl⟩
        have ht' : (⟨(s.data.toList.take k).toArray⟩ : ByteArray) = t := hK3
        show Ending.returned (Value.string t) = _
        rw [trimR_take cs s.data.toList k hkl' hK (fun b _ hb => by
          have h2 : s.data.toList[k - 1]? = some (t[k - 1]'h1) := hK2
          rw [h2] at hb
          rw [← Option.some.inj hb]
          exact heq'), ht']
    · clear hb0
      obtain rfl : k = 0 := by omega
      go_wp2
      go_ret
      refine ⟨?_, rfl⟩
      have ht' : (⟨(s.data.toList.take 0).toArray⟩ : ByteArray) = t := hK3
      show Ending.returned (Value.string t) = _
      rw [trimR_take cs s.data.toList 0 hkl' hK (fun b h _ => absurd h (Nat.lt_irrefl _)), ht']
end Go.Proofs.YtkalbdeopogbpaaGreatDoor.P.Wd
