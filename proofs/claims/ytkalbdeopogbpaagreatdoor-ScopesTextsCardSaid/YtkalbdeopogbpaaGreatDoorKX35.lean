import Derived.Test.YtkalbdeopogbpaaGreatDoorKX1
import Derived.Test.YtkalbdeopogbpaaGreatDoorKX28
import Derived.Test.YtkalbdeopogbpaaGreatDoorKX33
namespace Go.Proofs.YtkalbdeopogbpaaGreatDoor.P.Wd
open Go.RowKit Go.Shelf Go.Proofs.YtkalbdeopogbpaaGreatDoorW.PrintWords Go.Proofs.YtkalbdeopogbpaaGreatDoorW.PrintLast Go.Proofs.YtkalbdeopogbpaaGreatDoorW.PrintMore
set_option linter.unusedVariables false
set_option linter.unusedSimpArgs false
set_option maxHeartbeats 1000000 in
theorem declast_calls (s : ByteArray) (k n : Nat) (hkn : k = n + 1) (hn : n < s.size) (hb : (s[n]'hn).toNat < 128) (hs : s.size ≤ 1000000) (w : World) :
    Calls Tryz.prog 133 #[.string (s.extract 0 k)] w fun e w' => e = .returned (.tuple #[.int .i32 (s[n]'hn).toNat, .int .i64 1]) ∧ w' = w := by
  subst hkn
  obtain ⟨t, ht⟩ : ∃ t, s.extract 0 (n + 1) = t := ⟨_, rfl⟩
  have hz : t.size = n + 1 := by rw [← ht, ByteArray.size_extract]; omega
  have hx : ∀ h, t[n]'h = s[n]'hn := by
    intro h
    subst ht
    rw [ByteArray.getElem_extract]; congr 1; omega
  rw [ht]
  have hd : ((n : Int) + 1 == 0) = false := beq_eq_false_iff_ne.2 (by omega)
  have hw : ((n : Int) + 1 - 1 + 9223372036854775808) % 18446744073709551616 - 9223372036854775808 = (n : Int) := by omega
  have hi : n < t.size := by omega
  have hlt : decide (((s[n]'hn).toNat : Int) < 128) = true := decide_eq_true (by omega)
  clear ht
  go_enter Tryz.func133, Tryz.ntmps133
  go_wp2
  go_ret2
  exact ⟨rfl, rfl⟩
set_option maxHeartbeats 1000000 in
theorem fol1_calls (c : Int) (w : World) : Calls Tryz.prog 70 #[.int .i32 c] w fun e w' => e = .returned (.bool (c != 57)) ∧ w' = w := by
  go_enter Tryz.func70, Tryz.ntmps70
  go_wp2
  go_ret
  exact ⟨rfl, rfl⟩
/-- Where the last byte stands that is no '9', of the first k; -1: there is none. -/
def lix (s : ByteArray) : Nat → Int
  | 0 => -1
  | k + 1 => if bt s k = 57 then lix s k else (k : Int)
set_option maxHeartbeats 1000000 in
set_option maxRecDepth 100000 in
theorem lif_calls (s : ByteArray) (hs : s.size ≤ 1000000) (ha : ∀ (i : Nat) (h : i < s.size), (s[i]'h).toNat < 128) (w : World) :
    Calls Tryz.prog 103 #[.string s, .func (.func 70) #[] #[], .bool true] w fun e w' => e = .returned (.int .i64 (lix s s.size)) ∧ w' = w := by
  have HA := Aside0.mk ha
  clear ha
  go_enter Tryz.func103, Tryz.ntmps103
  go_wp2
  go_loop [7] (fun v => ∃ k : Nat, k ≤ s.size ∧ v = .int .i64 (k : Int) ∧ lix s k = lix s s.size) (fun v => (intOf v).toNat)
  case atStart => exact ⟨s.size, Nat.le_refl _, rfl, rfl⟩
  case round =>
    obtain ⟨k, hk, rfl, hl⟩ := hrel
    by_cases hk0 : 0 < k
    · obtain ⟨n, hkn⟩ : ∃ n, k = n + 1 := ⟨k - 1, by omega⟩
      have hn : n < s.size := by omega
      have hb := HA.out n hn
      have hl2 : lix s (n + 1) = lix s s.size := by rw [← hkn]; exact hl
      have HL := Aside0.mk hl2
      clear hl hl2
      have hbt := bt_at s n hn
      simp only [Int.toNat_natCast] at hbt
      have c0 : decide ((0 : Int) < (k : Int)) = true := decide_eq_true (by omega)
      have w1 : ((k : Int) - 1 + 9223372036854775808) % 18446744073709551616 - 9223372036854775808 = (n : Int) := by omega
      have HB := Aside0.mk hbt
      have HK := Aside0.mk hkn
      clear hbt hkn
      by_cases h57 : (s[n]'hn).toNat = 57
      · have q1 : (((s[n]'hn).toNat : Int) != 57) = false := by rw [h57]; rfl
        have hnext : lix s n = lix s s.size := by rw [← HL.out, lix, if_pos (by rw [← HB.out, h57]; rfl)]
        go_wp2_with (first
          | (go_at_call 133; refine (declast_calls s k n HK.out hn hb hs _).mono ?_; rintro e w2 ⟨rfl, rfl⟩)
          | (refine (fol1_calls _ _).mono ?_; rintro e w3 ⟨rfl, rfl⟩))
        have hkn := HK.out
        exact ⟨⟨n, by omega, by rw [show (k : Int) - 1 = (n : Int) by omega], hnext⟩, by simp [intOf]; omega⟩
      · have q1 : (((s[n]'hn).toNat : Int) != 57) = true := bne_iff_ne.2 (by omega)
        have hnext : (n : Int) = lix s s.size := by rw [← HL.out, lix, if_neg (by rw [← HB.out]; omega)]
        go_wp2_with (first
          | (go_at_call 133; refine (declast_calls s k n HK.out hn hb hs _).mono ?_; rintro e w2 ⟨rfl, rfl⟩)
          | (refine (fol1_calls _ _).mono ?_; rintro e w3 ⟨rfl, rfl⟩))
        go_ret
        have hkn := HK.out
        exact ⟨by show Ending.returned (Value.int .i64 ((k : Int) - 1)) = _; rw [show (k : Int) - 1 = (n : Int) by omega, hnext], rfl⟩
    · obtain rfl : k = 0 := by omega
      go_wp2
      go_ret
      exact ⟨by rw [← hl]; rfl, rfl⟩
set_option maxHeartbeats 1000000 in
theorem lastIx_calls (s : ByteArray) (hs : s.size ≤ 1000000) (ha : ∀ (i : Nat) (h : i < s.size), (s[i]'h).toNat < 128) (w : World) :
    Calls Tryz.prog 69 #[.string s, .func (.func 70) #[] #[]] w fun e w' => e = .returned (.int .i64 (lix s s.size)) ∧ w' = w := by
  have H := Aside0.mk (lif_calls s hs ha w)
  go_enter Tryz.func69, Tryz.ntmps69
  go_wp2_with (go_at_call 103; refine H.out.mono ?_; rintro e w2 ⟨rfl, rfl⟩)
  go_ret
  exact ⟨rfl, rfl⟩
theorem lix_range (s : ByteArray) : ∀ k : Nat, -1 ≤ lix s k ∧ lix s k < (k : Int)
  | 0 => by simp [lix]
  | k + 1 => by
    have := lix_range s k
    rw [lix]
    split <;> omega
/-- strings.Cut at one byte: what stands ahead of it, what behind it, and whether it is there. -/
def behind (s : ByteArray) (c : UInt8) : ByteArray := if 0 ≤ Lib.indexByte s.data.toList c then s.extract ((Lib.indexByte s.data.toList c).toNat + 1) s.size else ⟨#[]⟩
def isThere (s : ByteArray) (c : UInt8) : Bool := decide (0 ≤ Lib.indexByte s.data.toList c)
set_option maxHeartbeats 1000000 in
theorem scut3_calls (s : ByteArray) (c : UInt8) (hs : s.size ≤ 1000000) (w : World) :
    Calls Tryz.prog 65 #[.string s, .string ⟨#[c]⟩] w fun e w' => e = .returned (.tuple #[.string (ahead s c), .string (behind s c), .bool (isThere s c)]) ∧ Below w.heap.size w w' := by
  by_cases h : 0 ≤ Lib.indexByte s.data.toList c
  · have hl := ib_lt s c h
    obtain ⟨k, hk⟩ : ∃ k : Nat, Lib.indexByte s.data.toList c = (k : Int) := ⟨_, (Int.toNat_of_nonneg h).symm⟩
    have ha : ahead s c = s.extract 0 k := by unfold ahead; rw [if_pos h, hk]; simp
    have hbh : behind s c = s.extract (k + 1) s.size := by unfold behind; rw [if_pos h, hk]; simp
    have hit : isThere s c = true := decide_eq_true h
    rw [hk] at hl
    rw [ha, hbh, hit]
    have HA := Aside0.mk hk
    have hk1 : k + 1 ≤ s.size := by omega
    have hk2 : k ≤ s.size := by omega
    have d0 : decide ((0 : Int) ≤ (k : Int)) = true := by simp
    have wr : ((k : Int) + 1 + 9223372036854775808) % 18446744073709551616 - 9223372036854775808 = ((k + 1 : Nat) : Int) := by omega
    clear hk h ha hbh hit
    go_enter Tryz.func65, Tryz.ntmps65
    go_wp2_with (first | (refine (Tryz.stringslite_Index_one s c _).mono ?_; rintro e w2 ⟨rfl, rfl⟩; rw [HA.out]))
    go_quiet (fail)
    go_wp2
    refine bodyPost_ret (v := .tuple #[.string (s.extract 0 k), .string (s.extract (k + 1) s.size), .bool true]) ?_ rfl ?_
    · simp [results, Tryz.f65, go_sem]
    · exact ⟨rfl, by repeat (first | exact Below.refl _ _ | refine pw_below_drewN ?_ _)⟩
  · obtain ⟨x, hx⟩ : ∃ x, Lib.indexByte s.data.toList c = x := ⟨_, rfl⟩
    have ha : ahead s c = s := by unfold ahead; rw [if_neg h]
    have hbh : behind s c = ⟨#[]⟩ := by unfold behind; rw [if_neg h]
    have hit : isThere s c = false := decide_eq_false h
    rw [hx] at h
    rw [ha, hbh, hit]
    have HA := Aside0.mk hx
    have d0 : decide ((0 : Int) ≤ x) = false := decide_eq_false h
    clear hx h ha hbh hit
    go_enter Tryz.func65, Tryz.ntmps65
    go_wp2_with (first | (refine (Tryz.stringslite_Index_one s c _).mono ?_; rintro e w2 ⟨rfl, rfl⟩; rw [HA.out]))
    refine bodyPost_ret (v := .tuple #[.string s, .string ⟨#[]⟩, .bool false]) ?_ rfl ?_
    · simp [results, Tryz.f65, go_sem]
    · exact ⟨rfl, by repeat (first | exact Below.refl _ _ | refine pw_below_drewN ?_ _)⟩
set_option maxHeartbeats 1000000 in
theorem cut3_calls (s : ByteArray) (c : UInt8) (hs : s.size ≤ 1000000) (w : World) :
    Calls Tryz.prog 42 #[.string s, .string ⟨#[c]⟩] w fun e w' => e = .returned (.tuple #[.string (ahead s c), .string (behind s c), .bool (isThere s c)]) ∧ Below w.heap.size w w' := by
  have HC := Aside0.mk (scut3_calls s c hs)
  go_enter Tryz.func42, Tryz.ntmps42
  go_wp2_with (first | (refine (HC.out _).mono ?_; rintro e w2 ⟨rfl, hb⟩))
  refine bodyPost_ret (v := .tuple #[.string (ahead s c), .string (behind s c), .bool (isThere s c)]) ?_ rfl ?_
  · simp [results, Tryz.f42, go_sem]
  · exact ⟨rfl, hb⟩
theorem at_list (a : ByteArray) (i : Nat) (hi : i < a.size) : a.data.toList[i]? = some (a[i]'hi) := by
  have hl : i < a.data.toList.length := by rw [← Lib.size_eq]; exact hi
  rw [List.getElem?_eq_getElem hl]; rfl
theorem one_byte (a : ByteArray) (h : a.size = 1) : (⟨#[a[0]'(by omega)]⟩ : ByteArray) = a := by
  have h1 := at_list a 0 (by omega)
  have h2 : a.data.toList.length = 1 := by rw [← Lib.size_eq]; exact h
  match hl : a.data.toList, h2 with
  | [x], _ =>
    rw [hl] at h1
    simp at h1
    rw [← h1]
    have := Lib.mk_data a
    rw [hl] at this
    exact this
end Go.Proofs.YtkalbdeopogbpaaGreatDoor.P.Wd
