import Derived.Test.YtciaocdpojnmcaaGreatDoorKK1
import Derived.Test.YtciaocdpojnmcaaGreatDoorKK19
import Derived.Lib.IndexLaws
namespace Go.Proofs.YtciaocdpojnmcaaGreatDoor.P.Wd
open Go.RowKit Go.Shelf Go.Proofs.YtciaocdpojnmcaaGreatDoorW.PrintWords Go.Proofs.YtciaocdpojnmcaaGreatDoorW.PrintLast Go.Proofs.YtciaocdpojnmcaaGreatDoorW.PrintMore
set_option linter.unusedVariables false
set_option linter.unusedSimpArgs false
/-- The bytes ahead of the first c. -/
def ahead (s : ByteArray) (c : UInt8) : ByteArray := if 0 ≤ Lib.indexByte s.data.toList c then s.extract 0 (Lib.indexByte s.data.toList c).toNat else s
theorem ib_bound : ∀ (l : List UInt8) (c : UInt8), Lib.indexByte l c < (l.length : Int) ∨ l = []
  | [], _ => .inr rfl
  | b :: l, c => by
    left
    unfold Lib.indexByte
    rw [List.length_cons]
    rcases ib_bound l c with h | rfl
    · split
      · omega
      · split
        · omega
        · omega
    · split
      · simp
      · simp [Lib.indexByte]
theorem ib_lt (s : ByteArray) (c : UInt8) (h : 0 ≤ Lib.indexByte s.data.toList c) : Lib.indexByte s.data.toList c < (s.size : Int) := by
  rcases ib_bound s.data.toList c with h1 | h1
  · rw [Lib.size_eq]; exact h1
  · rw [h1] at h; simp [Lib.indexByte] at h
set_option maxHeartbeats 1000000 in
theorem scut_calls (s : ByteArray) (c : UInt8) (hs : s.size ≤ 1000000) (w : World) :
    Calls Tryz.prog 53 #[.string s, .string ⟨#[c]⟩] w fun e w' => (∃ r f, e = .returned (.tuple #[.string (ahead s c), .string r, .bool f])) ∧ Below w.heap.size w w' := by
  by_cases h : 0 ≤ Lib.indexByte s.data.toList c
  · have hl := ib_lt s c h
    obtain ⟨k, hk⟩ : ∃ k : Nat, Lib.indexByte s.data.toList c = (k : Int) := ⟨_, (Int.toNat_of_nonneg h).symm⟩
    have ha : ahead s c = s.extract 0 k := by unfold ahead; rw [if_pos h, hk]; simp
    rw [hk] at hl
    rw [ha]
    have HA := Aside0.mk hk
    have hk1 : k + 1 ≤ s.size := by omega
    have hk2 : k ≤ s.size := by omega
    have d0 : decide ((0 : Int) ≤ (k : Int)) = true := by simp
    have wr : ((k : Int) + 1 + 9223372036854775808) % 18446744073709551616 - 9223372036854775808 = ((k + 1 : Nat) : Int) := by omega
    clear hk h ha
    go_enter Tryz.func53, Tryz.ntmps53
    go_wp2_with (first | (refine (Tryz.stringslite_Index_one s c _).mono ?_; rintro e w2 ⟨rfl, rfl⟩; rw [HA.out]))
    go_quiet (fail)
    go_wp2
    refine bodyPost_ret (v := .tuple #[.string (s.extract 0 k), .string (s.extract (k + 1) s.size), .bool true]) ?_ rfl ?_
    · simp [results, Tryz.f53, go_sem]
    · exact ⟨⟨_, _, rfl⟩, by repeat (first | exact Below.refl _ _ | refine pw_below_drewN ?_ _)⟩
  · obtain ⟨x, hx⟩ : ∃ x, Lib.indexByte s.data.toList c = x := ⟨_, rfl⟩
    have ha : ahead s c = s := by unfold ahead; rw [if_neg h]
    rw [hx] at h
    rw [ha]
    have HA := Aside0.mk hx
    have d0 : decide ((0 : Int) ≤ x) = false := decide_eq_false h
    clear hx h ha
    go_enter Tryz.func53, Tryz.ntmps53
    go_wp2_with (first | (refine (Tryz.stringslite_Index_one s c _).mono ?_; rintro e w2 ⟨rfl, rfl⟩; rw [HA.out]))
    refine bodyPost_ret (v := .tuple #[.string s, .string ⟨#[]⟩, .bool false]) ?_ rfl ?_
    · simp [results, Tryz.f53, go_sem]
    · exact ⟨⟨_, _, rfl⟩, by repeat (first | exact Below.refl _ _ | refine pw_below_drewN ?_ _)⟩
set_option maxHeartbeats 1000000 in
theorem cut_calls (s : ByteArray) (c : UInt8) (hs : s.size ≤ 1000000) (w : World) :
    Calls Tryz.prog 33 #[.string s, .string ⟨#[c]⟩] w fun e w' => (∃ r f, e = .returned (.tuple #[.string (ahead s c), .string r, .bool f])) ∧ Below w.heap.size w w' := by
  have HC := Aside0.mk (scut_calls s c hs)
  go_enter Tryz.func33, Tryz.ntmps33
  go_wp2_with (first | (refine (HC.out _).mono ?_; rintro e w2 ⟨⟨r, f, rfl⟩, hb⟩))
  refine bodyPost_ret (v := .tuple #[.string (ahead s c), .string r, .bool f]) ?_ rfl ?_
  · simp [results, Tryz.f33, go_sem]
  · exact ⟨⟨_, _, rfl⟩, hb⟩
end Go.Proofs.YtciaocdpojnmcaaGreatDoor.P.Wd
