-- Written by wip/tools/myprint.py of this session over the kit's print; Lean checks it.
import Derived.Test.YtkalbdeopogbpaaDoorPx0
namespace Go.Proofs.YtkalbdeopogbpaaDoor.P
open Go.RowKit Go.Proofs.YtkalbdeopogbpaaDoorW.PrintWords Go.Proofs.YtkalbdeopogbpaaDoorW.PrintLast Go.Proofs.YtkalbdeopogbpaaDoorW.PrintMore
attribute [local go_sem] max2_int min2_int max_two min_two max_three min_three max_four min_four   -- for this text's walks alone
set_option linter.unusedVariables false
set_option linter.unusedSimpArgs false

/-! ### mummerlaw09_far: function 9 -/
def mummerlaw09_far.f (a0 : ByteArray) : Option (Bool) := if (a0.size : Int) > 300 then (if (a0.size : Int) < 19900 then (some true) else (some (decide ((a0.size : Int) > 20100)))) else (some (decide ((a0.size : Int) > 20100)))
set_option maxHeartbeats 8000000 in
set_option maxRecDepth 100000 in
theorem mummerlaw09_far.calls (a0 : ByteArray) (r : Bool) (w : World) (h : mummerlaw09_far.f a0 = some r) :
    Calls Tryd.prog 9 #[.string a0] w fun e w' => e = .returned (.bool r) ∧ Drawn0 w w' := by
  have H : (if (a0.size : Int) > 300 then (if (a0.size : Int) < 19900 then (some true) else (some (decide ((a0.size : Int) > 20100)))) else (some (decide ((a0.size : Int) > 20100)))) = some r := h
  clear h
  by_cases c2 : (a0.size : Int) > 300
  · rw [if_pos c2] at H
    have c2b0 : decide (300 < (a0.size : Int)) = true := decide_eq_true c2
    have c2b1 : decide (300 < a0.size) = true := decide_eq_true (by omega)
    clear c2
    by_cases c3 : (a0.size : Int) < 19900
    · rw [if_pos c3] at H
      have c3b0 : decide ((a0.size : Int) < 19900) = true := decide_eq_true c3
      have c3b1 : decide (a0.size < 19900) = true := decide_eq_true (by omega)
      clear c3
      obtain rfl := Option.some.inj H
      go_enter Tryd.func9, Tryd.ntmps9
      go_wp2
      go_ret
      exact ⟨by first | rfl | (simp; done) | (simp [*]; done), by repeat (first | exact Drawn0.refl _ | apply Drawn0.step)⟩
    · rw [if_neg c3] at H
      have c3b0 : decide ((a0.size : Int) < 19900) = false := decide_eq_false c3
      have c3b1 : decide (a0.size < 19900) = false := decide_eq_false (by omega)
      clear c3
      obtain rfl := Option.some.inj H
      go_enter Tryd.func9, Tryd.ntmps9
      go_wp2
      go_ret
      exact ⟨by first | rfl | (simp; done) | (simp [*]; done), by repeat (first | exact Drawn0.refl _ | apply Drawn0.step)⟩
  · rw [if_neg c2] at H
    have c2b0 : decide (300 < (a0.size : Int)) = false := decide_eq_false c2
    have c2b1 : decide (300 < a0.size) = false := decide_eq_false (by omega)
    clear c2
    obtain rfl := Option.some.inj H
    go_enter Tryd.func9, Tryd.ntmps9
    go_wp2
    go_ret
    exact ⟨by first | rfl | (simp; done) | (simp [*]; done), by repeat (first | exact Drawn0.refl _ | apply Drawn0.step)⟩


/-! ### scopes_write: function 55 (written by this session) -/
def scopes_write.f (l0 : List Int) : Option ByteArray := if l0.length ≤ 1000000 ∧ (∀ x ∈ l0, 0 ≤ x ∧ x < 65536) then some (ofP l0) else none
theorem scopes_write.calls (A0 : Option Addr) (c0 : Nat) (l0 : List Int) (r : ByteArray) (w : World) (hr0 : Kd.C (Kd.int .i64) w A0 l0.length l0) (hc0 : l0.length ≤ c0) (h : scopes_write.f l0 = some r) :
    Calls Tryd.prog 55 #[.slice A0 l0.length c0] w fun e w' => e = .returned (.string r) ∧ Below w.heap.size w w' := by
  unfold scopes_write.f at h
  by_cases hs : l0.length ≤ 1000000 ∧ (∀ x ∈ l0, 0 ≤ x ∧ x < 65536)
  · rw [if_pos hs] at h
    obtain rfl := Option.some.inj h
    exact Sc.write_calls l0 A0 c0 w hs.1 hr0 hs.2
  · rw [if_neg hs] at h; cases h


/-! ### scopes_Of: function 11 (written by this session) -/
def scopes_Of.f (l0 : List Int) : Option (ByteArray × Int) := if l0.length ≤ 1000000 then some (ofS l0) else none
theorem scopes_Of.calls (A0 : Option Addr) (c0 : Nat) (l0 : List Int) (r1 : ByteArray) (r2 : Int) (w : World) (hr0 : Kd.C (Kd.int .i64) w A0 l0.length l0) (hc0 : l0.length ≤ c0) (h : scopes_Of.f l0 = some (r1, r2)) :
    Calls Tryd.prog 11 #[.slice A0 l0.length c0] w fun e w' => e = .returned (.tuple #[.string r1, .int .i64 r2]) ∧ Below w.heap.size w w' := by
  unfold scopes_Of.f at h
  by_cases hs : l0.length ≤ 1000000
  · rw [if_pos hs] at h
    have h' := Option.some.inj h
    have h1 : (ofS l0).1 = r1 := by rw [h']
    have h2 : (ofS l0).2 = r2 := by rw [h']
    subst h1; subst h2
    exact Sc.of_calls l0 A0 c0 w hs hr0
  · rw [if_neg hs] at h; cases h


/-! ### scopes_Check: function 15 (written by this session) -/
def scopes_Check.f (a0 : ByteArray) : Option Int := if a0.size ≤ 9223372036854775807 then some (Sc.chk a0) else none
theorem scopes_Check.calls (a0 : ByteArray) (r : Int) (w : World) (h : scopes_Check.f a0 = some r) :
    Calls Tryd.prog 15 #[.string a0] w fun e w' => e = .returned (.int .i64 r) ∧ Below w.heap.size w w' := by
  unfold scopes_Check.f at h
  by_cases hs : a0.size ≤ 9223372036854775807
  · rw [if_pos hs] at h
    obtain rfl := Option.some.inj h
    exact callsIn_wide.1 (Sc.check_in a0 hs w)
  · rw [if_neg hs] at h; cases h


/-! ### scopes_Ids: function 13 (written by this session) -/
def scopes_Ids.f (a0 : ByteArray) : Option (List Int × Int) := if a0.size ≤ 9223372036854775807 then some (Sc.Ids_p a0) else none
theorem scopes_Ids.calls (a0 : ByteArray) (r1 : List Int) (r2 : Int) (w : World) (h : scopes_Ids.f a0 = some (r1, r2)) :
    Calls Tryd.prog 13 #[.string a0] w fun e w' => ∃ v0_ : Value, e = .returned (.tuple #[v0_, .int .i64 r2]) ∧ Kd.R (Kd.int .i64) 3 w' w.heap.size (fun _ => True) v0_ r1 ∧ Below w.heap.size w w' := by
  unfold scopes_Ids.f at h
  by_cases hs : a0.size ≤ 9223372036854775807
  · rw [if_pos hs] at h
    have h' := Option.some.inj h
    have h1 : (Sc.Ids_p a0).1 = r1 := by rw [h']
    have h2 : (Sc.Ids_p a0).2 = r2 := by rw [h']
    subst h1; subst h2
    exact (callsIn_wide.1 (Sc.ids_in a0 hs w)).mono fun e W' ⟨v, he, hrow, hb⟩ => ⟨v, he, Kd.R_of_own hrow (fun _ _ => trivial), hb⟩
  · rw [if_neg hs] at h; cases h


/-! ### scopes_Add: function 20 (written by this session) -/
def scopes_Add.f (a0 : ByteArray) (a1 : Int) : Option (ByteArray × Int) := if a0.size ≤ 9223372036854775807 then some (addS a0 a1) else none
theorem scopes_Add.calls (a0 : ByteArray) (a1 : Int) (r1 : ByteArray) (r2 : Int) (w : World) (h : scopes_Add.f a0 a1 = some (r1, r2)) :
    Calls Tryd.prog 20 #[.string a0, .int .i64 a1] w fun e w' => e = .returned (.tuple #[.string r1, .int .i64 r2]) ∧ Below w.heap.size w w' := by
  unfold scopes_Add.f at h
  by_cases hs : a0.size ≤ 9223372036854775807
  · rw [if_pos hs] at h
    have h' := Option.some.inj h
    have h1 : (addS a0 a1).1 = r1 := by rw [h']
    have h2 : (addS a0 a1).2 = r2 := by rw [h']
    subst h1; subst h2
    exact Sc.add_calls a0 a1 hs w
  · rw [if_neg hs] at h; cases h


/-! ### scopes_Drop: function 22 (written by this session) -/
def scopes_Drop.f (a0 : ByteArray) (a1 : Int) : Option (ByteArray × Int) := if a0.size ≤ 9223372036854775807 then some (dropS a0 a1) else none
theorem scopes_Drop.calls (a0 : ByteArray) (a1 : Int) (r1 : ByteArray) (r2 : Int) (w : World) (h : scopes_Drop.f a0 a1 = some (r1, r2)) :
    Calls Tryd.prog 22 #[.string a0, .int .i64 a1] w fun e w' => e = .returned (.tuple #[.string r1, .int .i64 r2]) ∧ Below w.heap.size w w' := by
  unfold scopes_Drop.f at h
  by_cases hs : a0.size ≤ 9223372036854775807
  · rw [if_pos hs] at h
    have h' := Option.some.inj h
    have h1 : (dropS a0 a1).1 = r1 := by rw [h']
    have h2 : (dropS a0 a1).2 = r2 := by rw [h']
    subst h1; subst h2
    exact Sc.drop_calls a0 a1 hs w
  · rw [if_neg hs] at h; cases h


/-! ### scopes_Has: function 18 (written by this session) -/
def scopes_Has.f (a0 : ByteArray) (a1 : Int) : Option (Bool × Int) := if a0.size ≤ 9223372036854775807 then some (hasS a0 a1) else none
theorem scopes_Has.calls (a0 : ByteArray) (a1 : Int) (r1 : Bool) (r2 : Int) (w : World) (h : scopes_Has.f a0 a1 = some (r1, r2)) :
    Calls Tryd.prog 18 #[.string a0, .int .i64 a1] w fun e w' => e = .returned (.tuple #[.bool r1, .int .i64 r2]) ∧ Below w.heap.size w w' := by
  unfold scopes_Has.f at h
  by_cases hs : a0.size ≤ 9223372036854775807
  · rw [if_pos hs] at h
    have h' := Option.some.inj h
    have h1 : (hasS a0 a1).1 = r1 := by rw [h']
    have h2 : (hasS a0 a1).2 = r2 := by rw [h']
    subst h1; subst h2
    exact Sc.has_calls a0 a1 hs w
  · rw [if_neg hs] at h; cases h


/-! ### scopes_Flip: function 24 (written by this session) -/
def scopes_Flip.f (a0 : ByteArray) (a1 : Int) : Option (ByteArray × Int) := if a0.size ≤ 9223372036854775807 then some (flipS a0 a1) else none
theorem scopes_Flip.calls (a0 : ByteArray) (a1 : Int) (r1 : ByteArray) (r2 : Int) (w : World) (h : scopes_Flip.f a0 a1 = some (r1, r2)) :
    Calls Tryd.prog 24 #[.string a0, .int .i64 a1] w fun e w' => e = .returned (.tuple #[.string r1, .int .i64 r2]) ∧ Below w.heap.size w w' := by
  unfold scopes_Flip.f at h
  by_cases hs : a0.size ≤ 9223372036854775807
  · rw [if_pos hs] at h
    have h' := Option.some.inj h
    have h1 : (flipS a0 a1).1 = r1 := by rw [h']
    have h2 : (flipS a0 a1).2 = r2 := by rw [h']
    subst h1; subst h2
    exact Sc.flip_calls a0 a1 hs w
  · rw [if_neg hs] at h; cases h

end Go.Proofs.YtkalbdeopogbpaaDoor.P
