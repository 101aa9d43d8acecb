import Derived.Test.YtciaocdpojnmcaaGreatDoorKK23
namespace Go.Proofs.YtciaocdpojnmcaaGreatDoor.P.Wd
open Go.RowKit Go.Shelf Go.Proofs.YtciaocdpojnmcaaGreatDoorW.PrintWords Go.Proofs.YtciaocdpojnmcaaGreatDoorW.PrintLast Go.Proofs.YtciaocdpojnmcaaGreatDoorW.PrintMore
attribute [local go_sem] esc_ix0 esc_ix1 esc_ix2 esc_ix3 esc_ix4
set_option linter.unusedVariables false
set_option linter.unusedSimpArgs false
def plainP (c : Int) : Bool := decide (32 ≤ c) && decide (c ≤ 126) && (c != 34) && (c != 92)
set_option maxHeartbeats 1000000 in
theorem plain_calls (c : Int) (w : World) : Calls Tryz.prog 26 #[.int .u8 c] w fun e w' => e = .returned (.bool (plainP c)) ∧ w' = w := by
  go_enter Tryz.func26, Tryz.ntmps26
  go_wp2
  all_goals go_ret
  all_goals refine ⟨congrArg (fun b => Ending.returned (Value.bool b)) ?_, rfl⟩
  all_goals unfold plainP
  all_goals first | (simp [*]; done) | (simp; omega)
def hexDigits : List UInt8 := [48, 49, 50, 51, 52, 53, 54, 55, 56, 57, 97, 98, 99, 100, 101, 102]
def hexV (b : UInt8) : Int := Lib.indexByte hexDigits b
theorem hex_calls (b : UInt8) (w : World) : Calls Tryz.prog 72 #[.string ⟨#[48, 49, 50, 51, 52, 53, 54, 55, 56, 57, 97, 98, 99, 100, 101, 102]⟩, .int .u8 b.toNat] w fun e w' => e = .returned (.int .i64 (hexV b)) ∧ w' = w := by
  have h := Tryz.strings_IndexByte ⟨#[48, 49, 50, 51, 52, 53, 54, 55, 56, 57, 97, 98, 99, 100, 101, 102]⟩ b.toNat w
  rw [show ((b.toNat : Int).toNat.toUInt8) = b by simp] at h
  exact h
/-- A world behind some steps, named. -/
theorem name_world {n : Nat} {W0 W : World} {G : World → Prop} (h : Below n W0 W) (hG : ∀ V, Below n W0 V → G V) : G W := hG W h
def hexC (H L : Int) : Int := bits BinOp.or IntKind.i64 (wrap64 (H * 16)) L % 256
def hexR (H L : Int) : Int × Int := if H < 0 ∨ L < 0 then (0, 0) else if plainP (hexC H L) = true ∨ letterP (hexC H L) ≠ 0 then (0, 0) else (hexC H L, 3)
set_option maxHeartbeats 1000000 in
set_option maxRecDepth 100000 in
theorem unesc_0 (s : ByteArray) (w : World) (h : Esc w) (h0 : 0 < s.size) (hx : (s[0]'h0).toNat = 34) :
    Calls Tryz.prog 49 #[.string s] w fun e w' => e = .returned (.tuple #[.int .u8 34, .int .i64 1]) ∧ Below w.heap.size w w' := by
  obtain ⟨e0, e1, e2, e3, e4, e5, e6, e7, e8, e9⟩ := h
  have q0 : s.toList.isEmpty = false := by
    rw [List.isEmpty_eq_false_iff]; intro h
    rw [Lib.toList_data] at h
    have := congrArg List.length h
    rw [← Lib.size_eq, List.length_nil] at this; omega
  go_enter Tryz.func49, Tryz.ntmps49
  go_wp2
  refine wp_loop_rounds 6 ?_
  rw [rounds_succ]
  go_wp2
  go_quiet (fail)
  go_wp2
  go_ret2
  exact ⟨rfl, by repeat (first | exact Below.refl _ _ | refine pw_below_drewN ?_ _ | refine Below.alloc ?_ (by first | (simp; done) | (simp; omega)) _)⟩
set_option maxHeartbeats 1000000 in
set_option maxRecDepth 100000 in
theorem unesc_1 (s : ByteArray) (w : World) (h : Esc w) (h0 : 0 < s.size) (hx : (s[0]'h0).toNat = 92) :
    Calls Tryz.prog 49 #[.string s] w fun e w' => e = .returned (.tuple #[.int .u8 92, .int .i64 1]) ∧ Below w.heap.size w w' := by
  obtain ⟨e0, e1, e2, e3, e4, e5, e6, e7, e8, e9⟩ := h
  have q0 : s.toList.isEmpty = false := by
    rw [List.isEmpty_eq_false_iff]; intro h
    rw [Lib.toList_data] at h
    have := congrArg List.length h
    rw [← Lib.size_eq, List.length_nil] at this; omega
  go_enter Tryz.func49, Tryz.ntmps49
  go_wp2
  refine wp_loop_rounds 6 ?_
  rw [rounds_succ]
  go_wp2
  go_quiet (fail)
  go_wp2
  rw [rounds_succ]
  go_wp2
  go_quiet (fail)
  go_wp2
  go_ret2
  exact ⟨rfl, by repeat (first | exact Below.refl _ _ | refine pw_below_drewN ?_ _ | refine Below.alloc ?_ (by first | (simp; done) | (simp; omega)) _)⟩
set_option maxHeartbeats 1000000 in
set_option maxRecDepth 100000 in
theorem unesc_2 (s : ByteArray) (w : World) (h : Esc w) (h0 : 0 < s.size) (hx : (s[0]'h0).toNat = 110) :
    Calls Tryz.prog 49 #[.string s] w fun e w' => e = .returned (.tuple #[.int .u8 10, .int .i64 1]) ∧ Below w.heap.size w w' := by
  obtain ⟨e0, e1, e2, e3, e4, e5, e6, e7, e8, e9⟩ := h
  have q0 : s.toList.isEmpty = false := by
    rw [List.isEmpty_eq_false_iff]; intro h
    rw [Lib.toList_data] at h
    have := congrArg List.length h
    rw [← Lib.size_eq, List.length_nil] at this; omega
  go_enter Tryz.func49, Tryz.ntmps49
  go_wp2
  refine wp_loop_rounds 6 ?_
  rw [rounds_succ]
  go_wp2
  go_quiet (fail)
  go_wp2
  rw [rounds_succ]
  go_wp2
  go_quiet (fail)
  go_wp2
  rw [rounds_succ]
  go_wp2
  go_quiet (fail)
  go_wp2
  go_ret2
  exact ⟨rfl, by repeat (first | exact Below.refl _ _ | refine pw_below_drewN ?_ _ | refine Below.alloc ?_ (by first | (simp; done) | (simp; omega)) _)⟩
set_option maxHeartbeats 1000000 in
set_option maxRecDepth 100000 in
theorem unesc_3 (s : ByteArray) (w : World) (h : Esc w) (h0 : 0 < s.size) (hx : (s[0]'h0).toNat = 114) :
    Calls Tryz.prog 49 #[.string s] w fun e w' => e = .returned (.tuple #[.int .u8 13, .int .i64 1]) ∧ Below w.heap.size w w' := by
  obtain ⟨e0, e1, e2, e3, e4, e5, e6, e7, e8, e9⟩ := h
  have q0 : s.toList.isEmpty = false := by
    rw [List.isEmpty_eq_false_iff]; intro h
    rw [Lib.toList_data] at h
    have := congrArg List.length h
    rw [← Lib.size_eq, List.length_nil] at this; omega
  go_enter Tryz.func49, Tryz.ntmps49
  go_wp2
  refine wp_loop_rounds 6 ?_
  rw [rounds_succ]
  go_wp2
  go_quiet (fail)
  go_wp2
  rw [rounds_succ]
  go_wp2
  go_quiet (fail)
  go_wp2
  rw [rounds_succ]
  go_wp2
  go_quiet (fail)
  go_wp2
  rw [rounds_succ]
  go_wp2
  go_quiet (fail)
  go_wp2
  go_ret2
  exact ⟨rfl, by repeat (first | exact Below.refl _ _ | refine pw_below_drewN ?_ _ | refine Below.alloc ?_ (by first | (simp; done) | (simp; omega)) _)⟩
set_option maxHeartbeats 1000000 in
set_option maxRecDepth 100000 in
theorem unesc_4 (s : ByteArray) (w : World) (h : Esc w) (h0 : 0 < s.size) (hx : (s[0]'h0).toNat = 116) :
    Calls Tryz.prog 49 #[.string s] w fun e w' => e = .returned (.tuple #[.int .u8 9, .int .i64 1]) ∧ Below w.heap.size w w' := by
  obtain ⟨e0, e1, e2, e3, e4, e5, e6, e7, e8, e9⟩ := h
  have q0 : s.toList.isEmpty = false := by
    rw [List.isEmpty_eq_false_iff]; intro h
    rw [Lib.toList_data] at h
    have := congrArg List.length h
    rw [← Lib.size_eq, List.length_nil] at this; omega
  go_enter Tryz.func49, Tryz.ntmps49
  go_wp2
  refine wp_loop_rounds 6 ?_
  rw [rounds_succ]
  go_wp2
  go_quiet (fail)
  go_wp2
  rw [rounds_succ]
  go_wp2
  go_quiet (fail)
  go_wp2
  rw [rounds_succ]
  go_wp2
  go_quiet (fail)
  go_wp2
  rw [rounds_succ]
  go_wp2
  go_quiet (fail)
  go_wp2
  rw [rounds_succ]
  go_wp2
  go_quiet (fail)
  go_wp2
  go_ret2
  exact ⟨rfl, by repeat (first | exact Below.refl _ _ | refine pw_below_drewN ?_ _ | refine Below.alloc ?_ (by first | (simp; done) | (simp; omega)) _)⟩
set_option maxHeartbeats 1000000 in
set_option maxRecDepth 100000 in
theorem unesc_other (s : ByteArray) (w : World) (h : Esc w) (h0 : 0 < s.size) (n0 : (s[0]'h0).toNat ≠ 34) (n1 : (s[0]'h0).toNat ≠ 92) (n2 : (s[0]'h0).toNat ≠ 110) (n3 : (s[0]'h0).toNat ≠ 114) (n4 : (s[0]'h0).toNat ≠ 116) (hx : (s[0]'h0).toNat ≠ 120) :
    Calls Tryz.prog 49 #[.string s] w fun e w' => e = .returned (.tuple #[.int .u8 0, .int .i64 0]) ∧ Below w.heap.size w w' := by
  obtain ⟨e0, e1, e2, e3, e4, e5, e6, e7, e8, e9⟩ := h
  have q0 : s.toList.isEmpty = false := by
    rw [List.isEmpty_eq_false_iff]; intro h
    rw [Lib.toList_data] at h
    have := congrArg List.length h
    rw [← Lib.size_eq, List.length_nil] at this; omega
  have b0 : ((34 : Int) == ((s[0]'h0).toNat : Int)) = false := beq_eq_false_iff_ne.mpr (by omega)
  have b1 : ((92 : Int) == ((s[0]'h0).toNat : Int)) = false := beq_eq_false_iff_ne.mpr (by omega)
  have b2 : ((110 : Int) == ((s[0]'h0).toNat : Int)) = false := beq_eq_false_iff_ne.mpr (by omega)
  have b3 : ((114 : Int) == ((s[0]'h0).toNat : Int)) = false := beq_eq_false_iff_ne.mpr (by omega)
  have b4 : ((116 : Int) == ((s[0]'h0).toNat : Int)) = false := beq_eq_false_iff_ne.mpr (by omega)
  have bx : (((s[0]'h0).toNat : Int) == 120) = false := beq_eq_false_iff_ne.mpr (by omega)
  go_enter Tryz.func49, Tryz.ntmps49
  go_wp2
  refine wp_loop_rounds 6 ?_
  rw [rounds_succ]
  go_wp2
  go_quiet (fail)
  go_wp2
  rw [rounds_succ]
  go_wp2
  go_quiet (fail)
  go_wp2
  rw [rounds_succ]
  go_wp2
  go_quiet (fail)
  go_wp2
  rw [rounds_succ]
  go_wp2
  go_quiet (fail)
  go_wp2
  rw [rounds_succ]
  go_wp2
  go_quiet (fail)
  go_wp2
  rw [rounds_succ]
  go_wp2
  go_ret2
  exact ⟨rfl, by repeat (first | exact Below.refl _ _ | refine pw_below_drewN ?_ _ | refine Below.alloc ?_ (by first | (simp; done) | (simp; omega)) _)⟩
set_option maxHeartbeats 1000000 in
set_option maxRecDepth 100000 in
theorem unesc_short (s : ByteArray) (w : World) (h : Esc w) (h0 : 0 < s.size) (hx : (s[0]'h0).toNat = 120) (h3 : s.size < 3) :
    Calls Tryz.prog 49 #[.string s] w fun e w' => e = .returned (.tuple #[.int .u8 0, .int .i64 0]) ∧ Below w.heap.size w w' := by
  obtain ⟨e0, e1, e2, e3, e4, e5, e6, e7, e8, e9⟩ := h
  have q0 : s.toList.isEmpty = false := by
    rw [List.isEmpty_eq_false_iff]; intro h
    rw [Lib.toList_data] at h
    have := congrArg List.length h
    rw [← Lib.size_eq, List.length_nil] at this; omega
  have b0 : ((34 : Int) == ((s[0]'h0).toNat : Int)) = false := beq_eq_false_iff_ne.mpr (by omega)
  have b1 : ((92 : Int) == ((s[0]'h0).toNat : Int)) = false := beq_eq_false_iff_ne.mpr (by omega)
  have b2 : ((110 : Int) == ((s[0]'h0).toNat : Int)) = false := beq_eq_false_iff_ne.mpr (by omega)
  have b3 : ((114 : Int) == ((s[0]'h0).toNat : Int)) = false := beq_eq_false_iff_ne.mpr (by omega)
  have b4 : ((116 : Int) == ((s[0]'h0).toNat : Int)) = false := beq_eq_false_iff_ne.mpr (by omega)
  have b5 : decide ((s.size : Int) < 3) = true := decide_eq_true (by omega)
  go_enter Tryz.func49, Tryz.ntmps49
  go_wp2
  refine wp_loop_rounds 6 ?_
  rw [rounds_succ]
  go_wp2
  go_quiet (fail)
  go_wp2
  rw [rounds_succ]
  go_wp2
  go_quiet (fail)
  go_wp2
  rw [rounds_succ]
  go_wp2
  go_quiet (fail)
  go_wp2
  rw [rounds_succ]
  go_wp2
  go_quiet (fail)
  go_wp2
  rw [rounds_succ]
  go_wp2
  go_quiet (fail)
  go_wp2
  rw [rounds_succ]
  go_wp2
  go_ret2
  exact ⟨rfl, by repeat (first | exact Below.refl _ _ | refine pw_below_drewN ?_ _ | refine Below.alloc ?_ (by first | (simp; done) | (simp; omega)) _)⟩
set_option maxHeartbeats 1000000 in
set_option maxRecDepth 100000 in
theorem unesc_hex (s : ByteArray) (w : World) (h : Esc w) (h0 : 0 < s.size) (hx : (s[0]'h0).toNat = 120) (h3 : 3 ≤ s.size) :
    Calls Tryz.prog 49 #[.string s] w fun e w' => e = .returned (.tuple #[.int .u8 (hexR (hexV s[1]) (hexV s[2])).1, .int .i64 (hexR (hexV s[1]) (hexV s[2])).2]) ∧ Below w.heap.size w w' := by
  have HE := Aside0.mk h
  obtain ⟨e0, e1, e2, e3, e4, e5, e6, e7, e8, e9⟩ := h
  have q0 : s.toList.isEmpty = false := by
    rw [List.isEmpty_eq_false_iff]; intro h
    rw [Lib.toList_data] at h
    have := congrArg List.length h
    rw [← Lib.size_eq, List.length_nil] at this; omega
  have b0 : ((34 : Int) == ((s[0]'h0).toNat : Int)) = false := beq_eq_false_iff_ne.mpr (by omega)
  have b1 : ((92 : Int) == ((s[0]'h0).toNat : Int)) = false := beq_eq_false_iff_ne.mpr (by omega)
  have b2 : ((110 : Int) == ((s[0]'h0).toNat : Int)) = false := beq_eq_false_iff_ne.mpr (by omega)
  have b3 : ((114 : Int) == ((s[0]'h0).toNat : Int)) = false := beq_eq_false_iff_ne.mpr (by omega)
  have b4 : ((116 : Int) == ((s[0]'h0).toNat : Int)) = false := beq_eq_false_iff_ne.mpr (by omega)
  have i1 : (1 : Int) < s.size := by omega
  have i2 : (2 : Int) < s.size := by omega
  have b5 : decide ((s.size : Int) < 3) = false := decide_eq_false (by omega)
  obtain ⟨R, hR⟩ : ∃ R, hexR (hexV s[1]) (hexV s[2]) = R := ⟨_, rfl⟩
  rw [hR]
  have HR := Aside0.mk hR
  clear hR
  go_enter Tryz.func49, Tryz.ntmps49
  go_wp2
  refine wp_loop_rounds 6 ?_
  rw [rounds_succ]
  go_wp2
  go_quiet (fail)
  go_wp2
  rw [rounds_succ]
  go_wp2
  go_quiet (fail)
  go_wp2
  rw [rounds_succ]
  go_wp2
  go_quiet (fail)
  go_wp2
  rw [rounds_succ]
  go_wp2
  go_quiet (fail)
  go_wp2
  rw [rounds_succ]
  go_wp2
  go_quiet (fail)
  go_wp2
  rw [rounds_succ]
  go_wp2
  refine name_world (n := w.heap.size) (W0 := w) (G := fun V => Code.wp _ _ _ _ V) (by repeat (first | exact Below.refl _ _ | refine pw_below_drewN ?_ _ | refine Below.alloc ?_ (by first | (simp; done) | (simp; omega)) _)) ?_
  intro V HB
  replace HB := Aside0.mk HB
  clear e0 e1 e2 e3 e4 e5 e6 e7 e8 e9 b0 b1 b2 b3 b4
  go_quiet (first | (refine (hex_calls _ _).mono ?_; rintro e w2 ⟨rfl, rfl⟩; exact ⟨rfl, _, rfl⟩))
  generalize hexV s[1] = H at HR ⊢
  generalize hexV s[2] = L at HR ⊢
  have HE2 := Aside0.mk (HE.out.stay (pw_below_drewN HB.out nq))
  by_cases hh : H < 0
  · have bh : decide (H < 0) = true := decide_eq_true hh
    have hr : Aside0 (R = (0, 0)) := ⟨by rw [← HR.out]; unfold hexR; rw [if_pos (.inl hh)]⟩
    clear hh
    go_wp2
    go_ret2
    rw [hr.out]
    exact ⟨rfl, pw_below_drewN HB.out _⟩
  by_cases hl : L < 0
  · have bh : decide (H < 0) = false := decide_eq_false hh
    have bl : decide (L < 0) = true := decide_eq_true hl
    have hr : Aside0 (R = (0, 0)) := ⟨by rw [← HR.out]; unfold hexR; rw [if_pos (.inr hl)]⟩
    clear hh hl
    go_wp2
    go_ret2
    rw [hr.out]
    exact ⟨rfl, pw_below_drewN HB.out _⟩
  have bh : decide (H < 0) = false := decide_eq_false hh
  have bl : decide (L < 0) = false := decide_eq_false hl
  have hR2 : hexR H L = if plainP (hexC H L) = true ∨ letterP (hexC H L) ≠ 0 then (0, 0) else (hexC H L, 3) := by unfold hexR; rw [if_neg (by omega)]
  rw [hR2] at HR
  clear hR2 hh hl
  have hC : bits BinOp.or IntKind.i64 (wrap64 (H * 16)) L % 256 = hexC H L := rfl
  generalize hexC H L = C at HR hC
  have HPl := fun W => plain_calls C W
  have HLt := letter_calls C _ HE2.out
  by_cases hp : plainP C = true
  · rw [hp] at HPl
    have hr : Aside0 (R = (0, 0)) := ⟨by rw [← HR.out]; rw [if_pos (.inl hp)]⟩
    replace HPl := Aside0.mk HPl
    clear hp HLt
    go_wp2_with (go_at_call 26; refine (HPl.out _).mono ?_; rintro e w2 ⟨rfl, rfl⟩)
    go_ret2
    rw [hr.out]
    exact ⟨rfl, pw_below_drewN HB.out _⟩
  have hp' : plainP C = false := by simpa using hp
  rw [hp'] at HPl
  by_cases hz : letterP C = 0
  · rw [hz] at HLt
    have hr : Aside0 (R = (C, 3)) := ⟨by rw [← HR.out]; rw [if_neg (by rw [hz]; simp [hp])]⟩
    replace HPl := Aside0.mk HPl
    replace HLt := Aside0.mk HLt
    clear hp hp' hz
    go_wp2_with (first
      | (go_at_call 26; refine (HPl.out _).mono ?_; rintro e w2 ⟨rfl, rfl⟩)
      | (go_at_call 25; refine HLt.out.mono ?_; rintro e w3 ⟨rfl, hb⟩; have HB3 := Aside0.mk (below_step (pw_below_drewN HB.out nq) hb); clear hb))
    go_ret2
    rw [hr.out]
    exact ⟨rfl, HB3.out⟩
  · have hr : Aside0 (R = (0, 0)) := ⟨by rw [← HR.out]; rw [if_pos (.inr hz)]⟩
    have bz : (letterP C == 0) = false := beq_eq_false_iff_ne.mpr hz
    generalize letterP C = lt at HLt bz
    replace HPl := Aside0.mk HPl
    replace HLt := Aside0.mk HLt
    clear hp hp' hz
    go_wp2_with (first
      | (go_at_call 26; refine (HPl.out _).mono ?_; rintro e w2 ⟨rfl, rfl⟩)
      | (go_at_call 25; refine HLt.out.mono ?_; rintro e w3 ⟨rfl, hb⟩; have HB3 := Aside0.mk (below_step (pw_below_drewN HB.out nq) hb); clear hb))
    go_ret2
    rw [hr.out]
    exact ⟨rfl, HB3.out⟩
end Go.Proofs.YtciaocdpojnmcaaGreatDoor.P.Wd
