import Derived.Test.YtciaocdpojnmcaaGreatDoorKK24
import Derived.Test.YtciaocdpojnmcaaGreatDoorKK19
namespace Go.Proofs.YtciaocdpojnmcaaGreatDoor.P.Wd
open Go.RowKit Go.Shelf Go.Proofs.YtciaocdpojnmcaaGreatDoorW.PrintWords Go.Proofs.YtciaocdpojnmcaaGreatDoorW.PrintLast Go.Proofs.YtciaocdpojnmcaaGreatDoorW.PrintMore
set_option linter.unusedVariables false
set_option linter.unusedSimpArgs false
/-- words.unescape. -/
def unescP (s : ByteArray) : Int × Int :=
  if h : 0 < s.size then
    if (s[0]'h).toNat = 34 then (34, 1) else if (s[0]'h).toNat = 92 then (92, 1) else if (s[0]'h).toNat = 110 then (10, 1)
    else if (s[0]'h).toNat = 114 then (13, 1) else if (s[0]'h).toNat = 116 then (9, 1)
    else if (s[0]'h).toNat = 120 then (if h3 : 3 ≤ s.size then hexR (hexV (s[1]'(by omega))) (hexV (s[2]'(by omega))) else (0, 0)) else (0, 0)
  else (0, 0)
theorem unesc_nil (s : ByteArray) (w : World) (h0 : ¬ 0 < s.size) :
    Calls Tryz.prog 49 #[.string s] w fun e w' => e = .returned (.tuple #[.int .u8 0, .int .i64 0]) ∧ Below w.heap.size w w' := by
  have hs0 : s = ⟨#[]⟩ := by
    have hd : s.data.toList = [] := List.length_eq_zero_iff.1 (by rw [← Lib.size_eq]; omega)
    rw [← Lib.mk_data s, hd]
  subst hs0
  clear h0
  go_enter Tryz.func49, Tryz.ntmps49
  go_wp2
  go_ret2
  exact ⟨rfl, Below.refl _ _⟩
theorem unesc_calls (s : ByteArray) (w : World) (h : Esc w) :
    Calls Tryz.prog 49 #[.string s] w fun e w' => e = .returned (.tuple #[.int .u8 (unescP s).1, .int .i64 (unescP s).2]) ∧ Below w.heap.size w w' := by
  unfold unescP
  by_cases h0 : 0 < s.size
  · rw [dif_pos h0]
    by_cases c0 : (s[0]'h0).toNat = 34
    · rw [if_pos c0]; exact unesc_0 s w h h0 c0
    rw [if_neg c0]
    by_cases c1 : (s[0]'h0).toNat = 92
    · rw [if_pos c1]; exact unesc_1 s w h h0 c1
    rw [if_neg c1]
    by_cases c2 : (s[0]'h0).toNat = 110
    · rw [if_pos c2]; exact unesc_2 s w h h0 c2
    rw [if_neg c2]
    by_cases c3 : (s[0]'h0).toNat = 114
    · rw [if_pos c3]; exact unesc_3 s w h h0 c3
    rw [if_neg c3]
    by_cases c4 : (s[0]'h0).toNat = 116
    · rw [if_pos c4]; exact unesc_4 s w h h0 c4
    rw [if_neg c4]
    by_cases c5 : (s[0]'h0).toNat = 120
    · rw [if_pos c5]
      by_cases h3 : 3 ≤ s.size
      · rw [dif_pos h3]; exact unesc_hex s w h h0 c5 h3
      · rw [dif_neg h3]; exact unesc_short s w h h0 c5 (by omega)
    · rw [if_neg c5]; exact unesc_other s w h h0 c0 c1 c2 c3 c4 c5
  · rw [dif_neg h0]; exact unesc_nil s w h0
theorem pi_ok (a0 : ByteArray) (hs : a0.size ≤ 281474976710656) (v : Int) (hp : Lib.parseIntB 64 a0.data.toList = .ok v) (w : World) :
    Calls Tryz.prog 38 #[.string a0, .int .i64 10, .int .i64 64] w fun e w' => e = .returned (.tuple #[.int .i64 v, .nilIface]) ∧ Below w.heap.size w w' := by
  have h := Any.strconv_ParseInt_10_at64_ok Tryz.laysC174 a0 (by omega) v hp w
  refine Calls.mono (f := 38) h ?_
  rintro e w2 ⟨rfl, h3⟩
  refine ⟨rfl, ?_⟩
  rcases h3 with rfl | ⟨t, rfl⟩
  · exact Below.refl _ _
  · exact Lib.bytesWorld_below _ _ _
theorem pi_range (a0 : ByteArray) (hs : a0.size ≤ 281474976710656) (hp : Lib.parseIntB 64 a0.data.toList = .range) (w : World) (ht : All w) :
    Calls Tryz.prog 38 #[.string a0, .int .i64 10, .int .i64 64] w fun e w' => ∃ p : Value, e = .returned (.tuple #[.int .i64 (Lib.intSat 64 a0.data.toList), .iface 109 p]) ∧ Below w.heap.size w w' := by
  obtain ⟨tp, pv, hv⟩ := ht.rng
  have h := Any.strconv_ParseInt_10_at64_range Tryz.laysC174 a0 hs hp (.iface tp pv) w hv (.inr ⟨tp, pv, rfl⟩)
  refine Calls.mono (f := 38) h ?_
  rintro e w2 ⟨N, rfl, h1, h2, h3⟩
  exact ⟨_, rfl, h3⟩
end Go.Proofs.YtciaocdpojnmcaaGreatDoor.P.Wd
