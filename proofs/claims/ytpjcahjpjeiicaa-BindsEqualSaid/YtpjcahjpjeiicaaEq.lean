/- It is proved that Same is reflexive, symmetric and transitive as BindsEqual asks: the walk through BindsEqual. -/
import Derived.Test.YtpjcahjpjeiicaaPx2
import Derived.Test.YtpjcahjpjeiicaaPx14
import Derived.Test.YtpjcahjpjeiicaaPx18
import Derived.Test.YtpjcahjpjeiicaaL0
import Derived.LoopN
import Derived.Handy
set_option maxRecDepth 100000
set_option maxHeartbeats 80000000
namespace Go.Proofs.Ytpjcahjpjeiicaa.P
open Go.RowKit Go.Proofs.YtpjcahjpjeiicaaW.PrintWords Go.Proofs.YtpjcahjpjeiicaaW.PrintLast Go.Proofs.YtpjcahjpjeiicaaW.PrintMore
attribute [local go_sem] max2_int min2_int max_two min_two max_three min_three max_four min_four
set_option linter.unusedVariables false
set_option linter.unusedSimpArgs false
/-! ### Same by a key -/
def kap (l : List S24) (n s : ByteArray) : Int ⊕ List UInt8 := if (resSpec l n s).2 = 0 then .inl (resSpec l n s).1 else .inr n.toList
theorem same_key {l : List S24} {an sa bn sb : ByteArray} (h : (sameSpec l an sa bn sb).2 = 0) : (sameSpec l an sa bn sb).1 = decide (kap l an sa = kap l bn sb) := by
  unfold sameSpec at h ⊢
  by_cases c1 : askSpec l sa = 0
  · rw [if_pos c1] at h ⊢
    by_cases c2 : askSpec l sb = 0
    · rw [if_pos c2] at h ⊢
      have ra := resSpec_codes (n := an) c1
      have rb := resSpec_codes (n := bn) c2
      unfold same2 at h ⊢
      unfold kap
      by_cases d1 : (resSpec l an sa).2 = 11
      · rw [if_pos d1] at h; cases h
      · rw [if_neg d1] at h ⊢
        by_cases d2 : (resSpec l bn sb).2 = 11
        · rw [if_pos d2] at h; cases h
        · rw [if_neg d2] at h ⊢
          by_cases d3 : (resSpec l an sa).2 = 0
          · rw [if_pos d3, if_pos d3]
            by_cases d4 : (resSpec l bn sb).2 = 0
            · rw [if_pos d4, if_pos d4]
              rw [Bool.eq_iff_iff]; simp
            · rw [if_neg d4, if_neg d4, if_neg (by omega)]
              simp
          · rw [if_neg d3, if_neg d3]
            by_cases d4 : (resSpec l bn sb).2 = 0
            · rw [if_pos d4, if_neg (by omega)]
              simp
            · rw [if_neg d4, if_pos (by omega)]
              rw [Bool.eq_iff_iff]; simp
    · rw [if_neg c2] at h; exact absurd h c2
  · rw [if_neg c1] at h; exact absurd h c1
theorem same_bad {l : List S24} {an sa bn sb : ByteArray} (h : (sameSpec l an sa bn sb).2 ≠ 0) : (sameSpec l an sa bn sb).1 = false := by
  unfold sameSpec at h ⊢
  by_cases c1 : askSpec l sa = 0
  · rw [if_pos c1] at h ⊢
    by_cases c2 : askSpec l sb = 0
    · rw [if_pos c2] at h ⊢
      unfold same2 at h ⊢
      by_cases d1 : (resSpec l an sa).2 = 11
      · rw [if_pos d1]
      · rw [if_neg d1] at h ⊢
        by_cases d2 : (resSpec l bn sb).2 = 11
        · rw [if_pos d2]
        · rw [if_neg d2] at h
          split at h <;> split at h <;> first | exact absurd rfl h | (split at h <;> exact absurd rfl h)
    · rw [if_neg c2]
  · rw [if_neg c1]
theorem via_meet {A : Prop} {F : World → Prop} (G : World → Prop) (h1 : (∀ wz, F wz → G wz) → A) (h2 : ∀ wz, F wz → G wz) : A := h1 h2
def eqT20 : Bool × List (List Nat × List Nat) := (true, [([], []), ([], []), ([0, 1], [0, 1]), ([2], [2]), ([3], [3]), ([3], [3]), ([4, 3], [3, 4]), ([6, 5, 3], [3, 5, 6]), ([7, 3], [3, 7]), ([8, 3], [3, 8]), ([3, 9], [3, 9]), ([10, 3], [10]), ([11], [11]), ([11], [11]), ([12, 11], [11, 12]), ([14, 13, 11], [11, 13, 14]), ([15, 11], [11, 15]), ([11], [11]), ([11], [11]), ([17, 11], [11, 17]), ([19, 18, 11], [11, 18, 19]), ([20, 11], [11, 20]), ([16, 21, 11], [11, 16, 21]), ([11, 22], [11, 22]), ([23, 11], [23]), ([24], [24]), ([24], [24]), ([25, 24], [24, 25]), ([27, 26, 24], [24, 26, 27]), ([28, 24], [24, 28]), ([29, 24, 24], [24, 29]), ([30], [30]), ([30], [30]), ([32, 30], [30, 32]), ([33, 30], [30, 33]), ([31, 30], [30, 31]), ([35, 34, 30], [30, 34, 35]), ([36, 30], [30, 36]), ([30, 37, 24], [24, 30, 37]), ([38, 30, 24], [24, 38]), ([39], [39]), ([39], [39]), ([41, 39], [39, 41]), ([42, 39], [39, 42]), ([40, 39], [39, 40]), ([44, 43, 39], [39, 43, 44]), ([45, 39], [39, 45]), ([46, 39], [39, 46]), ([39, 47, 24], [24, 39, 47]), ([24, 48], [24, 48])])
def eqB20 : List Nat := [0, 0, 3, 7, 15, 15, 31, 127, 255, 511, 1023, 2047, 4095, 4095, 8191, 32767, 65535, 4095, 4095, 135167, 921599, 1970175, 4194303, 8388607, 16777215, 33554431, 33554431, 67108863, 268435455, 536870911, 1073741823, 2147483647, 2147483647, 6442450943, 15032385535, 4294967295, 68719476735, 137438953471, 274877906943, 549755813887, 1099511627775, 1099511627775, 3298534883327, 7696581394431, 2199023255551, 35184372088831, 70368744177663, 140737488355327, 281474976710655, 562949953421311]
theorem eqtab20 : rtab .any (opsOf Try.f8 20) = eqT20 := by kernel_rfl
theorem eqbits20 : waitsOk eqT20.2 eqB20 = true := by kernel_rfl
abbrev eqd0 : Array Bool := #[Z,Z,Z,Z,Z,Z,Z,Z,Z,Z,Z,Z,Z,Z,Z,Z,Z,Z,Z,Z,Z,Z,Z,Z,Z,Z,Z,Z,Z,Z,Z,Z,Z,Z,Z,Z,Z,Z,Z,Z,Z,Z,Z,Z,Z,Z,Z,Z,Z,Z]
abbrev eqd1 : Array Bool := #[Y,Z,Z,Z,Z,Z,Z,Z,Z,Z,Z,Z,Z,Z,Z,Z,Z,Z,Z,Z,Z,Z,Z,Z,Z,Z,Z,Z,Z,Z,Z,Z,Z,Z,Z,Z,Z,Z,Z,Z,Z,Z,Z,Z,Z,Z,Z,Z,Z,Z]
abbrev eqd2 : Array Bool := #[Y,Y,Z,Z,Z,Z,Z,Z,Z,Z,Z,Z,Z,Z,Z,Z,Z,Z,Z,Z,Z,Z,Z,Z,Z,Z,Z,Z,Z,Z,Z,Z,Z,Z,Z,Z,Z,Z,Z,Z,Z,Z,Z,Z,Z,Z,Z,Z,Z,Z]
abbrev eqd3 : Array Bool := #[Y,Y,Y,Z,Z,Z,Z,Z,Z,Z,Z,Z,Z,Z,Z,Z,Z,Z,Z,Z,Z,Z,Z,Z,Z,Z,Z,Z,Z,Z,Z,Z,Z,Z,Z,Z,Z,Z,Z,Z,Z,Z,Z,Z,Z,Z,Z,Z,Z,Z]
abbrev eqd4 : Array Bool := #[Y,Y,Y,Y,Z,Z,Z,Z,Z,Z,Z,Z,Z,Z,Z,Z,Z,Z,Z,Z,Z,Z,Z,Z,Z,Z,Z,Z,Z,Z,Z,Z,Z,Z,Z,Z,Z,Z,Z,Z,Z,Z,Z,Z,Z,Z,Z,Z,Z,Z]
abbrev eqd5 : Array Bool := #[Y,Y,Y,Y,Y,Z,Z,Z,Z,Z,Z,Z,Z,Z,Z,Z,Z,Z,Z,Z,Z,Z,Z,Z,Z,Z,Z,Z,Z,Z,Z,Z,Z,Z,Z,Z,Z,Z,Z,Z,Z,Z,Z,Z,Z,Z,Z,Z,Z,Z]
abbrev eqd6 : Array Bool := #[Y,Y,Y,Y,Y,Y,Z,Z,Z,Z,Z,Z,Z,Z,Z,Z,Z,Z,Z,Z,Z,Z,Z,Z,Z,Z,Z,Z,Z,Z,Z,Z,Z,Z,Z,Z,Z,Z,Z,Z,Z,Z,Z,Z,Z,Z,Z,Z,Z,Z]
abbrev eqd7 : Array Bool := #[Y,Y,Y,Y,Y,Y,Y,Z,Z,Z,Z,Z,Z,Z,Z,Z,Z,Z,Z,Z,Z,Z,Z,Z,Z,Z,Z,Z,Z,Z,Z,Z,Z,Z,Z,Z,Z,Z,Z,Z,Z,Z,Z,Z,Z,Z,Z,Z,Z,Z]
abbrev eqd8 : Array Bool := #[Y,Y,Y,Y,Y,Y,Y,Y,Z,Z,Z,Z,Z,Z,Z,Z,Z,Z,Z,Z,Z,Z,Z,Z,Z,Z,Z,Z,Z,Z,Z,Z,Z,Z,Z,Z,Z,Z,Z,Z,Z,Z,Z,Z,Z,Z,Z,Z,Z,Z]
abbrev eqd9 : Array Bool := #[Y,Y,Y,Y,Y,Y,Y,Y,Y,Z,Z,Z,Z,Z,Z,Z,Z,Z,Z,Z,Z,Z,Z,Z,Z,Z,Z,Z,Z,Z,Z,Z,Z,Z,Z,Z,Z,Z,Z,Z,Z,Z,Z,Z,Z,Z,Z,Z,Z,Z]
abbrev eqd10 : Array Bool := #[Y,Y,Y,Y,Y,Y,Y,Y,Y,Y,Z,Z,Z,Z,Z,Z,Z,Z,Z,Z,Z,Z,Z,Z,Z,Z,Z,Z,Z,Z,Z,Z,Z,Z,Z,Z,Z,Z,Z,Z,Z,Z,Z,Z,Z,Z,Z,Z,Z,Z]
abbrev eqd11 : Array Bool := #[Y,Y,Y,Y,Y,Y,Y,Y,Y,Y,Y,Z,Z,Z,Z,Z,Z,Z,Z,Z,Z,Z,Z,Z,Z,Z,Z,Z,Z,Z,Z,Z,Z,Z,Z,Z,Z,Z,Z,Z,Z,Z,Z,Z,Z,Z,Z,Z,Z,Z]
abbrev eqd12 : Array Bool := #[Y,Y,Y,Y,Y,Y,Y,Y,Y,Y,Y,Y,Z,Z,Z,Z,Z,Z,Z,Z,Z,Z,Z,Z,Z,Z,Z,Z,Z,Z,Z,Z,Z,Z,Z,Z,Z,Z,Z,Z,Z,Z,Z,Z,Z,Z,Z,Z,Z,Z]
abbrev eqd13 : Array Bool := #[Y,Y,Y,Y,Y,Y,Y,Y,Y,Y,Y,Y,Y,Z,Z,Z,Z,Z,Z,Z,Z,Z,Z,Z,Z,Z,Z,Z,Z,Z,Z,Z,Z,Z,Z,Z,Z,Z,Z,Z,Z,Z,Z,Z,Z,Z,Z,Z,Z,Z]
abbrev eqd14 : Array Bool := #[Y,Y,Y,Y,Y,Y,Y,Y,Y,Y,Y,Y,Y,Y,Z,Z,Z,Z,Z,Z,Z,Z,Z,Z,Z,Z,Z,Z,Z,Z,Z,Z,Z,Z,Z,Z,Z,Z,Z,Z,Z,Z,Z,Z,Z,Z,Z,Z,Z,Z]
abbrev eqd15 : Array Bool := #[Y,Y,Y,Y,Y,Y,Y,Y,Y,Y,Y,Y,Y,Y,Y,Z,Z,Z,Z,Z,Z,Z,Z,Z,Z,Z,Z,Z,Z,Z,Z,Z,Z,Z,Z,Z,Z,Z,Z,Z,Z,Z,Z,Z,Z,Z,Z,Z,Z,Z]
abbrev eqd16 : Array Bool := #[Y,Y,Y,Y,Y,Y,Y,Y,Y,Y,Y,Y,Y,Y,Y,Y,Z,Z,Z,Z,Z,Z,Z,Z,Z,Z,Z,Z,Z,Z,Z,Z,Z,Z,Z,Z,Z,Z,Z,Z,Z,Z,Z,Z,Z,Z,Z,Z,Z,Z]
abbrev eqd17 : Array Bool := #[Y,Y,Y,Y,Y,Y,Y,Y,Y,Y,Y,Y,Y,Y,Y,Y,Y,Z,Z,Z,Z,Z,Z,Z,Z,Z,Z,Z,Z,Z,Z,Z,Z,Z,Z,Z,Z,Z,Z,Z,Z,Z,Z,Z,Z,Z,Z,Z,Z,Z]
abbrev eqd18 : Array Bool := #[Y,Y,Y,Y,Y,Y,Y,Y,Y,Y,Y,Y,Y,Y,Y,Y,Y,Y,Z,Z,Z,Z,Z,Z,Z,Z,Z,Z,Z,Z,Z,Z,Z,Z,Z,Z,Z,Z,Z,Z,Z,Z,Z,Z,Z,Z,Z,Z,Z,Z]
abbrev eqd19 : Array Bool := #[Y,Y,Y,Y,Y,Y,Y,Y,Y,Y,Y,Y,Y,Y,Y,Y,Y,Y,Y,Z,Z,Z,Z,Z,Z,Z,Z,Z,Z,Z,Z,Z,Z,Z,Z,Z,Z,Z,Z,Z,Z,Z,Z,Z,Z,Z,Z,Z,Z,Z]
abbrev eqd20 : Array Bool := #[Y,Y,Y,Y,Y,Y,Y,Y,Y,Y,Y,Y,Y,Y,Y,Y,Y,Y,Y,Y,Z,Z,Z,Z,Z,Z,Z,Z,Z,Z,Z,Z,Z,Z,Z,Z,Z,Z,Z,Z,Z,Z,Z,Z,Z,Z,Z,Z,Z,Z]
abbrev eqd21 : Array Bool := #[Y,Y,Y,Y,Y,Y,Y,Y,Y,Y,Y,Y,Y,Y,Y,Y,Y,Y,Y,Y,Y,Z,Z,Z,Z,Z,Z,Z,Z,Z,Z,Z,Z,Z,Z,Z,Z,Z,Z,Z,Z,Z,Z,Z,Z,Z,Z,Z,Z,Z]
abbrev eqd22 : Array Bool := #[Y,Y,Y,Y,Y,Y,Y,Y,Y,Y,Y,Y,Y,Y,Y,Y,Y,Y,Y,Y,Y,Y,Z,Z,Z,Z,Z,Z,Z,Z,Z,Z,Z,Z,Z,Z,Z,Z,Z,Z,Z,Z,Z,Z,Z,Z,Z,Z,Z,Z]
abbrev eqd23 : Array Bool := #[Y,Y,Y,Y,Y,Y,Y,Y,Y,Y,Y,Y,Y,Y,Y,Y,Y,Y,Y,Y,Y,Y,Y,Z,Z,Z,Z,Z,Z,Z,Z,Z,Z,Z,Z,Z,Z,Z,Z,Z,Z,Z,Z,Z,Z,Z,Z,Z,Z,Z]
abbrev eqd24 : Array Bool := #[Y,Y,Y,Y,Y,Y,Y,Y,Y,Y,Y,Y,Y,Y,Y,Y,Y,Y,Y,Y,Y,Y,Y,Y,Z,Z,Z,Z,Z,Z,Z,Z,Z,Z,Z,Z,Z,Z,Z,Z,Z,Z,Z,Z,Z,Z,Z,Z,Z,Z]
abbrev eqd25 : Array Bool := #[Y,Y,Y,Y,Y,Y,Y,Y,Y,Y,Y,Y,Y,Y,Y,Y,Y,Y,Y,Y,Y,Y,Y,Y,Y,Z,Z,Z,Z,Z,Z,Z,Z,Z,Z,Z,Z,Z,Z,Z,Z,Z,Z,Z,Z,Z,Z,Z,Z,Z]
abbrev eqd26 : Array Bool := #[Y,Y,Y,Y,Y,Y,Y,Y,Y,Y,Y,Y,Y,Y,Y,Y,Y,Y,Y,Y,Y,Y,Y,Y,Y,Y,Z,Z,Z,Z,Z,Z,Z,Z,Z,Z,Z,Z,Z,Z,Z,Z,Z,Z,Z,Z,Z,Z,Z,Z]
abbrev eqd27 : Array Bool := #[Y,Y,Y,Y,Y,Y,Y,Y,Y,Y,Y,Y,Y,Y,Y,Y,Y,Y,Y,Y,Y,Y,Y,Y,Y,Y,Y,Z,Z,Z,Z,Z,Z,Z,Z,Z,Z,Z,Z,Z,Z,Z,Z,Z,Z,Z,Z,Z,Z,Z]
abbrev eqd28 : Array Bool := #[Y,Y,Y,Y,Y,Y,Y,Y,Y,Y,Y,Y,Y,Y,Y,Y,Y,Y,Y,Y,Y,Y,Y,Y,Y,Y,Y,Y,Z,Z,Z,Z,Z,Z,Z,Z,Z,Z,Z,Z,Z,Z,Z,Z,Z,Z,Z,Z,Z,Z]
abbrev eqd29 : Array Bool := #[Y,Y,Y,Y,Y,Y,Y,Y,Y,Y,Y,Y,Y,Y,Y,Y,Y,Y,Y,Y,Y,Y,Y,Y,Y,Y,Y,Y,Y,Z,Z,Z,Z,Z,Z,Z,Z,Z,Z,Z,Z,Z,Z,Z,Z,Z,Z,Z,Z,Z]
abbrev eqd30 : Array Bool := #[Y,Y,Y,Y,Y,Y,Y,Y,Y,Y,Y,Y,Y,Y,Y,Y,Y,Y,Y,Y,Y,Y,Y,Y,Y,Y,Y,Y,Y,Y,Z,Z,Z,Z,Z,Z,Z,Z,Z,Z,Z,Z,Z,Z,Z,Z,Z,Z,Z,Z]
abbrev eqd31 : Array Bool := #[Y,Y,Y,Y,Y,Y,Y,Y,Y,Y,Y,Y,Y,Y,Y,Y,Y,Y,Y,Y,Y,Y,Y,Y,Y,Y,Y,Y,Y,Y,Y,Z,Z,Z,Z,Z,Z,Z,Z,Z,Z,Z,Z,Z,Z,Z,Z,Z,Z,Z]
abbrev eqd32 : Array Bool := #[Y,Y,Y,Y,Y,Y,Y,Y,Y,Y,Y,Y,Y,Y,Y,Y,Y,Y,Y,Y,Y,Y,Y,Y,Y,Y,Y,Y,Y,Y,Y,Y,Z,Z,Z,Z,Z,Z,Z,Z,Z,Z,Z,Z,Z,Z,Z,Z,Z,Z]
abbrev eqd33 : Array Bool := #[Y,Y,Y,Y,Y,Y,Y,Y,Y,Y,Y,Y,Y,Y,Y,Y,Y,Y,Y,Y,Y,Y,Y,Y,Y,Y,Y,Y,Y,Y,Y,Y,Y,Z,Z,Z,Z,Z,Z,Z,Z,Z,Z,Z,Z,Z,Z,Z,Z,Z]
abbrev eqd34 : Array Bool := #[Y,Y,Y,Y,Y,Y,Y,Y,Y,Y,Y,Y,Y,Y,Y,Y,Y,Y,Y,Y,Y,Y,Y,Y,Y,Y,Y,Y,Y,Y,Y,Y,Y,Y,Z,Z,Z,Z,Z,Z,Z,Z,Z,Z,Z,Z,Z,Z,Z,Z]
abbrev eqd35 : Array Bool := #[Y,Y,Y,Y,Y,Y,Y,Y,Y,Y,Y,Y,Y,Y,Y,Y,Y,Y,Y,Y,Y,Y,Y,Y,Y,Y,Y,Y,Y,Y,Y,Y,Y,Y,Y,Z,Z,Z,Z,Z,Z,Z,Z,Z,Z,Z,Z,Z,Z,Z]
abbrev eqd36 : Array Bool := #[Y,Y,Y,Y,Y,Y,Y,Y,Y,Y,Y,Y,Y,Y,Y,Y,Y,Y,Y,Y,Y,Y,Y,Y,Y,Y,Y,Y,Y,Y,Y,Y,Y,Y,Y,Y,Z,Z,Z,Z,Z,Z,Z,Z,Z,Z,Z,Z,Z,Z]
abbrev eqd37 : Array Bool := #[Y,Y,Y,Y,Y,Y,Y,Y,Y,Y,Y,Y,Y,Y,Y,Y,Y,Y,Y,Y,Y,Y,Y,Y,Y,Y,Y,Y,Y,Y,Y,Y,Y,Y,Y,Y,Y,Z,Z,Z,Z,Z,Z,Z,Z,Z,Z,Z,Z,Z]
abbrev eqd38 : Array Bool := #[Y,Y,Y,Y,Y,Y,Y,Y,Y,Y,Y,Y,Y,Y,Y,Y,Y,Y,Y,Y,Y,Y,Y,Y,Y,Y,Y,Y,Y,Y,Y,Y,Y,Y,Y,Y,Y,Y,Z,Z,Z,Z,Z,Z,Z,Z,Z,Z,Z,Z]
abbrev eqd39 : Array Bool := #[Y,Y,Y,Y,Y,Y,Y,Y,Y,Y,Y,Y,Y,Y,Y,Y,Y,Y,Y,Y,Y,Y,Y,Y,Y,Y,Y,Y,Y,Y,Y,Y,Y,Y,Y,Y,Y,Y,Y,Z,Z,Z,Z,Z,Z,Z,Z,Z,Z,Z]
abbrev eqd40 : Array Bool := #[Y,Y,Y,Y,Y,Y,Y,Y,Y,Y,Y,Y,Y,Y,Y,Y,Y,Y,Y,Y,Y,Y,Y,Y,Y,Y,Y,Y,Y,Y,Y,Y,Y,Y,Y,Y,Y,Y,Y,Y,Z,Z,Z,Z,Z,Z,Z,Z,Z,Z]
abbrev eqd41 : Array Bool := #[Y,Y,Y,Y,Y,Y,Y,Y,Y,Y,Y,Y,Y,Y,Y,Y,Y,Y,Y,Y,Y,Y,Y,Y,Y,Y,Y,Y,Y,Y,Y,Y,Y,Y,Y,Y,Y,Y,Y,Y,Y,Z,Z,Z,Z,Z,Z,Z,Z,Z]
abbrev eqd42 : Array Bool := #[Y,Y,Y,Y,Y,Y,Y,Y,Y,Y,Y,Y,Y,Y,Y,Y,Y,Y,Y,Y,Y,Y,Y,Y,Y,Y,Y,Y,Y,Y,Y,Y,Y,Y,Y,Y,Y,Y,Y,Y,Y,Y,Z,Z,Z,Z,Z,Z,Z,Z]
abbrev eqd43 : Array Bool := #[Y,Y,Y,Y,Y,Y,Y,Y,Y,Y,Y,Y,Y,Y,Y,Y,Y,Y,Y,Y,Y,Y,Y,Y,Y,Y,Y,Y,Y,Y,Y,Y,Y,Y,Y,Y,Y,Y,Y,Y,Y,Y,Y,Z,Z,Z,Z,Z,Z,Z]
abbrev eqd44 : Array Bool := #[Y,Y,Y,Y,Y,Y,Y,Y,Y,Y,Y,Y,Y,Y,Y,Y,Y,Y,Y,Y,Y,Y,Y,Y,Y,Y,Y,Y,Y,Y,Y,Y,Y,Y,Y,Y,Y,Y,Y,Y,Y,Y,Y,Y,Z,Z,Z,Z,Z,Z]
abbrev eqd45 : Array Bool := #[Y,Y,Y,Y,Y,Y,Y,Y,Y,Y,Y,Y,Y,Y,Y,Y,Y,Y,Y,Y,Y,Y,Y,Y,Y,Y,Y,Y,Y,Y,Y,Y,Y,Y,Y,Y,Y,Y,Y,Y,Y,Y,Y,Y,Y,Z,Z,Z,Z,Z]
abbrev eqd46 : Array Bool := #[Y,Y,Y,Y,Y,Y,Y,Y,Y,Y,Y,Y,Y,Y,Y,Y,Y,Y,Y,Y,Y,Y,Y,Y,Y,Y,Y,Y,Y,Y,Y,Y,Y,Y,Y,Y,Y,Y,Y,Y,Y,Y,Y,Y,Y,Y,Z,Z,Z,Z]
abbrev eqd47 : Array Bool := #[Y,Y,Y,Y,Y,Y,Y,Y,Y,Y,Y,Y,Y,Y,Y,Y,Y,Y,Y,Y,Y,Y,Y,Y,Y,Y,Y,Y,Y,Y,Y,Y,Y,Y,Y,Y,Y,Y,Y,Y,Y,Y,Y,Y,Y,Y,Y,Z,Z,Z]
abbrev eqd48 : Array Bool := #[Y,Y,Y,Y,Y,Y,Y,Y,Y,Y,Y,Y,Y,Y,Y,Y,Y,Y,Y,Y,Y,Y,Y,Y,Y,Y,Y,Y,Y,Y,Y,Y,Y,Y,Y,Y,Y,Y,Y,Y,Y,Y,Y,Y,Y,Y,Y,Y,Z,Z]
abbrev eqd49 : Array Bool := #[Y,Y,Y,Y,Y,Y,Y,Y,Y,Y,Y,Y,Y,Y,Y,Y,Y,Y,Y,Y,Y,Y,Y,Y,Y,Y,Y,Y,Y,Y,Y,Y,Y,Y,Y,Y,Y,Y,Y,Y,Y,Y,Y,Y,Y,Y,Y,Y,Y,Z]
abbrev eqd50 : Array Bool := #[Y,Y,Y,Y,Y,Y,Y,Y,Y,Y,Y,Y,Y,Y,Y,Y,Y,Y,Y,Y,Y,Y,Y,Y,Y,Y,Y,Y,Y,Y,Y,Y,Y,Y,Y,Y,Y,Y,Y,Y,Y,Y,Y,Y,Y,Y,Y,Y,Y,Y]
theorem eq_pre (l0 : List S24) (hl : TB 150 l0) (hb : l0.length ≤ 2000) (x y : S24) (hx : x.f1.size ≤ 150) (hy : y.f1.size ≤ 150) : ∃ b e, Aside0 (binds_Same.f 9000000 l0 x.f0 x.f1 x.f2 x.f3 y.f0 y.f1 y.f2 y.f3 = some (b, e)) ∧ Aside0 (e ≠ 0 → b = false) ∧ Aside0 (e = 0 → b = decide (kap l0 x.f0 x.f1 = kap l0 y.f0 y.f1)) :=
  ⟨_, _, ⟨bSame_f 150 (by decide) l0 hl hb x.f0 x.f1 y.f0 y.f1 x.f2 x.f3 y.f2 y.f3 hx hy 9000000 (by omega)⟩, ⟨same_bad⟩, ⟨same_key⟩⟩
theorem mummerlaw11_BindsEqual.calls (A0 : Option Addr) (c0 : Nat) (l0 : List S24) (x0 x1 x2 : S24) (w : World) (hr0 : Kd.C k24 w A0 l0.length l0) (hc0 : l0.length ≤ c0) :
    Calls Try.prog 8 #[.slice A0 l0.length c0, .agg #[.string x0.f0, .string x0.f1, .int .i64 x0.f2, .int .i64 x0.f3, .string x1.f0, .string x1.f1, .int .i64 x1.f2, .int .i64 x1.f3, .string x2.f0, .string x2.f1, .int .i64 x2.f2, .int .i64 x2.f3]] w fun e w' => e = .returned (.bool true) ∧ Below w.heap.size w w' := by
  have hu24 := Try.underlying24
  have hu46 := Try.underlying46
  have HR0 := ak hr0
  have HC0 := ak hc0
  clear hr0 hc0
  have HB := ak (Below.refl w.heap.size w)
  obtain ⟨y1, hy1⟩ : ∃ y_ : List ByteArray, y_ = ([x0.f0, x0.f1, x1.f0, x1.f1, x2.f0, x2.f1] : List ByteArray) := ⟨_, rfl⟩
  have ly1 : y1.length = 6 := by rw [hy1]; rfl
  have Ny1 := ak hy1
  have AF := ak (far_f l0 y1 (by omega) 9000000 (by omega))
  have AW := ak (awake_f 9000000 (by decide))
  clear hy1 ly1
  by_cases cf : farB l0 y1 = true
  · rw [cf] at AF
    go_enter Try.func8, Try.ntmps8
    go_wp2_with (first | ((with_reducible refine gate_dst (N := 3) rfl ?_); refine box_event ?hg (N := 3) ?hd (cs := #[.string x0.f0, .string x0.f1, .int .i64 x0.f2, .int .i64 x0.f3, .string x1.f0, .string x1.f1, .int .i64 x1.f2, .int .i64 x1.f3, .string x2.f0, .string x2.f1, .int .i64 x2.f2, .int .i64 x2.f3]) (t := 46) ?hr ?_; (case hd => rfl); (case hg => rfl); (case hr => first | (go_simp; done) | (go_simp; rfl)); intro gb hg w1 hbox hb; have n0_ := ak (below_step (by repeat (first | (with_reducible first | exact HB.out | apply wA | apply wN | apply wD) | exact HB.out)) hb); have n1_ := ak hbox; have n2_ := ak ((by rw [hg]; exact (below_size (by repeat (first | (with_reducible first | exact HB.out | apply wA | apply wN | apply wD) | exact HB.out))) : w.heap.size ≤ gb)); clear HB; have HB := n0_; have BK := n1_; have GE := n2_; clear n0_ n1_ n2_; clear hb hbox hg; have hcz0 : w1.cell? ⟨gb, 0, none⟩ = some (.string x0.f0) := (blk_cell BK.out 0).trans rfl; have hfz0 := blk_frozen BK.out 0; have hcz1 : w1.cell? ⟨gb, 1, none⟩ = some (.string x0.f1) := (blk_cell BK.out 1).trans rfl; have hfz1 := blk_frozen BK.out 1; have hcz2 : w1.cell? ⟨gb, 2, none⟩ = some (.int .i64 x0.f2) := (blk_cell BK.out 2).trans rfl; have hfz2 := blk_frozen BK.out 2; have hcz3 : w1.cell? ⟨gb, 3, none⟩ = some (.int .i64 x0.f3) := (blk_cell BK.out 3).trans rfl; have hfz3 := blk_frozen BK.out 3; have hcz4 : w1.cell? ⟨gb, 4, none⟩ = some (.string x1.f0) := (blk_cell BK.out 4).trans rfl; have hfz4 := blk_frozen BK.out 4; have hcz5 : w1.cell? ⟨gb, 5, none⟩ = some (.string x1.f1) := (blk_cell BK.out 5).trans rfl; have hfz5 := blk_frozen BK.out 5; have hcz6 : w1.cell? ⟨gb, 6, none⟩ = some (.int .i64 x1.f2) := (blk_cell BK.out 6).trans rfl; have hfz6 := blk_frozen BK.out 6; have hcz7 : w1.cell? ⟨gb, 7, none⟩ = some (.int .i64 x1.f3) := (blk_cell BK.out 7).trans rfl; have hfz7 := blk_frozen BK.out 7; have hcz8 : w1.cell? ⟨gb, 8, none⟩ = some (.string x2.f0) := (blk_cell BK.out 8).trans rfl; have hfz8 := blk_frozen BK.out 8; have hcz9 : w1.cell? ⟨gb, 9, none⟩ = some (.string x2.f1) := (blk_cell BK.out 9).trans rfl; have hfz9 := blk_frozen BK.out 9; have hcz10 : w1.cell? ⟨gb, 10, none⟩ = some (.int .i64 x2.f2) := (blk_cell BK.out 10).trans rfl; have hfz10 := blk_frozen BK.out 10; have hcz11 : w1.cell? ⟨gb, 11, none⟩ = some (.int .i64 x2.f3) := (blk_cell BK.out 11).trans rfl; have hfz11 := blk_frozen BK.out 11) | ((with_reducible refine gate_dst (N := 31) rfl ?_); refine Kd.R_lit Kd.string _ 9 ?hg (N := 31) ?hd (xs := ([x0.f0, x0.f1, x1.f0, x1.f1, x2.f0, x2.f1] : List ByteArray)) (inner := [.string x0.f0, .string x0.f1, .string x1.f0, .string x1.f1, .string x2.f0, .string x2.f1]) (ok := fun _ => True) (okp := fun _ => True) ?hr ?hp (fun _ hk => hk) trivial (Below.refl _ _) (Nat.le_refl _) (by simp) ?_; (case hd => rfl); (case hg => rfl); (case hr => first | (go_simp; done) | (go_simp; rfl)); (case hp => exact (Reps.one (show Kd.M Kd.string _ _ _ x0.f0 [.string x0.f0] from rfl) (Reps.one (show Kd.M Kd.string _ _ _ x0.f1 [.string x0.f1] from rfl) (Reps.one (show Kd.M Kd.string _ _ _ x1.f0 [.string x1.f0] from rfl) (Reps.one (show Kd.M Kd.string _ _ _ x1.f1 [.string x1.f1] from rfl) (Reps.one (show Kd.M Kd.string _ _ _ x2.f0 [.string x2.f0] from rfl) (Reps.one (show Kd.M Kd.string _ _ _ x2.f1 [.string x2.f1] from rfl) (Reps.none _ _)))))))); intro v2 w2 ho hb hg_ hnew_; clear hg_ hnew_; (first | rw [← Ny1.out] at ho | (simp only [Int.reduceToNat] at ho; rw [← Ny1.out] at ho)); have n0_ := ak (Kd.R_lower ho (below_size (by repeat (first | (with_reducible first | exact HB.out | apply wA | apply wN | apply wD | refine below_set ?_ GE.out) | exact HB.out)))); have n1_ := ak (blk_below (g := gb) (o := .cells #[.string x0.f0, .string x0.f1, .int .i64 x0.f2, .int .i64 x0.f3, .string x1.f0, .string x1.f1, .int .i64 x1.f2, .int .i64 x1.f3, .string x2.f0, .string x2.f1, .int .i64 x2.f2, .int .i64 x2.f3] 46 (0, 0)) (by (with_reducible repeat (first | refine bN ?_ _ | refine bD ?_ | refine bA ?_ _)); exact BK.out) hb); have n3_ := ak (below_step (by repeat (first | (with_reducible first | exact HB.out | apply wA | apply wN | apply wD | refine below_set ?_ GE.out) | exact HB.out)) hb); clear BK; clear HB; have HO := n0_; have BK := n1_; have HB := n3_; clear n0_ n1_ n3_; clear hb ho; obtain ⟨Ao, co, eo⟩ := Kd.R_slice HO.out; subst eo) | ((with_reducible refine gate_callee (f := 10) rfl ?_); refine goesL_ (some 32) rfl rfl Try.func10 (by kernel_rfl) rfl #[.slice A0 l0.length c0, .slice Ao y1.length co] rfl (by (try simp only [List.map_toArray, List.map_cons, List.map_nil]); first | done | rfl | (simp only [List.length_drop, List.length_take]; rfl)) ?_; (with_reducible refine (mummerlaw11_far.calls 9000000 _ _ l0 _ _ y1 true _ ?side1 ?side2 ?side3 ?side4 AF.out).mono ?_); (case side1 => repeat (first | exact (Kd.C_below HR0.out HB.out) | (with_reducible refine Kd.C_alloc ?_ _) | (with_reducible refine Kd.C_drewN ?_ _) | (with_reducible refine Kd.C_drew ?_))); (case side2 => exact HC0.out); (case side3 => repeat (first | exact (Kd.R_reads' HO.out).2.2 | (with_reducible refine Kd.C_alloc ?_ _) | (with_reducible refine Kd.C_drewN ?_ _) | (with_reducible refine Kd.C_drew ?_))); (case side4 => exact (Kd.R_reads' HO.out).2.1); rintro e w' ⟨rfl, ⟨nd, rfl⟩⟩; refine ⟨_, rfl, ?_⟩) | ((with_reducible refine gate_callee (f := 11) rfl ?_); refine goesL_ (some 33) rfl rfl Try.func11 (by kernel_rfl) rfl #[] rfl (by (try simp only [List.map_toArray, List.map_cons, List.map_nil]); first | done | rfl | (simp only [List.length_drop, List.length_take]; rfl)) ?_; (with_reducible refine (mummerlaw11_awake.calls 9000000 true _ ⟨rfl⟩ AW.out).mono ?_); rintro e wz ⟨rfl, hb⟩; refine ⟨_, rfl, ?_⟩; have n3_ := ak (below_step (by repeat (first | (with_reducible first | exact HB.out | apply wA | apply wN | apply wD | refine below_set ?_ GE.out) | exact HB.out)) hb); clear HB; have HB := n3_; clear n3_; clear hb))
    go_ret
    exact ⟨by first | rfl | (simp [errW_none, errW_some] <;> rfl) | (simp [*, errW_none, errW_some] <;> rfl), by repeat (first | (with_reducible first | exact HB.out | apply wA | apply wN | apply wD | refine below_set ?_ GE.out) | exact HB.out)⟩
  · obtain ⟨lb_, tb_, sb_⟩ := far_no (Bool.eq_false_iff.2 cf)
    rw [Ny1.out] at sb_
    obtain ⟨b00, e00, S00, B00, K00⟩ := eq_pre l0 tb_ (by omega) x0 x0 (sb_ _ (by simp)) (sb_ _ (by simp))
    obtain ⟨b01, e01, S01, B01, K01⟩ := eq_pre l0 tb_ (by omega) x0 x1 (sb_ _ (by simp)) (sb_ _ (by simp))
    obtain ⟨b02, e02, S02, B02, K02⟩ := eq_pre l0 tb_ (by omega) x0 x2 (sb_ _ (by simp)) (sb_ _ (by simp))
    obtain ⟨b10, e10, S10, B10, K10⟩ := eq_pre l0 tb_ (by omega) x1 x0 (sb_ _ (by simp)) (sb_ _ (by simp))
    obtain ⟨b11, e11, S11, B11, K11⟩ := eq_pre l0 tb_ (by omega) x1 x1 (sb_ _ (by simp)) (sb_ _ (by simp))
    obtain ⟨b12, e12, S12, B12, K12⟩ := eq_pre l0 tb_ (by omega) x1 x2 (sb_ _ (by simp)) (sb_ _ (by simp))
    obtain ⟨b20, e20, S20, B20, K20⟩ := eq_pre l0 tb_ (by omega) x2 x0 (sb_ _ (by simp)) (sb_ _ (by simp))
    obtain ⟨b21, e21, S21, B21, K21⟩ := eq_pre l0 tb_ (by omega) x2 x1 (sb_ _ (by simp)) (sb_ _ (by simp))
    obtain ⟨b22, e22, S22, B22, K22⟩ := eq_pre l0 tb_ (by omega) x2 x2 (sb_ _ (by simp)) (sb_ _ (by simp))
    rw [Bool.eq_false_iff.2 cf] at AF
    clear tb_ sb_ lb_
    go_enter Try.func8, Try.ntmps8
    go_wp2_with (first | ((with_reducible refine gate_dst (N := 3) rfl ?_); refine box_event ?hg (N := 3) ?hd (cs := #[.string x0.f0, .string x0.f1, .int .i64 x0.f2, .int .i64 x0.f3, .string x1.f0, .string x1.f1, .int .i64 x1.f2, .int .i64 x1.f3, .string x2.f0, .string x2.f1, .int .i64 x2.f2, .int .i64 x2.f3]) (t := 46) ?hr ?_; (case hd => rfl); (case hg => rfl); (case hr => first | (go_simp; done) | (go_simp; rfl)); intro gb hg w1 hbox hb; have n0_ := ak (below_step (by repeat (first | (with_reducible first | exact HB.out | apply wA | apply wN | apply wD) | exact HB.out)) hb); have n1_ := ak hbox; have n2_ := ak ((by rw [hg]; exact (below_size (by repeat (first | (with_reducible first | exact HB.out | apply wA | apply wN | apply wD) | exact HB.out))) : w.heap.size ≤ gb)); clear HB; have HB := n0_; have BK := n1_; have GE := n2_; clear n0_ n1_ n2_; clear hb hbox hg; have hcz0 : w1.cell? ⟨gb, 0, none⟩ = some (.string x0.f0) := (blk_cell BK.out 0).trans rfl; have hfz0 := blk_frozen BK.out 0; have hcz1 : w1.cell? ⟨gb, 1, none⟩ = some (.string x0.f1) := (blk_cell BK.out 1).trans rfl; have hfz1 := blk_frozen BK.out 1; have hcz2 : w1.cell? ⟨gb, 2, none⟩ = some (.int .i64 x0.f2) := (blk_cell BK.out 2).trans rfl; have hfz2 := blk_frozen BK.out 2; have hcz3 : w1.cell? ⟨gb, 3, none⟩ = some (.int .i64 x0.f3) := (blk_cell BK.out 3).trans rfl; have hfz3 := blk_frozen BK.out 3; have hcz4 : w1.cell? ⟨gb, 4, none⟩ = some (.string x1.f0) := (blk_cell BK.out 4).trans rfl; have hfz4 := blk_frozen BK.out 4; have hcz5 : w1.cell? ⟨gb, 5, none⟩ = some (.string x1.f1) := (blk_cell BK.out 5).trans rfl; have hfz5 := blk_frozen BK.out 5; have hcz6 : w1.cell? ⟨gb, 6, none⟩ = some (.int .i64 x1.f2) := (blk_cell BK.out 6).trans rfl; have hfz6 := blk_frozen BK.out 6; have hcz7 : w1.cell? ⟨gb, 7, none⟩ = some (.int .i64 x1.f3) := (blk_cell BK.out 7).trans rfl; have hfz7 := blk_frozen BK.out 7; have hcz8 : w1.cell? ⟨gb, 8, none⟩ = some (.string x2.f0) := (blk_cell BK.out 8).trans rfl; have hfz8 := blk_frozen BK.out 8; have hcz9 : w1.cell? ⟨gb, 9, none⟩ = some (.string x2.f1) := (blk_cell BK.out 9).trans rfl; have hfz9 := blk_frozen BK.out 9; have hcz10 : w1.cell? ⟨gb, 10, none⟩ = some (.int .i64 x2.f2) := (blk_cell BK.out 10).trans rfl; have hfz10 := blk_frozen BK.out 10; have hcz11 : w1.cell? ⟨gb, 11, none⟩ = some (.int .i64 x2.f3) := (blk_cell BK.out 11).trans rfl; have hfz11 := blk_frozen BK.out 11) | ((with_reducible refine gate_dst (N := 31) rfl ?_); refine Kd.R_lit Kd.string _ 9 ?hg (N := 31) ?hd (xs := ([x0.f0, x0.f1, x1.f0, x1.f1, x2.f0, x2.f1] : List ByteArray)) (inner := [.string x0.f0, .string x0.f1, .string x1.f0, .string x1.f1, .string x2.f0, .string x2.f1]) (ok := fun _ => True) (okp := fun _ => True) ?hr ?hp (fun _ hk => hk) trivial (Below.refl _ _) (Nat.le_refl _) (by simp) ?_; (case hd => rfl); (case hg => rfl); (case hr => first | (go_simp; done) | (go_simp; rfl)); (case hp => exact (Reps.one (show Kd.M Kd.string _ _ _ x0.f0 [.string x0.f0] from rfl) (Reps.one (show Kd.M Kd.string _ _ _ x0.f1 [.string x0.f1] from rfl) (Reps.one (show Kd.M Kd.string _ _ _ x1.f0 [.string x1.f0] from rfl) (Reps.one (show Kd.M Kd.string _ _ _ x1.f1 [.string x1.f1] from rfl) (Reps.one (show Kd.M Kd.string _ _ _ x2.f0 [.string x2.f0] from rfl) (Reps.one (show Kd.M Kd.string _ _ _ x2.f1 [.string x2.f1] from rfl) (Reps.none _ _)))))))); intro v2 w2 ho hb hg_ hnew_; clear hg_ hnew_; (first | rw [← Ny1.out] at ho | (simp only [Int.reduceToNat] at ho; rw [← Ny1.out] at ho)); have n0_ := ak (Kd.R_lower ho (below_size (by repeat (first | (with_reducible first | exact HB.out | apply wA | apply wN | apply wD | refine below_set ?_ GE.out) | exact HB.out)))); have n1_ := ak (blk_below (g := gb) (o := .cells #[.string x0.f0, .string x0.f1, .int .i64 x0.f2, .int .i64 x0.f3, .string x1.f0, .string x1.f1, .int .i64 x1.f2, .int .i64 x1.f3, .string x2.f0, .string x2.f1, .int .i64 x2.f2, .int .i64 x2.f3] 46 (0, 0)) (by (with_reducible repeat (first | refine bN ?_ _ | refine bD ?_ | refine bA ?_ _)); exact BK.out) hb); have n3_ := ak (below_step (by repeat (first | (with_reducible first | exact HB.out | apply wA | apply wN | apply wD | refine below_set ?_ GE.out) | exact HB.out)) hb); clear BK; clear HB; have HO := n0_; have BK := n1_; have HB := n3_; clear n0_ n1_ n3_; clear hb ho; obtain ⟨Ao, co, eo⟩ := Kd.R_slice HO.out; subst eo) | ((with_reducible refine gate_callee (f := 10) rfl ?_); refine goesL_ (some 32) rfl rfl Try.func10 (by kernel_rfl) rfl #[.slice A0 l0.length c0, .slice Ao y1.length co] rfl (by (try simp only [List.map_toArray, List.map_cons, List.map_nil]); first | done | rfl | (simp only [List.length_drop, List.length_take]; rfl)) ?_; (with_reducible refine (mummerlaw11_far.calls 9000000 _ _ l0 _ _ y1 false _ ?side1 ?side2 ?side3 ?side4 AF.out).mono ?_); (case side1 => repeat (first | exact (Kd.C_below HR0.out HB.out) | (with_reducible refine Kd.C_alloc ?_ _) | (with_reducible refine Kd.C_drewN ?_ _) | (with_reducible refine Kd.C_drew ?_))); (case side2 => exact HC0.out); (case side3 => repeat (first | exact (Kd.R_reads' HO.out).2.2 | (with_reducible refine Kd.C_alloc ?_ _) | (with_reducible refine Kd.C_drewN ?_ _) | (with_reducible refine Kd.C_drew ?_))); (case side4 => exact (Kd.R_reads' HO.out).2.1); rintro e w' ⟨rfl, ⟨nd, rfl⟩⟩; refine ⟨_, rfl, ?_⟩) | ((with_reducible refine gate_dst (N := 5) rfl ?_); refine box_event ?hg (N := 5) ?hd (cs := #[.bool false, .bool false, .bool false, .bool false, .bool false, .bool false, .bool false, .bool false, .bool false]) (t := 48) ?hr ?_; (case hd => rfl); (case hg => rfl); (case hr => first | (go_simp; done) | (go_simp; rfl)); intro gs hg w3 hbox hb; have n0_ := ak (below_step (by repeat (first | (with_reducible first | exact HB.out | apply wA | apply wN | apply wD | refine below_set ?_ GE.out) | exact HB.out)) hb); have n1_ := ak hbox; have n2_ := ak ((by rw [hg]; exact (below_size (by repeat (first | (with_reducible first | exact HB.out | apply wA | apply wN | apply wD | refine below_set ?_ GE.out) | exact HB.out))) : w.heap.size ≤ gs)); have n3_ := ak (blk_below (g := gb) (o := .cells #[.string x0.f0, .string x0.f1, .int .i64 x0.f2, .int .i64 x0.f3, .string x1.f0, .string x1.f1, .int .i64 x1.f2, .int .i64 x1.f3, .string x2.f0, .string x2.f1, .int .i64 x2.f2, .int .i64 x2.f3] 46 (0, 0)) (by (with_reducible repeat (first | refine bN ?_ _ | refine bD ?_ | refine bA ?_ _)); exact BK.out) hb); have n4_ := ak ((by rw [hg]; exact Nat.ne_of_lt (blk_lt (g := gb) (o := .cells #[.string x0.f0, .string x0.f1, .int .i64 x0.f2, .int .i64 x0.f3, .string x1.f0, .string x1.f1, .int .i64 x1.f2, .int .i64 x1.f3, .string x2.f0, .string x2.f1, .int .i64 x2.f2, .int .i64 x2.f3] 46 (0, 0)) (by (with_reducible repeat (first | refine bN ?_ _ | refine bD ?_ | refine bA ?_ _)); exact BK.out))) : gb ≠ gs); clear BK; clear HB; have HB := n0_; have BS := n1_; have GS := n2_; have BK := n3_; have NE := n4_.out; clear n0_ n1_ n2_ n3_ n4_; clear hb hbox hg; clear hcz0; clear hcz1; clear hcz2; clear hcz3; clear hcz4; clear hcz5; clear hcz6; clear hcz7; clear hcz8; clear hcz9; clear hcz10; clear hcz11; have hcz0 : w3.cell? ⟨gb, 0, none⟩ = some (.string x0.f0) := (blk_cell BK.out 0).trans rfl; have hcz1 : w3.cell? ⟨gb, 1, none⟩ = some (.string x0.f1) := (blk_cell BK.out 1).trans rfl; have hcz2 : w3.cell? ⟨gb, 2, none⟩ = some (.int .i64 x0.f2) := (blk_cell BK.out 2).trans rfl; have hcz3 : w3.cell? ⟨gb, 3, none⟩ = some (.int .i64 x0.f3) := (blk_cell BK.out 3).trans rfl; have hcz4 : w3.cell? ⟨gb, 4, none⟩ = some (.string x1.f0) := (blk_cell BK.out 4).trans rfl; have hcz5 : w3.cell? ⟨gb, 5, none⟩ = some (.string x1.f1) := (blk_cell BK.out 5).trans rfl; have hcz6 : w3.cell? ⟨gb, 6, none⟩ = some (.int .i64 x1.f2) := (blk_cell BK.out 6).trans rfl; have hcz7 : w3.cell? ⟨gb, 7, none⟩ = some (.int .i64 x1.f3) := (blk_cell BK.out 7).trans rfl; have hcz8 : w3.cell? ⟨gb, 8, none⟩ = some (.string x2.f0) := (blk_cell BK.out 8).trans rfl; have hcz9 : w3.cell? ⟨gb, 9, none⟩ = some (.string x2.f1) := (blk_cell BK.out 9).trans rfl; have hcz10 : w3.cell? ⟨gb, 10, none⟩ = some (.int .i64 x2.f2) := (blk_cell BK.out 10).trans rfl; have hcz11 : w3.cell? ⟨gb, 11, none⟩ = some (.int .i64 x2.f3) := (blk_cell BK.out 11).trans rfl; have hbs0 : w3.cell? ⟨gs, 0, none⟩ = some (.bool false) := (blk_cell BS.out 0).trans rfl; have hbs1 : w3.cell? ⟨gs, 1, none⟩ = some (.bool false) := (blk_cell BS.out 1).trans rfl; have hbs2 : w3.cell? ⟨gs, 2, none⟩ = some (.bool false) := (blk_cell BS.out 2).trans rfl; have hbs3 : w3.cell? ⟨gs, 3, none⟩ = some (.bool false) := (blk_cell BS.out 3).trans rfl; have hbs4 : w3.cell? ⟨gs, 4, none⟩ = some (.bool false) := (blk_cell BS.out 4).trans rfl; have hbs5 : w3.cell? ⟨gs, 5, none⟩ = some (.bool false) := (blk_cell BS.out 5).trans rfl; have hbs6 : w3.cell? ⟨gs, 6, none⟩ = some (.bool false) := (blk_cell BS.out 6).trans rfl; have hbs7 : w3.cell? ⟨gs, 7, none⟩ = some (.bool false) := (blk_cell BS.out 7).trans rfl; have hbs8 : w3.cell? ⟨gs, 8, none⟩ = some (.bool false) := (blk_cell BS.out 8).trans rfl; have hfs0 := blk_frozen BS.out 0; have hfs1 := blk_frozen BS.out 1; have hfs2 := blk_frozen BS.out 2; have hfs3 := blk_frozen BS.out 3; have hfs4 := blk_frozen BS.out 4; have hfs5 := blk_frozen BS.out 5; have hfs6 := blk_frozen BS.out 6; have hfs7 := blk_frozen BS.out 7; have hfs8 := blk_frozen BS.out 8))
    refine wp_loop_rounds 4 ?_
    rw [rounds_succ]
    go_wp2_with (fail)
    refine wp_loop_rounds 4 ?_
    rw [rounds_succ]
    go_wp2_with (fail)
    apply via_meet (F := fun wz => wz.heap[gb]? = some (.cells #[.string x0.f0, .string x0.f1, .int .i64 x0.f2, .int .i64 x0.f3, .string x1.f0, .string x1.f1, .int .i64 x1.f2, .int .i64 x1.f3, .string x2.f0, .string x2.f1, .int .i64 x2.f2, .int .i64 x2.f3] 46 (0, 0)) ∧ wz.heap[gs]? = some (.cells #[.bool false, .bool false, .bool false, .bool false, .bool false, .bool false, .bool false, .bool false, .bool false] 48 (0, 0)) ∧ Below w.heap.size w wz)
    case h1 =>
      intro key
      go_region_with (go_at_call 25; (with_reducible refine (binds_Same.calls 9000000 _ _ l0 _ _ _ _ _ _ _ _ b00 e00 _ ?side1 ?side2 S00.out).mono ?_); (case side1 => repeat (first | exact (Kd.C_below HR0.out HB.out) | (with_reducible refine Kd.C_alloc ?_ _) | (with_reducible refine Kd.C_drewN ?_ _) | (with_reducible refine Kd.C_drew ?_))); (case side2 => exact HC0.out); rintro e wz ⟨rfl, hb⟩; have n1_ := (blk_below (g := gb) (o := .cells #[.string x0.f0, .string x0.f1, .int .i64 x0.f2, .int .i64 x0.f3, .string x1.f0, .string x1.f1, .int .i64 x1.f2, .int .i64 x1.f3, .string x2.f0, .string x2.f1, .int .i64 x2.f2, .int .i64 x2.f3] 46 (0, 0)) (by (with_reducible repeat (first | refine bN ?_ _ | refine bD ?_ | refine bA ?_ _)); exact BK.out) hb); have n2_ := (blk_below (g := gs) (o := .cells #[.bool false, .bool false, .bool false, .bool false, .bool false, .bool false, .bool false, .bool false, .bool false] 48 (0, 0)) (by (with_reducible repeat (first | refine bN ?_ _ | refine bD ?_ | refine bA ?_ _)); exact BS.out) hb); have n3_ := (below_step (by repeat (first | (with_reducible first | exact HB.out | apply wA | apply wN | apply wD | refine below_set ?_ GE.out | refine below_set ?_ GS.out) | exact HB.out)) hb); clear hb)
      all_goals exact key _ ⟨by assumption, by assumption, by assumption⟩
    intro wz ⟨q1, q2, q3⟩
    clear BK BS HB
    clear hcz0
    clear hcz1
    clear hcz2
    clear hcz3
    clear hcz4
    clear hcz5
    clear hcz6
    clear hcz7
    clear hcz8
    clear hcz9
    clear hcz10
    clear hcz11
    clear hbs0
    clear hbs1
    clear hbs2
    clear hbs3
    clear hbs4
    clear hbs5
    clear hbs6
    clear hbs7
    clear hbs8
    clear hfs0
    clear hfs1
    clear hfs2
    clear hfs3
    clear hfs4
    clear hfs5
    clear hfs6
    clear hfs7
    clear hfs8
    have BK := ak q1
    have BS := ak q2
    have HB := ak q3
    clear q1 q2 q3
    have hcz0 : wz.cell? ⟨gb, 0, none⟩ = some (.string x0.f0) := (blk_cell BK.out 0).trans rfl
    have hcz1 : wz.cell? ⟨gb, 1, none⟩ = some (.string x0.f1) := (blk_cell BK.out 1).trans rfl
    have hcz2 : wz.cell? ⟨gb, 2, none⟩ = some (.int .i64 x0.f2) := (blk_cell BK.out 2).trans rfl
    have hcz3 : wz.cell? ⟨gb, 3, none⟩ = some (.int .i64 x0.f3) := (blk_cell BK.out 3).trans rfl
    have hcz4 : wz.cell? ⟨gb, 4, none⟩ = some (.string x1.f0) := (blk_cell BK.out 4).trans rfl
    have hcz5 : wz.cell? ⟨gb, 5, none⟩ = some (.string x1.f1) := (blk_cell BK.out 5).trans rfl
    have hcz6 : wz.cell? ⟨gb, 6, none⟩ = some (.int .i64 x1.f2) := (blk_cell BK.out 6).trans rfl
    have hcz7 : wz.cell? ⟨gb, 7, none⟩ = some (.int .i64 x1.f3) := (blk_cell BK.out 7).trans rfl
    have hcz8 : wz.cell? ⟨gb, 8, none⟩ = some (.string x2.f0) := (blk_cell BK.out 8).trans rfl
    have hcz9 : wz.cell? ⟨gb, 9, none⟩ = some (.string x2.f1) := (blk_cell BK.out 9).trans rfl
    have hcz10 : wz.cell? ⟨gb, 10, none⟩ = some (.int .i64 x2.f2) := (blk_cell BK.out 10).trans rfl
    have hcz11 : wz.cell? ⟨gb, 11, none⟩ = some (.int .i64 x2.f3) := (blk_cell BK.out 11).trans rfl
    have hbs0 : wz.cell? ⟨gs, 0, none⟩ = some (.bool false) := (blk_cell BS.out 0).trans rfl
    have hbs1 : wz.cell? ⟨gs, 1, none⟩ = some (.bool false) := (blk_cell BS.out 1).trans rfl
    have hbs2 : wz.cell? ⟨gs, 2, none⟩ = some (.bool false) := (blk_cell BS.out 2).trans rfl
    have hbs3 : wz.cell? ⟨gs, 3, none⟩ = some (.bool false) := (blk_cell BS.out 3).trans rfl
    have hbs4 : wz.cell? ⟨gs, 4, none⟩ = some (.bool false) := (blk_cell BS.out 4).trans rfl
    have hbs5 : wz.cell? ⟨gs, 5, none⟩ = some (.bool false) := (blk_cell BS.out 5).trans rfl
    have hbs6 : wz.cell? ⟨gs, 6, none⟩ = some (.bool false) := (blk_cell BS.out 6).trans rfl
    have hbs7 : wz.cell? ⟨gs, 7, none⟩ = some (.bool false) := (blk_cell BS.out 7).trans rfl
    have hbs8 : wz.cell? ⟨gs, 8, none⟩ = some (.bool false) := (blk_cell BS.out 8).trans rfl
    have hfs0 := blk_frozen BS.out 0
    have hfs1 := blk_frozen BS.out 1
    have hfs2 := blk_frozen BS.out 2
    have hfs3 := blk_frozen BS.out 3
    have hfs4 := blk_frozen BS.out 4
    have hfs5 := blk_frozen BS.out 5
    have hfs6 := blk_frozen BS.out 6
    have hfs7 := blk_frozen BS.out 7
    have hfs8 := blk_frozen BS.out 8
    by_cases c00 : e00 = 0
    rotate_left
    · have eb : (e00 != 0) = true := by simp [c00]
      have eb2 := B00.out c00
      subst eb2
      go_wp2_with (first | (go_at_call 11; (with_reducible refine (mummerlaw11_awake.calls 9000000 true _ ⟨rfl⟩ AW.out).mono ?_); rintro e wy ⟨rfl, hb⟩; have n3_ := ak (below_step (by repeat (first | (with_reducible first | exact HB.out | apply wA | apply wN | apply wD | refine below_set ?_ GE.out | refine below_set ?_ GS.out) | exact HB.out)) hb); clear HB; have HB := n3_; clear n3_; clear hb))
      go_ret
      exact ⟨by first | rfl | (simp [errW_none, errW_some] <;> rfl) | (simp [*, errW_none, errW_some] <;> rfl), by repeat (first | (with_reducible first | exact HB.out | apply wA | apply wN | apply wD | refine below_set ?_ GE.out | refine below_set ?_ GS.out) | exact HB.out)⟩
    have eb : (e00 != 0) = false := by simp [c00]
    go_wp2_with (fail)
    clear eb
    have q2 := blk_put BS.out 0 (.bool b00) (cs' := #[.bool b00, .bool false, .bool false, .bool false, .bool false, .bool false, .bool false, .bool false, .bool false]) rfl
    have q1 := blk_far (p := ⟨gs, 0, none⟩) BK.out NE (.bool b00)
    have q3 := below_set (g := gs) (j := 0) (v := .bool b00) HB.out GS.out
    clear hcz0
    clear hcz1
    clear hcz2
    clear hcz3
    clear hcz4
    clear hcz5
    clear hcz6
    clear hcz7
    clear hcz8
    clear hcz9
    clear hcz10
    clear hcz11
    clear hbs0
    clear hbs1
    clear hbs2
    clear hbs3
    clear hbs4
    clear hbs5
    clear hbs6
    clear hbs7
    clear hbs8
    clear hfs0
    clear hfs1
    clear hfs2
    clear hfs3
    clear hfs4
    clear hfs5
    clear hfs6
    clear hfs7
    clear hfs8
    clear BK BS HB
    generalize World.setCell wz ⟨gs, 0, none⟩ (.bool b00) = ws at q1 q2 q3 ⊢
    have BK := ak q1
    have BS := ak q2
    have HB := ak q3
    clear q1 q2 q3
    have hcz0 : ws.cell? ⟨gb, 0, none⟩ = some (.string x0.f0) := (blk_cell BK.out 0).trans rfl
    have hcz1 : ws.cell? ⟨gb, 1, none⟩ = some (.string x0.f1) := (blk_cell BK.out 1).trans rfl
    have hcz2 : ws.cell? ⟨gb, 2, none⟩ = some (.int .i64 x0.f2) := (blk_cell BK.out 2).trans rfl
    have hcz3 : ws.cell? ⟨gb, 3, none⟩ = some (.int .i64 x0.f3) := (blk_cell BK.out 3).trans rfl
    have hcz4 : ws.cell? ⟨gb, 4, none⟩ = some (.string x1.f0) := (blk_cell BK.out 4).trans rfl
    have hcz5 : ws.cell? ⟨gb, 5, none⟩ = some (.string x1.f1) := (blk_cell BK.out 5).trans rfl
    have hcz6 : ws.cell? ⟨gb, 6, none⟩ = some (.int .i64 x1.f2) := (blk_cell BK.out 6).trans rfl
    have hcz7 : ws.cell? ⟨gb, 7, none⟩ = some (.int .i64 x1.f3) := (blk_cell BK.out 7).trans rfl
    have hcz8 : ws.cell? ⟨gb, 8, none⟩ = some (.string x2.f0) := (blk_cell BK.out 8).trans rfl
    have hcz9 : ws.cell? ⟨gb, 9, none⟩ = some (.string x2.f1) := (blk_cell BK.out 9).trans rfl
    have hcz10 : ws.cell? ⟨gb, 10, none⟩ = some (.int .i64 x2.f2) := (blk_cell BK.out 10).trans rfl
    have hcz11 : ws.cell? ⟨gb, 11, none⟩ = some (.int .i64 x2.f3) := (blk_cell BK.out 11).trans rfl
    have hbs0 : ws.cell? ⟨gs, 0, none⟩ = some (.bool b00) := (blk_cell BS.out 0).trans rfl
    have hbs1 : ws.cell? ⟨gs, 1, none⟩ = some (.bool false) := (blk_cell BS.out 1).trans rfl
    have hbs2 : ws.cell? ⟨gs, 2, none⟩ = some (.bool false) := (blk_cell BS.out 2).trans rfl
    have hbs3 : ws.cell? ⟨gs, 3, none⟩ = some (.bool false) := (blk_cell BS.out 3).trans rfl
    have hbs4 : ws.cell? ⟨gs, 4, none⟩ = some (.bool false) := (blk_cell BS.out 4).trans rfl
    have hbs5 : ws.cell? ⟨gs, 5, none⟩ = some (.bool false) := (blk_cell BS.out 5).trans rfl
    have hbs6 : ws.cell? ⟨gs, 6, none⟩ = some (.bool false) := (blk_cell BS.out 6).trans rfl
    have hbs7 : ws.cell? ⟨gs, 7, none⟩ = some (.bool false) := (blk_cell BS.out 7).trans rfl
    have hbs8 : ws.cell? ⟨gs, 8, none⟩ = some (.bool false) := (blk_cell BS.out 8).trans rfl
    have hfs0 := blk_frozen BS.out 0
    have hfs1 := blk_frozen BS.out 1
    have hfs2 := blk_frozen BS.out 2
    have hfs3 := blk_frozen BS.out 3
    have hfs4 := blk_frozen BS.out 4
    have hfs5 := blk_frozen BS.out 5
    have hfs6 := blk_frozen BS.out 6
    have hfs7 := blk_frozen BS.out 7
    have hfs8 := blk_frozen BS.out 8
    rw [rounds_succ]
    go_wp2_with (fail)
    apply via_meet (F := fun wz => wz.heap[gb]? = some (.cells #[.string x0.f0, .string x0.f1, .int .i64 x0.f2, .int .i64 x0.f3, .string x1.f0, .string x1.f1, .int .i64 x1.f2, .int .i64 x1.f3, .string x2.f0, .string x2.f1, .int .i64 x2.f2, .int .i64 x2.f3] 46 (0, 0)) ∧ wz.heap[gs]? = some (.cells #[.bool b00, .bool false, .bool false, .bool false, .bool false, .bool false, .bool false, .bool false, .bool false] 48 (0, 0)) ∧ Below w.heap.size w wz)
    case h1 =>
      intro key
      go_region_with (go_at_call 25; (with_reducible refine (binds_Same.calls 9000000 _ _ l0 _ _ _ _ _ _ _ _ b01 e01 _ ?side1 ?side2 S01.out).mono ?_); (case side1 => repeat (first | exact (Kd.C_below HR0.out HB.out) | (with_reducible refine Kd.C_alloc ?_ _) | (with_reducible refine Kd.C_drewN ?_ _) | (with_reducible refine Kd.C_drew ?_))); (case side2 => exact HC0.out); rintro e wz ⟨rfl, hb⟩; have n1_ := (blk_below (g := gb) (o := .cells #[.string x0.f0, .string x0.f1, .int .i64 x0.f2, .int .i64 x0.f3, .string x1.f0, .string x1.f1, .int .i64 x1.f2, .int .i64 x1.f3, .string x2.f0, .string x2.f1, .int .i64 x2.f2, .int .i64 x2.f3] 46 (0, 0)) (by (with_reducible repeat (first | refine bN ?_ _ | refine bD ?_ | refine bA ?_ _)); exact BK.out) hb); have n2_ := (blk_below (g := gs) (o := .cells #[.bool b00, .bool false, .bool false, .bool false, .bool false, .bool false, .bool false, .bool false, .bool false] 48 (0, 0)) (by (with_reducible repeat (first | refine bN ?_ _ | refine bD ?_ | refine bA ?_ _)); exact BS.out) hb); have n3_ := (below_step (by repeat (first | (with_reducible first | exact HB.out | apply wA | apply wN | apply wD | refine below_set ?_ GE.out | refine below_set ?_ GS.out) | exact HB.out)) hb); clear hb)
      all_goals exact key _ ⟨by assumption, by assumption, by assumption⟩
    intro wz ⟨q1, q2, q3⟩
    clear BK BS HB
    clear hcz0
    clear hcz1
    clear hcz2
    clear hcz3
    clear hcz4
    clear hcz5
    clear hcz6
    clear hcz7
    clear hcz8
    clear hcz9
    clear hcz10
    clear hcz11
    clear hbs0
    clear hbs1
    clear hbs2
    clear hbs3
    clear hbs4
    clear hbs5
    clear hbs6
    clear hbs7
    clear hbs8
    clear hfs0
    clear hfs1
    clear hfs2
    clear hfs3
    clear hfs4
    clear hfs5
    clear hfs6
    clear hfs7
    clear hfs8
    have BK := ak q1
    have BS := ak q2
    have HB := ak q3
    clear q1 q2 q3
    have hcz0 : wz.cell? ⟨gb, 0, none⟩ = some (.string x0.f0) := (blk_cell BK.out 0).trans rfl
    have hcz1 : wz.cell? ⟨gb, 1, none⟩ = some (.string x0.f1) := (blk_cell BK.out 1).trans rfl
    have hcz2 : wz.cell? ⟨gb, 2, none⟩ = some (.int .i64 x0.f2) := (blk_cell BK.out 2).trans rfl
    have hcz3 : wz.cell? ⟨gb, 3, none⟩ = some (.int .i64 x0.f3) := (blk_cell BK.out 3).trans rfl
    have hcz4 : wz.cell? ⟨gb, 4, none⟩ = some (.string x1.f0) := (blk_cell BK.out 4).trans rfl
    have hcz5 : wz.cell? ⟨gb, 5, none⟩ = some (.string x1.f1) := (blk_cell BK.out 5).trans rfl
    have hcz6 : wz.cell? ⟨gb, 6, none⟩ = some (.int .i64 x1.f2) := (blk_cell BK.out 6).trans rfl
    have hcz7 : wz.cell? ⟨gb, 7, none⟩ = some (.int .i64 x1.f3) := (blk_cell BK.out 7).trans rfl
    have hcz8 : wz.cell? ⟨gb, 8, none⟩ = some (.string x2.f0) := (blk_cell BK.out 8).trans rfl
    have hcz9 : wz.cell? ⟨gb, 9, none⟩ = some (.string x2.f1) := (blk_cell BK.out 9).trans rfl
    have hcz10 : wz.cell? ⟨gb, 10, none⟩ = some (.int .i64 x2.f2) := (blk_cell BK.out 10).trans rfl
    have hcz11 : wz.cell? ⟨gb, 11, none⟩ = some (.int .i64 x2.f3) := (blk_cell BK.out 11).trans rfl
    have hbs0 : wz.cell? ⟨gs, 0, none⟩ = some (.bool b00) := (blk_cell BS.out 0).trans rfl
    have hbs1 : wz.cell? ⟨gs, 1, none⟩ = some (.bool false) := (blk_cell BS.out 1).trans rfl
    have hbs2 : wz.cell? ⟨gs, 2, none⟩ = some (.bool false) := (blk_cell BS.out 2).trans rfl
    have hbs3 : wz.cell? ⟨gs, 3, none⟩ = some (.bool false) := (blk_cell BS.out 3).trans rfl
    have hbs4 : wz.cell? ⟨gs, 4, none⟩ = some (.bool false) := (blk_cell BS.out 4).trans rfl
    have hbs5 : wz.cell? ⟨gs, 5, none⟩ = some (.bool false) := (blk_cell BS.out 5).trans rfl
    have hbs6 : wz.cell? ⟨gs, 6, none⟩ = some (.bool false) := (blk_cell BS.out 6).trans rfl
    have hbs7 : wz.cell? ⟨gs, 7, none⟩ = some (.bool false) := (blk_cell BS.out 7).trans rfl
    have hbs8 : wz.cell? ⟨gs, 8, none⟩ = some (.bool false) := (blk_cell BS.out 8).trans rfl
    have hfs0 := blk_frozen BS.out 0
    have hfs1 := blk_frozen BS.out 1
    have hfs2 := blk_frozen BS.out 2
    have hfs3 := blk_frozen BS.out 3
    have hfs4 := blk_frozen BS.out 4
    have hfs5 := blk_frozen BS.out 5
    have hfs6 := blk_frozen BS.out 6
    have hfs7 := blk_frozen BS.out 7
    have hfs8 := blk_frozen BS.out 8
    by_cases c01 : e01 = 0
    rotate_left
    · have eb : (e01 != 0) = true := by simp [c01]
      have eb2 := B01.out c01
      subst eb2
      go_wp2_with (first | (go_at_call 11; (with_reducible refine (mummerlaw11_awake.calls 9000000 true _ ⟨rfl⟩ AW.out).mono ?_); rintro e wy ⟨rfl, hb⟩; have n3_ := ak (below_step (by repeat (first | (with_reducible first | exact HB.out | apply wA | apply wN | apply wD | refine below_set ?_ GE.out | refine below_set ?_ GS.out) | exact HB.out)) hb); clear HB; have HB := n3_; clear n3_; clear hb))
      go_ret
      exact ⟨by first | rfl | (simp [errW_none, errW_some] <;> rfl) | (simp [*, errW_none, errW_some] <;> rfl), by repeat (first | (with_reducible first | exact HB.out | apply wA | apply wN | apply wD | refine below_set ?_ GE.out | refine below_set ?_ GS.out) | exact HB.out)⟩
    have eb : (e01 != 0) = false := by simp [c01]
    go_wp2_with (fail)
    clear eb
    have q2 := blk_put BS.out 1 (.bool b01) (cs' := #[.bool b00, .bool b01, .bool false, .bool false, .bool false, .bool false, .bool false, .bool false, .bool false]) rfl
    have q1 := blk_far (p := ⟨gs, 1, none⟩) BK.out NE (.bool b01)
    have q3 := below_set (g := gs) (j := 1) (v := .bool b01) HB.out GS.out
    clear hcz0
    clear hcz1
    clear hcz2
    clear hcz3
    clear hcz4
    clear hcz5
    clear hcz6
    clear hcz7
    clear hcz8
    clear hcz9
    clear hcz10
    clear hcz11
    clear hbs0
    clear hbs1
    clear hbs2
    clear hbs3
    clear hbs4
    clear hbs5
    clear hbs6
    clear hbs7
    clear hbs8
    clear hfs0
    clear hfs1
    clear hfs2
    clear hfs3
    clear hfs4
    clear hfs5
    clear hfs6
    clear hfs7
    clear hfs8
    clear BK BS HB
    generalize World.setCell wz ⟨gs, 1, none⟩ (.bool b01) = ws at q1 q2 q3 ⊢
    have BK := ak q1
    have BS := ak q2
    have HB := ak q3
    clear q1 q2 q3
    have hcz0 : ws.cell? ⟨gb, 0, none⟩ = some (.string x0.f0) := (blk_cell BK.out 0).trans rfl
    have hcz1 : ws.cell? ⟨gb, 1, none⟩ = some (.string x0.f1) := (blk_cell BK.out 1).trans rfl
    have hcz2 : ws.cell? ⟨gb, 2, none⟩ = some (.int .i64 x0.f2) := (blk_cell BK.out 2).trans rfl
    have hcz3 : ws.cell? ⟨gb, 3, none⟩ = some (.int .i64 x0.f3) := (blk_cell BK.out 3).trans rfl
    have hcz4 : ws.cell? ⟨gb, 4, none⟩ = some (.string x1.f0) := (blk_cell BK.out 4).trans rfl
    have hcz5 : ws.cell? ⟨gb, 5, none⟩ = some (.string x1.f1) := (blk_cell BK.out 5).trans rfl
    have hcz6 : ws.cell? ⟨gb, 6, none⟩ = some (.int .i64 x1.f2) := (blk_cell BK.out 6).trans rfl
    have hcz7 : ws.cell? ⟨gb, 7, none⟩ = some (.int .i64 x1.f3) := (blk_cell BK.out 7).trans rfl
    have hcz8 : ws.cell? ⟨gb, 8, none⟩ = some (.string x2.f0) := (blk_cell BK.out 8).trans rfl
    have hcz9 : ws.cell? ⟨gb, 9, none⟩ = some (.string x2.f1) := (blk_cell BK.out 9).trans rfl
    have hcz10 : ws.cell? ⟨gb, 10, none⟩ = some (.int .i64 x2.f2) := (blk_cell BK.out 10).trans rfl
    have hcz11 : ws.cell? ⟨gb, 11, none⟩ = some (.int .i64 x2.f3) := (blk_cell BK.out 11).trans rfl
    have hbs0 : ws.cell? ⟨gs, 0, none⟩ = some (.bool b00) := (blk_cell BS.out 0).trans rfl
    have hbs1 : ws.cell? ⟨gs, 1, none⟩ = some (.bool b01) := (blk_cell BS.out 1).trans rfl
    have hbs2 : ws.cell? ⟨gs, 2, none⟩ = some (.bool false) := (blk_cell BS.out 2).trans rfl
    have hbs3 : ws.cell? ⟨gs, 3, none⟩ = some (.bool false) := (blk_cell BS.out 3).trans rfl
    have hbs4 : ws.cell? ⟨gs, 4, none⟩ = some (.bool false) := (blk_cell BS.out 4).trans rfl
    have hbs5 : ws.cell? ⟨gs, 5, none⟩ = some (.bool false) := (blk_cell BS.out 5).trans rfl
    have hbs6 : ws.cell? ⟨gs, 6, none⟩ = some (.bool false) := (blk_cell BS.out 6).trans rfl
    have hbs7 : ws.cell? ⟨gs, 7, none⟩ = some (.bool false) := (blk_cell BS.out 7).trans rfl
    have hbs8 : ws.cell? ⟨gs, 8, none⟩ = some (.bool false) := (blk_cell BS.out 8).trans rfl
    have hfs0 := blk_frozen BS.out 0
    have hfs1 := blk_frozen BS.out 1
    have hfs2 := blk_frozen BS.out 2
    have hfs3 := blk_frozen BS.out 3
    have hfs4 := blk_frozen BS.out 4
    have hfs5 := blk_frozen BS.out 5
    have hfs6 := blk_frozen BS.out 6
    have hfs7 := blk_frozen BS.out 7
    have hfs8 := blk_frozen BS.out 8
    rw [rounds_succ]
    go_wp2_with (fail)
    apply via_meet (F := fun wz => wz.heap[gb]? = some (.cells #[.string x0.f0, .string x0.f1, .int .i64 x0.f2, .int .i64 x0.f3, .string x1.f0, .string x1.f1, .int .i64 x1.f2, .int .i64 x1.f3, .string x2.f0, .string x2.f1, .int .i64 x2.f2, .int .i64 x2.f3] 46 (0, 0)) ∧ wz.heap[gs]? = some (.cells #[.bool b00, .bool b01, .bool false, .bool false, .bool false, .bool false, .bool false, .bool false, .bool false] 48 (0, 0)) ∧ Below w.heap.size w wz)
    case h1 =>
      intro key
      go_region_with (go_at_call 25; (with_reducible refine (binds_Same.calls 9000000 _ _ l0 _ _ _ _ _ _ _ _ b02 e02 _ ?side1 ?side2 S02.out).mono ?_); (case side1 => repeat (first | exact (Kd.C_below HR0.out HB.out) | (with_reducible refine Kd.C_alloc ?_ _) | (with_reducible refine Kd.C_drewN ?_ _) | (with_reducible refine Kd.C_drew ?_))); (case side2 => exact HC0.out); rintro e wz ⟨rfl, hb⟩; have n1_ := (blk_below (g := gb) (o := .cells #[.string x0.f0, .string x0.f1, .int .i64 x0.f2, .int .i64 x0.f3, .string x1.f0, .string x1.f1, .int .i64 x1.f2, .int .i64 x1.f3, .string x2.f0, .string x2.f1, .int .i64 x2.f2, .int .i64 x2.f3] 46 (0, 0)) (by (with_reducible repeat (first | refine bN ?_ _ | refine bD ?_ | refine bA ?_ _)); exact BK.out) hb); have n2_ := (blk_below (g := gs) (o := .cells #[.bool b00, .bool b01, .bool false, .bool false, .bool false, .bool false, .bool false, .bool false, .bool false] 48 (0, 0)) (by (with_reducible repeat (first | refine bN ?_ _ | refine bD ?_ | refine bA ?_ _)); exact BS.out) hb); have n3_ := (below_step (by repeat (first | (with_reducible first | exact HB.out | apply wA | apply wN | apply wD | refine below_set ?_ GE.out | refine below_set ?_ GS.out) | exact HB.out)) hb); clear hb)
      all_goals exact key _ ⟨by assumption, by assumption, by assumption⟩
    intro wz ⟨q1, q2, q3⟩
    clear BK BS HB
    clear hcz0
    clear hcz1
    clear hcz2
    clear hcz3
    clear hcz4
    clear hcz5
    clear hcz6
    clear hcz7
    clear hcz8
    clear hcz9
    clear hcz10
    clear hcz11
    clear hbs0
    clear hbs1
    clear hbs2
    clear hbs3
    clear hbs4
    clear hbs5
    clear hbs6
    clear hbs7
    clear hbs8
    clear hfs0
    clear hfs1
    clear hfs2
    clear hfs3
    clear hfs4
    clear hfs5
    clear hfs6
    clear hfs7
    clear hfs8
    have BK := ak q1
    have BS := ak q2
    have HB := ak q3
    clear q1 q2 q3
    have hcz0 : wz.cell? ⟨gb, 0, none⟩ = some (.string x0.f0) := (blk_cell BK.out 0).trans rfl
    have hcz1 : wz.cell? ⟨gb, 1, none⟩ = some (.string x0.f1) := (blk_cell BK.out 1).trans rfl
    have hcz2 : wz.cell? ⟨gb, 2, none⟩ = some (.int .i64 x0.f2) := (blk_cell BK.out 2).trans rfl
    have hcz3 : wz.cell? ⟨gb, 3, none⟩ = some (.int .i64 x0.f3) := (blk_cell BK.out 3).trans rfl
    have hcz4 : wz.cell? ⟨gb, 4, none⟩ = some (.string x1.f0) := (blk_cell BK.out 4).trans rfl
    have hcz5 : wz.cell? ⟨gb, 5, none⟩ = some (.string x1.f1) := (blk_cell BK.out 5).trans rfl
    have hcz6 : wz.cell? ⟨gb, 6, none⟩ = some (.int .i64 x1.f2) := (blk_cell BK.out 6).trans rfl
    have hcz7 : wz.cell? ⟨gb, 7, none⟩ = some (.int .i64 x1.f3) := (blk_cell BK.out 7).trans rfl
    have hcz8 : wz.cell? ⟨gb, 8, none⟩ = some (.string x2.f0) := (blk_cell BK.out 8).trans rfl
    have hcz9 : wz.cell? ⟨gb, 9, none⟩ = some (.string x2.f1) := (blk_cell BK.out 9).trans rfl
    have hcz10 : wz.cell? ⟨gb, 10, none⟩ = some (.int .i64 x2.f2) := (blk_cell BK.out 10).trans rfl
    have hcz11 : wz.cell? ⟨gb, 11, none⟩ = some (.int .i64 x2.f3) := (blk_cell BK.out 11).trans rfl
    have hbs0 : wz.cell? ⟨gs, 0, none⟩ = some (.bool b00) := (blk_cell BS.out 0).trans rfl
    have hbs1 : wz.cell? ⟨gs, 1, none⟩ = some (.bool b01) := (blk_cell BS.out 1).trans rfl
    have hbs2 : wz.cell? ⟨gs, 2, none⟩ = some (.bool false) := (blk_cell BS.out 2).trans rfl
    have hbs3 : wz.cell? ⟨gs, 3, none⟩ = some (.bool false) := (blk_cell BS.out 3).trans rfl
    have hbs4 : wz.cell? ⟨gs, 4, none⟩ = some (.bool false) := (blk_cell BS.out 4).trans rfl
    have hbs5 : wz.cell? ⟨gs, 5, none⟩ = some (.bool false) := (blk_cell BS.out 5).trans rfl
    have hbs6 : wz.cell? ⟨gs, 6, none⟩ = some (.bool false) := (blk_cell BS.out 6).trans rfl
    have hbs7 : wz.cell? ⟨gs, 7, none⟩ = some (.bool false) := (blk_cell BS.out 7).trans rfl
    have hbs8 : wz.cell? ⟨gs, 8, none⟩ = some (.bool false) := (blk_cell BS.out 8).trans rfl
    have hfs0 := blk_frozen BS.out 0
    have hfs1 := blk_frozen BS.out 1
    have hfs2 := blk_frozen BS.out 2
    have hfs3 := blk_frozen BS.out 3
    have hfs4 := blk_frozen BS.out 4
    have hfs5 := blk_frozen BS.out 5
    have hfs6 := blk_frozen BS.out 6
    have hfs7 := blk_frozen BS.out 7
    have hfs8 := blk_frozen BS.out 8
    by_cases c02 : e02 = 0
    rotate_left
    · have eb : (e02 != 0) = true := by simp [c02]
      have eb2 := B02.out c02
      subst eb2
      go_wp2_with (first | (go_at_call 11; (with_reducible refine (mummerlaw11_awake.calls 9000000 true _ ⟨rfl⟩ AW.out).mono ?_); rintro e wy ⟨rfl, hb⟩; have n3_ := ak (below_step (by repeat (first | (with_reducible first | exact HB.out | apply wA | apply wN | apply wD | refine below_set ?_ GE.out | refine below_set ?_ GS.out) | exact HB.out)) hb); clear HB; have HB := n3_; clear n3_; clear hb))
      go_ret
      exact ⟨by first | rfl | (simp [errW_none, errW_some] <;> rfl) | (simp [*, errW_none, errW_some] <;> rfl), by repeat (first | (with_reducible first | exact HB.out | apply wA | apply wN | apply wD | refine below_set ?_ GE.out | refine below_set ?_ GS.out) | exact HB.out)⟩
    have eb : (e02 != 0) = false := by simp [c02]
    go_wp2_with (fail)
    clear eb
    have q2 := blk_put BS.out 2 (.bool b02) (cs' := #[.bool b00, .bool b01, .bool b02, .bool false, .bool false, .bool false, .bool false, .bool false, .bool false]) rfl
    have q1 := blk_far (p := ⟨gs, 2, none⟩) BK.out NE (.bool b02)
    have q3 := below_set (g := gs) (j := 2) (v := .bool b02) HB.out GS.out
    clear hcz0
    clear hcz1
    clear hcz2
    clear hcz3
    clear hcz4
    clear hcz5
    clear hcz6
    clear hcz7
    clear hcz8
    clear hcz9
    clear hcz10
    clear hcz11
    clear hbs0
    clear hbs1
    clear hbs2
    clear hbs3
    clear hbs4
    clear hbs5
    clear hbs6
    clear hbs7
    clear hbs8
    clear hfs0
    clear hfs1
    clear hfs2
    clear hfs3
    clear hfs4
    clear hfs5
    clear hfs6
    clear hfs7
    clear hfs8
    clear BK BS HB
    generalize World.setCell wz ⟨gs, 2, none⟩ (.bool b02) = ws at q1 q2 q3 ⊢
    have BK := ak q1
    have BS := ak q2
    have HB := ak q3
    clear q1 q2 q3
    have hcz0 : ws.cell? ⟨gb, 0, none⟩ = some (.string x0.f0) := (blk_cell BK.out 0).trans rfl
    have hcz1 : ws.cell? ⟨gb, 1, none⟩ = some (.string x0.f1) := (blk_cell BK.out 1).trans rfl
    have hcz2 : ws.cell? ⟨gb, 2, none⟩ = some (.int .i64 x0.f2) := (blk_cell BK.out 2).trans rfl
    have hcz3 : ws.cell? ⟨gb, 3, none⟩ = some (.int .i64 x0.f3) := (blk_cell BK.out 3).trans rfl
    have hcz4 : ws.cell? ⟨gb, 4, none⟩ = some (.string x1.f0) := (blk_cell BK.out 4).trans rfl
    have hcz5 : ws.cell? ⟨gb, 5, none⟩ = some (.string x1.f1) := (blk_cell BK.out 5).trans rfl
    have hcz6 : ws.cell? ⟨gb, 6, none⟩ = some (.int .i64 x1.f2) := (blk_cell BK.out 6).trans rfl
    have hcz7 : ws.cell? ⟨gb, 7, none⟩ = some (.int .i64 x1.f3) := (blk_cell BK.out 7).trans rfl
    have hcz8 : ws.cell? ⟨gb, 8, none⟩ = some (.string x2.f0) := (blk_cell BK.out 8).trans rfl
    have hcz9 : ws.cell? ⟨gb, 9, none⟩ = some (.string x2.f1) := (blk_cell BK.out 9).trans rfl
    have hcz10 : ws.cell? ⟨gb, 10, none⟩ = some (.int .i64 x2.f2) := (blk_cell BK.out 10).trans rfl
    have hcz11 : ws.cell? ⟨gb, 11, none⟩ = some (.int .i64 x2.f3) := (blk_cell BK.out 11).trans rfl
    have hbs0 : ws.cell? ⟨gs, 0, none⟩ = some (.bool b00) := (blk_cell BS.out 0).trans rfl
    have hbs1 : ws.cell? ⟨gs, 1, none⟩ = some (.bool b01) := (blk_cell BS.out 1).trans rfl
    have hbs2 : ws.cell? ⟨gs, 2, none⟩ = some (.bool b02) := (blk_cell BS.out 2).trans rfl
    have hbs3 : ws.cell? ⟨gs, 3, none⟩ = some (.bool false) := (blk_cell BS.out 3).trans rfl
    have hbs4 : ws.cell? ⟨gs, 4, none⟩ = some (.bool false) := (blk_cell BS.out 4).trans rfl
    have hbs5 : ws.cell? ⟨gs, 5, none⟩ = some (.bool false) := (blk_cell BS.out 5).trans rfl
    have hbs6 : ws.cell? ⟨gs, 6, none⟩ = some (.bool false) := (blk_cell BS.out 6).trans rfl
    have hbs7 : ws.cell? ⟨gs, 7, none⟩ = some (.bool false) := (blk_cell BS.out 7).trans rfl
    have hbs8 : ws.cell? ⟨gs, 8, none⟩ = some (.bool false) := (blk_cell BS.out 8).trans rfl
    have hfs0 := blk_frozen BS.out 0
    have hfs1 := blk_frozen BS.out 1
    have hfs2 := blk_frozen BS.out 2
    have hfs3 := blk_frozen BS.out 3
    have hfs4 := blk_frozen BS.out 4
    have hfs5 := blk_frozen BS.out 5
    have hfs6 := blk_frozen BS.out 6
    have hfs7 := blk_frozen BS.out 7
    have hfs8 := blk_frozen BS.out 8
    rw [rounds_succ]
    go_wp2_with (fail)
    rw [rounds_succ]
    go_wp2_with (fail)
    refine wp_loop_rounds 4 ?_
    rw [rounds_succ]
    go_wp2_with (fail)
    apply via_meet (F := fun wz => wz.heap[gb]? = some (.cells #[.string x0.f0, .string x0.f1, .int .i64 x0.f2, .int .i64 x0.f3, .string x1.f0, .string x1.f1, .int .i64 x1.f2, .int .i64 x1.f3, .string x2.f0, .string x2.f1, .int .i64 x2.f2, .int .i64 x2.f3] 46 (0, 0)) ∧ wz.heap[gs]? = some (.cells #[.bool b00, .bool b01, .bool b02, .bool false, .bool false, .bool false, .bool false, .bool false, .bool false] 48 (0, 0)) ∧ Below w.heap.size w wz)
    case h1 =>
      intro key
      go_region_with (go_at_call 25; (with_reducible refine (binds_Same.calls 9000000 _ _ l0 _ _ _ _ _ _ _ _ b10 e10 _ ?side1 ?side2 S10.out).mono ?_); (case side1 => repeat (first | exact (Kd.C_below HR0.out HB.out) | (with_reducible refine Kd.C_alloc ?_ _) | (with_reducible refine Kd.C_drewN ?_ _) | (with_reducible refine Kd.C_drew ?_))); (case side2 => exact HC0.out); rintro e wz ⟨rfl, hb⟩; have n1_ := (blk_below (g := gb) (o := .cells #[.string x0.f0, .string x0.f1, .int .i64 x0.f2, .int .i64 x0.f3, .string x1.f0, .string x1.f1, .int .i64 x1.f2, .int .i64 x1.f3, .string x2.f0, .string x2.f1, .int .i64 x2.f2, .int .i64 x2.f3] 46 (0, 0)) (by (with_reducible repeat (first | refine bN ?_ _ | refine bD ?_ | refine bA ?_ _)); exact BK.out) hb); have n2_ := (blk_below (g := gs) (o := .cells #[.bool b00, .bool b01, .bool b02, .bool false, .bool false, .bool false, .bool false, .bool false, .bool false] 48 (0, 0)) (by (with_reducible repeat (first | refine bN ?_ _ | refine bD ?_ | refine bA ?_ _)); exact BS.out) hb); have n3_ := (below_step (by repeat (first | (with_reducible first | exact HB.out | apply wA | apply wN | apply wD | refine below_set ?_ GE.out | refine below_set ?_ GS.out) | exact HB.out)) hb); clear hb)
      all_goals exact key _ ⟨by assumption, by assumption, by assumption⟩
    intro wz ⟨q1, q2, q3⟩
    clear BK BS HB
    clear hcz0
    clear hcz1
    clear hcz2
    clear hcz3
    clear hcz4
    clear hcz5
    clear hcz6
    clear hcz7
    clear hcz8
    clear hcz9
    clear hcz10
    clear hcz11
    clear hbs0
    clear hbs1
    clear hbs2
    clear hbs3
    clear hbs4
    clear hbs5
    clear hbs6
    clear hbs7
    clear hbs8
    clear hfs0
    clear hfs1
    clear hfs2
    clear hfs3
    clear hfs4
    clear hfs5
    clear hfs6
    clear hfs7
    clear hfs8
    have BK := ak q1
    have BS := ak q2
    have HB := ak q3
    clear q1 q2 q3
    have hcz0 : wz.cell? ⟨gb, 0, none⟩ = some (.string x0.f0) := (blk_cell BK.out 0).trans rfl
    have hcz1 : wz.cell? ⟨gb, 1, none⟩ = some (.string x0.f1) := (blk_cell BK.out 1).trans rfl
    have hcz2 : wz.cell? ⟨gb, 2, none⟩ = some (.int .i64 x0.f2) := (blk_cell BK.out 2).trans rfl
    have hcz3 : wz.cell? ⟨gb, 3, none⟩ = some (.int .i64 x0.f3) := (blk_cell BK.out 3).trans rfl
    have hcz4 : wz.cell? ⟨gb, 4, none⟩ = some (.string x1.f0) := (blk_cell BK.out 4).trans rfl
    have hcz5 : wz.cell? ⟨gb, 5, none⟩ = some (.string x1.f1) := (blk_cell BK.out 5).trans rfl
    have hcz6 : wz.cell? ⟨gb, 6, none⟩ = some (.int .i64 x1.f2) := (blk_cell BK.out 6).trans rfl
    have hcz7 : wz.cell? ⟨gb, 7, none⟩ = some (.int .i64 x1.f3) := (blk_cell BK.out 7).trans rfl
    have hcz8 : wz.cell? ⟨gb, 8, none⟩ = some (.string x2.f0) := (blk_cell BK.out 8).trans rfl
    have hcz9 : wz.cell? ⟨gb, 9, none⟩ = some (.string x2.f1) := (blk_cell BK.out 9).trans rfl
    have hcz10 : wz.cell? ⟨gb, 10, none⟩ = some (.int .i64 x2.f2) := (blk_cell BK.out 10).trans rfl
    have hcz11 : wz.cell? ⟨gb, 11, none⟩ = some (.int .i64 x2.f3) := (blk_cell BK.out 11).trans rfl
    have hbs0 : wz.cell? ⟨gs, 0, none⟩ = some (.bool b00) := (blk_cell BS.out 0).trans rfl
    have hbs1 : wz.cell? ⟨gs, 1, none⟩ = some (.bool b01) := (blk_cell BS.out 1).trans rfl
    have hbs2 : wz.cell? ⟨gs, 2, none⟩ = some (.bool b02) := (blk_cell BS.out 2).trans rfl
    have hbs3 : wz.cell? ⟨gs, 3, none⟩ = some (.bool false) := (blk_cell BS.out 3).trans rfl
    have hbs4 : wz.cell? ⟨gs, 4, none⟩ = some (.bool false) := (blk_cell BS.out 4).trans rfl
    have hbs5 : wz.cell? ⟨gs, 5, none⟩ = some (.bool false) := (blk_cell BS.out 5).trans rfl
    have hbs6 : wz.cell? ⟨gs, 6, none⟩ = some (.bool false) := (blk_cell BS.out 6).trans rfl
    have hbs7 : wz.cell? ⟨gs, 7, none⟩ = some (.bool false) := (blk_cell BS.out 7).trans rfl
    have hbs8 : wz.cell? ⟨gs, 8, none⟩ = some (.bool false) := (blk_cell BS.out 8).trans rfl
    have hfs0 := blk_frozen BS.out 0
    have hfs1 := blk_frozen BS.out 1
    have hfs2 := blk_frozen BS.out 2
    have hfs3 := blk_frozen BS.out 3
    have hfs4 := blk_frozen BS.out 4
    have hfs5 := blk_frozen BS.out 5
    have hfs6 := blk_frozen BS.out 6
    have hfs7 := blk_frozen BS.out 7
    have hfs8 := blk_frozen BS.out 8
    by_cases c10 : e10 = 0
    rotate_left
    · have eb : (e10 != 0) = true := by simp [c10]
      have eb2 := B10.out c10
      subst eb2
      go_wp2_with (first | (go_at_call 11; (with_reducible refine (mummerlaw11_awake.calls 9000000 true _ ⟨rfl⟩ AW.out).mono ?_); rintro e wy ⟨rfl, hb⟩; have n3_ := ak (below_step (by repeat (first | (with_reducible first | exact HB.out | apply wA | apply wN | apply wD | refine below_set ?_ GE.out | refine below_set ?_ GS.out) | exact HB.out)) hb); clear HB; have HB := n3_; clear n3_; clear hb))
      go_ret
      exact ⟨by first | rfl | (simp [errW_none, errW_some] <;> rfl) | (simp [*, errW_none, errW_some] <;> rfl), by repeat (first | (with_reducible first | exact HB.out | apply wA | apply wN | apply wD | refine below_set ?_ GE.out | refine below_set ?_ GS.out) | exact HB.out)⟩
    have eb : (e10 != 0) = false := by simp [c10]
    go_wp2_with (fail)
    clear eb
    have q2 := blk_put BS.out 3 (.bool b10) (cs' := #[.bool b00, .bool b01, .bool b02, .bool b10, .bool false, .bool false, .bool false, .bool false, .bool false]) rfl
    have q1 := blk_far (p := ⟨gs, 3, none⟩) BK.out NE (.bool b10)
    have q3 := below_set (g := gs) (j := 3) (v := .bool b10) HB.out GS.out
    clear hcz0
    clear hcz1
    clear hcz2
    clear hcz3
    clear hcz4
    clear hcz5
    clear hcz6
    clear hcz7
    clear hcz8
    clear hcz9
    clear hcz10
    clear hcz11
    clear hbs0
    clear hbs1
    clear hbs2
    clear hbs3
    clear hbs4
    clear hbs5
    clear hbs6
    clear hbs7
    clear hbs8
    clear hfs0
    clear hfs1
    clear hfs2
    clear hfs3
    clear hfs4
    clear hfs5
    clear hfs6
    clear hfs7
    clear hfs8
    clear BK BS HB
    generalize World.setCell wz ⟨gs, 3, none⟩ (.bool b10) = ws at q1 q2 q3 ⊢
    have BK := ak q1
    have BS := ak q2
    have HB := ak q3
    clear q1 q2 q3
    have hcz0 : ws.cell? ⟨gb, 0, none⟩ = some (.string x0.f0) := (blk_cell BK.out 0).trans rfl
    have hcz1 : ws.cell? ⟨gb, 1, none⟩ = some (.string x0.f1) := (blk_cell BK.out 1).trans rfl
    have hcz2 : ws.cell? ⟨gb, 2, none⟩ = some (.int .i64 x0.f2) := (blk_cell BK.out 2).trans rfl
    have hcz3 : ws.cell? ⟨gb, 3, none⟩ = some (.int .i64 x0.f3) := (blk_cell BK.out 3).trans rfl
    have hcz4 : ws.cell? ⟨gb, 4, none⟩ = some (.string x1.f0) := (blk_cell BK.out 4).trans rfl
    have hcz5 : ws.cell? ⟨gb, 5, none⟩ = some (.string x1.f1) := (blk_cell BK.out 5).trans rfl
    have hcz6 : ws.cell? ⟨gb, 6, none⟩ = some (.int .i64 x1.f2) := (blk_cell BK.out 6).trans rfl
    have hcz7 : ws.cell? ⟨gb, 7, none⟩ = some (.int .i64 x1.f3) := (blk_cell BK.out 7).trans rfl
    have hcz8 : ws.cell? ⟨gb, 8, none⟩ = some (.string x2.f0) := (blk_cell BK.out 8).trans rfl
    have hcz9 : ws.cell? ⟨gb, 9, none⟩ = some (.string x2.f1) := (blk_cell BK.out 9).trans rfl
    have hcz10 : ws.cell? ⟨gb, 10, none⟩ = some (.int .i64 x2.f2) := (blk_cell BK.out 10).trans rfl
    have hcz11 : ws.cell? ⟨gb, 11, none⟩ = some (.int .i64 x2.f3) := (blk_cell BK.out 11).trans rfl
    have hbs0 : ws.cell? ⟨gs, 0, none⟩ = some (.bool b00) := (blk_cell BS.out 0).trans rfl
    have hbs1 : ws.cell? ⟨gs, 1, none⟩ = some (.bool b01) := (blk_cell BS.out 1).trans rfl
    have hbs2 : ws.cell? ⟨gs, 2, none⟩ = some (.bool b02) := (blk_cell BS.out 2).trans rfl
    have hbs3 : ws.cell? ⟨gs, 3, none⟩ = some (.bool b10) := (blk_cell BS.out 3).trans rfl
    have hbs4 : ws.cell? ⟨gs, 4, none⟩ = some (.bool false) := (blk_cell BS.out 4).trans rfl
    have hbs5 : ws.cell? ⟨gs, 5, none⟩ = some (.bool false) := (blk_cell BS.out 5).trans rfl
    have hbs6 : ws.cell? ⟨gs, 6, none⟩ = some (.bool false) := (blk_cell BS.out 6).trans rfl
    have hbs7 : ws.cell? ⟨gs, 7, none⟩ = some (.bool false) := (blk_cell BS.out 7).trans rfl
    have hbs8 : ws.cell? ⟨gs, 8, none⟩ = some (.bool false) := (blk_cell BS.out 8).trans rfl
    have hfs0 := blk_frozen BS.out 0
    have hfs1 := blk_frozen BS.out 1
    have hfs2 := blk_frozen BS.out 2
    have hfs3 := blk_frozen BS.out 3
    have hfs4 := blk_frozen BS.out 4
    have hfs5 := blk_frozen BS.out 5
    have hfs6 := blk_frozen BS.out 6
    have hfs7 := blk_frozen BS.out 7
    have hfs8 := blk_frozen BS.out 8
    rw [rounds_succ]
    go_wp2_with (fail)
    apply via_meet (F := fun wz => wz.heap[gb]? = some (.cells #[.string x0.f0, .string x0.f1, .int .i64 x0.f2, .int .i64 x0.f3, .string x1.f0, .string x1.f1, .int .i64 x1.f2, .int .i64 x1.f3, .string x2.f0, .string x2.f1, .int .i64 x2.f2, .int .i64 x2.f3] 46 (0, 0)) ∧ wz.heap[gs]? = some (.cells #[.bool b00, .bool b01, .bool b02, .bool b10, .bool false, .bool false, .bool false, .bool false, .bool false] 48 (0, 0)) ∧ Below w.heap.size w wz)
    case h1 =>
      intro key
      go_region_with (go_at_call 25; (with_reducible refine (binds_Same.calls 9000000 _ _ l0 _ _ _ _ _ _ _ _ b11 e11 _ ?side1 ?side2 S11.out).mono ?_); (case side1 => repeat (first | exact (Kd.C_below HR0.out HB.out) | (with_reducible refine Kd.C_alloc ?_ _) | (with_reducible refine Kd.C_drewN ?_ _) | (with_reducible refine Kd.C_drew ?_))); (case side2 => exact HC0.out); rintro e wz ⟨rfl, hb⟩; have n1_ := (blk_below (g := gb) (o := .cells #[.string x0.f0, .string x0.f1, .int .i64 x0.f2, .int .i64 x0.f3, .string x1.f0, .string x1.f1, .int .i64 x1.f2, .int .i64 x1.f3, .string x2.f0, .string x2.f1, .int .i64 x2.f2, .int .i64 x2.f3] 46 (0, 0)) (by (with_reducible repeat (first | refine bN ?_ _ | refine bD ?_ | refine bA ?_ _)); exact BK.out) hb); have n2_ := (blk_below (g := gs) (o := .cells #[.bool b00, .bool b01, .bool b02, .bool b10, .bool false, .bool false, .bool false, .bool false, .bool false] 48 (0, 0)) (by (with_reducible repeat (first | refine bN ?_ _ | refine bD ?_ | refine bA ?_ _)); exact BS.out) hb); have n3_ := (below_step (by repeat (first | (with_reducible first | exact HB.out | apply wA | apply wN | apply wD | refine below_set ?_ GE.out | refine below_set ?_ GS.out) | exact HB.out)) hb); clear hb)
      all_goals exact key _ ⟨by assumption, by assumption, by assumption⟩
    intro wz ⟨q1, q2, q3⟩
    clear BK BS HB
    clear hcz0
    clear hcz1
    clear hcz2
    clear hcz3
    clear hcz4
    clear hcz5
    clear hcz6
    clear hcz7
    clear hcz8
    clear hcz9
    clear hcz10
    clear hcz11
    clear hbs0
    clear hbs1
    clear hbs2
    clear hbs3
    clear hbs4
    clear hbs5
    clear hbs6
    clear hbs7
    clear hbs8
    clear hfs0
    clear hfs1
    clear hfs2
    clear hfs3
    clear hfs4
    clear hfs5
    clear hfs6
    clear hfs7
    clear hfs8
    have BK := ak q1
    have BS := ak q2
    have HB := ak q3
    clear q1 q2 q3
    have hcz0 : wz.cell? ⟨gb, 0, none⟩ = some (.string x0.f0) := (blk_cell BK.out 0).trans rfl
    have hcz1 : wz.cell? ⟨gb, 1, none⟩ = some (.string x0.f1) := (blk_cell BK.out 1).trans rfl
    have hcz2 : wz.cell? ⟨gb, 2, none⟩ = some (.int .i64 x0.f2) := (blk_cell BK.out 2).trans rfl
    have hcz3 : wz.cell? ⟨gb, 3, none⟩ = some (.int .i64 x0.f3) := (blk_cell BK.out 3).trans rfl
    have hcz4 : wz.cell? ⟨gb, 4, none⟩ = some (.string x1.f0) := (blk_cell BK.out 4).trans rfl
    have hcz5 : wz.cell? ⟨gb, 5, none⟩ = some (.string x1.f1) := (blk_cell BK.out 5).trans rfl
    have hcz6 : wz.cell? ⟨gb, 6, none⟩ = some (.int .i64 x1.f2) := (blk_cell BK.out 6).trans rfl
    have hcz7 : wz.cell? ⟨gb, 7, none⟩ = some (.int .i64 x1.f3) := (blk_cell BK.out 7).trans rfl
    have hcz8 : wz.cell? ⟨gb, 8, none⟩ = some (.string x2.f0) := (blk_cell BK.out 8).trans rfl
    have hcz9 : wz.cell? ⟨gb, 9, none⟩ = some (.string x2.f1) := (blk_cell BK.out 9).trans rfl
    have hcz10 : wz.cell? ⟨gb, 10, none⟩ = some (.int .i64 x2.f2) := (blk_cell BK.out 10).trans rfl
    have hcz11 : wz.cell? ⟨gb, 11, none⟩ = some (.int .i64 x2.f3) := (blk_cell BK.out 11).trans rfl
    have hbs0 : wz.cell? ⟨gs, 0, none⟩ = some (.bool b00) := (blk_cell BS.out 0).trans rfl
    have hbs1 : wz.cell? ⟨gs, 1, none⟩ = some (.bool b01) := (blk_cell BS.out 1).trans rfl
    have hbs2 : wz.cell? ⟨gs, 2, none⟩ = some (.bool b02) := (blk_cell BS.out 2).trans rfl
    have hbs3 : wz.cell? ⟨gs, 3, none⟩ = some (.bool b10) := (blk_cell BS.out 3).trans rfl
    have hbs4 : wz.cell? ⟨gs, 4, none⟩ = some (.bool false) := (blk_cell BS.out 4).trans rfl
    have hbs5 : wz.cell? ⟨gs, 5, none⟩ = some (.bool false) := (blk_cell BS.out 5).trans rfl
    have hbs6 : wz.cell? ⟨gs, 6, none⟩ = some (.bool false) := (blk_cell BS.out 6).trans rfl
    have hbs7 : wz.cell? ⟨gs, 7, none⟩ = some (.bool false) := (blk_cell BS.out 7).trans rfl
    have hbs8 : wz.cell? ⟨gs, 8, none⟩ = some (.bool false) := (blk_cell BS.out 8).trans rfl
    have hfs0 := blk_frozen BS.out 0
    have hfs1 := blk_frozen BS.out 1
    have hfs2 := blk_frozen BS.out 2
    have hfs3 := blk_frozen BS.out 3
    have hfs4 := blk_frozen BS.out 4
    have hfs5 := blk_frozen BS.out 5
    have hfs6 := blk_frozen BS.out 6
    have hfs7 := blk_frozen BS.out 7
    have hfs8 := blk_frozen BS.out 8
    by_cases c11 : e11 = 0
    rotate_left
    · have eb : (e11 != 0) = true := by simp [c11]
      have eb2 := B11.out c11
      subst eb2
      go_wp2_with (first | (go_at_call 11; (with_reducible refine (mummerlaw11_awake.calls 9000000 true _ ⟨rfl⟩ AW.out).mono ?_); rintro e wy ⟨rfl, hb⟩; have n3_ := ak (below_step (by repeat (first | (with_reducible first | exact HB.out | apply wA | apply wN | apply wD | refine below_set ?_ GE.out | refine below_set ?_ GS.out) | exact HB.out)) hb); clear HB; have HB := n3_; clear n3_; clear hb))
      go_ret
      exact ⟨by first | rfl | (simp [errW_none, errW_some] <;> rfl) | (simp [*, errW_none, errW_some] <;> rfl), by repeat (first | (with_reducible first | exact HB.out | apply wA | apply wN | apply wD | refine below_set ?_ GE.out | refine below_set ?_ GS.out) | exact HB.out)⟩
    have eb : (e11 != 0) = false := by simp [c11]
    go_wp2_with (fail)
    clear eb
    have q2 := blk_put BS.out 4 (.bool b11) (cs' := #[.bool b00, .bool b01, .bool b02, .bool b10, .bool b11, .bool false, .bool false, .bool false, .bool false]) rfl
    have q1 := blk_far (p := ⟨gs, 4, none⟩) BK.out NE (.bool b11)
    have q3 := below_set (g := gs) (j := 4) (v := .bool b11) HB.out GS.out
    clear hcz0
    clear hcz1
    clear hcz2
    clear hcz3
    clear hcz4
    clear hcz5
    clear hcz6
    clear hcz7
    clear hcz8
    clear hcz9
    clear hcz10
    clear hcz11
    clear hbs0
    clear hbs1
    clear hbs2
    clear hbs3
    clear hbs4
    clear hbs5
    clear hbs6
    clear hbs7
    clear hbs8
    clear hfs0
    clear hfs1
    clear hfs2
    clear hfs3
    clear hfs4
    clear hfs5
    clear hfs6
    clear hfs7
    clear hfs8
    clear BK BS HB
    generalize World.setCell wz ⟨gs, 4, none⟩ (.bool b11) = ws at q1 q2 q3 ⊢
    have BK := ak q1
    have BS := ak q2
    have HB := ak q3
    clear q1 q2 q3
    have hcz0 : ws.cell? ⟨gb, 0, none⟩ = some (.string x0.f0) := (blk_cell BK.out 0).trans rfl
    have hcz1 : ws.cell? ⟨gb, 1, none⟩ = some (.string x0.f1) := (blk_cell BK.out 1).trans rfl
    have hcz2 : ws.cell? ⟨gb, 2, none⟩ = some (.int .i64 x0.f2) := (blk_cell BK.out 2).trans rfl
    have hcz3 : ws.cell? ⟨gb, 3, none⟩ = some (.int .i64 x0.f3) := (blk_cell BK.out 3).trans rfl
    have hcz4 : ws.cell? ⟨gb, 4, none⟩ = some (.string x1.f0) := (blk_cell BK.out 4).trans rfl
    have hcz5 : ws.cell? ⟨gb, 5, none⟩ = some (.string x1.f1) := (blk_cell BK.out 5).trans rfl
    have hcz6 : ws.cell? ⟨gb, 6, none⟩ = some (.int .i64 x1.f2) := (blk_cell BK.out 6).trans rfl
    have hcz7 : ws.cell? ⟨gb, 7, none⟩ = some (.int .i64 x1.f3) := (blk_cell BK.out 7).trans rfl
    have hcz8 : ws.cell? ⟨gb, 8, none⟩ = some (.string x2.f0) := (blk_cell BK.out 8).trans rfl
    have hcz9 : ws.cell? ⟨gb, 9, none⟩ = some (.string x2.f1) := (blk_cell BK.out 9).trans rfl
    have hcz10 : ws.cell? ⟨gb, 10, none⟩ = some (.int .i64 x2.f2) := (blk_cell BK.out 10).trans rfl
    have hcz11 : ws.cell? ⟨gb, 11, none⟩ = some (.int .i64 x2.f3) := (blk_cell BK.out 11).trans rfl
    have hbs0 : ws.cell? ⟨gs, 0, none⟩ = some (.bool b00) := (blk_cell BS.out 0).trans rfl
    have hbs1 : ws.cell? ⟨gs, 1, none⟩ = some (.bool b01) := (blk_cell BS.out 1).trans rfl
    have hbs2 : ws.cell? ⟨gs, 2, none⟩ = some (.bool b02) := (blk_cell BS.out 2).trans rfl
    have hbs3 : ws.cell? ⟨gs, 3, none⟩ = some (.bool b10) := (blk_cell BS.out 3).trans rfl
    have hbs4 : ws.cell? ⟨gs, 4, none⟩ = some (.bool b11) := (blk_cell BS.out 4).trans rfl
    have hbs5 : ws.cell? ⟨gs, 5, none⟩ = some (.bool false) := (blk_cell BS.out 5).trans rfl
    have hbs6 : ws.cell? ⟨gs, 6, none⟩ = some (.bool false) := (blk_cell BS.out 6).trans rfl
    have hbs7 : ws.cell? ⟨gs, 7, none⟩ = some (.bool false) := (blk_cell BS.out 7).trans rfl
    have hbs8 : ws.cell? ⟨gs, 8, none⟩ = some (.bool false) := (blk_cell BS.out 8).trans rfl
    have hfs0 := blk_frozen BS.out 0
    have hfs1 := blk_frozen BS.out 1
    have hfs2 := blk_frozen BS.out 2
    have hfs3 := blk_frozen BS.out 3
    have hfs4 := blk_frozen BS.out 4
    have hfs5 := blk_frozen BS.out 5
    have hfs6 := blk_frozen BS.out 6
    have hfs7 := blk_frozen BS.out 7
    have hfs8 := blk_frozen BS.out 8
    rw [rounds_succ]
    go_wp2_with (fail)
    apply via_meet (F := fun wz => wz.heap[gb]? = some (.cells #[.string x0.f0, .string x0.f1, .int .i64 x0.f2, .int .i64 x0.f3, .string x1.f0, .string x1.f1, .int .i64 x1.f2, .int .i64 x1.f3, .string x2.f0, .string x2.f1, .int .i64 x2.f2, .int .i64 x2.f3] 46 (0, 0)) ∧ wz.heap[gs]? = some (.cells #[.bool b00, .bool b01, .bool b02, .bool b10, .bool b11, .bool false, .bool false, .bool false, .bool false] 48 (0, 0)) ∧ Below w.heap.size w wz)
    case h1 =>
      intro key
      go_region_with (go_at_call 25; (with_reducible refine (binds_Same.calls 9000000 _ _ l0 _ _ _ _ _ _ _ _ b12 e12 _ ?side1 ?side2 S12.out).mono ?_); (case side1 => repeat (first | exact (Kd.C_below HR0.out HB.out) | (with_reducible refine Kd.C_alloc ?_ _) | (with_reducible refine Kd.C_drewN ?_ _) | (with_reducible refine Kd.C_drew ?_))); (case side2 => exact HC0.out); rintro e wz ⟨rfl, hb⟩; have n1_ := (blk_below (g := gb) (o := .cells #[.string x0.f0, .string x0.f1, .int .i64 x0.f2, .int .i64 x0.f3, .string x1.f0, .string x1.f1, .int .i64 x1.f2, .int .i64 x1.f3, .string x2.f0, .string x2.f1, .int .i64 x2.f2, .int .i64 x2.f3] 46 (0, 0)) (by (with_reducible repeat (first | refine bN ?_ _ | refine bD ?_ | refine bA ?_ _)); exact BK.out) hb); have n2_ := (blk_below (g := gs) (o := .cells #[.bool b00, .bool b01, .bool b02, .bool b10, .bool b11, .bool false, .bool false, .bool false, .bool false] 48 (0, 0)) (by (with_reducible repeat (first | refine bN ?_ _ | refine bD ?_ | refine bA ?_ _)); exact BS.out) hb); have n3_ := (below_step (by repeat (first | (with_reducible first | exact HB.out | apply wA | apply wN | apply wD | refine below_set ?_ GE.out | refine below_set ?_ GS.out) | exact HB.out)) hb); clear hb)
      all_goals exact key _ ⟨by assumption, by assumption, by assumption⟩
    intro wz ⟨q1, q2, q3⟩
    clear BK BS HB
    clear hcz0
    clear hcz1
    clear hcz2
    clear hcz3
    clear hcz4
    clear hcz5
    clear hcz6
    clear hcz7
    clear hcz8
    clear hcz9
    clear hcz10
    clear hcz11
    clear hbs0
    clear hbs1
    clear hbs2
    clear hbs3
    clear hbs4
    clear hbs5
    clear hbs6
    clear hbs7
    clear hbs8
    clear hfs0
    clear hfs1
    clear hfs2
    clear hfs3
    clear hfs4
    clear hfs5
    clear hfs6
    clear hfs7
    clear hfs8
    have BK := ak q1
    have BS := ak q2
    have HB := ak q3
    clear q1 q2 q3
    have hcz0 : wz.cell? ⟨gb, 0, none⟩ = some (.string x0.f0) := (blk_cell BK.out 0).trans rfl
    have hcz1 : wz.cell? ⟨gb, 1, none⟩ = some (.string x0.f1) := (blk_cell BK.out 1).trans rfl
    have hcz2 : wz.cell? ⟨gb, 2, none⟩ = some (.int .i64 x0.f2) := (blk_cell BK.out 2).trans rfl
    have hcz3 : wz.cell? ⟨gb, 3, none⟩ = some (.int .i64 x0.f3) := (blk_cell BK.out 3).trans rfl
    have hcz4 : wz.cell? ⟨gb, 4, none⟩ = some (.string x1.f0) := (blk_cell BK.out 4).trans rfl
    have hcz5 : wz.cell? ⟨gb, 5, none⟩ = some (.string x1.f1) := (blk_cell BK.out 5).trans rfl
    have hcz6 : wz.cell? ⟨gb, 6, none⟩ = some (.int .i64 x1.f2) := (blk_cell BK.out 6).trans rfl
    have hcz7 : wz.cell? ⟨gb, 7, none⟩ = some (.int .i64 x1.f3) := (blk_cell BK.out 7).trans rfl
    have hcz8 : wz.cell? ⟨gb, 8, none⟩ = some (.string x2.f0) := (blk_cell BK.out 8).trans rfl
    have hcz9 : wz.cell? ⟨gb, 9, none⟩ = some (.string x2.f1) := (blk_cell BK.out 9).trans rfl
    have hcz10 : wz.cell? ⟨gb, 10, none⟩ = some (.int .i64 x2.f2) := (blk_cell BK.out 10).trans rfl
    have hcz11 : wz.cell? ⟨gb, 11, none⟩ = some (.int .i64 x2.f3) := (blk_cell BK.out 11).trans rfl
    have hbs0 : wz.cell? ⟨gs, 0, none⟩ = some (.bool b00) := (blk_cell BS.out 0).trans rfl
    have hbs1 : wz.cell? ⟨gs, 1, none⟩ = some (.bool b01) := (blk_cell BS.out 1).trans rfl
    have hbs2 : wz.cell? ⟨gs, 2, none⟩ = some (.bool b02) := (blk_cell BS.out 2).trans rfl
    have hbs3 : wz.cell? ⟨gs, 3, none⟩ = some (.bool b10) := (blk_cell BS.out 3).trans rfl
    have hbs4 : wz.cell? ⟨gs, 4, none⟩ = some (.bool b11) := (blk_cell BS.out 4).trans rfl
    have hbs5 : wz.cell? ⟨gs, 5, none⟩ = some (.bool false) := (blk_cell BS.out 5).trans rfl
    have hbs6 : wz.cell? ⟨gs, 6, none⟩ = some (.bool false) := (blk_cell BS.out 6).trans rfl
    have hbs7 : wz.cell? ⟨gs, 7, none⟩ = some (.bool false) := (blk_cell BS.out 7).trans rfl
    have hbs8 : wz.cell? ⟨gs, 8, none⟩ = some (.bool false) := (blk_cell BS.out 8).trans rfl
    have hfs0 := blk_frozen BS.out 0
    have hfs1 := blk_frozen BS.out 1
    have hfs2 := blk_frozen BS.out 2
    have hfs3 := blk_frozen BS.out 3
    have hfs4 := blk_frozen BS.out 4
    have hfs5 := blk_frozen BS.out 5
    have hfs6 := blk_frozen BS.out 6
    have hfs7 := blk_frozen BS.out 7
    have hfs8 := blk_frozen BS.out 8
    by_cases c12 : e12 = 0
    rotate_left
    · have eb : (e12 != 0) = true := by simp [c12]
      have eb2 := B12.out c12
      subst eb2
      go_wp2_with (first | (go_at_call 11; (with_reducible refine (mummerlaw11_awake.calls 9000000 true _ ⟨rfl⟩ AW.out).mono ?_); rintro e wy ⟨rfl, hb⟩; have n3_ := ak (below_step (by repeat (first | (with_reducible first | exact HB.out | apply wA | apply wN | apply wD | refine below_set ?_ GE.out | refine below_set ?_ GS.out) | exact HB.out)) hb); clear HB; have HB := n3_; clear n3_; clear hb))
      go_ret
      exact ⟨by first | rfl | (simp [errW_none, errW_some] <;> rfl) | (simp [*, errW_none, errW_some] <;> rfl), by repeat (first | (with_reducible first | exact HB.out | apply wA | apply wN | apply wD | refine below_set ?_ GE.out | refine below_set ?_ GS.out) | exact HB.out)⟩
    have eb : (e12 != 0) = false := by simp [c12]
    go_wp2_with (fail)
    clear eb
    have q2 := blk_put BS.out 5 (.bool b12) (cs' := #[.bool b00, .bool b01, .bool b02, .bool b10, .bool b11, .bool b12, .bool false, .bool false, .bool false]) rfl
    have q1 := blk_far (p := ⟨gs, 5, none⟩) BK.out NE (.bool b12)
    have q3 := below_set (g := gs) (j := 5) (v := .bool b12) HB.out GS.out
    clear hcz0
    clear hcz1
    clear hcz2
    clear hcz3
    clear hcz4
    clear hcz5
    clear hcz6
    clear hcz7
    clear hcz8
    clear hcz9
    clear hcz10
    clear hcz11
    clear hbs0
    clear hbs1
    clear hbs2
    clear hbs3
    clear hbs4
    clear hbs5
    clear hbs6
    clear hbs7
    clear hbs8
    clear hfs0
    clear hfs1
    clear hfs2
    clear hfs3
    clear hfs4
    clear hfs5
    clear hfs6
    clear hfs7
    clear hfs8
    clear BK BS HB
    generalize World.setCell wz ⟨gs, 5, none⟩ (.bool b12) = ws at q1 q2 q3 ⊢
    have BK := ak q1
    have BS := ak q2
    have HB := ak q3
    clear q1 q2 q3
    have hcz0 : ws.cell? ⟨gb, 0, none⟩ = some (.string x0.f0) := (blk_cell BK.out 0).trans rfl
    have hcz1 : ws.cell? ⟨gb, 1, none⟩ = some (.string x0.f1) := (blk_cell BK.out 1).trans rfl
    have hcz2 : ws.cell? ⟨gb, 2, none⟩ = some (.int .i64 x0.f2) := (blk_cell BK.out 2).trans rfl
    have hcz3 : ws.cell? ⟨gb, 3, none⟩ = some (.int .i64 x0.f3) := (blk_cell BK.out 3).trans rfl
    have hcz4 : ws.cell? ⟨gb, 4, none⟩ = some (.string x1.f0) := (blk_cell BK.out 4).trans rfl
    have hcz5 : ws.cell? ⟨gb, 5, none⟩ = some (.string x1.f1) := (blk_cell BK.out 5).trans rfl
    have hcz6 : ws.cell? ⟨gb, 6, none⟩ = some (.int .i64 x1.f2) := (blk_cell BK.out 6).trans rfl
    have hcz7 : ws.cell? ⟨gb, 7, none⟩ = some (.int .i64 x1.f3) := (blk_cell BK.out 7).trans rfl
    have hcz8 : ws.cell? ⟨gb, 8, none⟩ = some (.string x2.f0) := (blk_cell BK.out 8).trans rfl
    have hcz9 : ws.cell? ⟨gb, 9, none⟩ = some (.string x2.f1) := (blk_cell BK.out 9).trans rfl
    have hcz10 : ws.cell? ⟨gb, 10, none⟩ = some (.int .i64 x2.f2) := (blk_cell BK.out 10).trans rfl
    have hcz11 : ws.cell? ⟨gb, 11, none⟩ = some (.int .i64 x2.f3) := (blk_cell BK.out 11).trans rfl
    have hbs0 : ws.cell? ⟨gs, 0, none⟩ = some (.bool b00) := (blk_cell BS.out 0).trans rfl
    have hbs1 : ws.cell? ⟨gs, 1, none⟩ = some (.bool b01) := (blk_cell BS.out 1).trans rfl
    have hbs2 : ws.cell? ⟨gs, 2, none⟩ = some (.bool b02) := (blk_cell BS.out 2).trans rfl
    have hbs3 : ws.cell? ⟨gs, 3, none⟩ = some (.bool b10) := (blk_cell BS.out 3).trans rfl
    have hbs4 : ws.cell? ⟨gs, 4, none⟩ = some (.bool b11) := (blk_cell BS.out 4).trans rfl
    have hbs5 : ws.cell? ⟨gs, 5, none⟩ = some (.bool b12) := (blk_cell BS.out 5).trans rfl
    have hbs6 : ws.cell? ⟨gs, 6, none⟩ = some (.bool false) := (blk_cell BS.out 6).trans rfl
    have hbs7 : ws.cell? ⟨gs, 7, none⟩ = some (.bool false) := (blk_cell BS.out 7).trans rfl
    have hbs8 : ws.cell? ⟨gs, 8, none⟩ = some (.bool false) := (blk_cell BS.out 8).trans rfl
    have hfs0 := blk_frozen BS.out 0
    have hfs1 := blk_frozen BS.out 1
    have hfs2 := blk_frozen BS.out 2
    have hfs3 := blk_frozen BS.out 3
    have hfs4 := blk_frozen BS.out 4
    have hfs5 := blk_frozen BS.out 5
    have hfs6 := blk_frozen BS.out 6
    have hfs7 := blk_frozen BS.out 7
    have hfs8 := blk_frozen BS.out 8
    rw [rounds_succ]
    go_wp2_with (fail)
    rw [rounds_succ]
    go_wp2_with (fail)
    refine wp_loop_rounds 4 ?_
    rw [rounds_succ]
    go_wp2_with (fail)
    apply via_meet (F := fun wz => wz.heap[gb]? = some (.cells #[.string x0.f0, .string x0.f1, .int .i64 x0.f2, .int .i64 x0.f3, .string x1.f0, .string x1.f1, .int .i64 x1.f2, .int .i64 x1.f3, .string x2.f0, .string x2.f1, .int .i64 x2.f2, .int .i64 x2.f3] 46 (0, 0)) ∧ wz.heap[gs]? = some (.cells #[.bool b00, .bool b01, .bool b02, .bool b10, .bool b11, .bool b12, .bool false, .bool false, .bool false] 48 (0, 0)) ∧ Below w.heap.size w wz)
    case h1 =>
      intro key
      go_region_with (go_at_call 25; (with_reducible refine (binds_Same.calls 9000000 _ _ l0 _ _ _ _ _ _ _ _ b20 e20 _ ?side1 ?side2 S20.out).mono ?_); (case side1 => repeat (first | exact (Kd.C_below HR0.out HB.out) | (with_reducible refine Kd.C_alloc ?_ _) | (with_reducible refine Kd.C_drewN ?_ _) | (with_reducible refine Kd.C_drew ?_))); (case side2 => exact HC0.out); rintro e wz ⟨rfl, hb⟩; have n1_ := (blk_below (g := gb) (o := .cells #[.string x0.f0, .string x0.f1, .int .i64 x0.f2, .int .i64 x0.f3, .string x1.f0, .string x1.f1, .int .i64 x1.f2, .int .i64 x1.f3, .string x2.f0, .string x2.f1, .int .i64 x2.f2, .int .i64 x2.f3] 46 (0, 0)) (by (with_reducible repeat (first | refine bN ?_ _ | refine bD ?_ | refine bA ?_ _)); exact BK.out) hb); have n2_ := (blk_below (g := gs) (o := .cells #[.bool b00, .bool b01, .bool b02, .bool b10, .bool b11, .bool b12, .bool false, .bool false, .bool false] 48 (0, 0)) (by (with_reducible repeat (first | refine bN ?_ _ | refine bD ?_ | refine bA ?_ _)); exact BS.out) hb); have n3_ := (below_step (by repeat (first | (with_reducible first | exact HB.out | apply wA | apply wN | apply wD | refine below_set ?_ GE.out | refine below_set ?_ GS.out) | exact HB.out)) hb); clear hb)
      all_goals exact key _ ⟨by assumption, by assumption, by assumption⟩
    intro wz ⟨q1, q2, q3⟩
    clear BK BS HB
    clear hcz0
    clear hcz1
    clear hcz2
    clear hcz3
    clear hcz4
    clear hcz5
    clear hcz6
    clear hcz7
    clear hcz8
    clear hcz9
    clear hcz10
    clear hcz11
    clear hbs0
    clear hbs1
    clear hbs2
    clear hbs3
    clear hbs4
    clear hbs5
    clear hbs6
    clear hbs7
    clear hbs8
    clear hfs0
    clear hfs1
    clear hfs2
    clear hfs3
    clear hfs4
    clear hfs5
    clear hfs6
    clear hfs7
    clear hfs8
    have BK := ak q1
    have BS := ak q2
    have HB := ak q3
    clear q1 q2 q3
    have hcz0 : wz.cell? ⟨gb, 0, none⟩ = some (.string x0.f0) := (blk_cell BK.out 0).trans rfl
    have hcz1 : wz.cell? ⟨gb, 1, none⟩ = some (.string x0.f1) := (blk_cell BK.out 1).trans rfl
    have hcz2 : wz.cell? ⟨gb, 2, none⟩ = some (.int .i64 x0.f2) := (blk_cell BK.out 2).trans rfl
    have hcz3 : wz.cell? ⟨gb, 3, none⟩ = some (.int .i64 x0.f3) := (blk_cell BK.out 3).trans rfl
    have hcz4 : wz.cell? ⟨gb, 4, none⟩ = some (.string x1.f0) := (blk_cell BK.out 4).trans rfl
    have hcz5 : wz.cell? ⟨gb, 5, none⟩ = some (.string x1.f1) := (blk_cell BK.out 5).trans rfl
    have hcz6 : wz.cell? ⟨gb, 6, none⟩ = some (.int .i64 x1.f2) := (blk_cell BK.out 6).trans rfl
    have hcz7 : wz.cell? ⟨gb, 7, none⟩ = some (.int .i64 x1.f3) := (blk_cell BK.out 7).trans rfl
    have hcz8 : wz.cell? ⟨gb, 8, none⟩ = some (.string x2.f0) := (blk_cell BK.out 8).trans rfl
    have hcz9 : wz.cell? ⟨gb, 9, none⟩ = some (.string x2.f1) := (blk_cell BK.out 9).trans rfl
    have hcz10 : wz.cell? ⟨gb, 10, none⟩ = some (.int .i64 x2.f2) := (blk_cell BK.out 10).trans rfl
    have hcz11 : wz.cell? ⟨gb, 11, none⟩ = some (.int .i64 x2.f3) := (blk_cell BK.out 11).trans rfl
    have hbs0 : wz.cell? ⟨gs, 0, none⟩ = some (.bool b00) := (blk_cell BS.out 0).trans rfl
    have hbs1 : wz.cell? ⟨gs, 1, none⟩ = some (.bool b01) := (blk_cell BS.out 1).trans rfl
    have hbs2 : wz.cell? ⟨gs, 2, none⟩ = some (.bool b02) := (blk_cell BS.out 2).trans rfl
    have hbs3 : wz.cell? ⟨gs, 3, none⟩ = some (.bool b10) := (blk_cell BS.out 3).trans rfl
    have hbs4 : wz.cell? ⟨gs, 4, none⟩ = some (.bool b11) := (blk_cell BS.out 4).trans rfl
    have hbs5 : wz.cell? ⟨gs, 5, none⟩ = some (.bool b12) := (blk_cell BS.out 5).trans rfl
    have hbs6 : wz.cell? ⟨gs, 6, none⟩ = some (.bool false) := (blk_cell BS.out 6).trans rfl
    have hbs7 : wz.cell? ⟨gs, 7, none⟩ = some (.bool false) := (blk_cell BS.out 7).trans rfl
    have hbs8 : wz.cell? ⟨gs, 8, none⟩ = some (.bool false) := (blk_cell BS.out 8).trans rfl
    have hfs0 := blk_frozen BS.out 0
    have hfs1 := blk_frozen BS.out 1
    have hfs2 := blk_frozen BS.out 2
    have hfs3 := blk_frozen BS.out 3
    have hfs4 := blk_frozen BS.out 4
    have hfs5 := blk_frozen BS.out 5
    have hfs6 := blk_frozen BS.out 6
    have hfs7 := blk_frozen BS.out 7
    have hfs8 := blk_frozen BS.out 8
    by_cases c20 : e20 = 0
    rotate_left
    · have eb : (e20 != 0) = true := by simp [c20]
      have eb2 := B20.out c20
      subst eb2
      go_wp2_with (first | (go_at_call 11; (with_reducible refine (mummerlaw11_awake.calls 9000000 true _ ⟨rfl⟩ AW.out).mono ?_); rintro e wy ⟨rfl, hb⟩; have n3_ := ak (below_step (by repeat (first | (with_reducible first | exact HB.out | apply wA | apply wN | apply wD | refine below_set ?_ GE.out | refine below_set ?_ GS.out) | exact HB.out)) hb); clear HB; have HB := n3_; clear n3_; clear hb))
      go_ret
      exact ⟨by first | rfl | (simp [errW_none, errW_some] <;> rfl) | (simp [*, errW_none, errW_some] <;> rfl), by repeat (first | (with_reducible first | exact HB.out | apply wA | apply wN | apply wD | refine below_set ?_ GE.out | refine below_set ?_ GS.out) | exact HB.out)⟩
    have eb : (e20 != 0) = false := by simp [c20]
    go_wp2_with (fail)
    clear eb
    have q2 := blk_put BS.out 6 (.bool b20) (cs' := #[.bool b00, .bool b01, .bool b02, .bool b10, .bool b11, .bool b12, .bool b20, .bool false, .bool false]) rfl
    have q1 := blk_far (p := ⟨gs, 6, none⟩) BK.out NE (.bool b20)
    have q3 := below_set (g := gs) (j := 6) (v := .bool b20) HB.out GS.out
    clear hcz0
    clear hcz1
    clear hcz2
    clear hcz3
    clear hcz4
    clear hcz5
    clear hcz6
    clear hcz7
    clear hcz8
    clear hcz9
    clear hcz10
    clear hcz11
    clear hbs0
    clear hbs1
    clear hbs2
    clear hbs3
    clear hbs4
    clear hbs5
    clear hbs6
    clear hbs7
    clear hbs8
    clear hfs0
    clear hfs1
    clear hfs2
    clear hfs3
    clear hfs4
    clear hfs5
    clear hfs6
    clear hfs7
    clear hfs8
    clear BK BS HB
    generalize World.setCell wz ⟨gs, 6, none⟩ (.bool b20) = ws at q1 q2 q3 ⊢
    have BK := ak q1
    have BS := ak q2
    have HB := ak q3
    clear q1 q2 q3
    have hcz0 : ws.cell? ⟨gb, 0, none⟩ = some (.string x0.f0) := (blk_cell BK.out 0).trans rfl
    have hcz1 : ws.cell? ⟨gb, 1, none⟩ = some (.string x0.f1) := (blk_cell BK.out 1).trans rfl
    have hcz2 : ws.cell? ⟨gb, 2, none⟩ = some (.int .i64 x0.f2) := (blk_cell BK.out 2).trans rfl
    have hcz3 : ws.cell? ⟨gb, 3, none⟩ = some (.int .i64 x0.f3) := (blk_cell BK.out 3).trans rfl
    have hcz4 : ws.cell? ⟨gb, 4, none⟩ = some (.string x1.f0) := (blk_cell BK.out 4).trans rfl
    have hcz5 : ws.cell? ⟨gb, 5, none⟩ = some (.string x1.f1) := (blk_cell BK.out 5).trans rfl
    have hcz6 : ws.cell? ⟨gb, 6, none⟩ = some (.int .i64 x1.f2) := (blk_cell BK.out 6).trans rfl
    have hcz7 : ws.cell? ⟨gb, 7, none⟩ = some (.int .i64 x1.f3) := (blk_cell BK.out 7).trans rfl
    have hcz8 : ws.cell? ⟨gb, 8, none⟩ = some (.string x2.f0) := (blk_cell BK.out 8).trans rfl
    have hcz9 : ws.cell? ⟨gb, 9, none⟩ = some (.string x2.f1) := (blk_cell BK.out 9).trans rfl
    have hcz10 : ws.cell? ⟨gb, 10, none⟩ = some (.int .i64 x2.f2) := (blk_cell BK.out 10).trans rfl
    have hcz11 : ws.cell? ⟨gb, 11, none⟩ = some (.int .i64 x2.f3) := (blk_cell BK.out 11).trans rfl
    have hbs0 : ws.cell? ⟨gs, 0, none⟩ = some (.bool b00) := (blk_cell BS.out 0).trans rfl
    have hbs1 : ws.cell? ⟨gs, 1, none⟩ = some (.bool b01) := (blk_cell BS.out 1).trans rfl
    have hbs2 : ws.cell? ⟨gs, 2, none⟩ = some (.bool b02) := (blk_cell BS.out 2).trans rfl
    have hbs3 : ws.cell? ⟨gs, 3, none⟩ = some (.bool b10) := (blk_cell BS.out 3).trans rfl
    have hbs4 : ws.cell? ⟨gs, 4, none⟩ = some (.bool b11) := (blk_cell BS.out 4).trans rfl
    have hbs5 : ws.cell? ⟨gs, 5, none⟩ = some (.bool b12) := (blk_cell BS.out 5).trans rfl
    have hbs6 : ws.cell? ⟨gs, 6, none⟩ = some (.bool b20) := (blk_cell BS.out 6).trans rfl
    have hbs7 : ws.cell? ⟨gs, 7, none⟩ = some (.bool false) := (blk_cell BS.out 7).trans rfl
    have hbs8 : ws.cell? ⟨gs, 8, none⟩ = some (.bool false) := (blk_cell BS.out 8).trans rfl
    have hfs0 := blk_frozen BS.out 0
    have hfs1 := blk_frozen BS.out 1
    have hfs2 := blk_frozen BS.out 2
    have hfs3 := blk_frozen BS.out 3
    have hfs4 := blk_frozen BS.out 4
    have hfs5 := blk_frozen BS.out 5
    have hfs6 := blk_frozen BS.out 6
    have hfs7 := blk_frozen BS.out 7
    have hfs8 := blk_frozen BS.out 8
    rw [rounds_succ]
    go_wp2_with (fail)
    apply via_meet (F := fun wz => wz.heap[gb]? = some (.cells #[.string x0.f0, .string x0.f1, .int .i64 x0.f2, .int .i64 x0.f3, .string x1.f0, .string x1.f1, .int .i64 x1.f2, .int .i64 x1.f3, .string x2.f0, .string x2.f1, .int .i64 x2.f2, .int .i64 x2.f3] 46 (0, 0)) ∧ wz.heap[gs]? = some (.cells #[.bool b00, .bool b01, .bool b02, .bool b10, .bool b11, .bool b12, .bool b20, .bool false, .bool false] 48 (0, 0)) ∧ Below w.heap.size w wz)
    case h1 =>
      intro key
      go_region_with (go_at_call 25; (with_reducible refine (binds_Same.calls 9000000 _ _ l0 _ _ _ _ _ _ _ _ b21 e21 _ ?side1 ?side2 S21.out).mono ?_); (case side1 => repeat (first | exact (Kd.C_below HR0.out HB.out) | (with_reducible refine Kd.C_alloc ?_ _) | (with_reducible refine Kd.C_drewN ?_ _) | (with_reducible refine Kd.C_drew ?_))); (case side2 => exact HC0.out); rintro e wz ⟨rfl, hb⟩; have n1_ := (blk_below (g := gb) (o := .cells #[.string x0.f0, .string x0.f1, .int .i64 x0.f2, .int .i64 x0.f3, .string x1.f0, .string x1.f1, .int .i64 x1.f2, .int .i64 x1.f3, .string x2.f0, .string x2.f1, .int .i64 x2.f2, .int .i64 x2.f3] 46 (0, 0)) (by (with_reducible repeat (first | refine bN ?_ _ | refine bD ?_ | refine bA ?_ _)); exact BK.out) hb); have n2_ := (blk_below (g := gs) (o := .cells #[.bool b00, .bool b01, .bool b02, .bool b10, .bool b11, .bool b12, .bool b20, .bool false, .bool false] 48 (0, 0)) (by (with_reducible repeat (first | refine bN ?_ _ | refine bD ?_ | refine bA ?_ _)); exact BS.out) hb); have n3_ := (below_step (by repeat (first | (with_reducible first | exact HB.out | apply wA | apply wN | apply wD | refine below_set ?_ GE.out | refine below_set ?_ GS.out) | exact HB.out)) hb); clear hb)
      all_goals exact key _ ⟨by assumption, by assumption, by assumption⟩
    intro wz ⟨q1, q2, q3⟩
    clear BK BS HB
    clear hcz0
    clear hcz1
    clear hcz2
    clear hcz3
    clear hcz4
    clear hcz5
    clear hcz6
    clear hcz7
    clear hcz8
    clear hcz9
    clear hcz10
    clear hcz11
    clear hbs0
    clear hbs1
    clear hbs2
    clear hbs3
    clear hbs4
    clear hbs5
    clear hbs6
    clear hbs7
    clear hbs8
    clear hfs0
    clear hfs1
    clear hfs2
    clear hfs3
    clear hfs4
    clear hfs5
    clear hfs6
    clear hfs7
    clear hfs8
    have BK := ak q1
    have BS := ak q2
    have HB := ak q3
    clear q1 q2 q3
    have hcz0 : wz.cell? ⟨gb, 0, none⟩ = some (.string x0.f0) := (blk_cell BK.out 0).trans rfl
    have hcz1 : wz.cell? ⟨gb, 1, none⟩ = some (.string x0.f1) := (blk_cell BK.out 1).trans rfl
    have hcz2 : wz.cell? ⟨gb, 2, none⟩ = some (.int .i64 x0.f2) := (blk_cell BK.out 2).trans rfl
    have hcz3 : wz.cell? ⟨gb, 3, none⟩ = some (.int .i64 x0.f3) := (blk_cell BK.out 3).trans rfl
    have hcz4 : wz.cell? ⟨gb, 4, none⟩ = some (.string x1.f0) := (blk_cell BK.out 4).trans rfl
    have hcz5 : wz.cell? ⟨gb, 5, none⟩ = some (.string x1.f1) := (blk_cell BK.out 5).trans rfl
    have hcz6 : wz.cell? ⟨gb, 6, none⟩ = some (.int .i64 x1.f2) := (blk_cell BK.out 6).trans rfl
    have hcz7 : wz.cell? ⟨gb, 7, none⟩ = some (.int .i64 x1.f3) := (blk_cell BK.out 7).trans rfl
    have hcz8 : wz.cell? ⟨gb, 8, none⟩ = some (.string x2.f0) := (blk_cell BK.out 8).trans rfl
    have hcz9 : wz.cell? ⟨gb, 9, none⟩ = some (.string x2.f1) := (blk_cell BK.out 9).trans rfl
    have hcz10 : wz.cell? ⟨gb, 10, none⟩ = some (.int .i64 x2.f2) := (blk_cell BK.out 10).trans rfl
    have hcz11 : wz.cell? ⟨gb, 11, none⟩ = some (.int .i64 x2.f3) := (blk_cell BK.out 11).trans rfl
    have hbs0 : wz.cell? ⟨gs, 0, none⟩ = some (.bool b00) := (blk_cell BS.out 0).trans rfl
    have hbs1 : wz.cell? ⟨gs, 1, none⟩ = some (.bool b01) := (blk_cell BS.out 1).trans rfl
    have hbs2 : wz.cell? ⟨gs, 2, none⟩ = some (.bool b02) := (blk_cell BS.out 2).trans rfl
    have hbs3 : wz.cell? ⟨gs, 3, none⟩ = some (.bool b10) := (blk_cell BS.out 3).trans rfl
    have hbs4 : wz.cell? ⟨gs, 4, none⟩ = some (.bool b11) := (blk_cell BS.out 4).trans rfl
    have hbs5 : wz.cell? ⟨gs, 5, none⟩ = some (.bool b12) := (blk_cell BS.out 5).trans rfl
    have hbs6 : wz.cell? ⟨gs, 6, none⟩ = some (.bool b20) := (blk_cell BS.out 6).trans rfl
    have hbs7 : wz.cell? ⟨gs, 7, none⟩ = some (.bool false) := (blk_cell BS.out 7).trans rfl
    have hbs8 : wz.cell? ⟨gs, 8, none⟩ = some (.bool false) := (blk_cell BS.out 8).trans rfl
    have hfs0 := blk_frozen BS.out 0
    have hfs1 := blk_frozen BS.out 1
    have hfs2 := blk_frozen BS.out 2
    have hfs3 := blk_frozen BS.out 3
    have hfs4 := blk_frozen BS.out 4
    have hfs5 := blk_frozen BS.out 5
    have hfs6 := blk_frozen BS.out 6
    have hfs7 := blk_frozen BS.out 7
    have hfs8 := blk_frozen BS.out 8
    by_cases c21 : e21 = 0
    rotate_left
    · have eb : (e21 != 0) = true := by simp [c21]
      have eb2 := B21.out c21
      subst eb2
      go_wp2_with (first | (go_at_call 11; (with_reducible refine (mummerlaw11_awake.calls 9000000 true _ ⟨rfl⟩ AW.out).mono ?_); rintro e wy ⟨rfl, hb⟩; have n3_ := ak (below_step (by repeat (first | (with_reducible first | exact HB.out | apply wA | apply wN | apply wD | refine below_set ?_ GE.out | refine below_set ?_ GS.out) | exact HB.out)) hb); clear HB; have HB := n3_; clear n3_; clear hb))
      go_ret
      exact ⟨by first | rfl | (simp [errW_none, errW_some] <;> rfl) | (simp [*, errW_none, errW_some] <;> rfl), by repeat (first | (with_reducible first | exact HB.out | apply wA | apply wN | apply wD | refine below_set ?_ GE.out | refine below_set ?_ GS.out) | exact HB.out)⟩
    have eb : (e21 != 0) = false := by simp [c21]
    go_wp2_with (fail)
    clear eb
    have q2 := blk_put BS.out 7 (.bool b21) (cs' := #[.bool b00, .bool b01, .bool b02, .bool b10, .bool b11, .bool b12, .bool b20, .bool b21, .bool false]) rfl
    have q1 := blk_far (p := ⟨gs, 7, none⟩) BK.out NE (.bool b21)
    have q3 := below_set (g := gs) (j := 7) (v := .bool b21) HB.out GS.out
    clear hcz0
    clear hcz1
    clear hcz2
    clear hcz3
    clear hcz4
    clear hcz5
    clear hcz6
    clear hcz7
    clear hcz8
    clear hcz9
    clear hcz10
    clear hcz11
    clear hbs0
    clear hbs1
    clear hbs2
    clear hbs3
    clear hbs4
    clear hbs5
    clear hbs6
    clear hbs7
    clear hbs8
    clear hfs0
    clear hfs1
    clear hfs2
    clear hfs3
    clear hfs4
    clear hfs5
    clear hfs6
    clear hfs7
    clear hfs8
    clear BK BS HB
    generalize World.setCell wz ⟨gs, 7, none⟩ (.bool b21) = ws at q1 q2 q3 ⊢
    have BK := ak q1
    have BS := ak q2
    have HB := ak q3
    clear q1 q2 q3
    have hcz0 : ws.cell? ⟨gb, 0, none⟩ = some (.string x0.f0) := (blk_cell BK.out 0).trans rfl
    have hcz1 : ws.cell? ⟨gb, 1, none⟩ = some (.string x0.f1) := (blk_cell BK.out 1).trans rfl
    have hcz2 : ws.cell? ⟨gb, 2, none⟩ = some (.int .i64 x0.f2) := (blk_cell BK.out 2).trans rfl
    have hcz3 : ws.cell? ⟨gb, 3, none⟩ = some (.int .i64 x0.f3) := (blk_cell BK.out 3).trans rfl
    have hcz4 : ws.cell? ⟨gb, 4, none⟩ = some (.string x1.f0) := (blk_cell BK.out 4).trans rfl
    have hcz5 : ws.cell? ⟨gb, 5, none⟩ = some (.string x1.f1) := (blk_cell BK.out 5).trans rfl
    have hcz6 : ws.cell? ⟨gb, 6, none⟩ = some (.int .i64 x1.f2) := (blk_cell BK.out 6).trans rfl
    have hcz7 : ws.cell? ⟨gb, 7, none⟩ = some (.int .i64 x1.f3) := (blk_cell BK.out 7).trans rfl
    have hcz8 : ws.cell? ⟨gb, 8, none⟩ = some (.string x2.f0) := (blk_cell BK.out 8).trans rfl
    have hcz9 : ws.cell? ⟨gb, 9, none⟩ = some (.string x2.f1) := (blk_cell BK.out 9).trans rfl
    have hcz10 : ws.cell? ⟨gb, 10, none⟩ = some (.int .i64 x2.f2) := (blk_cell BK.out 10).trans rfl
    have hcz11 : ws.cell? ⟨gb, 11, none⟩ = some (.int .i64 x2.f3) := (blk_cell BK.out 11).trans rfl
    have hbs0 : ws.cell? ⟨gs, 0, none⟩ = some (.bool b00) := (blk_cell BS.out 0).trans rfl
    have hbs1 : ws.cell? ⟨gs, 1, none⟩ = some (.bool b01) := (blk_cell BS.out 1).trans rfl
    have hbs2 : ws.cell? ⟨gs, 2, none⟩ = some (.bool b02) := (blk_cell BS.out 2).trans rfl
    have hbs3 : ws.cell? ⟨gs, 3, none⟩ = some (.bool b10) := (blk_cell BS.out 3).trans rfl
    have hbs4 : ws.cell? ⟨gs, 4, none⟩ = some (.bool b11) := (blk_cell BS.out 4).trans rfl
    have hbs5 : ws.cell? ⟨gs, 5, none⟩ = some (.bool b12) := (blk_cell BS.out 5).trans rfl
    have hbs6 : ws.cell? ⟨gs, 6, none⟩ = some (.bool b20) := (blk_cell BS.out 6).trans rfl
    have hbs7 : ws.cell? ⟨gs, 7, none⟩ = some (.bool b21) := (blk_cell BS.out 7).trans rfl
    have hbs8 : ws.cell? ⟨gs, 8, none⟩ = some (.bool false) := (blk_cell BS.out 8).trans rfl
    have hfs0 := blk_frozen BS.out 0
    have hfs1 := blk_frozen BS.out 1
    have hfs2 := blk_frozen BS.out 2
    have hfs3 := blk_frozen BS.out 3
    have hfs4 := blk_frozen BS.out 4
    have hfs5 := blk_frozen BS.out 5
    have hfs6 := blk_frozen BS.out 6
    have hfs7 := blk_frozen BS.out 7
    have hfs8 := blk_frozen BS.out 8
    rw [rounds_succ]
    go_wp2_with (fail)
    apply via_meet (F := fun wz => wz.heap[gb]? = some (.cells #[.string x0.f0, .string x0.f1, .int .i64 x0.f2, .int .i64 x0.f3, .string x1.f0, .string x1.f1, .int .i64 x1.f2, .int .i64 x1.f3, .string x2.f0, .string x2.f1, .int .i64 x2.f2, .int .i64 x2.f3] 46 (0, 0)) ∧ wz.heap[gs]? = some (.cells #[.bool b00, .bool b01, .bool b02, .bool b10, .bool b11, .bool b12, .bool b20, .bool b21, .bool false] 48 (0, 0)) ∧ Below w.heap.size w wz)
    case h1 =>
      intro key
      go_region_with (go_at_call 25; (with_reducible refine (binds_Same.calls 9000000 _ _ l0 _ _ _ _ _ _ _ _ b22 e22 _ ?side1 ?side2 S22.out).mono ?_); (case side1 => repeat (first | exact (Kd.C_below HR0.out HB.out) | (with_reducible refine Kd.C_alloc ?_ _) | (with_reducible refine Kd.C_drewN ?_ _) | (with_reducible refine Kd.C_drew ?_))); (case side2 => exact HC0.out); rintro e wz ⟨rfl, hb⟩; have n1_ := (blk_below (g := gb) (o := .cells #[.string x0.f0, .string x0.f1, .int .i64 x0.f2, .int .i64 x0.f3, .string x1.f0, .string x1.f1, .int .i64 x1.f2, .int .i64 x1.f3, .string x2.f0, .string x2.f1, .int .i64 x2.f2, .int .i64 x2.f3] 46 (0, 0)) (by (with_reducible repeat (first | refine bN ?_ _ | refine bD ?_ | refine bA ?_ _)); exact BK.out) hb); have n2_ := (blk_below (g := gs) (o := .cells #[.bool b00, .bool b01, .bool b02, .bool b10, .bool b11, .bool b12, .bool b20, .bool b21, .bool false] 48 (0, 0)) (by (with_reducible repeat (first | refine bN ?_ _ | refine bD ?_ | refine bA ?_ _)); exact BS.out) hb); have n3_ := (below_step (by repeat (first | (with_reducible first | exact HB.out | apply wA | apply wN | apply wD | refine below_set ?_ GE.out | refine below_set ?_ GS.out) | exact HB.out)) hb); clear hb)
      all_goals exact key _ ⟨by assumption, by assumption, by assumption⟩
    intro wz ⟨q1, q2, q3⟩
    clear BK BS HB
    clear hcz0
    clear hcz1
    clear hcz2
    clear hcz3
    clear hcz4
    clear hcz5
    clear hcz6
    clear hcz7
    clear hcz8
    clear hcz9
    clear hcz10
    clear hcz11
    clear hbs0
    clear hbs1
    clear hbs2
    clear hbs3
    clear hbs4
    clear hbs5
    clear hbs6
    clear hbs7
    clear hbs8
    clear hfs0
    clear hfs1
    clear hfs2
    clear hfs3
    clear hfs4
    clear hfs5
    clear hfs6
    clear hfs7
    clear hfs8
    have BK := ak q1
    have BS := ak q2
    have HB := ak q3
    clear q1 q2 q3
    have hcz0 : wz.cell? ⟨gb, 0, none⟩ = some (.string x0.f0) := (blk_cell BK.out 0).trans rfl
    have hcz1 : wz.cell? ⟨gb, 1, none⟩ = some (.string x0.f1) := (blk_cell BK.out 1).trans rfl
    have hcz2 : wz.cell? ⟨gb, 2, none⟩ = some (.int .i64 x0.f2) := (blk_cell BK.out 2).trans rfl
    have hcz3 : wz.cell? ⟨gb, 3, none⟩ = some (.int .i64 x0.f3) := (blk_cell BK.out 3).trans rfl
    have hcz4 : wz.cell? ⟨gb, 4, none⟩ = some (.string x1.f0) := (blk_cell BK.out 4).trans rfl
    have hcz5 : wz.cell? ⟨gb, 5, none⟩ = some (.string x1.f1) := (blk_cell BK.out 5).trans rfl
    have hcz6 : wz.cell? ⟨gb, 6, none⟩ = some (.int .i64 x1.f2) := (blk_cell BK.out 6).trans rfl
    have hcz7 : wz.cell? ⟨gb, 7, none⟩ = some (.int .i64 x1.f3) := (blk_cell BK.out 7).trans rfl
    have hcz8 : wz.cell? ⟨gb, 8, none⟩ = some (.string x2.f0) := (blk_cell BK.out 8).trans rfl
    have hcz9 : wz.cell? ⟨gb, 9, none⟩ = some (.string x2.f1) := (blk_cell BK.out 9).trans rfl
    have hcz10 : wz.cell? ⟨gb, 10, none⟩ = some (.int .i64 x2.f2) := (blk_cell BK.out 10).trans rfl
    have hcz11 : wz.cell? ⟨gb, 11, none⟩ = some (.int .i64 x2.f3) := (blk_cell BK.out 11).trans rfl
    have hbs0 : wz.cell? ⟨gs, 0, none⟩ = some (.bool b00) := (blk_cell BS.out 0).trans rfl
    have hbs1 : wz.cell? ⟨gs, 1, none⟩ = some (.bool b01) := (blk_cell BS.out 1).trans rfl
    have hbs2 : wz.cell? ⟨gs, 2, none⟩ = some (.bool b02) := (blk_cell BS.out 2).trans rfl
    have hbs3 : wz.cell? ⟨gs, 3, none⟩ = some (.bool b10) := (blk_cell BS.out 3).trans rfl
    have hbs4 : wz.cell? ⟨gs, 4, none⟩ = some (.bool b11) := (blk_cell BS.out 4).trans rfl
    have hbs5 : wz.cell? ⟨gs, 5, none⟩ = some (.bool b12) := (blk_cell BS.out 5).trans rfl
    have hbs6 : wz.cell? ⟨gs, 6, none⟩ = some (.bool b20) := (blk_cell BS.out 6).trans rfl
    have hbs7 : wz.cell? ⟨gs, 7, none⟩ = some (.bool b21) := (blk_cell BS.out 7).trans rfl
    have hbs8 : wz.cell? ⟨gs, 8, none⟩ = some (.bool false) := (blk_cell BS.out 8).trans rfl
    have hfs0 := blk_frozen BS.out 0
    have hfs1 := blk_frozen BS.out 1
    have hfs2 := blk_frozen BS.out 2
    have hfs3 := blk_frozen BS.out 3
    have hfs4 := blk_frozen BS.out 4
    have hfs5 := blk_frozen BS.out 5
    have hfs6 := blk_frozen BS.out 6
    have hfs7 := blk_frozen BS.out 7
    have hfs8 := blk_frozen BS.out 8
    by_cases c22 : e22 = 0
    rotate_left
    · have eb : (e22 != 0) = true := by simp [c22]
      have eb2 := B22.out c22
      subst eb2
      go_wp2_with (first | (go_at_call 11; (with_reducible refine (mummerlaw11_awake.calls 9000000 true _ ⟨rfl⟩ AW.out).mono ?_); rintro e wy ⟨rfl, hb⟩; have n3_ := ak (below_step (by repeat (first | (with_reducible first | exact HB.out | apply wA | apply wN | apply wD | refine below_set ?_ GE.out | refine below_set ?_ GS.out) | exact HB.out)) hb); clear HB; have HB := n3_; clear n3_; clear hb))
      go_ret
      exact ⟨by first | rfl | (simp [errW_none, errW_some] <;> rfl) | (simp [*, errW_none, errW_some] <;> rfl), by repeat (first | (with_reducible first | exact HB.out | apply wA | apply wN | apply wD | refine below_set ?_ GE.out | refine below_set ?_ GS.out) | exact HB.out)⟩
    have eb : (e22 != 0) = false := by simp [c22]
    go_wp2_with (fail)
    clear eb
    have q2 := blk_put BS.out 8 (.bool b22) (cs' := #[.bool b00, .bool b01, .bool b02, .bool b10, .bool b11, .bool b12, .bool b20, .bool b21, .bool b22]) rfl
    have q1 := blk_far (p := ⟨gs, 8, none⟩) BK.out NE (.bool b22)
    have q3 := below_set (g := gs) (j := 8) (v := .bool b22) HB.out GS.out
    clear hcz0
    clear hcz1
    clear hcz2
    clear hcz3
    clear hcz4
    clear hcz5
    clear hcz6
    clear hcz7
    clear hcz8
    clear hcz9
    clear hcz10
    clear hcz11
    clear hbs0
    clear hbs1
    clear hbs2
    clear hbs3
    clear hbs4
    clear hbs5
    clear hbs6
    clear hbs7
    clear hbs8
    clear hfs0
    clear hfs1
    clear hfs2
    clear hfs3
    clear hfs4
    clear hfs5
    clear hfs6
    clear hfs7
    clear hfs8
    clear BK BS HB
    generalize World.setCell wz ⟨gs, 8, none⟩ (.bool b22) = ws at q1 q2 q3 ⊢
    have BK := ak q1
    have BS := ak q2
    have HB := ak q3
    clear q1 q2 q3
    have hcz0 : ws.cell? ⟨gb, 0, none⟩ = some (.string x0.f0) := (blk_cell BK.out 0).trans rfl
    have hcz1 : ws.cell? ⟨gb, 1, none⟩ = some (.string x0.f1) := (blk_cell BK.out 1).trans rfl
    have hcz2 : ws.cell? ⟨gb, 2, none⟩ = some (.int .i64 x0.f2) := (blk_cell BK.out 2).trans rfl
    have hcz3 : ws.cell? ⟨gb, 3, none⟩ = some (.int .i64 x0.f3) := (blk_cell BK.out 3).trans rfl
    have hcz4 : ws.cell? ⟨gb, 4, none⟩ = some (.string x1.f0) := (blk_cell BK.out 4).trans rfl
    have hcz5 : ws.cell? ⟨gb, 5, none⟩ = some (.string x1.f1) := (blk_cell BK.out 5).trans rfl
    have hcz6 : ws.cell? ⟨gb, 6, none⟩ = some (.int .i64 x1.f2) := (blk_cell BK.out 6).trans rfl
    have hcz7 : ws.cell? ⟨gb, 7, none⟩ = some (.int .i64 x1.f3) := (blk_cell BK.out 7).trans rfl
    have hcz8 : ws.cell? ⟨gb, 8, none⟩ = some (.string x2.f0) := (blk_cell BK.out 8).trans rfl
    have hcz9 : ws.cell? ⟨gb, 9, none⟩ = some (.string x2.f1) := (blk_cell BK.out 9).trans rfl
    have hcz10 : ws.cell? ⟨gb, 10, none⟩ = some (.int .i64 x2.f2) := (blk_cell BK.out 10).trans rfl
    have hcz11 : ws.cell? ⟨gb, 11, none⟩ = some (.int .i64 x2.f3) := (blk_cell BK.out 11).trans rfl
    have hbs0 : ws.cell? ⟨gs, 0, none⟩ = some (.bool b00) := (blk_cell BS.out 0).trans rfl
    have hbs1 : ws.cell? ⟨gs, 1, none⟩ = some (.bool b01) := (blk_cell BS.out 1).trans rfl
    have hbs2 : ws.cell? ⟨gs, 2, none⟩ = some (.bool b02) := (blk_cell BS.out 2).trans rfl
    have hbs3 : ws.cell? ⟨gs, 3, none⟩ = some (.bool b10) := (blk_cell BS.out 3).trans rfl
    have hbs4 : ws.cell? ⟨gs, 4, none⟩ = some (.bool b11) := (blk_cell BS.out 4).trans rfl
    have hbs5 : ws.cell? ⟨gs, 5, none⟩ = some (.bool b12) := (blk_cell BS.out 5).trans rfl
    have hbs6 : ws.cell? ⟨gs, 6, none⟩ = some (.bool b20) := (blk_cell BS.out 6).trans rfl
    have hbs7 : ws.cell? ⟨gs, 7, none⟩ = some (.bool b21) := (blk_cell BS.out 7).trans rfl
    have hbs8 : ws.cell? ⟨gs, 8, none⟩ = some (.bool b22) := (blk_cell BS.out 8).trans rfl
    have hfs0 := blk_frozen BS.out 0
    have hfs1 := blk_frozen BS.out 1
    have hfs2 := blk_frozen BS.out 2
    have hfs3 := blk_frozen BS.out 3
    have hfs4 := blk_frozen BS.out 4
    have hfs5 := blk_frozen BS.out 5
    have hfs6 := blk_frozen BS.out 6
    have hfs7 := blk_frozen BS.out 7
    have hfs8 := blk_frozen BS.out 8
    rw [rounds_succ]
    go_wp2_with (fail)
    rw [rounds_succ]
    go_wp2_with (fail)
    have z00 := K00.out c00
    have z01 := K01.out c01
    have z02 := K02.out c02
    have z10 := K10.out c10
    have z11 := K11.out c11
    have z12 := K12.out c12
    have z20 := K20.out c20
    have z21 := K21.out c21
    have z22 := K22.out c22
    clear K00 B00 K01 B01 K02 B02 K10 B10 K11 B11 K12 B12 K20 B20 K21 B21 K22 B22
    clear S00 c00 S01 c01 S02 c02 S10 c10 S11 c11 S12 c12 S20 c20 S21 c21 S22 c22
    have sy : ∀ u v : Int ⊕ List UInt8, decide (u = v) = decide (v = u) := fun u v => decide_eq_decide.2 ⟨Eq.symm, Eq.symm⟩
    rw [sy (kap l0 x1.f0 x1.f1) (kap l0 x0.f0 x0.f1)] at z10
    rw [sy (kap l0 x2.f0 x2.f1) (kap l0 x0.f0 x0.f1)] at z20
    rw [sy (kap l0 x2.f0 x2.f1) (kap l0 x1.f0 x1.f1)] at z21
    replace z00 : b00 = true := by simpa using z00
    replace z11 : b11 = true := by simpa using z11
    replace z22 : b22 = true := by simpa using z22
    clear sy
    clear hcz0 hfz0 hcz1 hfz1 hcz2 hfz2 hcz3 hfz3 hcz4 hfz4 hcz5 hfz5 hcz6 hfz6 hcz7 hfz7 hcz8 hfz8 hcz9 hfz9 hcz10 hfz10 hcz11 hfz11 hbs0 hfs0 hbs1 hfs1 hbs2 hfs2 hbs3 hfs3 hbs4 hfs4 hbs5 hfs5 hbs6 hfs6 hbs7 hfs7 hbs8 hfs8
    clear HO Ny1 HR0 HC0 AF
    have five : (b01 = true ∧ b02 = true ∧ b12 = true) ∨ (b01 = true ∧ b02 = false ∧ b12 = false) ∨ (b01 = false ∧ b02 = false ∧ b12 = true) ∨ (b01 = false ∧ b02 = true ∧ b12 = false) ∨ (b01 = false ∧ b02 = false ∧ b12 = false) := by
      rw [z01, z02, z12]
      by_cases h01 : kap l0 x0.f0 x0.f1 = kap l0 x1.f0 x1.f1
      · by_cases h12 : kap l0 x1.f0 x1.f1 = kap l0 x2.f0 x2.f1
        · exact Or.inl ⟨decide_eq_true h01, decide_eq_true (h01.trans h12), decide_eq_true h12⟩
        · exact Or.inr (Or.inl ⟨decide_eq_true h01, decide_eq_false (fun h => h12 (h01.symm.trans h)), decide_eq_false h12⟩)
      · by_cases h12 : kap l0 x1.f0 x1.f1 = kap l0 x2.f0 x2.f1
        · exact Or.inr (Or.inr (Or.inl ⟨decide_eq_false h01, decide_eq_false (fun h => h01 (h.trans h12.symm)), decide_eq_true h12⟩))
        · by_cases h02 : kap l0 x0.f0 x0.f1 = kap l0 x2.f0 x2.f1
          · exact Or.inr (Or.inr (Or.inr (Or.inl ⟨decide_eq_false h01, decide_eq_true h02, decide_eq_false h12⟩)))
          · exact Or.inr (Or.inr (Or.inr (Or.inr ⟨decide_eq_false h01, decide_eq_false h02, decide_eq_false h12⟩)))
    replace z10 : b10 = b01 := z10.trans z01.symm
    replace z20 : b20 = b02 := z20.trans z02.symm
    replace z21 : b21 = b12 := z21.trans z12.symm
    have w1_ : wrap64 1 = 1 := w64 (by decide) (by decide)
    have w2_ : wrap64 2 = 2 := w64 (by decide) (by decide)
    have w3_ : wrap64 3 = 3 := w64 (by decide) (by decide)
    clear z01 z02 z12
    subst z00 z11 z22 z10 z20 z21
    rcases five with ⟨rfl, rfl, rfl⟩ | ⟨rfl, rfl, rfl⟩ | ⟨rfl, rfl, rfl⟩ | ⟨rfl, rfl, rfl⟩ | ⟨rfl, rfl, rfl⟩
    all_goals
      refine wp_loop_rounds 4 ?_
      rw [rounds_succ]
      go_wp2_with (fail)
      iterate 3
        refine wp_loop_rounds 4 ?_
        iterate 3
          rw [rounds_succ]
          go_wp2_with (fail)
          refine start_ (n := 50) (S := fun w' => w'.heap[gs]? = ws.heap[gs]?) (ds := []) eqd0 (by kernel_rfl) rfl rfl rfl (fun hHeld => ?_)
          refine with_tabW eqtab20 eqbits20 (fun HT_ HW_ => ?_)
          refine pure_ (i := 0) (N := some 73) (v := ?_) (a' := ?_) eqd1 rfl rfl (any_of HT_.out (by kernel_rfl)) (fun _ _ _ h => h) (Or.inl ⟨by rfl, ?_⟩) ?_ ?_; rotate_left; · (intro w'; go_simp; with_reducible rfl)
          rotate_left; · (simp only [Act.put, sA_, s0_, s1_, i64_w, i32_w]; rfl)
          refine pure_ (i := 1) (N := some 74) (v := ?_) (a' := ?_) eqd2 rfl rfl (any_of HT_.out (by kernel_rfl)) (fun _ _ _ h => h) (Or.inl ⟨by rfl, ?_⟩) ?_ ?_; rotate_left; · (intro w'; go_simp; with_reducible rfl)
          rotate_left; · (simp only [Act.put, sA_, s0_, s1_, i64_w, i32_w]; rfl)
          refine pure_ (i := 2) (N := some 75) (v := ?_) (a' := ?_) eqd3 rfl rfl (any_of HT_.out (by kernel_rfl)) (fun _ _ _ h => h) (Or.inl ⟨by rfl, ?_⟩) ?_ ?_; rotate_left; · (intro w'; go_simp; with_reducible rfl)
          rotate_left; · (simp only [Act.put, sA_, s0_, s1_, i64_w, i32_w]; rfl)
          refine pure_ (i := 3) (N := some 76) (v := ?_) (a' := ?_) eqd4 rfl rfl (any_of HT_.out (by kernel_rfl)) (fun _ _ _ h => h) (Or.inl ⟨by rfl, ?_⟩) ?_ ?_; rotate_left; · (intro w'; go_simp; with_reducible rfl)
          rotate_left; · (simp only [Act.put, sA_, s0_, s1_, i64_w, i32_w]; rfl)
          first | (refine pure_ (i := 4) (N := some 77) (v := ?_) (a' := ?_) eqd5 rfl rfl (any_of HT_.out (by kernel_rfl)) (fun _ _ _ h => h) (Or.inl ⟨by rfl, ?_⟩) ?_ ?_; rotate_left; · (intro w'; go_simp; with_reducible rfl)) | (refine pure_ (i := 4) (N := some 77) (v := undef) (a' := ?_) eqd5 rfl rfl (any_of HT_.out (by kernel_rfl)) (fun _ _ _ h => h) (Or.inr ⟨by rfl, rfl⟩) ?_ ?_)
          rotate_left; · (simp only [Act.put, sA_, s0_, s1_, i64_w, i32_w]; rfl)
          first | (refine pure_ (i := 5) (N := some 78) (v := ?_) (a' := ?_) eqd6 rfl rfl (any_of HT_.out (by kernel_rfl)) (fun _ _ _ h => h) (Or.inl ⟨by rfl, ?_⟩) ?_ ?_; rotate_left; · (intro w'; go_simp; with_reducible rfl)) | (refine pure_ (i := 5) (N := some 78) (v := undef) (a' := ?_) eqd6 rfl rfl (any_of HT_.out (by kernel_rfl)) (fun _ _ _ h => h) (Or.inr ⟨by rfl, rfl⟩) ?_ ?_)
          rotate_left; · (simp only [Act.put, sA_, s0_, s1_, i64_w, i32_w]; rfl)
          first | (refine pure_ (i := 6) (N := some 79) (v := ?_) (a' := ?_) eqd7 rfl rfl (any_of HT_.out (by kernel_rfl)) (fun _ _ _ h => h) (Or.inl ⟨by rfl, ?_⟩) ?_ ?_; rotate_left; · (intro w'; go_simp; with_reducible rfl)) | (refine pure_ (i := 6) (N := some 79) (v := undef) (a' := ?_) eqd7 rfl rfl (any_of HT_.out (by kernel_rfl)) (fun _ _ _ h => h) (Or.inr ⟨by rfl, rfl⟩) ?_ ?_)
          rotate_left; · (simp only [Act.put, sA_, s0_, s1_, i64_w, i32_w]; rfl)
          first | (refine pure_ (i := 7) (N := some 80) (v := ?_) (a' := ?_) eqd8 rfl rfl (any_of HT_.out (by kernel_rfl)) (fun _ _ _ h => h) (Or.inl ⟨by rfl, ?_⟩) ?_ ?_; rotate_left; · (intro w'; go_simp; with_reducible rfl)) | (refine pure_ (i := 7) (N := some 80) (v := undef) (a' := ?_) eqd8 rfl rfl (any_of HT_.out (by kernel_rfl)) (fun _ _ _ h => h) (Or.inr ⟨by rfl, rfl⟩) ?_ ?_)
          rotate_left; · (simp only [Act.put, sA_, s0_, s1_, i64_w, i32_w]; rfl)
          first | (refine take_ (i := 8) (N := some 81) (v := ?_) (a' := ?_) eqd9 rfl rfl (take_ofW HT_.out HW_.out (by kernel_rfl)) (fun _ _ _ h => h) (Or.inl ⟨by rfl, ?_⟩) hHeld ?_ ?_; rotate_left; · (intro w' s0; have e0 := blk_cell (s0.trans BS.out) 0; have e1 := blk_cell (s0.trans BS.out) 1; have e2 := blk_cell (s0.trans BS.out) 2; have e3 := blk_cell (s0.trans BS.out) 3; have e4 := blk_cell (s0.trans BS.out) 4; have e5 := blk_cell (s0.trans BS.out) 5; have e6 := blk_cell (s0.trans BS.out) 6; have e7 := blk_cell (s0.trans BS.out) 7; have e8 := blk_cell (s0.trans BS.out) 8; go_simp; with_reducible rfl)) | (refine pure_ (i := 8) (N := some 81) (v := undef) (a' := ?_) eqd9 rfl rfl (any_of HT_.out (by kernel_rfl)) (fun _ _ _ h => h) (Or.inr ⟨by rfl, rfl⟩) ?_ ?_)
          rotate_left; · (simp only [Act.put, sA_, s0_, s1_, i64_w, i32_w]; rfl)
          first | (refine pure_ (i := 9) (N := some 82) (v := ?_) (a' := ?_) eqd10 rfl rfl (any_of HT_.out (by kernel_rfl)) (fun _ _ _ h => h) (Or.inl ⟨by rfl, ?_⟩) ?_ ?_; rotate_left; · (intro w'; go_simp; with_reducible rfl)) | (refine pure_ (i := 9) (N := some 82) (v := undef) (a' := ?_) eqd10 rfl rfl (any_of HT_.out (by kernel_rfl)) (fun _ _ _ h => h) (Or.inr ⟨by rfl, rfl⟩) ?_ ?_)
          rotate_left; · (simp only [Act.put, sA_, s0_, s1_, i64_w, i32_w]; rfl)
          refine pure_ (i := 10) (N := some 83) (v := ?_) (a' := ?_) eqd11 rfl rfl (any_of HT_.out (by kernel_rfl)) (fun _ _ _ h => h) (Or.inl ⟨by rfl, ?_⟩) ?_ ?_; rotate_left; · (intro w'; go_simp; with_reducible rfl)
          rotate_left; · (simp only [Act.put, sA_, s0_, s1_, i64_w, i32_w]; rfl)
          refine pure_ (i := 11) (N := some 84) (v := ?_) (a' := ?_) eqd12 rfl rfl (any_of HT_.out (by kernel_rfl)) (fun _ _ _ h => h) (Or.inl ⟨by rfl, ?_⟩) ?_ ?_; rotate_left; · (intro w'; go_simp; with_reducible rfl)
          rotate_left; · (simp only [Act.put, sA_, s0_, s1_, i64_w, i32_w]; rfl)
          first | (refine pure_ (i := 12) (N := some 85) (v := ?_) (a' := ?_) eqd13 rfl rfl (any_of HT_.out (by kernel_rfl)) (fun _ _ _ h => h) (Or.inl ⟨by rfl, ?_⟩) ?_ ?_; rotate_left; · (intro w'; go_simp; with_reducible rfl)) | (refine pure_ (i := 12) (N := some 85) (v := undef) (a' := ?_) eqd13 rfl rfl (any_of HT_.out (by kernel_rfl)) (fun _ _ _ h => h) (Or.inr ⟨by rfl, rfl⟩) ?_ ?_)
          rotate_left; · (simp only [Act.put, sA_, s0_, s1_, i64_w, i32_w]; rfl)
          first | (refine pure_ (i := 13) (N := some 86) (v := ?_) (a' := ?_) eqd14 rfl rfl (any_of HT_.out (by kernel_rfl)) (fun _ _ _ h => h) (Or.inl ⟨by rfl, ?_⟩) ?_ ?_; rotate_left; · (intro w'; go_simp; with_reducible rfl)) | (refine pure_ (i := 13) (N := some 86) (v := undef) (a' := ?_) eqd14 rfl rfl (any_of HT_.out (by kernel_rfl)) (fun _ _ _ h => h) (Or.inr ⟨by rfl, rfl⟩) ?_ ?_)
          rotate_left; · (simp only [Act.put, sA_, s0_, s1_, i64_w, i32_w]; rfl)
          first | (refine pure_ (i := 14) (N := some 87) (v := ?_) (a' := ?_) eqd15 rfl rfl (any_of HT_.out (by kernel_rfl)) (fun _ _ _ h => h) (Or.inl ⟨by rfl, ?_⟩) ?_ ?_; rotate_left; · (intro w'; go_simp; with_reducible rfl)) | (refine pure_ (i := 14) (N := some 87) (v := undef) (a' := ?_) eqd15 rfl rfl (any_of HT_.out (by kernel_rfl)) (fun _ _ _ h => h) (Or.inr ⟨by rfl, rfl⟩) ?_ ?_)
          rotate_left; · (simp only [Act.put, sA_, s0_, s1_, i64_w, i32_w]; rfl)
          first | (refine pure_ (i := 15) (N := some 88) (v := ?_) (a' := ?_) eqd16 rfl rfl (any_of HT_.out (by kernel_rfl)) (fun _ _ _ h => h) (Or.inl ⟨by rfl, ?_⟩) ?_ ?_; rotate_left; · (intro w'; go_simp; with_reducible rfl)) | (refine pure_ (i := 15) (N := some 88) (v := undef) (a' := ?_) eqd16 rfl rfl (any_of HT_.out (by kernel_rfl)) (fun _ _ _ h => h) (Or.inr ⟨by rfl, rfl⟩) ?_ ?_)
          rotate_left; · (simp only [Act.put, sA_, s0_, s1_, i64_w, i32_w]; rfl)
          first | (refine take_ (i := 16) (N := some 89) (v := ?_) (a' := ?_) eqd17 rfl rfl (take_ofW HT_.out HW_.out (by kernel_rfl)) (fun _ _ _ h => h) (Or.inl ⟨by rfl, ?_⟩) hHeld ?_ ?_; rotate_left; · (intro w' s0; have e0 := blk_cell (s0.trans BS.out) 0; have e1 := blk_cell (s0.trans BS.out) 1; have e2 := blk_cell (s0.trans BS.out) 2; have e3 := blk_cell (s0.trans BS.out) 3; have e4 := blk_cell (s0.trans BS.out) 4; have e5 := blk_cell (s0.trans BS.out) 5; have e6 := blk_cell (s0.trans BS.out) 6; have e7 := blk_cell (s0.trans BS.out) 7; have e8 := blk_cell (s0.trans BS.out) 8; go_simp; with_reducible rfl)) | (refine pure_ (i := 16) (N := some 89) (v := undef) (a' := ?_) eqd17 rfl rfl (any_of HT_.out (by kernel_rfl)) (fun _ _ _ h => h) (Or.inr ⟨by rfl, rfl⟩) ?_ ?_)
          rotate_left; · (simp only [Act.put, sA_, s0_, s1_, i64_w, i32_w]; rfl)
          first | (refine pure_ (i := 17) (N := some 90) (v := ?_) (a' := ?_) eqd18 rfl rfl (any_of HT_.out (by kernel_rfl)) (fun _ _ _ h => h) (Or.inl ⟨by rfl, ?_⟩) ?_ ?_; rotate_left; · (intro w'; go_simp; with_reducible rfl)) | (refine pure_ (i := 17) (N := some 90) (v := undef) (a' := ?_) eqd18 rfl rfl (any_of HT_.out (by kernel_rfl)) (fun _ _ _ h => h) (Or.inr ⟨by rfl, rfl⟩) ?_ ?_)
          rotate_left; · (simp only [Act.put, sA_, s0_, s1_, i64_w, i32_w]; rfl)
          first | (refine pure_ (i := 18) (N := some 91) (v := ?_) (a' := ?_) eqd19 rfl rfl (any_of HT_.out (by kernel_rfl)) (fun _ _ _ h => h) (Or.inl ⟨by rfl, ?_⟩) ?_ ?_; rotate_left; · (intro w'; go_simp; with_reducible rfl)) | (refine pure_ (i := 18) (N := some 91) (v := undef) (a' := ?_) eqd19 rfl rfl (any_of HT_.out (by kernel_rfl)) (fun _ _ _ h => h) (Or.inr ⟨by rfl, rfl⟩) ?_ ?_)
          rotate_left; · (simp only [Act.put, sA_, s0_, s1_, i64_w, i32_w]; rfl)
          first | (refine pure_ (i := 19) (N := some 92) (v := ?_) (a' := ?_) eqd20 rfl rfl (any_of HT_.out (by kernel_rfl)) (fun _ _ _ h => h) (Or.inl ⟨by rfl, ?_⟩) ?_ ?_; rotate_left; · (intro w'; go_simp; with_reducible rfl)) | (refine pure_ (i := 19) (N := some 92) (v := undef) (a' := ?_) eqd20 rfl rfl (any_of HT_.out (by kernel_rfl)) (fun _ _ _ h => h) (Or.inr ⟨by rfl, rfl⟩) ?_ ?_)
          rotate_left; · (simp only [Act.put, sA_, s0_, s1_, i64_w, i32_w]; rfl)
          first | (refine pure_ (i := 20) (N := some 93) (v := ?_) (a' := ?_) eqd21 rfl rfl (any_of HT_.out (by kernel_rfl)) (fun _ _ _ h => h) (Or.inl ⟨by rfl, ?_⟩) ?_ ?_; rotate_left; · (intro w'; go_simp; with_reducible rfl)) | (refine pure_ (i := 20) (N := some 93) (v := undef) (a' := ?_) eqd21 rfl rfl (any_of HT_.out (by kernel_rfl)) (fun _ _ _ h => h) (Or.inr ⟨by rfl, rfl⟩) ?_ ?_)
          rotate_left; · (simp only [Act.put, sA_, s0_, s1_, i64_w, i32_w]; rfl)
          first | (refine take_ (i := 21) (N := some 94) (v := ?_) (a' := ?_) eqd22 rfl rfl (take_ofW HT_.out HW_.out (by kernel_rfl)) (fun _ _ _ h => h) (Or.inl ⟨by rfl, ?_⟩) hHeld ?_ ?_; rotate_left; · (intro w' s0; have e0 := blk_cell (s0.trans BS.out) 0; have e1 := blk_cell (s0.trans BS.out) 1; have e2 := blk_cell (s0.trans BS.out) 2; have e3 := blk_cell (s0.trans BS.out) 3; have e4 := blk_cell (s0.trans BS.out) 4; have e5 := blk_cell (s0.trans BS.out) 5; have e6 := blk_cell (s0.trans BS.out) 6; have e7 := blk_cell (s0.trans BS.out) 7; have e8 := blk_cell (s0.trans BS.out) 8; go_simp; with_reducible rfl)) | (refine pure_ (i := 21) (N := some 94) (v := undef) (a' := ?_) eqd22 rfl rfl (any_of HT_.out (by kernel_rfl)) (fun _ _ _ h => h) (Or.inr ⟨by rfl, rfl⟩) ?_ ?_)
          rotate_left; · (simp only [Act.put, sA_, s0_, s1_, i64_w, i32_w]; rfl)
          first | (refine pure_ (i := 22) (N := some 95) (v := ?_) (a' := ?_) eqd23 rfl rfl (any_of HT_.out (by kernel_rfl)) (fun _ _ _ h => h) (Or.inl ⟨by rfl, ?_⟩) ?_ ?_; rotate_left; · (intro w'; go_simp; with_reducible rfl)) | (refine pure_ (i := 22) (N := some 95) (v := undef) (a' := ?_) eqd23 rfl rfl (any_of HT_.out (by kernel_rfl)) (fun _ _ _ h => h) (Or.inr ⟨by rfl, rfl⟩) ?_ ?_)
          rotate_left; · (simp only [Act.put, sA_, s0_, s1_, i64_w, i32_w]; rfl)
          refine pure_ (i := 23) (N := some 96) (v := ?_) (a' := ?_) eqd24 rfl rfl (any_of HT_.out (by kernel_rfl)) (fun _ _ _ h => h) (Or.inl ⟨by rfl, ?_⟩) ?_ ?_; rotate_left; · (intro w'; go_simp; with_reducible rfl)
          rotate_left; · (simp only [Act.put, sA_, s0_, s1_, i64_w, i32_w]; rfl)
          refine pure_ (i := 24) (N := some 97) (v := ?_) (a' := ?_) eqd25 rfl rfl (any_of HT_.out (by kernel_rfl)) (fun _ _ _ h => h) (Or.inl ⟨by rfl, ?_⟩) ?_ ?_; rotate_left; · (intro w'; go_simp; with_reducible rfl)
          rotate_left; · (simp only [Act.put, sA_, s0_, s1_, i64_w, i32_w]; rfl)
          first | (refine pure_ (i := 25) (N := some 98) (v := ?_) (a' := ?_) eqd26 rfl rfl (any_of HT_.out (by kernel_rfl)) (fun _ _ _ h => h) (Or.inl ⟨by rfl, ?_⟩) ?_ ?_; rotate_left; · (intro w'; go_simp; with_reducible rfl)) | (refine pure_ (i := 25) (N := some 98) (v := undef) (a' := ?_) eqd26 rfl rfl (any_of HT_.out (by kernel_rfl)) (fun _ _ _ h => h) (Or.inr ⟨by rfl, rfl⟩) ?_ ?_)
          rotate_left; · (simp only [Act.put, sA_, s0_, s1_, i64_w, i32_w]; rfl)
          first | (refine pure_ (i := 26) (N := some 99) (v := ?_) (a' := ?_) eqd27 rfl rfl (any_of HT_.out (by kernel_rfl)) (fun _ _ _ h => h) (Or.inl ⟨by rfl, ?_⟩) ?_ ?_; rotate_left; · (intro w'; go_simp; with_reducible rfl)) | (refine pure_ (i := 26) (N := some 99) (v := undef) (a' := ?_) eqd27 rfl rfl (any_of HT_.out (by kernel_rfl)) (fun _ _ _ h => h) (Or.inr ⟨by rfl, rfl⟩) ?_ ?_)
          rotate_left; · (simp only [Act.put, sA_, s0_, s1_, i64_w, i32_w]; rfl)
          first | (refine pure_ (i := 27) (N := some 100) (v := ?_) (a' := ?_) eqd28 rfl rfl (any_of HT_.out (by kernel_rfl)) (fun _ _ _ h => h) (Or.inl ⟨by rfl, ?_⟩) ?_ ?_; rotate_left; · (intro w'; go_simp; with_reducible rfl)) | (refine pure_ (i := 27) (N := some 100) (v := undef) (a' := ?_) eqd28 rfl rfl (any_of HT_.out (by kernel_rfl)) (fun _ _ _ h => h) (Or.inr ⟨by rfl, rfl⟩) ?_ ?_)
          rotate_left; · (simp only [Act.put, sA_, s0_, s1_, i64_w, i32_w]; rfl)
          first | (refine pure_ (i := 28) (N := some 101) (v := ?_) (a' := ?_) eqd29 rfl rfl (any_of HT_.out (by kernel_rfl)) (fun _ _ _ h => h) (Or.inl ⟨by rfl, ?_⟩) ?_ ?_; rotate_left; · (intro w'; go_simp; with_reducible rfl)) | (refine pure_ (i := 28) (N := some 101) (v := undef) (a' := ?_) eqd29 rfl rfl (any_of HT_.out (by kernel_rfl)) (fun _ _ _ h => h) (Or.inr ⟨by rfl, rfl⟩) ?_ ?_)
          rotate_left; · (simp only [Act.put, sA_, s0_, s1_, i64_w, i32_w]; rfl)
          first | (refine take_ (i := 29) (N := some 102) (v := ?_) (a' := ?_) eqd30 rfl rfl (take_ofW HT_.out HW_.out (by kernel_rfl)) (fun _ _ _ h => h) (Or.inl ⟨by rfl, ?_⟩) hHeld ?_ ?_; rotate_left; · (intro w' s0; have e0 := blk_cell (s0.trans BS.out) 0; have e1 := blk_cell (s0.trans BS.out) 1; have e2 := blk_cell (s0.trans BS.out) 2; have e3 := blk_cell (s0.trans BS.out) 3; have e4 := blk_cell (s0.trans BS.out) 4; have e5 := blk_cell (s0.trans BS.out) 5; have e6 := blk_cell (s0.trans BS.out) 6; have e7 := blk_cell (s0.trans BS.out) 7; have e8 := blk_cell (s0.trans BS.out) 8; go_simp; with_reducible rfl)) | (refine pure_ (i := 29) (N := some 102) (v := undef) (a' := ?_) eqd30 rfl rfl (any_of HT_.out (by kernel_rfl)) (fun _ _ _ h => h) (Or.inr ⟨by rfl, rfl⟩) ?_ ?_)
          rotate_left; · (simp only [Act.put, sA_, s0_, s1_, i64_w, i32_w]; rfl)
          first | (refine pure_ (i := 30) (N := some 103) (v := ?_) (a' := ?_) eqd31 rfl rfl (any_of HT_.out (by kernel_rfl)) (fun _ _ _ h => h) (Or.inl ⟨by rfl, ?_⟩) ?_ ?_; rotate_left; · (intro w'; go_simp; with_reducible rfl)) | (refine pure_ (i := 30) (N := some 103) (v := undef) (a' := ?_) eqd31 rfl rfl (any_of HT_.out (by kernel_rfl)) (fun _ _ _ h => h) (Or.inr ⟨by rfl, rfl⟩) ?_ ?_)
          rotate_left; · (simp only [Act.put, sA_, s0_, s1_, i64_w, i32_w]; rfl)
          first | (refine pure_ (i := 31) (N := some 104) (v := ?_) (a' := ?_) eqd32 rfl rfl (any_of HT_.out (by kernel_rfl)) (fun _ _ _ h => h) (Or.inl ⟨by rfl, ?_⟩) ?_ ?_; rotate_left; · (intro w'; go_simp; with_reducible rfl)) | (refine pure_ (i := 31) (N := some 104) (v := undef) (a' := ?_) eqd32 rfl rfl (any_of HT_.out (by kernel_rfl)) (fun _ _ _ h => h) (Or.inr ⟨by rfl, rfl⟩) ?_ ?_)
          rotate_left; · (simp only [Act.put, sA_, s0_, s1_, i64_w, i32_w]; rfl)
          first | (refine pure_ (i := 32) (N := some 105) (v := ?_) (a' := ?_) eqd33 rfl rfl (any_of HT_.out (by kernel_rfl)) (fun _ _ _ h => h) (Or.inl ⟨by rfl, ?_⟩) ?_ ?_; rotate_left; · (intro w'; go_simp; with_reducible rfl)) | (refine pure_ (i := 32) (N := some 105) (v := undef) (a' := ?_) eqd33 rfl rfl (any_of HT_.out (by kernel_rfl)) (fun _ _ _ h => h) (Or.inr ⟨by rfl, rfl⟩) ?_ ?_)
          rotate_left; · (simp only [Act.put, sA_, s0_, s1_, i64_w, i32_w]; rfl)
          first | (refine pure_ (i := 33) (N := some 106) (v := ?_) (a' := ?_) eqd34 rfl rfl (any_of HT_.out (by kernel_rfl)) (fun _ _ _ h => h) (Or.inl ⟨by rfl, ?_⟩) ?_ ?_; rotate_left; · (intro w'; go_simp; with_reducible rfl)) | (refine pure_ (i := 33) (N := some 106) (v := undef) (a' := ?_) eqd34 rfl rfl (any_of HT_.out (by kernel_rfl)) (fun _ _ _ h => h) (Or.inr ⟨by rfl, rfl⟩) ?_ ?_)
          rotate_left; · (simp only [Act.put, sA_, s0_, s1_, i64_w, i32_w]; rfl)
          first | (refine pure_ (i := 34) (N := some 107) (v := ?_) (a' := ?_) eqd35 rfl rfl (any_of HT_.out (by kernel_rfl)) (fun _ _ _ h => h) (Or.inl ⟨by rfl, ?_⟩) ?_ ?_; rotate_left; · (intro w'; go_simp; with_reducible rfl)) | (refine pure_ (i := 34) (N := some 107) (v := undef) (a' := ?_) eqd35 rfl rfl (any_of HT_.out (by kernel_rfl)) (fun _ _ _ h => h) (Or.inr ⟨by rfl, rfl⟩) ?_ ?_)
          rotate_left; · (simp only [Act.put, sA_, s0_, s1_, i64_w, i32_w]; rfl)
          first | (refine pure_ (i := 35) (N := some 108) (v := ?_) (a' := ?_) eqd36 rfl rfl (any_of HT_.out (by kernel_rfl)) (fun _ _ _ h => h) (Or.inl ⟨by rfl, ?_⟩) ?_ ?_; rotate_left; · (intro w'; go_simp; with_reducible rfl)) | (refine pure_ (i := 35) (N := some 108) (v := undef) (a' := ?_) eqd36 rfl rfl (any_of HT_.out (by kernel_rfl)) (fun _ _ _ h => h) (Or.inr ⟨by rfl, rfl⟩) ?_ ?_)
          rotate_left; · (simp only [Act.put, sA_, s0_, s1_, i64_w, i32_w]; rfl)
          first | (refine pure_ (i := 36) (N := some 109) (v := ?_) (a' := ?_) eqd37 rfl rfl (any_of HT_.out (by kernel_rfl)) (fun _ _ _ h => h) (Or.inl ⟨by rfl, ?_⟩) ?_ ?_; rotate_left; · (intro w'; go_simp; with_reducible rfl)) | (refine pure_ (i := 36) (N := some 109) (v := undef) (a' := ?_) eqd37 rfl rfl (any_of HT_.out (by kernel_rfl)) (fun _ _ _ h => h) (Or.inr ⟨by rfl, rfl⟩) ?_ ?_)
          rotate_left; · (simp only [Act.put, sA_, s0_, s1_, i64_w, i32_w]; rfl)
          first | (refine take_ (i := 37) (N := some 110) (v := ?_) (a' := ?_) eqd38 rfl rfl (take_ofW HT_.out HW_.out (by kernel_rfl)) (fun _ _ _ h => h) (Or.inl ⟨by rfl, ?_⟩) hHeld ?_ ?_; rotate_left; · (intro w' s0; have e0 := blk_cell (s0.trans BS.out) 0; have e1 := blk_cell (s0.trans BS.out) 1; have e2 := blk_cell (s0.trans BS.out) 2; have e3 := blk_cell (s0.trans BS.out) 3; have e4 := blk_cell (s0.trans BS.out) 4; have e5 := blk_cell (s0.trans BS.out) 5; have e6 := blk_cell (s0.trans BS.out) 6; have e7 := blk_cell (s0.trans BS.out) 7; have e8 := blk_cell (s0.trans BS.out) 8; go_simp; with_reducible rfl)) | (refine pure_ (i := 37) (N := some 110) (v := undef) (a' := ?_) eqd38 rfl rfl (any_of HT_.out (by kernel_rfl)) (fun _ _ _ h => h) (Or.inr ⟨by rfl, rfl⟩) ?_ ?_)
          rotate_left; · (simp only [Act.put, sA_, s0_, s1_, i64_w, i32_w]; rfl)
          first | (refine pure_ (i := 38) (N := some 111) (v := ?_) (a' := ?_) eqd39 rfl rfl (any_of HT_.out (by kernel_rfl)) (fun _ _ _ h => h) (Or.inl ⟨by rfl, ?_⟩) ?_ ?_; rotate_left; · (intro w'; go_simp; with_reducible rfl)) | (refine pure_ (i := 38) (N := some 111) (v := undef) (a' := ?_) eqd39 rfl rfl (any_of HT_.out (by kernel_rfl)) (fun _ _ _ h => h) (Or.inr ⟨by rfl, rfl⟩) ?_ ?_)
          rotate_left; · (simp only [Act.put, sA_, s0_, s1_, i64_w, i32_w]; rfl)
          first | (refine pure_ (i := 39) (N := some 112) (v := ?_) (a' := ?_) eqd40 rfl rfl (any_of HT_.out (by kernel_rfl)) (fun _ _ _ h => h) (Or.inl ⟨by rfl, ?_⟩) ?_ ?_; rotate_left; · (intro w'; go_simp; with_reducible rfl)) | (refine pure_ (i := 39) (N := some 112) (v := undef) (a' := ?_) eqd40 rfl rfl (any_of HT_.out (by kernel_rfl)) (fun _ _ _ h => h) (Or.inr ⟨by rfl, rfl⟩) ?_ ?_)
          rotate_left; · (simp only [Act.put, sA_, s0_, s1_, i64_w, i32_w]; rfl)
          first | (refine pure_ (i := 40) (N := some 113) (v := ?_) (a' := ?_) eqd41 rfl rfl (any_of HT_.out (by kernel_rfl)) (fun _ _ _ h => h) (Or.inl ⟨by rfl, ?_⟩) ?_ ?_; rotate_left; · (intro w'; go_simp; with_reducible rfl)) | (refine pure_ (i := 40) (N := some 113) (v := undef) (a' := ?_) eqd41 rfl rfl (any_of HT_.out (by kernel_rfl)) (fun _ _ _ h => h) (Or.inr ⟨by rfl, rfl⟩) ?_ ?_)
          rotate_left; · (simp only [Act.put, sA_, s0_, s1_, i64_w, i32_w]; rfl)
          first | (refine pure_ (i := 41) (N := some 114) (v := ?_) (a' := ?_) eqd42 rfl rfl (any_of HT_.out (by kernel_rfl)) (fun _ _ _ h => h) (Or.inl ⟨by rfl, ?_⟩) ?_ ?_; rotate_left; · (intro w'; go_simp; with_reducible rfl)) | (refine pure_ (i := 41) (N := some 114) (v := undef) (a' := ?_) eqd42 rfl rfl (any_of HT_.out (by kernel_rfl)) (fun _ _ _ h => h) (Or.inr ⟨by rfl, rfl⟩) ?_ ?_)
          rotate_left; · (simp only [Act.put, sA_, s0_, s1_, i64_w, i32_w]; rfl)
          first | (refine pure_ (i := 42) (N := some 115) (v := ?_) (a' := ?_) eqd43 rfl rfl (any_of HT_.out (by kernel_rfl)) (fun _ _ _ h => h) (Or.inl ⟨by rfl, ?_⟩) ?_ ?_; rotate_left; · (intro w'; go_simp; with_reducible rfl)) | (refine pure_ (i := 42) (N := some 115) (v := undef) (a' := ?_) eqd43 rfl rfl (any_of HT_.out (by kernel_rfl)) (fun _ _ _ h => h) (Or.inr ⟨by rfl, rfl⟩) ?_ ?_)
          rotate_left; · (simp only [Act.put, sA_, s0_, s1_, i64_w, i32_w]; rfl)
          first | (refine pure_ (i := 43) (N := some 116) (v := ?_) (a' := ?_) eqd44 rfl rfl (any_of HT_.out (by kernel_rfl)) (fun _ _ _ h => h) (Or.inl ⟨by rfl, ?_⟩) ?_ ?_; rotate_left; · (intro w'; go_simp; with_reducible rfl)) | (refine pure_ (i := 43) (N := some 116) (v := undef) (a' := ?_) eqd44 rfl rfl (any_of HT_.out (by kernel_rfl)) (fun _ _ _ h => h) (Or.inr ⟨by rfl, rfl⟩) ?_ ?_)
          rotate_left; · (simp only [Act.put, sA_, s0_, s1_, i64_w, i32_w]; rfl)
          first | (refine pure_ (i := 44) (N := some 117) (v := ?_) (a' := ?_) eqd45 rfl rfl (any_of HT_.out (by kernel_rfl)) (fun _ _ _ h => h) (Or.inl ⟨by rfl, ?_⟩) ?_ ?_; rotate_left; · (intro w'; go_simp; with_reducible rfl)) | (refine pure_ (i := 44) (N := some 117) (v := undef) (a' := ?_) eqd45 rfl rfl (any_of HT_.out (by kernel_rfl)) (fun _ _ _ h => h) (Or.inr ⟨by rfl, rfl⟩) ?_ ?_)
          rotate_left; · (simp only [Act.put, sA_, s0_, s1_, i64_w, i32_w]; rfl)
          first | (refine pure_ (i := 45) (N := some 118) (v := ?_) (a' := ?_) eqd46 rfl rfl (any_of HT_.out (by kernel_rfl)) (fun _ _ _ h => h) (Or.inl ⟨by rfl, ?_⟩) ?_ ?_; rotate_left; · (intro w'; go_simp; with_reducible rfl)) | (refine pure_ (i := 45) (N := some 118) (v := undef) (a' := ?_) eqd46 rfl rfl (any_of HT_.out (by kernel_rfl)) (fun _ _ _ h => h) (Or.inr ⟨by rfl, rfl⟩) ?_ ?_)
          rotate_left; · (simp only [Act.put, sA_, s0_, s1_, i64_w, i32_w]; rfl)
          first | (refine take_ (i := 46) (N := some 119) (v := ?_) (a' := ?_) eqd47 rfl rfl (take_ofW HT_.out HW_.out (by kernel_rfl)) (fun _ _ _ h => h) (Or.inl ⟨by rfl, ?_⟩) hHeld ?_ ?_; rotate_left; · (intro w' s0; have e0 := blk_cell (s0.trans BS.out) 0; have e1 := blk_cell (s0.trans BS.out) 1; have e2 := blk_cell (s0.trans BS.out) 2; have e3 := blk_cell (s0.trans BS.out) 3; have e4 := blk_cell (s0.trans BS.out) 4; have e5 := blk_cell (s0.trans BS.out) 5; have e6 := blk_cell (s0.trans BS.out) 6; have e7 := blk_cell (s0.trans BS.out) 7; have e8 := blk_cell (s0.trans BS.out) 8; go_simp; with_reducible rfl)) | (refine pure_ (i := 46) (N := some 119) (v := undef) (a' := ?_) eqd47 rfl rfl (any_of HT_.out (by kernel_rfl)) (fun _ _ _ h => h) (Or.inr ⟨by rfl, rfl⟩) ?_ ?_)
          rotate_left; · (simp only [Act.put, sA_, s0_, s1_, i64_w, i32_w]; rfl)
          first | (refine pure_ (i := 47) (N := some 120) (v := ?_) (a' := ?_) eqd48 rfl rfl (any_of HT_.out (by kernel_rfl)) (fun _ _ _ h => h) (Or.inl ⟨by rfl, ?_⟩) ?_ ?_; rotate_left; · (intro w'; go_simp; with_reducible rfl)) | (refine pure_ (i := 47) (N := some 120) (v := undef) (a' := ?_) eqd48 rfl rfl (any_of HT_.out (by kernel_rfl)) (fun _ _ _ h => h) (Or.inr ⟨by rfl, rfl⟩) ?_ ?_)
          rotate_left; · (simp only [Act.put, sA_, s0_, s1_, i64_w, i32_w]; rfl)
          first | (refine pure_ (i := 48) (N := some 121) (v := ?_) (a' := ?_) eqd49 rfl rfl (any_of HT_.out (by kernel_rfl)) (fun _ _ _ h => h) (Or.inl ⟨by rfl, ?_⟩) ?_ ?_; rotate_left; · (intro w'; go_simp; with_reducible rfl)) | (refine pure_ (i := 48) (N := some 121) (v := undef) (a' := ?_) eqd49 rfl rfl (any_of HT_.out (by kernel_rfl)) (fun _ _ _ h => h) (Or.inr ⟨by rfl, rfl⟩) ?_ ?_)
          rotate_left; · (simp only [Act.put, sA_, s0_, s1_, i64_w, i32_w]; rfl)
          refine pure_ (i := 49) (N := some 122) (v := ?_) (a' := ?_) eqd50 rfl rfl (any_of HT_.out (by kernel_rfl)) (fun _ _ _ h => h) (Or.inl ⟨by rfl, ?_⟩) ?_ ?_; rotate_left; · (intro w'; go_simp; with_reducible rfl)
          rotate_left; · (simp only [Act.put, sA_, s0_, s1_, i64_w, i32_w]; rfl)
          refine done_ (done_of HT_.out (by kernel_rfl)) ?_
          go_wp2_with (fail)
        rw [rounds_succ]
        go_wp2_with (fail)
        rw [rounds_succ]
        go_wp2_with (first | (go_at_call 11; (with_reducible refine (mummerlaw11_awake.calls 9000000 true _ ⟨rfl⟩ AW.out).mono ?_); rintro e wy ⟨rfl, hb⟩; have n3_ := ak (below_step (by repeat (first | (with_reducible first | exact HB.out | apply wA | apply wN | apply wD | refine below_set ?_ GE.out | refine below_set ?_ GS.out) | exact HB.out)) hb); clear HB; have HB := n3_; clear n3_; clear hb))
      go_ret
      exact ⟨by first | rfl | (simp [errW_none, errW_some] <;> rfl) | (simp [*, errW_none, errW_some] <;> rfl), by repeat (first | (with_reducible first | exact HB.out | apply wA | apply wN | apply wD | refine below_set ?_ GE.out | refine below_set ?_ GS.out) | exact HB.out)⟩
end Go.Proofs.Ytpjcahjpjeiicaa.P
