import Derived.Test.YtdjkdlbokepoaaaGreatDoorKA37
import Derived.Test.YtdjkdlbokepoaaaGreatDoorKA41
import Derived.Lib.Bytes
import Derived.Test.YtdjkdlbokepoaaaGreatDoorKA20
namespace Go.Proofs.YtdjkdlbokepoaaaGreatDoor.P
open Go.RowKit YtdjkdlbokepoaaaGreatDoorW.PrintWords YtdjkdlbokepoaaaGreatDoorW.PrintLast YtdjkdlbokepoaaaGreatDoorW.PrintMore Sc
set_option linter.unusedVariables false
set_option linter.unusedSimpArgs false
set_option maxRecDepth 20000
theorem w64 {n : Int} (h : -9223372036854775808 ≤ n) (h' : n ≤ 9223372036854775807) : wrap64 n = n := by unfold wrap64; omega
theorem inB_cons {x : Int} {r : List Int} (h : Sc.InB (x :: r) = true) : (0 ≤ x ∧ x < 256) ∧ Sc.InB r = true := by
 unfold Sc.InB at h ⊢
 rw [List.all_cons, Bool.and_eq_true] at h
 exact ⟨of_decide_eq_true h.1, h.2⟩
theorem inB_drop {l : List Int} (h : Sc.InB l = true) (i : Nat) : Sc.InB (l.drop i) = true := by
 unfold Sc.InB at h ⊢
 rw [List.all_eq_true] at h ⊢
 exact fun x hx => h x (List.mem_of_mem_drop hx)
theorem bytesOf_inj : ∀ (xs ys : List Int), Sc.InB xs = true → Sc.InB ys = true → Go.Lib.bytesOf xs = Go.Lib.bytesOf ys → xs = ys
 | [], [], _, _, _ => rfl
 | [], _ :: _, _, _, h => by simp [Go.Lib.bytesOf] at h
 | _ :: _, [], _, _, h => by simp [Go.Lib.bytesOf] at h
 | x :: xs, y :: ys, hx, hy, h => by
  obtain ⟨h1, h2⟩ := inB_cons hx
  obtain ⟨g1, g2⟩ := inB_cons hy
  have e : UInt8.ofNat x.toNat :: Go.Lib.bytesOf xs = UInt8.ofNat y.toNat :: Go.Lib.bytesOf ys := h
  rw [List.cons.injEq] at e
  have e1 := congrArg UInt8.toNat e.1
  rw [UInt8.toNat_ofNat', UInt8.toNat_ofNat'] at e1
  rw [bytesOf_inj xs ys h2 g2 e.2, show x = y by omega]
theorem bytes_beq (xs ys : List Int) (hx : Sc.InB xs = true) (hy : Sc.InB ys = true) : ((strOfNums xs).toList == (strOfNums ys).toList) = decide (xs = ys) := by
 rw [Go.Lib.strOfNums_toList, Go.Lib.strOfNums_toList]
 by_cases c : xs = ys
 ·rw [decide_eq_true c, c]; simp
 ·rw [decide_eq_false c, beq_eq_false_iff_ne]
  exact fun h => c (bytesOf_inj xs ys hx hy h)
def IsR (r : Int) : Prop := (0 ≤ r ∧ r < 55296) ∨ (57343 < r ∧ r ≤ 1114111)
instance (r : Int) : Decidable (IsR r) := by unfold IsR; infer_instance
theorem isr_f (r : Int) : mummerref02_Is.f r = some (decide (IsR r)) := by
 unfold mummerref02_Is.f
 by_cases a : r ≥ 0
 ·rw [if_pos a]
  by_cases b : r ≤ 1114111
  ·rw [if_pos b]
   by_cases c : r < 55296
   ·rw [if_pos c, decide_eq_true (show IsR r from .inl ⟨a, c⟩)]
   ·rw [if_neg c]
    by_cases d : r > 57343
    ·rw [decide_eq_true d, decide_eq_true (show IsR r from .inr ⟨d, b⟩)]
    ·rw [decide_eq_false d, decide_eq_false (show ¬ IsR r from by unfold IsR; omega)]
  ·rw [if_neg b, decide_eq_false (show ¬ IsR r from by unfold IsR; omega)]
 ·rw [if_neg a, decide_eq_false (show ¬ IsR r from by unfold IsR; omega)]
def encL (r : Int) : List Int := if r < 128 then [r] else (if r < 2048 then [192 + r / 64, 128 + r % 64] else (if r < 65536 then [224 + r / 4096, 128 + r / 64 % 64, 128 + r % 64] else [240 + r / 262144, 128 + r / 4096 % 64, 128 + r / 64 % 64, 128 + r % 64]))
theorem wr32 {n : Int} (h : -2147483648 ≤ n) (h' : n ≤ 2147483647) : wrap32 n = n := by unfold wrap32; omega
theorem enc_f (r : Int) (h : IsR r) : mummerref02_Encode.f r = some (encL r, 0) := by
 have h0 : 0 ≤ r ∧ r ≤ 1114111 := by unfold IsR at h; omega
 unfold mummerref02_Encode.f encL
 rw [isr_f, Option.bind_some, if_pos (decide_eq_true h)]
 simp only [Int.tdiv_eq_ediv_of_nonneg h0.1, Int.tmod_eq_emod_of_nonneg h0.1]
 by_cases a : r < 128
 ·rw [if_pos a, if_pos a, show r % 256 = r by omega]
 ·rw [if_neg a, if_neg a]
  by_cases b : r < 2048
  ·rw [if_pos b, if_pos b, wr32 (n := r / 64) (by omega) (by omega), wr32 (n := 192 + r / 64) (by omega) (by omega), wr32 (n := 128 + r % 64) (by omega) (by omega), show (192 + r / 64) % 256 = 192 + r / 64 by omega, show (128 + r % 64) % 256 = 128 + r % 64 by omega]
  ·rw [if_neg b, if_neg b]
   have d0 : 0 ≤ wrap32 (r / 64) := by rw [wr32 (n := r / 64) (by omega) (by omega)]; omega
   have d1 : 0 ≤ wrap32 (r / 4096) := by rw [wr32 (n := r / 4096) (by omega) (by omega)]; omega
   simp only [Int.tmod_eq_emod_of_nonneg d0, Int.tmod_eq_emod_of_nonneg d1]
   rw [wr32 (n := r / 64) (by omega) (by omega), wr32 (n := r / 4096) (by omega) (by omega), wr32 (n := 128 + r / 64 % 64) (by omega) (by omega), wr32 (n := 128 + r % 64) (by omega) (by omega), wr32 (n := 128 + r / 4096 % 64) (by omega) (by omega), show (128 + r / 64 % 64) % 256 = 128 + r / 64 % 64 by omega, show (128 + r % 64) % 256 = 128 + r % 64 by omega, show (128 + r / 4096 % 64) % 256 = 128 + r / 4096 % 64 by omega]
   by_cases c : r < 65536
   ·rw [if_pos c, if_pos c, wr32 (n := 224 + r / 4096) (by omega) (by omega), show (224 + r / 4096) % 256 = 224 + r / 4096 by omega]
   ·rw [if_neg c, if_neg c, wr32 (n := r / 262144) (by omega) (by omega), wr32 (n := 240 + r / 262144) (by omega) (by omega), show (240 + r / 262144) % 256 = 240 + r / 262144 by omega]
theorem InB_of : ∀ {l : List Int}, (∀ x ∈ l, 0 ≤ x ∧ x < 256) → Sc.InB l = true := fun h => by
 unfold Sc.InB
 rw [List.all_eq_true]
 exact fun x hx => decide_eq_true (h x hx)
theorem InB_enc (r : Int) (h : IsR r) : Sc.InB (encL r) = true := by
 have h0 : 0 ≤ r ∧ r ≤ 1114111 := by unfold IsR at h; omega
 refine InB_of fun x hx => ?_
 unfold encL at hx
 split at hx
 ·simp at hx; omega
 ·split at hx
  ·simp at hx; omega
  ·split at hx
   ·simp at hx; omega
   ·simp at hx; omega
theorem stands_of (xs : List Int) (hx : Sc.InB xs = true) (v : Int) (hn : mummerref02_number.f xs = some v) : mummerref02_stands.f xs = some (if IsR v then (v, decide (xs = encL v)) else (0, false)) := by
 unfold mummerref02_stands.f
 rw [hn, Option.bind_some, isr_f, Option.bind_some]
 by_cases c : IsR v
 ·rw [if_pos (decide_eq_true c), enc_f v c, Option.bind_some, if_pos c, bytes_beq xs _ hx (InB_enc v c)]
 ·rw [if_neg (by simpa using c), if_neg c]
theorem InB1 {a : Int} (ha : 0 ≤ a ∧ a < 256) : Sc.InB [a] = true := InB_of fun x hx => by simp at hx; subst hx; exact ha
theorem stands_1 (a : Int) (ha : 0 ≤ a ∧ a < 256) : ∃ v, mummerref02_stands.f [a] = some (v, decide (a < 128)) ∧ (a < 128 → v = a) := by
 have hn : mummerref02_number.f [a] = some (if a < 128 then a else -1) := by simp only [mummerref02_number.f]; rw [if_pos ha]
 rw [stands_of _ (InB1 ha) _ hn]
 by_cases c : a < 128
 ·rw [if_pos c, if_pos (show IsR a from .inl ⟨ha.1, by omega⟩), decide_eq_true (show [a] = encL a by unfold encL; rw [if_pos c]), decide_eq_true c]
  exact ⟨a, rfl, fun _ => rfl⟩
 ·rw [if_neg c, if_neg (by decide), decide_eq_false c]
  exact ⟨0, rfl, fun h => absurd h c⟩
def G2 (a b : Int) : Prop := 192 ≤ a ∧ a < 224 ∧ 128 ≤ b ∧ b < 192 ∧ 128 ≤ 64 * (a - 192) + b - 128
def G3 (a b c : Int) : Prop := 224 ≤ a ∧ a < 240 ∧ 128 ≤ b ∧ b < 192 ∧ 128 ≤ c ∧ c < 192 ∧ 2048 ≤ 64 * (64 * (a - 224) + b - 128) + c - 128 ∧ IsR (64 * (64 * (a - 224) + b - 128) + c - 128)
def G4 (a b c d : Int) : Prop := 240 ≤ a ∧ a < 248 ∧ 128 ≤ b ∧ b < 192 ∧ 128 ≤ c ∧ c < 192 ∧ 128 ≤ d ∧ d < 192 ∧ 65536 ≤ 64 * (64 * (64 * (a - 240) + b - 128) + c - 128) + d - 128 ∧ 64 * (64 * (64 * (a - 240) + b - 128) + c - 128) + d - 128 ≤ 1114111
instance (a b : Int) : Decidable (G2 a b) := by unfold G2; infer_instance
instance (a b c : Int) : Decidable (G3 a b c) := by unfold G3; infer_instance
instance (a b c d : Int) : Decidable (G4 a b c d) := by unfold G4; infer_instance
theorem stands_2 (a b : Int) (ha : 0 ≤ a ∧ a < 256) (hb : 0 ≤ b ∧ b < 256) : ∃ v, mummerref02_stands.f [a, b] = some (v, decide (G2 a b)) ∧ (G2 a b → v = 64 * (a - 192) + b - 128) := by
 have hn : mummerref02_number.f [a, b] = some (if 192 ≤ a ∧ a < 224 ∧ 128 ≤ b ∧ b < 192 then 64 * (a - 192) + b - 128 else -1) := by
  simp only [mummerref02_number.f]; rw [if_pos ⟨ha, hb⟩]; congr 1
  repeat' split
  all_goals first | rfl | omega
 rw [stands_of _ (InB_of fun x hx => by simp at hx; rcases hx with rfl | rfl <;> assumption) _ hn]
 by_cases c : 192 ≤ a ∧ a < 224 ∧ 128 ≤ b ∧ b < 192
 ·rw [if_pos c]
  generalize hr : 64 * (a - 192) + b - 128 = r
  rw [if_pos (show IsR r from .inl ⟨by omega, by omega⟩)]
  by_cases g : G2 a b
  ·rw [decide_eq_true g, decide_eq_true (show [a, b] = encL r by unfold G2 at g; unfold encL; rw [if_neg (by omega), if_pos (by omega), show 192 + r / 64 = a by omega, show 128 + r % 64 = b by omega])]
   exact ⟨r, rfl, fun _ => rfl⟩
  ·rw [decide_eq_false g, decide_eq_false (show ¬ [a, b] = encL r from fun h => by unfold G2 at g; unfold encL at h; rw [if_pos (by omega)] at h; simp at h)]
   exact ⟨r, rfl, fun h => absurd h g⟩
 ·rw [if_neg c, if_neg (by decide), decide_eq_false (show ¬ G2 a b from fun h => c ⟨h.1, h.2.1, h.2.2.1, h.2.2.2.1⟩)]
  exact ⟨0, rfl, fun h => absurd ⟨h.1, h.2.1, h.2.2.1, h.2.2.2.1⟩ c⟩
theorem stands_3 (a b c : Int) (ha : 0 ≤ a ∧ a < 256) (hb : 0 ≤ b ∧ b < 256) (hc : 0 ≤ c ∧ c < 256) : ∃ v, mummerref02_stands.f [a, b, c] = some (v, decide (G3 a b c)) ∧ (G3 a b c → v = 64 * (64 * (a - 224) + b - 128) + c - 128) := by
 have hn : mummerref02_number.f [a, b, c] = some (if 224 ≤ a ∧ a < 240 ∧ 128 ≤ b ∧ b < 192 ∧ 128 ≤ c ∧ c < 192 then 64 * (64 * (a - 224) + b - 128) + c - 128 else -1) := by
  simp only [mummerref02_number.f]; rw [if_pos ⟨ha, hb, hc⟩]; congr 1
  repeat' split
  all_goals first | rfl | omega
 rw [stands_of _ (InB_of fun x hx => by simp at hx; rcases hx with rfl | rfl | rfl <;> assumption) _ hn]
 by_cases k : 224 ≤ a ∧ a < 240 ∧ 128 ≤ b ∧ b < 192 ∧ 128 ≤ c ∧ c < 192
 ·rw [if_pos k]
  generalize hr : 64 * (64 * (a - 224) + b - 128) + c - 128 = r
  by_cases i : IsR r
  ·rw [if_pos i]
   by_cases g : G3 a b c
   ·rw [decide_eq_true g, decide_eq_true (show [a, b, c] = encL r by unfold G3 at g; unfold encL; rw [if_neg (by omega), if_neg (by omega), if_pos (by omega), show 224 + r / 4096 = a by omega, show 128 + r / 64 % 64 = b by omega, show 128 + r % 64 = c by omega])]
    exact ⟨r, rfl, fun _ => rfl⟩
   ·have hlt : r < 2048 := Classical.byContradiction fun h => g ⟨k.1, k.2.1, k.2.2.1, k.2.2.2.1, k.2.2.2.2.1, k.2.2.2.2.2, by omega, by rw [hr]; exact i⟩
    rw [decide_eq_false g, decide_eq_false (show ¬ [a, b, c] = encL r from fun h => by
     unfold encL at h
     split at h
     ·simp at h
     ·simp at h)]
    exact ⟨r, rfl, fun h => absurd h g⟩
  ·rw [if_neg i, decide_eq_false (show ¬ G3 a b c from fun h => i (by rw [← hr]; exact h.2.2.2.2.2.2.2))]
   exact ⟨0, rfl, fun h => absurd (show IsR r by rw [← hr]; exact h.2.2.2.2.2.2.2) i⟩
 ·have g : ¬ G3 a b c := fun h => k ⟨h.1, h.2.1, h.2.2.1, h.2.2.2.1, h.2.2.2.2.1, h.2.2.2.2.2.1⟩
  rw [if_neg k, if_neg (by decide), decide_eq_false g]
  exact ⟨0, rfl, fun h => absurd h g⟩
theorem stands_4 (a b c d : Int) (ha : 0 ≤ a ∧ a < 256) (hb : 0 ≤ b ∧ b < 256) (hc : 0 ≤ c ∧ c < 256) (hd : 0 ≤ d ∧ d < 256) : ∃ v, mummerref02_stands.f [a, b, c, d] = some (v, decide (G4 a b c d)) ∧ (G4 a b c d → v = 64 * (64 * (64 * (a - 240) + b - 128) + c - 128) + d - 128) := by
 have hn : mummerref02_number.f [a, b, c, d] = some (if 240 ≤ a ∧ a < 248 ∧ 128 ≤ b ∧ b < 192 ∧ 128 ≤ c ∧ c < 192 ∧ 128 ≤ d ∧ d < 192 then 64 * (64 * (64 * (a - 240) + b - 128) + c - 128) + d - 128 else -1) := by
  simp only [mummerref02_number.f]; rw [if_pos ⟨ha, hb, hc, hd⟩]; congr 1
  repeat' split
  all_goals first | rfl | omega
 rw [stands_of _ (InB_of fun x hx => by simp at hx; rcases hx with rfl | rfl | rfl | rfl <;> assumption) _ hn]
 by_cases k : 240 ≤ a ∧ a < 248 ∧ 128 ≤ b ∧ b < 192 ∧ 128 ≤ c ∧ c < 192 ∧ 128 ≤ d ∧ d < 192
 ·rw [if_pos k]
  generalize hr : 64 * (64 * (64 * (a - 240) + b - 128) + c - 128) + d - 128 = r
  by_cases i : IsR r
  ·rw [if_pos i]
   by_cases g : G4 a b c d
   ·rw [decide_eq_true g, decide_eq_true (show [a, b, c, d] = encL r by unfold G4 at g; unfold encL; rw [if_neg (by omega), if_neg (by omega), if_neg (by omega), show 240 + r / 262144 = a by omega, show 128 + r / 4096 % 64 = b by omega, show 128 + r / 64 % 64 = c by omega, show 128 + r % 64 = d by omega])]
    exact ⟨r, rfl, fun _ => rfl⟩
   ·have hlt : r < 65536 := Classical.byContradiction fun h => g ⟨k.1, k.2.1, k.2.2.1, k.2.2.2.1, k.2.2.2.2.1, k.2.2.2.2.2.1, k.2.2.2.2.2.2.1, k.2.2.2.2.2.2.2, by omega, by unfold IsR at i; omega⟩
    rw [decide_eq_false g, decide_eq_false (show ¬ [a, b, c, d] = encL r from fun h => by
     unfold encL at h
     split at h
     ·simp at h
     ·split at h
      ·simp at h
      ·simp at h)]
    exact ⟨r, rfl, fun h => absurd h g⟩
  ·have g : ¬ G4 a b c d := fun h => i (by unfold G4 at h; unfold IsR; omega)
   rw [if_neg i, decide_eq_false g]
   exact ⟨0, rfl, fun h => absurd h g⟩
 ·have g : ¬ G4 a b c d := fun h => k ⟨h.1, h.2.1, h.2.2.1, h.2.2.2.1, h.2.2.2.2.1, h.2.2.2.2.2.1, h.2.2.2.2.2.2.1, h.2.2.2.2.2.2.2.1⟩
  rw [if_neg k, if_neg (by decide), decide_eq_false g]
  exact ⟨0, rfl, fun h => absurd h g⟩
def lb (l : List Int) (i : Nat) : Int := l.getD i 0
theorem lb_in {l : List Int} (h : Sc.InB l = true) {i : Nat} (hi : i < l.length) : 0 ≤ lb l i ∧ lb l i < 256 := by
 unfold lb
 rw [List.getD_eq_getElem?_getD, List.getElem?_eq_getElem hi]
 exact of_decide_eq_true (List.all_eq_true.1 h _ (List.getElem_mem hi))
theorem win (l : List Int) (p j : Nat) (h : p + j ≤ l.length) : (l.take (p + j)).drop p = (List.range j).map (fun i => lb l (p + i)) := by
 refine List.ext_getElem (by simp; omega) (fun i h1 h2 => ?_)
 simp only [List.length_drop, List.length_take] at h1
 simp only [List.getElem_drop, List.getElem_take, List.getElem_map, List.getElem_range]
 unfold lb
 rw [List.getD_eq_getElem?_getD, List.getElem?_eq_getElem (by omega)]
 rfl
def Gd (l : List Int) (p : Nat) : Nat → Prop
 | 1 => lb l p < 128
 | 2 => G2 (lb l p) (lb l (p + 1))
 | 3 => G3 (lb l p) (lb l (p + 1)) (lb l (p + 2))
 | 4 => G4 (lb l p) (lb l (p + 1)) (lb l (p + 2)) (lb l (p + 3))
 | _ => False
def val (l : List Int) (p : Nat) : Nat → Int
 | 1 => lb l p
 | 2 => 64 * (lb l p - 192) + lb l (p + 1) - 128
 | 3 => 64 * (64 * (lb l p - 224) + lb l (p + 1) - 128) + lb l (p + 2) - 128
 | 4 => 64 * (64 * (64 * (lb l p - 240) + lb l (p + 1) - 128) + lb l (p + 2) - 128) + lb l (p + 3) - 128
 | _ => 0
theorem stands_win (l : List Int) (hI : Sc.InB l = true) (p j : Nat) (h1 : 1 ≤ j) (h4 : j ≤ 4) (h : p + j ≤ l.length) : ∃ v b, mummerref02_stands.f ((l.take (p + j)).drop p) = some (v, b) ∧ (b = true → Gd l p j ∧ v = val l p j) ∧ (Gd l p j → b = true) := by
 rw [win l p j h]
 have hb := fun i (hi : i < j) => lb_in hI (i := p + i) (by omega)
 rcases (show j = 1 ∨ j = 2 ∨ j = 3 ∨ j = 4 by omega) with rfl | rfl | rfl | rfl
 ·obtain ⟨v, e1, e2⟩ := stands_1 (lb l p) (hb 0 (by omega))
  exact ⟨v, _, e1, fun h => ⟨of_decide_eq_true (p := lb l p < 128) h, e2 (of_decide_eq_true h)⟩, fun h => decide_eq_true (show lb l p < 128 from h)⟩
 ·obtain ⟨v, e1, e2⟩ := stands_2 (lb l p) (lb l (p + 1)) (hb 0 (by omega)) (hb 1 (by omega))
  exact ⟨v, _, e1, fun h => ⟨of_decide_eq_true (p := G2 (lb l p) (lb l (p + 1))) h, e2 (of_decide_eq_true h)⟩, fun h => decide_eq_true (show G2 (lb l p) (lb l (p + 1)) from h)⟩
 ·obtain ⟨v, e1, e2⟩ := stands_3 (lb l p) (lb l (p + 1)) (lb l (p + 2)) (hb 0 (by omega)) (hb 1 (by omega)) (hb 2 (by omega))
  exact ⟨v, _, e1, fun h => ⟨of_decide_eq_true (p := G3 (lb l p) (lb l (p + 1)) (lb l (p + 2))) h, e2 (of_decide_eq_true h)⟩, fun h => decide_eq_true (show G3 (lb l p) (lb l (p + 1)) (lb l (p + 2)) from h)⟩
 ·obtain ⟨v, e1, e2⟩ := stands_4 (lb l p) (lb l (p + 1)) (lb l (p + 2)) (lb l (p + 3)) (hb 0 (by omega)) (hb 1 (by omega)) (hb 2 (by omega)) (hb 3 (by omega))
  exact ⟨v, _, e1, fun h => ⟨of_decide_eq_true (p := G4 (lb l p) (lb l (p + 1)) (lb l (p + 2)) (lb l (p + 3))) h, e2 (of_decide_eq_true h)⟩, fun h => decide_eq_true (show G4 (lb l p) (lb l (p + 1)) (lb l (p + 2)) (lb l (p + 3)) from h)⟩
theorem InB_app {a b : List Int} (ha : Sc.InB a = true) (hb : Sc.InB b = true) : Sc.InB (a ++ b) = true := by
 unfold Sc.InB at ha hb ⊢
 rw [List.all_append, ha, hb]; rfl
theorem get_bt (l : List Int) (hI : Sc.InB l = true) (i : Nat) (hi : i < l.length) : ((strOfNums l).get! i).toNat = (lb l i).toNat := by
 have h := Sc.str_get l hI i hi
 have e : lb l i = l[i] := by unfold lb; rw [List.getD_eq_getElem?_getD, List.getElem?_eq_getElem hi]; rfl
 rw [e]; omega
theorem gd_decode (l : List Int) (hI : Sc.InB l = true) (p j : Nat) (h1 : 1 ≤ j) (h4 : j ≤ 4) (hp : p + j ≤ l.length) (h : Gd l p j) :
  Utf8.decode (strOfNums l) p = ((val l p j).toNat, j) ∧ ((val l p j).toNat ≠ 65533 ∨ 1 < j) ∧ Lib.runeLen (((val l p j).toNat : Nat) : Int) = (j : Int) := by
 have hs : (strOfNums l).size = l.length := strOfNums_size l
 have hb := fun i (hi : i < j) => lb_in hI (i := p + i) (by omega)
 have hg := fun i (hi : i < j) => get_bt l hI (p + i) (by omega)
 rcases (show j = 1 ∨ j = 2 ∨ j = 3 ∨ j = 4 by omega) with rfl | rfl | rfl | rfl
 ·have b0 := hb 0 (by omega)
  have g0 := hg 0 (by omega)
  have h' : lb l p < 128 := h
  rw [Nat.add_zero] at b0 g0
  have v : val l p 1 = lb l p := rfl
  rw [v]
  refine ⟨?_, .inl (by omega), ?_⟩
  ·unfold Utf8.decode
   dsimp only
   simp only [Nat.add_zero, g0]
   rw [if_pos (by omega)]
  ·unfold Lib.runeLen
   rw [if_neg (by omega), if_pos (by omega)]; rfl
 ·have b0 := hb 0 (by omega)
  have b1 := hb 1 (by omega)
  have g0 := hg 0 (by omega)
  have g1 := hg 1 (by omega)
  have h' : G2 (lb l p) (lb l (p + 1)) := h
  have v : val l p 2 = 64 * (lb l p - 192) + lb l (p + 1) - 128 := rfl
  rw [v]
  rw [Nat.add_zero] at b0 g0
  generalize lb l p = a at h' b0 g0 ⊢
  generalize lb l (p + 1) = b at h' b1 g1 ⊢
  obtain ⟨q0, q1, q2, q3, q4⟩ := h'
  refine ⟨?_, .inr (by omega), ?_⟩
  ·unfold Utf8.decode
   dsimp only
   simp only [Nat.add_zero, g0, g1, hs]
   rw [if_neg (by omega), if_pos (by simp; omega), if_pos (by omega)]
   congr 1; omega
  ·unfold Lib.runeLen
   rw [if_neg (by omega), if_neg (by omega), if_pos (by omega)]; rfl
 ·have b0 := hb 0 (by omega)
  have b1 := hb 1 (by omega)
  have b2 := hb 2 (by omega)
  have g0 := hg 0 (by omega)
  have g1 := hg 1 (by omega)
  have g2 := hg 2 (by omega)
  have h' : G3 (lb l p) (lb l (p + 1)) (lb l (p + 2)) := h
  have v : val l p 3 = 64 * (64 * (lb l p - 224) + lb l (p + 1) - 128) + lb l (p + 2) - 128 := rfl
  rw [v]
  rw [Nat.add_zero] at b0 g0
  generalize lb l p = a at h' b0 g0 ⊢
  generalize lb l (p + 1) = b at h' b1 g1 ⊢
  generalize lb l (p + 2) = c at h' b2 g2 ⊢
  obtain ⟨q0, q1, q2, q3, q4, q5, q6, q7⟩ := h'
  unfold IsR at q7
  refine ⟨?_, .inr (by omega), ?_⟩
  ·unfold Utf8.decode
   dsimp only
   simp only [Nat.add_zero, g0, g1, g2, hs]
   rw [if_neg (by omega), if_neg (fun z => by simp at z; omega), if_pos (by simp; omega), if_pos (by simp [Utf8.valid]; omega)]
   congr 1; omega
  ·unfold Lib.runeLen
   rw [if_neg (by omega), if_neg (by omega), if_neg (by omega), if_neg (by omega), if_pos (by omega)]; rfl
 ·have b0 := hb 0 (by omega)
  have b1 := hb 1 (by omega)
  have b2 := hb 2 (by omega)
  have b3 := hb 3 (by omega)
  have g0 := hg 0 (by omega)
  have g1 := hg 1 (by omega)
  have g2 := hg 2 (by omega)
  have g3 := hg 3 (by omega)
  have h' : G4 (lb l p) (lb l (p + 1)) (lb l (p + 2)) (lb l (p + 3)) := h
  have v : val l p 4 = 64 * (64 * (64 * (lb l p - 240) + lb l (p + 1) - 128) + lb l (p + 2) - 128) + lb l (p + 3) - 128 := rfl
  rw [v]
  rw [Nat.add_zero] at b0 g0
  generalize lb l p = a at h' b0 g0 ⊢
  generalize lb l (p + 1) = b at h' b1 g1 ⊢
  generalize lb l (p + 2) = c at h' b2 g2 ⊢
  generalize lb l (p + 3) = d at h' b3 g3 ⊢
  obtain ⟨q0, q1, q2, q3, q4, q5, q6, q7, q8, q9⟩ := h'
  refine ⟨?_, .inr (by omega), ?_⟩
  ·unfold Utf8.decode
   dsimp only
   simp only [Nat.add_zero, g0, g1, g2, g3, hs]
   rw [if_neg (by omega), if_neg (fun z => by simp at z; omega), if_neg (fun z => by simp at z; omega), if_pos (by simp; omega), if_pos (by simp [Utf8.valid]; omega)]
   congr 1; omega
  ·unfold Lib.runeLen
   rw [if_neg (by omega), if_neg (by omega), if_neg (by omega), if_neg (by omega), if_neg (by omega), if_pos (by omega)]; rfl
theorem runs_F {s : ByteArray} {at_ : Nat} {rs : List (Nat × Nat)} (h : Sc.Runs s at_ rs) : ∀ k, s.size - at_ < k → Sc.runsF k s at_ = some rs := by
 induction h with
 | stop =>
  intro k hk
  obtain ⟨k, rfl⟩ : ∃ K, k = K + 1 := ⟨k - 1, by omega⟩
  simp only [Sc.runsF]
  rw [if_pos trivial]
 | step h1 h2 h3 h4 h5 h6 h7 ih =>
  intro k hk
  obtain ⟨k, rfl⟩ : ∃ K, k = K + 1 := ⟨k - 1, by omega⟩
  simp only [Sc.runsF]
  rw [if_neg (by omega), h2, if_pos ⟨h1, h3, h4, h5, h6⟩, ih k (by omega)]
  rfl
theorem dec_up {l : List Int} {p : Int} {r : Int × Int × Int} (h : mummerref02_Decode.f 80 l p = some r) : ∀ k, 80 ≤ k → mummerref02_Decode.f k l p = some r := by
 intro k hk
 induction hk with
 | refl => exact h
 | step _ ih => exact mummerref02_Decode.mono _ _ _ _ ih
inductive GR (l : List Int) : Nat → List (Nat × Nat) → Prop
 | stop : GR l l.length []
 | step {p j : Nat} {rest : List (Nat × Nat)} : 1 ≤ j → j ≤ 4 → p + j ≤ l.length → Gd l p j → GR l (p + j) rest → GR l p ((p, (val l p j).toNat) :: rest)
theorem GR.runs {l : List Int} (hI : Sc.InB l = true) {p : Nat} {rs : List (Nat × Nat)} (h : GR l p rs) : Sc.Runs (strOfNums l) p rs := by
 induction h with
 | stop => have := Sc.Runs.stop (s := strOfNums l); rwa [strOfNums_size] at this
 | step h1 h2 h3 h4 h5 ih =>
  obtain ⟨z1, z2, z3⟩ := gd_decode l hI _ _ h1 h2 h3 h4
  exact .step (by rw [strOfNums_size]; omega) z1 z2 z3 h1 (by rw [strOfNums_size]; omega) ih
theorem GR.good {l : List Int} (hI : Sc.InB l = true) (hl : l.length ≤ 8000) {rs : List (Nat × Nat)} (h : GR l 0 rs) : Sc.goodRuns l = some rs := by
 unfold Sc.goodRuns
 rw [if_pos ⟨hl, hI⟩]
 exact runs_F (h.runs hI) _ (by rw [strOfNums_size]; omega)
theorem GR.le {l : List Int} {p : Nat} {rs : List (Nat × Nat)} (h : GR l p rs) : p ≤ l.length := by
 induction h with
 | stop => exact Nat.le_refl _
 | step h1 h2 h3 h4 h5 ih => omega
theorem GR.len {l : List Int} {p : Nat} {rs : List (Nat × Nat)} (h : GR l p rs) : rs.length + p ≤ l.length := by
 induction h with
 | stop => simp
 | step h1 h2 h3 h4 h5 ih => rw [List.length_cons]; omega
def PP (l : List Int) (rs : List (Nat × Nat)) (m : Nat) : Nat := (rs.map (fun x => x.1) ++ [l.length]).getD m 0
theorem PP_succ (l : List Int) (x : Nat × Nat) (rs : List (Nat × Nat)) (m : Nat) : PP l (x :: rs) (m + 1) = PP l rs m := by
 unfold PP; simp
theorem GR.first {l : List Int} {p : Nat} {rs : List (Nat × Nat)} (h : GR l p rs) : PP l rs 0 = p := by
 cases h with
 | stop => rfl
 | step h1 h2 h3 h4 h5 => rfl
def RS (b : Int) : Prop := ¬ (128 ≤ b ∧ b < 192)
theorem Gd.start {l : List Int} {p j : Nat} (h1 : 1 ≤ j) (h4 : j ≤ 4) (g : Gd l p j) : RS (lb l p) ∧ (lb l p < 128 → j = 1) ∧ ∀ i, 0 < i → i < j → ¬ RS (lb l (p + i)) := by
 rcases (show j = 1 ∨ j = 2 ∨ j = 3 ∨ j = 4 by omega) with rfl | rfl | rfl | rfl
 ·have g' : lb l p < 128 := g
  exact ⟨by unfold RS; omega, fun _ => rfl, fun i a b => by omega⟩
 ·have g' : G2 (lb l p) (lb l (p + 1)) := g
  unfold G2 at g'
  refine ⟨by unfold RS; omega, fun h => by omega, fun i a b => ?_⟩
  obtain rfl : i = 1 := by omega
  unfold RS; omega
 ·have g' : G3 (lb l p) (lb l (p + 1)) (lb l (p + 2)) := g
  unfold G3 at g'
  obtain ⟨q0, q1, q2, q3, q4, q5, _⟩ := g'
  refine ⟨by unfold RS; omega, fun h => by omega, fun i a b => ?_⟩
  rcases (show i = 1 ∨ i = 2 by omega) with rfl | rfl <;> unfold RS <;> omega
 ·have g' : G4 (lb l p) (lb l (p + 1)) (lb l (p + 2)) (lb l (p + 3)) := g
  unfold G4 at g'
  refine ⟨by unfold RS; omega, fun h => by omega, fun i a b => ?_⟩
  rcases (show i = 1 ∨ i = 2 ∨ i = 3 by omega) with rfl | rfl | rfl <;> unfold RS <;> omega
def Sp (l : List Int) (q : Nat) : Prop := q = l.length ∨ RS (lb l q)
theorem GR.head {l : List Int} {p : Nat} {rs : List (Nat × Nat)} (h : GR l p rs) : Sp l p := by
 cases h with
 | stop => exact .inl rfl
 | step h1 h2 h3 h4 h5 => exact .inr (h4.start h1 h2).1
theorem GR.at_ {l : List Int} {p : Nat} {rs : List (Nat × Nat)} (h : GR l p rs) : ∀ q, p ≤ q → q ≤ l.length → Sp l q → ∃ m, m ≤ rs.length ∧ PP l rs m = q ∧ GR l q (rs.drop m) := by
 induction h with
 | stop =>
  intro q h1 h2 h3
  obtain rfl : q = l.length := by omega
  exact ⟨0, Nat.le_refl _, rfl, .stop⟩
 | @step p j rest h1 h2 h3 h4 h5 ih =>
  intro q hq hn hs
  by_cases c : q = p
  ·subst c
   exact ⟨0, Nat.zero_le _, rfl, .step h1 h2 h3 h4 h5⟩
  ·have : p + j ≤ q := by
    refine Nat.le_of_not_lt fun hlt => ?_
    rcases hs with hs | hs
    ·omega
    ·have := (h4.start h1 h2).2.2 (q - p) (by omega) (by omega)
     rw [show p + (q - p) = q by omega] at this
     exact this hs
   obtain ⟨m, m1, m2, m3⟩ := ih q this hn hs
   exact ⟨m + 1, by simpa using m1, by rw [PP_succ]; exact m2, m3⟩
theorem GR.sp {l : List Int} {p : Nat} {rs : List (Nat × Nat)} (h : GR l p rs) : ∀ m, m ≤ rs.length → Sp l (PP l rs m) := by
 induction h with
 | stop =>
  intro m hm
  obtain rfl : m = 0 := by simpa using hm
  exact .inl rfl
 | @step p j rest h1 h2 h3 h4 h5 ih =>
  intro m hm
  cases m with
  | zero => exact .inr (h4.start h1 h2).1
  | succ m => rw [PP_succ]; exact ih m (by simpa using hm)
end Go.Proofs.YtdjkdlbokepoaaaGreatDoor.P
