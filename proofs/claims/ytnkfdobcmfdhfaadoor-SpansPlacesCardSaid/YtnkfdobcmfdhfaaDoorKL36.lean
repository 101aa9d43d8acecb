import Derived.Test.YtnkfdobcmfdhfaaDoorKL35
import Derived.Test.YtnkfdobcmfdhfaaDoorKL19
import Derived.Lib.Bytes
import Derived.Test.YtnkfdobcmfdhfaaDoorKL28
import Derived.Test.YtnkfdobcmfdhfaaDoorKL30
import Derived.Test.YtnkfdobcmfdhfaaDoorKL32
namespace Go.Proofs.YtnkfdobcmfdhfaaDoor.P
open Go.RowKit Go.Proofs.YtnkfdobcmfdhfaaDoorW.PrintWords Go.Proofs.YtnkfdobcmfdhfaaDoorW.PrintLast Sc
set_option linter.unusedVariables false
set_option linter.unusedSimpArgs false
set_option maxRecDepth 20000
theorem bytesOf_inj : ∀ (xs ys : List Int), Sc.InB xs = true → Sc.InB ys = true → Go.Lib.bytesOf xs = Go.Lib.bytesOf ys → xs = ys
  | [], [], _, _, _ => rfl
  | [], _ :: _, _, _, h => by simp [Go.Lib.bytesOf] at h
  | _ :: _, [], _, _, h => by simp [Go.Lib.bytesOf] at h
  | x :: xs, y :: ys, hx, hy, h => by
    obtain ⟨h1, h2⟩ := Sc.InB_cons hx
    obtain ⟨g1, g2⟩ := Sc.InB_cons hy
    have e : UInt8.ofNat x.toNat :: Go.Lib.bytesOf xs = UInt8.ofNat y.toNat :: Go.Lib.bytesOf ys := h
    rw [List.cons.injEq] at e
    have e1 := congrArg UInt8.toNat e.1
    rw [UInt8.toNat_ofNat', UInt8.toNat_ofNat'] at e1
    rw [bytesOf_inj xs ys h2 g2 e.2, show x = y by omega]
theorem bytes_beq (xs ys : List Int) (hx : Sc.InB xs = true) (hy : Sc.InB ys = true) : ((strOfNums xs).toList == (strOfNums ys).toList) = decide (xs = ys) := by
  rw [Go.Lib.strOfNums_toList, Go.Lib.strOfNums_toList]
  by_cases c : xs = ys
  · rw [decide_eq_true c, c]; simp
  · rw [decide_eq_false c, beq_eq_false_iff_ne]
    exact fun h => c (bytesOf_inj xs ys hx hy h)
def IsR (r : Int) : Prop := (0 ≤ r ∧ r < 55296) ∨ (57343 < r ∧ r ≤ 1114111)
instance (r : Int) : Decidable (IsR r) := by unfold IsR; infer_instance
theorem isr_f (r : Int) : mummerref02_Is.f r = some (decide (IsR r)) := by
  unfold mummerref02_Is.f
  by_cases a : r ≥ 0
  · rw [if_pos a]
    by_cases b : r ≤ 1114111
    · rw [if_pos b]
      by_cases c : r < 55296
      · rw [if_pos c, decide_eq_true (show IsR r from .inl ⟨a, c⟩)]
      · rw [if_neg c]
        by_cases d : r > 57343
        · rw [decide_eq_true d, decide_eq_true (show IsR r from .inr ⟨d, b⟩)]
        · rw [decide_eq_false d, decide_eq_false (show ¬ IsR r from by unfold IsR; omega)]
    · rw [if_neg b, decide_eq_false (show ¬ IsR r from by unfold IsR; omega)]
  · rw [if_neg a, decide_eq_false (show ¬ IsR r from by unfold IsR; omega)]
def encL (r : Int) : List Int := if r < 128 then [r] else (if r < 2048 then [192 + r / 64, 128 + r % 64] else (if r < 65536 then [224 + r / 4096, 128 + r / 64 % 64, 128 + r % 64] else [240 + r / 262144, 128 + r / 4096 % 64, 128 + r / 64 % 64, 128 + r % 64]))
theorem wr32 {n : Int} (h : -2147483648 ≤ n) (h' : n ≤ 2147483647) : wrap32 n = n := by unfold wrap32; omega
theorem enc_f (r : Int) (h : IsR r) : mummerref02_Encode.f r = some (encL r, 0) := by
  have h0 : 0 ≤ r ∧ r ≤ 1114111 := by unfold IsR at h; omega
  unfold mummerref02_Encode.f encL
  rw [isr_f, Option.bind_some, if_pos (decide_eq_true h)]
  simp only [Int.tdiv_eq_ediv_of_nonneg h0.1, Int.tmod_eq_emod_of_nonneg h0.1]
  by_cases a : r < 128
  · rw [if_pos a, if_pos a, show r % 256 = r by omega]
  · rw [if_neg a, if_neg a]
    by_cases b : r < 2048
    · rw [if_pos b, if_pos b, wr32 (n := r / 64) (by omega) (by omega), wr32 (n := 192 + r / 64) (by omega) (by omega), wr32 (n := 128 + r % 64) (by omega) (by omega), show (192 + r / 64) % 256 = 192 + r / 64 by omega, show (128 + r % 64) % 256 = 128 + r % 64 by omega]
    · rw [if_neg b, if_neg b]
      have d0 : 0 ≤ wrap32 (r / 64) := by rw [wr32 (n := r / 64) (by omega) (by omega)]; omega
      have d1 : 0 ≤ wrap32 (r / 4096) := by rw [wr32 (n := r / 4096) (by omega) (by omega)]; omega
      simp only [Int.tmod_eq_emod_of_nonneg d0, Int.tmod_eq_emod_of_nonneg d1]
      rw [wr32 (n := r / 64) (by omega) (by omega), wr32 (n := r / 4096) (by omega) (by omega), wr32 (n := 128 + r / 64 % 64) (by omega) (by omega), wr32 (n := 128 + r % 64) (by omega) (by omega), wr32 (n := 128 + r / 4096 % 64) (by omega) (by omega), show (128 + r / 64 % 64) % 256 = 128 + r / 64 % 64 by omega, show (128 + r % 64) % 256 = 128 + r % 64 by omega, show (128 + r / 4096 % 64) % 256 = 128 + r / 4096 % 64 by omega]
      by_cases c : r < 65536
      · rw [if_pos c, if_pos c, wr32 (n := 224 + r / 4096) (by omega) (by omega), show (224 + r / 4096) % 256 = 224 + r / 4096 by omega]
      · rw [if_neg c, if_neg c, wr32 (n := r / 262144) (by omega) (by omega), wr32 (n := 240 + r / 262144) (by omega) (by omega), show (240 + r / 262144) % 256 = 240 + r / 262144 by omega]
theorem InB_of : ∀ {l : List Int}, (∀ x ∈ l, 0 ≤ x ∧ x < 256) → Sc.InB l = true := fun h => by
  unfold Sc.InB
  rw [List.all_eq_true]
  exact fun x hx => decide_eq_true (h x hx)
theorem InB_enc (r : Int) (h : IsR r) : Sc.InB (encL r) = true := by
  have h0 : 0 ≤ r ∧ r ≤ 1114111 := by unfold IsR at h; omega
  refine InB_of fun x hx => ?_
  unfold encL at hx
  split at hx
  · simp at hx; omega
  · split at hx
    · simp at hx; omega
    · split at hx
      · simp at hx; omega
      · simp at hx; omega
theorem stands_of (xs : List Int) (hx : Sc.InB xs = true) (v : Int) (hn : mummerref02_number.f xs = some v) : mummerref02_stands.f xs = some (if IsR v then (v, decide (xs = encL v)) else (0, false)) := by
  unfold mummerref02_stands.f
  rw [hn, Option.bind_some, isr_f, Option.bind_some]
  by_cases c : IsR v
  · rw [if_pos (decide_eq_true c), enc_f v c, Option.bind_some, if_pos c, bytes_beq xs _ hx (InB_enc v c)]
  · rw [if_neg (by simpa using c), if_neg c]
theorem InB1 {a : Int} (ha : 0 ≤ a ∧ a < 256) : Sc.InB [a] = true := InB_of fun x hx => by simp at hx; subst hx; exact ha
theorem stands_1 (a : Int) (ha : 0 ≤ a ∧ a < 256) : ∃ v, mummerref02_stands.f [a] = some (v, decide (a < 128)) ∧ (a < 128 → v = a) := by
  have hn : mummerref02_number.f [a] = some (if a < 128 then a else -1) := by simp only [mummerref02_number.f]; rw [if_pos ha]
  rw [stands_of _ (InB1 ha) _ hn]
  by_cases c : a < 128
  · rw [if_pos c, if_pos (show IsR a from .inl ⟨ha.1, by omega⟩), decide_eq_true (show [a] = encL a by unfold encL; rw [if_pos c]), decide_eq_true c]
    exact ⟨a, rfl, fun _ => rfl⟩
  · rw [if_neg c, if_neg (by decide), decide_eq_false c]
    exact ⟨0, rfl, fun h => absurd h c⟩
def G2 (a b : Int) : Prop := 192 ≤ a ∧ a < 224 ∧ 128 ≤ b ∧ b < 192 ∧ 128 ≤ 64 * (a - 192) + b - 128
def G3 (a b c : Int) : Prop := 224 ≤ a ∧ a < 240 ∧ 128 ≤ b ∧ b < 192 ∧ 128 ≤ c ∧ c < 192 ∧ 2048 ≤ 64 * (64 * (a - 224) + b - 128) + c - 128 ∧ IsR (64 * (64 * (a - 224) + b - 128) + c - 128)
def G4 (a b c d : Int) : Prop := 240 ≤ a ∧ a < 248 ∧ 128 ≤ b ∧ b < 192 ∧ 128 ≤ c ∧ c < 192 ∧ 128 ≤ d ∧ d < 192 ∧ 65536 ≤ 64 * (64 * (64 * (a - 240) + b - 128) + c - 128) + d - 128 ∧ 64 * (64 * (64 * (a - 240) + b - 128) + c - 128) + d - 128 ≤ 1114111
instance (a b : Int) : Decidable (G2 a b) := by unfold G2; infer_instance
instance (a b c : Int) : Decidable (G3 a b c) := by unfold G3; infer_instance
instance (a b c d : Int) : Decidable (G4 a b c d) := by unfold G4; infer_instance
theorem stands_2 (a b : Int) (ha : 0 ≤ a ∧ a < 256) (hb : 0 ≤ b ∧ b < 256) : ∃ v, mummerref02_stands.f [a, b] = some (v, decide (G2 a b)) ∧ (G2 a b → v = 64 * (a - 192) + b - 128) := by
  have hn : mummerref02_number.f [a, b] = some (if 192 ≤ a ∧ a < 224 ∧ 128 ≤ b ∧ b < 192 then 64 * (a - 192) + b - 128 else -1) := by
    simp only [mummerref02_number.f]; rw [if_pos ⟨ha, hb⟩]; congr 1
    repeat' split
    all_goals first | rfl | omega
  rw [stands_of _ (InB_of fun x hx => by simp at hx; rcases hx with rfl | rfl <;> assumption) _ hn]
  by_cases c : 192 ≤ a ∧ a < 224 ∧ 128 ≤ b ∧ b < 192
  · rw [if_pos c]
    generalize hr : 64 * (a - 192) + b - 128 = r
    rw [if_pos (show IsR r from .inl ⟨by omega, by omega⟩)]
    by_cases g : G2 a b
    · rw [decide_eq_true g, decide_eq_true (show [a, b] = encL r by unfold G2 at g; unfold encL; rw [if_neg (by omega), if_pos (by omega), show 192 + r / 64 = a by omega, show 128 + r % 64 = b by omega])]
      exact ⟨r, rfl, fun _ => rfl⟩
    · rw [decide_eq_false g, decide_eq_false (show ¬ [a, b] = encL r from fun h => by unfold G2 at g; unfold encL at h; rw [if_pos (by omega)] at h; simp at h)]
      exact ⟨r, rfl, fun h => absurd h g⟩
  · rw [if_neg c, if_neg (by decide), decide_eq_false (show ¬ G2 a b from fun h => c ⟨h.1, h.2.1, h.2.2.1, h.2.2.2.1⟩)]
    exact ⟨0, rfl, fun h => absurd ⟨h.1, h.2.1, h.2.2.1, h.2.2.2.1⟩ c⟩
theorem stands_3 (a b c : Int) (ha : 0 ≤ a ∧ a < 256) (hb : 0 ≤ b ∧ b < 256) (hc : 0 ≤ c ∧ c < 256) : ∃ v, mummerref02_stands.f [a, b, c] = some (v, decide (G3 a b c)) ∧ (G3 a b c → v = 64 * (64 * (a - 224) + b - 128) + c - 128) := by
  have hn : mummerref02_number.f [a, b, c] = some (if 224 ≤ a ∧ a < 240 ∧ 128 ≤ b ∧ b < 192 ∧ 128 ≤ c ∧ c < 192 then 64 * (64 * (a - 224) + b - 128) + c - 128 else -1) := by
    simp only [mummerref02_number.f]; rw [if_pos ⟨ha, hb, hc⟩]; congr 1
    repeat' split
    all_goals first | rfl | omega
  rw [stands_of _ (InB_of fun x hx => by simp at hx; rcases hx with rfl | rfl | rfl <;> assumption) _ hn]
  by_cases k : 224 ≤ a ∧ a < 240 ∧ 128 ≤ b ∧ b < 192 ∧ 128 ≤ c ∧ c < 192
  · rw [if_pos k]
    generalize hr : 64 * (64 * (a - 224) + b - 128) + c - 128 = r
    by_cases i : IsR r
    · rw [if_pos i]
      by_cases g : G3 a b c
      · rw [decide_eq_true g, decide_eq_true (show [a, b, c] = encL r by unfold G3 at g; unfold encL; rw [if_neg (by omega), if_neg (by omega), if_pos (by omega), show 224 + r / 4096 = a by omega, show 128 + r / 64 % 64 = b by omega, show 128 + r % 64 = c by omega])]
        exact ⟨r, rfl, fun _ => rfl⟩
      · have hlt : r < 2048 := Classical.byContradiction fun h => g ⟨k.1, k.2.1, k.2.2.1, k.2.2.2.1, k.2.2.2.2.1, k.2.2.2.2.2, by omega, by rw [hr]; exact i⟩
        rw [decide_eq_false g, decide_eq_false (show ¬ [a, b, c] = encL r from fun h => by
          unfold encL at h
          split at h
          · simp at h
          · simp at h)]
        exact ⟨r, rfl, fun h => absurd h g⟩
    · rw [if_neg i, decide_eq_false (show ¬ G3 a b c from fun h => i (by rw [← hr]; exact h.2.2.2.2.2.2.2))]
      exact ⟨0, rfl, fun h => absurd (show IsR r by rw [← hr]; exact h.2.2.2.2.2.2.2) i⟩
  · have g : ¬ G3 a b c := fun h => k ⟨h.1, h.2.1, h.2.2.1, h.2.2.2.1, h.2.2.2.2.1, h.2.2.2.2.2.1⟩
    rw [if_neg k, if_neg (by decide), decide_eq_false g]
    exact ⟨0, rfl, fun h => absurd h g⟩
theorem stands_4 (a b c d : Int) (ha : 0 ≤ a ∧ a < 256) (hb : 0 ≤ b ∧ b < 256) (hc : 0 ≤ c ∧ c < 256) (hd : 0 ≤ d ∧ d < 256) : ∃ v, mummerref02_stands.f [a, b, c, d] = some (v, decide (G4 a b c d)) ∧ (G4 a b c d → v = 64 * (64 * (64 * (a - 240) + b - 128) + c - 128) + d - 128) := by
  have hn : mummerref02_number.f [a, b, c, d] = some (if 240 ≤ a ∧ a < 248 ∧ 128 ≤ b ∧ b < 192 ∧ 128 ≤ c ∧ c < 192 ∧ 128 ≤ d ∧ d < 192 then 64 * (64 * (64 * (a - 240) + b - 128) + c - 128) + d - 128 else -1) := by
    simp only [mummerref02_number.f]; rw [if_pos ⟨ha, hb, hc, hd⟩]; congr 1
    repeat' split
    all_goals first | rfl | omega
  rw [stands_of _ (InB_of fun x hx => by simp at hx; rcases hx with rfl | rfl | rfl | rfl <;> assumption) _ hn]
  by_cases k : 240 ≤ a ∧ a < 248 ∧ 128 ≤ b ∧ b < 192 ∧ 128 ≤ c ∧ c < 192 ∧ 128 ≤ d ∧ d < 192
  · rw [if_pos k]
    generalize hr : 64 * (64 * (64 * (a - 240) + b - 128) + c - 128) + d - 128 = r
    by_cases i : IsR r
    · rw [if_pos i]
      by_cases g : G4 a b c d
      · rw [decide_eq_true g, decide_eq_true (show [a, b, c, d] = encL r by unfold G4 at g; unfold encL; rw [if_neg (by omega), if_neg (by omega), if_neg (by omega), show 240 + r / 262144 = a by omega, show 128 + r / 4096 % 64 = b by omega, show 128 + r / 64 % 64 = c by omega, show 128 + r % 64 = d by omega])]
        exact ⟨r, rfl, fun _ => rfl⟩
      · have hlt : r < 65536 := Classical.byContradiction fun h => g ⟨k.1, k.2.1, k.2.2.1, k.2.2.2.1, k.2.2.2.2.1, k.2.2.2.2.2.1, k.2.2.2.2.2.2.1, k.2.2.2.2.2.2.2, by omega, by unfold IsR at i; omega⟩
        rw [decide_eq_false g, decide_eq_false (show ¬ [a, b, c, d] = encL r from fun h => by
          unfold encL at h
          split at h
          · simp at h
          · split at h
            · simp at h
            · simp at h)]
        exact ⟨r, rfl, fun h => absurd h g⟩
    · have g : ¬ G4 a b c d := fun h => i (by unfold G4 at h; unfold IsR; omega)
      rw [if_neg i, decide_eq_false g]
      exact ⟨0, rfl, fun h => absurd h g⟩
  · have g : ¬ G4 a b c d := fun h => k ⟨h.1, h.2.1, h.2.2.1, h.2.2.2.1, h.2.2.2.2.1, h.2.2.2.2.2.1, h.2.2.2.2.2.2.1, h.2.2.2.2.2.2.2.1⟩
    rw [if_neg k, if_neg (by decide), decide_eq_false g]
    exact ⟨0, rfl, fun h => absurd h g⟩
def bt (l : List Int) (i : Nat) : Int := l.getD i 0
theorem bt_in {l : List Int} (h : Sc.InB l = true) {i : Nat} (hi : i < l.length) : 0 ≤ bt l i ∧ bt l i < 256 := by
  unfold bt
  rw [List.getD_eq_getElem?_getD, List.getElem?_eq_getElem hi]
  exact of_decide_eq_true (List.all_eq_true.1 h _ (List.getElem_mem hi))
theorem win (l : List Int) (p j : Nat) (h : p + j ≤ l.length) : (l.take (p + j)).drop p = (List.range j).map (fun i => bt l (p + i)) := by
  refine List.ext_getElem (by simp; omega) (fun i h1 h2 => ?_)
  simp only [List.length_drop, List.length_take] at h1
  simp only [List.getElem_drop, List.getElem_take, List.getElem_map, List.getElem_range]
  unfold bt
  rw [List.getD_eq_getElem?_getD, List.getElem?_eq_getElem (by omega)]
  rfl
def Gd (l : List Int) (p : Nat) : Nat → Prop
  | 1 => bt l p < 128
  | 2 => G2 (bt l p) (bt l (p + 1))
  | 3 => G3 (bt l p) (bt l (p + 1)) (bt l (p + 2))
  | 4 => G4 (bt l p) (bt l (p + 1)) (bt l (p + 2)) (bt l (p + 3))
  | _ => False
def val (l : List Int) (p : Nat) : Nat → Int
  | 1 => bt l p
  | 2 => 64 * (bt l p - 192) + bt l (p + 1) - 128
  | 3 => 64 * (64 * (bt l p - 224) + bt l (p + 1) - 128) + bt l (p + 2) - 128
  | 4 => 64 * (64 * (64 * (bt l p - 240) + bt l (p + 1) - 128) + bt l (p + 2) - 128) + bt l (p + 3) - 128
  | _ => 0
theorem stands_win (l : List Int) (hI : Sc.InB l = true) (p j : Nat) (h1 : 1 ≤ j) (h4 : j ≤ 4) (h : p + j ≤ l.length) : ∃ v b, mummerref02_stands.f ((l.take (p + j)).drop p) = some (v, b) ∧ (b = true → Gd l p j ∧ v = val l p j) ∧ (Gd l p j → b = true) := by
  rw [win l p j h]
  have hb := fun i (hi : i < j) => bt_in hI (i := p + i) (by omega)
  rcases (show j = 1 ∨ j = 2 ∨ j = 3 ∨ j = 4 by omega) with rfl | rfl | rfl | rfl
  · obtain ⟨v, e1, e2⟩ := stands_1 (bt l p) (hb 0 (by omega))
    exact ⟨v, _, e1, fun h => ⟨of_decide_eq_true (p := bt l p < 128) h, e2 (of_decide_eq_true h)⟩, fun h => decide_eq_true (show bt l p < 128 from h)⟩
  · obtain ⟨v, e1, e2⟩ := stands_2 (bt l p) (bt l (p + 1)) (hb 0 (by omega)) (hb 1 (by omega))
    exact ⟨v, _, e1, fun h => ⟨of_decide_eq_true (p := G2 (bt l p) (bt l (p + 1))) h, e2 (of_decide_eq_true h)⟩, fun h => decide_eq_true (show G2 (bt l p) (bt l (p + 1)) from h)⟩
  · obtain ⟨v, e1, e2⟩ := stands_3 (bt l p) (bt l (p + 1)) (bt l (p + 2)) (hb 0 (by omega)) (hb 1 (by omega)) (hb 2 (by omega))
    exact ⟨v, _, e1, fun h => ⟨of_decide_eq_true (p := G3 (bt l p) (bt l (p + 1)) (bt l (p + 2))) h, e2 (of_decide_eq_true h)⟩, fun h => decide_eq_true (show G3 (bt l p) (bt l (p + 1)) (bt l (p + 2)) from h)⟩
  · obtain ⟨v, e1, e2⟩ := stands_4 (bt l p) (bt l (p + 1)) (bt l (p + 2)) (bt l (p + 3)) (hb 0 (by omega)) (hb 1 (by omega)) (hb 2 (by omega)) (hb 3 (by omega))
    exact ⟨v, _, e1, fun h => ⟨of_decide_eq_true (p := G4 (bt l p) (bt l (p + 1)) (bt l (p + 2)) (bt l (p + 3))) h, e2 (of_decide_eq_true h)⟩, fun h => decide_eq_true (show G4 (bt l p) (bt l (p + 1)) (bt l (p + 2)) (bt l (p + 3)) from h)⟩
theorem InB_app {a b : List Int} (ha : Sc.InB a = true) (hb : Sc.InB b = true) : Sc.InB (a ++ b) = true := by
  unfold Sc.InB at ha hb ⊢
  rw [List.all_append, ha, hb]; rfl
theorem get_bt (l : List Int) (hI : Sc.InB l = true) (i : Nat) (hi : i < l.length) : ((strOfNums l).get! i).toNat = (bt l i).toNat := by
  have h := Sc.str_get l hI i hi
  have e : bt l i = l[i] := by unfold bt; rw [List.getD_eq_getElem?_getD, List.getElem?_eq_getElem hi]; rfl
  rw [e]; omega
theorem gd_decode (l : List Int) (hI : Sc.InB l = true) (p j : Nat) (h1 : 1 ≤ j) (h4 : j ≤ 4) (hp : p + j ≤ l.length) (h : Gd l p j) :
    Utf8.decode (strOfNums l) p = ((val l p j).toNat, j) ∧ ((val l p j).toNat ≠ 65533 ∨ 1 < j) ∧ Lib.runeLen (((val l p j).toNat : Nat) : Int) = (j : Int) := by
  have hs : (strOfNums l).size = l.length := strOfNums_size l
  have hb := fun i (hi : i < j) => bt_in hI (i := p + i) (by omega)
  have hg := fun i (hi : i < j) => get_bt l hI (p + i) (by omega)
  rcases (show j = 1 ∨ j = 2 ∨ j = 3 ∨ j = 4 by omega) with rfl | rfl | rfl | rfl
  · have b0 := hb 0 (by omega)
    have g0 := hg 0 (by omega)
    have h' : bt l p < 128 := h
    rw [Nat.add_zero] at b0 g0
    have v : val l p 1 = bt l p := rfl
    rw [v]
    refine ⟨?_, .inl (by omega), ?_⟩
    · unfold Utf8.decode
      dsimp only
      simp only [Nat.add_zero, g0]
      rw [if_pos (by omega)]
    · unfold Lib.runeLen
      rw [if_neg (by omega), if_pos (by omega)]; rfl
  · have b0 := hb 0 (by omega)
    have b1 := hb 1 (by omega)
    have g0 := hg 0 (by omega)
    have g1 := hg 1 (by omega)
    have h' : G2 (bt l p) (bt l (p + 1)) := h
    have v : val l p 2 = 64 * (bt l p - 192) + bt l (p + 1) - 128 := rfl
    rw [v]
    rw [Nat.add_zero] at b0 g0
    generalize bt l p = a at h' b0 g0 ⊢
    generalize bt l (p + 1) = b at h' b1 g1 ⊢
    obtain ⟨q0, q1, q2, q3, q4⟩ := h'
    refine ⟨?_, .inr (by omega), ?_⟩
    · unfold Utf8.decode
      dsimp only
      simp only [Nat.add_zero, g0, g1, hs]
      rw [if_neg (by omega), if_pos (by simp; omega), if_pos (by omega)]
      congr 1; omega
    · unfold Lib.runeLen
      rw [if_neg (by omega), if_neg (by omega), if_pos (by omega)]; rfl
  · have b0 := hb 0 (by omega)
    have b1 := hb 1 (by omega)
    have b2 := hb 2 (by omega)
    have g0 := hg 0 (by omega)
    have g1 := hg 1 (by omega)
    have g2 := hg 2 (by omega)
    have h' : G3 (bt l p) (bt l (p + 1)) (bt l (p + 2)) := h
    have v : val l p 3 = 64 * (64 * (bt l p - 224) + bt l (p + 1) - 128) + bt l (p + 2) - 128 := rfl
    rw [v]
    rw [Nat.add_zero] at b0 g0
    generalize bt l p = a at h' b0 g0 ⊢
    generalize bt l (p + 1) = b at h' b1 g1 ⊢
    generalize bt l (p + 2) = c at h' b2 g2 ⊢
    obtain ⟨q0, q1, q2, q3, q4, q5, q6, q7⟩ := h'
    unfold IsR at q7
    refine ⟨?_, .inr (by omega), ?_⟩
    · unfold Utf8.decode
      dsimp only
      simp only [Nat.add_zero, g0, g1, g2, hs]
      rw [if_neg (by omega), if_neg (fun z => by simp at z; omega), if_pos (by simp; omega), if_pos (by simp [Utf8.valid]; omega)]
      congr 1; omega
    · unfold Lib.runeLen
      rw [if_neg (by omega), if_neg (by omega), if_neg (by omega), if_neg (by omega), if_pos (by omega)]; rfl
  · have b0 := hb 0 (by omega)
    have b1 := hb 1 (by omega)
    have b2 := hb 2 (by omega)
    have b3 := hb 3 (by omega)
    have g0 := hg 0 (by omega)
    have g1 := hg 1 (by omega)
    have g2 := hg 2 (by omega)
    have g3 := hg 3 (by omega)
    have h' : G4 (bt l p) (bt l (p + 1)) (bt l (p + 2)) (bt l (p + 3)) := h
    have v : val l p 4 = 64 * (64 * (64 * (bt l p - 240) + bt l (p + 1) - 128) + bt l (p + 2) - 128) + bt l (p + 3) - 128 := rfl
    rw [v]
    rw [Nat.add_zero] at b0 g0
    generalize bt l p = a at h' b0 g0 ⊢
    generalize bt l (p + 1) = b at h' b1 g1 ⊢
    generalize bt l (p + 2) = c at h' b2 g2 ⊢
    generalize bt l (p + 3) = d at h' b3 g3 ⊢
    obtain ⟨q0, q1, q2, q3, q4, q5, q6, q7, q8, q9⟩ := h'
    refine ⟨?_, .inr (by omega), ?_⟩
    · unfold Utf8.decode
      dsimp only
      simp only [Nat.add_zero, g0, g1, g2, g3, hs]
      rw [if_neg (by omega), if_neg (fun z => by simp at z; omega), if_neg (fun z => by simp at z; omega), if_pos (by simp; omega), if_pos (by simp [Utf8.valid]; omega)]
      congr 1; omega
    · unfold Lib.runeLen
      rw [if_neg (by omega), if_neg (by omega), if_neg (by omega), if_neg (by omega), if_neg (by omega), if_pos (by omega)]; rfl
theorem runs_F {s : ByteArray} {at_ : Nat} {rs : List (Nat × Nat)} (h : Sc.Runs s at_ rs) : ∀ k, s.size - at_ < k → Sc.runsF k s at_ = some rs := by
  induction h with
  | stop =>
    intro k hk
    obtain ⟨k, rfl⟩ : ∃ K, k = K + 1 := ⟨k - 1, by omega⟩
    simp only [Sc.runsF]
    rw [if_pos trivial]
  | step h1 h2 h3 h4 h5 h6 h7 ih =>
    intro k hk
    obtain ⟨k, rfl⟩ : ∃ K, k = K + 1 := ⟨k - 1, by omega⟩
    simp only [Sc.runsF]
    rw [if_neg (by omega), h2, if_pos ⟨h1, h3, h4, h5, h6⟩, ih k (by omega)]
    rfl
theorem dec_up {l : List Int} {p : Int} {r : Int × Int × Int} (h : mummerref02_Decode.f 80 l p = some r) : ∀ k, 80 ≤ k → mummerref02_Decode.f k l p = some r := by
  intro k hk
  induction hk with
  | refl => exact h
  | step _ ih => exact mummerref02_Decode.mono _ _ _ _ ih
inductive GR (l : List Int) : Nat → List (Nat × Nat) → Prop
  | stop : GR l l.length []
  | step {p j : Nat} {rest : List (Nat × Nat)} : 1 ≤ j → j ≤ 4 → p + j ≤ l.length → Gd l p j → GR l (p + j) rest → GR l p ((p, (val l p j).toNat) :: rest)
theorem GR.runs {l : List Int} (hI : Sc.InB l = true) {p : Nat} {rs : List (Nat × Nat)} (h : GR l p rs) : Sc.Runs (strOfNums l) p rs := by
  induction h with
  | stop => have := Sc.Runs.stop (s := strOfNums l); rwa [strOfNums_size] at this
  | step h1 h2 h3 h4 h5 ih =>
    obtain ⟨z1, z2, z3⟩ := gd_decode l hI _ _ h1 h2 h3 h4
    exact .step (by rw [strOfNums_size]; omega) z1 z2 z3 h1 (by rw [strOfNums_size]; omega) ih
theorem GR.good {l : List Int} (hI : Sc.InB l = true) (hl : l.length ≤ 8000) {rs : List (Nat × Nat)} (h : GR l 0 rs) : Sc.goodRuns l = some rs := by
  unfold Sc.goodRuns
  rw [if_pos ⟨hl, hI⟩]
  exact runs_F (h.runs hI) _ (by rw [strOfNums_size]; omega)
theorem GR.len {l : List Int} {p : Nat} {rs : List (Nat × Nat)} (h : GR l p rs) : rs.length + p ≤ l.length := by
  induction h with
  | stop => simp
  | step h1 h2 h3 h4 h5 ih => rw [List.length_cons]; omega
/-- The m-th start. -/
def PP (l : List Int) (rs : List (Nat × Nat)) (m : Nat) : Nat := (rs.map (fun x => x.1) ++ [l.length]).getD m 0
theorem PP_succ (l : List Int) (x : Nat × Nat) (rs : List (Nat × Nat)) (m : Nat) : PP l (x :: rs) (m + 1) = PP l rs m := by
  unfold PP; simp
theorem GR.first {l : List Int} {p : Nat} {rs : List (Nat × Nat)} (h : GR l p rs) : PP l rs 0 = p := by
  cases h with
  | stop => rfl
  | step h1 h2 h3 h4 h5 => rfl
theorem GR.ge {l : List Int} {p : Nat} {rs : List (Nat × Nat)} (h : GR l p rs) : ∀ m, m ≤ rs.length → p ≤ PP l rs m ∧ PP l rs m ≤ l.length := by
  induction h with
  | stop =>
    intro m hm
    obtain rfl : m = 0 := by simpa using hm
    exact ⟨Nat.le_refl _, Nat.le_refl _⟩
  | @step p j rest h1 h2 h3 h4 h5 ih =>
    intro m hm
    cases m with
    | zero => exact ⟨Nat.le_refl _, by show p ≤ _; omega⟩
    | succ m =>
      rw [PP_succ]
      have := ih m (by simpa using hm)
      omega
theorem GR.asc {l : List Int} {p : Nat} {rs : List (Nat × Nat)} (h : GR l p rs) : ∀ m m', m < m' → m' ≤ rs.length → PP l rs m < PP l rs m' := by
  induction h with
  | stop => intro m m' h1 h2; simp at h2; omega
  | @step p j rest h1 h2 h3 h4 h5 ih =>
    intro m m' hm hm'
    obtain ⟨m', rfl⟩ : ∃ q, m' = q + 1 := ⟨m' - 1, by omega⟩
    rw [PP_succ]
    cases m with
    | zero =>
      have := (h5.ge m' (by simpa using hm')).1
      show p < _
      omega
    | succ m => rw [PP_succ]; exact ih m m' (by omega) (by simpa using hm')
theorem Gd_congr {l l' : List Int} {p p' j : Nat} (h1 : 1 ≤ j) (h4 : j ≤ 4) (h : ∀ i, i < j → bt l (p + i) = bt l' (p' + i)) (g : Gd l p j) : Gd l' p' j ∧ val l p j = val l' p' j := by
  have e0 := h 0 (by omega)
  rw [Nat.add_zero, Nat.add_zero] at e0
  rcases (show j = 1 ∨ j = 2 ∨ j = 3 ∨ j = 4 by omega) with rfl | rfl | rfl | rfl
  · have g' : bt l p < 128 := g
    exact ⟨(show bt l' p' < 128 by omega), e0⟩
  · have e1 := h 1 (by omega)
    refine ⟨?_, ?_⟩
    · show G2 _ _
      rw [← e0, ← e1]; exact g
    · show 64 * (bt l p - 192) + bt l (p + 1) - 128 = 64 * (bt l' p' - 192) + bt l' (p' + 1) - 128
      rw [e0, e1]
  · have e1 := h 1 (by omega)
    have e2 := h 2 (by omega)
    refine ⟨?_, ?_⟩
    · show G3 _ _ _
      rw [← e0, ← e1, ← e2]; exact g
    · show 64 * (64 * (bt l p - 224) + bt l (p + 1) - 128) + bt l (p + 2) - 128 = 64 * (64 * (bt l' p' - 224) + bt l' (p' + 1) - 128) + bt l' (p' + 2) - 128
      rw [e0, e1, e2]
  · have e1 := h 1 (by omega)
    have e2 := h 2 (by omega)
    have e3 := h 3 (by omega)
    refine ⟨?_, ?_⟩
    · show G4 _ _ _ _
      rw [← e0, ← e1, ← e2, ← e3]; exact g
    · show 64 * (64 * (64 * (bt l p - 240) + bt l (p + 1) - 128) + bt l (p + 2) - 128) + bt l (p + 3) - 128 = 64 * (64 * (64 * (bt l' p' - 240) + bt l' (p' + 1) - 128) + bt l' (p' + 2) - 128) + bt l' (p' + 3) - 128
      rw [e0, e1, e2, e3]
def RS (b : Int) : Prop := ¬ (128 ≤ b ∧ b < 192)
theorem rs_f {b : Int} (h : RS b) : Lib.runeStart b = true := by
  unfold RS at h
  unfold Lib.runeStart
  simp
  omega
theorem Gd.start {l : List Int} {p j : Nat} (h1 : 1 ≤ j) (h4 : j ≤ 4) (g : Gd l p j) : RS (bt l p) ∧ (bt l p < 128 → j = 1) ∧ ∀ i, 0 < i → i < j → ¬ RS (bt l (p + i)) := by
  rcases (show j = 1 ∨ j = 2 ∨ j = 3 ∨ j = 4 by omega) with rfl | rfl | rfl | rfl
  · have g' : bt l p < 128 := g
    exact ⟨by unfold RS; omega, fun _ => rfl, fun i a b => by omega⟩
  · have g' : G2 (bt l p) (bt l (p + 1)) := g
    unfold G2 at g'
    refine ⟨by unfold RS; omega, fun h => by omega, fun i a b => ?_⟩
    obtain rfl : i = 1 := by omega
    unfold RS; omega
  · have g' : G3 (bt l p) (bt l (p + 1)) (bt l (p + 2)) := g
    unfold G3 at g'
    obtain ⟨q0, q1, q2, q3, q4, q5, _⟩ := g'
    refine ⟨by unfold RS; omega, fun h => by omega, fun i a b => ?_⟩
    rcases (show i = 1 ∨ i = 2 by omega) with rfl | rfl <;> unfold RS <;> omega
  · have g' : G4 (bt l p) (bt l (p + 1)) (bt l (p + 2)) (bt l (p + 3)) := g
    unfold G4 at g'
    refine ⟨by unfold RS; omega, fun h => by omega, fun i a b => ?_⟩
    rcases (show i = 1 ∨ i = 2 ∨ i = 3 by omega) with rfl | rfl | rfl <;> unfold RS <;> omega
/-- A place where a rune begins, or the end. -/
def Sp (l : List Int) (q : Nat) : Prop := q = l.length ∨ RS (bt l q)
theorem GR.head {l : List Int} {p : Nat} {rs : List (Nat × Nat)} (h : GR l p rs) : Sp l p := by
  cases h with
  | stop => exact .inl rfl
  | step h1 h2 h3 h4 h5 => exact .inr (h4.start h1 h2).1
theorem GR.at_ {l : List Int} {p : Nat} {rs : List (Nat × Nat)} (h : GR l p rs) : ∀ q, p ≤ q → q ≤ l.length → Sp l q → ∃ m, m ≤ rs.length ∧ PP l rs m = q ∧ GR l q (rs.drop m) := by
  induction h with
  | stop =>
    intro q h1 h2 h3
    obtain rfl : q = l.length := by omega
    exact ⟨0, Nat.le_refl _, rfl, .stop⟩
  | @step p j rest h1 h2 h3 h4 h5 ih =>
    intro q hq hn hs
    by_cases c : q = p
    · subst c
      exact ⟨0, Nat.zero_le _, rfl, .step h1 h2 h3 h4 h5⟩
    · have : p + j ≤ q := by
        refine Nat.le_of_not_lt fun hlt => ?_
        rcases hs with hs | hs
        · omega
        · have := (h4.start h1 h2).2.2 (q - p) (by omega) (by omega)
          rw [show p + (q - p) = q by omega] at this
          exact this hs
      obtain ⟨m, m1, m2, m3⟩ := ih q this hn hs
      exact ⟨m + 1, by simpa using m1, by rw [PP_succ]; exact m2, m3⟩
theorem GR.sp {l : List Int} {p : Nat} {rs : List (Nat × Nat)} (h : GR l p rs) : ∀ m, m ≤ rs.length → Sp l (PP l rs m) := by
  induction h with
  | stop =>
    intro m hm
    obtain rfl : m = 0 := by simpa using hm
    exact .inl rfl
  | @step p j rest h1 h2 h3 h4 h5 ih =>
    intro m hm
    cases m with
    | zero => exact .inr (h4.start h1 h2).1
    | succ m => rw [PP_succ]; exact ih m (by simpa using hm)
theorem bt_sub (l : List Int) (f q i : Nat) (h : f + i < q) (hq : q ≤ l.length) : bt ((l.take q).drop f) i = bt l (f + i) := by
  unfold bt
  rw [List.getD_eq_getElem?_getD, List.getD_eq_getElem?_getD, List.getElem?_drop, List.getElem?_take, if_pos h]
theorem InB_take {l : List Int} (h : Sc.InB l = true) (i : Nat) : Sc.InB (l.take i) = true := by
  unfold Sc.InB at h ⊢
  rw [List.all_eq_true] at h ⊢
  exact fun x hx => h x (List.mem_of_mem_take hx)
theorem GR.sub {l : List Int} {p : Nat} {rs : List (Nat × Nat)} (h : GR l p rs) (f : Nat) : ∀ m, f ≤ p → m ≤ rs.length → GR ((l.take (PP l rs m)).drop f) (p - f) ((rs.take m).map (fun x => (x.1 - f, x.2))) := by
  induction h with
  | stop =>
    intro m hf hm
    obtain rfl : m = 0 := by simpa using hm
    have e : PP l [] 0 = l.length := rfl
    rw [e]
    have := GR.stop (l := (l.take l.length).drop f)
    rw [List.length_drop, List.length_take, Nat.min_self] at this
    exact this
  | @step p j rest h1 h2 h3 h4 h5 ih =>
    intro m hf hm
    cases m with
    | zero =>
      have e : PP l ((p, (val l p j).toNat) :: rest) 0 = p := rfl
      rw [e]
      have := GR.stop (l := (l.take p).drop f)
      rw [List.length_drop, List.length_take, Nat.min_eq_left (by omega)] at this
      exact this
    | succ m =>
      rw [PP_succ]
      have hm' : m ≤ rest.length := by simpa using hm
      have hg := h5.ge m hm'
      have := ih m (by omega) hm'
      rw [show p + j - f = (p - f) + j by omega] at this
      obtain ⟨c1, c2⟩ := Gd_congr (l' := (l.take (PP l rest m)).drop f) (p' := p - f) h1 h2 (fun i hi => by
        rw [bt_sub l f (PP l rest m) (p - f + i) (by omega) hg.2, show f + (p - f + i) = p + i by omega]) h4
      rw [List.take_succ_cons, List.map_cons, c2]
      exact .step h1 h2 (by rw [List.length_drop, List.length_take]; omega) c1 this
theorem next10 {l : List Int} {rs : List (Nat × Nat)} (h : GR l 0 rs) (t : Nat) (ht : t < l.length) (h10 : bt l t = 10) : Sp l (t + 1) := by
  obtain ⟨m, m1, m2, m3⟩ := h.at_ t (Nat.zero_le _) (by omega) (.inr (by unfold RS; omega))
  generalize rs.drop m = r at m3
  cases m3 with
  | stop => omega
  | step h1 h2 h3 h4 h5 =>
    obtain rfl := (h4.start h1 h2).2.1 (by omega)
    exact h5.head
def LnOK (l : List Int) : Nat → List S24 → Prop
  | _, [] => False
  | z, s :: r => ∃ t : Nat, s = ⟨(z : Int), (t : Int)⟩ ∧ z ≤ t ∧ t ≤ l.length ∧ ((r = [] ∧ t = l.length) ∨ (t < l.length ∧ bt l t = 10 ∧ LnOK l (t + 1) r))
theorem lines_ok (l : List Int) (hl : l.length ≤ 100000) : ∀ (r : List Int) (p z : Nat), l.drop p = r → z ≤ p → p ≤ l.length → LnOK l z (linesOf (Sc.lens r (p - z)) z)
  | [], p, z, h, hz, hp => by
    have hp' : l.length = p := by
      have := congrArg List.length h
      rw [List.length_drop, List.length_nil] at this
      omega
    simp only [Sc.lens, linesOf, LnOK]
    refine ⟨p, ?_, hz, hp, .inl ⟨trivial, hp'.symm⟩⟩
    rw [w64 (by omega) (by omega)]
    congr 1; omega
  | x :: r, p, z, h, hz, hp => by
    have hlt : p < l.length := by
      have := congrArg List.length h
      rw [List.length_drop, List.length_cons] at this
      omega
    have hd : l.drop (p + 1) = r := by
      have := congrArg (List.drop 1) h
      rw [List.drop_drop] at this
      simpa using this
    have hx : bt l p = x := by
      have := congrArg (fun y => y[0]?) h
      simp only [List.getElem?_drop, Nat.add_zero, List.getElem?_cons_zero] at this
      unfold bt
      rw [List.getD_eq_getElem?_getD, this]; rfl
    rw [Sc.lens]
    by_cases c : x = 10
    · rw [if_pos c]
      have ih := lines_ok l hl r (p + 1) (p + 1) hd (Nat.le_refl _) hlt
      rw [Nat.sub_self] at ih
      simp only [linesOf, LnOK]
      refine ⟨p, ?_, hz, hp, .inr ⟨hlt, by rw [hx]; exact c, ?_⟩⟩
      · rw [w64 (by omega) (by omega)]
        congr 1; omega
      · rw [w64 (n := ((p - z : Nat) : Int) + 1) (by omega) (by omega), w64 (by omega) (by omega), show (z : Int) + (((p - z : Nat) : Int) + 1) = ((p + 1 : Nat) : Int) by omega]
        exact ih
    · rw [if_neg c]
      have ih := lines_ok l hl r (p + 1) z hd (by omega) hlt
      rw [show p + 1 - z = p - z + 1 by omega] at ih
      exact ih
theorem LnOK.ge {l : List Int} : ∀ (r : List S24) (z : Nat), LnOK l z r → ∀ c, c < r.length → ∃ f t : Nat, sp r c = ⟨(f : Int), (t : Int)⟩ ∧ z ≤ f ∧ f ≤ t ∧ t ≤ l.length ∧ (∀ rs, GR l 0 rs → Sp l z → Sp l f ∧ Sp l t)
  | [], z, h, c, hc => by simp at hc
  | s :: r, z, h, c, hc => by
    obtain ⟨t, rfl, h1, h2, h3⟩ := h
    cases c with
    | zero =>
      refine ⟨z, t, rfl, Nat.le_refl _, h1, h2, fun rs _ hz => ⟨hz, ?_⟩⟩
      rcases h3 with ⟨_, rfl⟩ | ⟨_, h, _⟩
      · exact .inl rfl
      · exact .inr (by unfold RS; omega)
    | succ c =>
      rcases h3 with ⟨rfl, _⟩ | ⟨h3, h4, h5⟩
      · simp at hc
      · obtain ⟨f, t', e, g1, g2, g3, g4⟩ := LnOK.ge r (t + 1) h5 c (by simpa using hc)
        exact ⟨f, t', e, by omega, g2, g3, fun rs hr _ => g4 rs hr (next10 hr t h3 h4)⟩
theorem check_ok {l : List Int} {rs : List (Nat × Nat)} (hg : Sc.goodRuns l = some rs) : runes_Check.f l = some ((l.length : Int), 0) := by
  exact Sc.checkL_good hg
theorem rd_bt (l : List Int) (i : Nat) : rd l (i : Int) = bt l i := rfl
theorem on_true {l : List Int} (hI : Sc.InB l = true) {rs : List (Nat × Nat)} (hg : Sc.goodRuns l = some rs) (x : Nat) (hx : x ≤ l.length) (hs : Sp l x) (k : Nat) (hk : 3 ≤ k) : runes_On.f k l x = some (true, 0) := by
  obtain ⟨k, rfl⟩ : ∃ K, k = K + 1 + 1 := ⟨k - 2, by omega⟩
  have hb : runes_Back.f (k + 1 + 1) l x = some ((x : Int), 0) := by
    unfold runes_Back.f
    rw [check_ok hg, Option.bind_some, if_pos rfl, if_neg (by omega), decide_eq_false (by omega)]
    simp only [runes_Back.j0]
    rw [if_neg (by decide)]
    simp only [runes_Back.l0]
    by_cases c : (x : Int) < (l.length : Int)
    · rw [if_pos c]
      by_cases d : (x : Int) > 0
      · rw [if_pos d, if_pos (by omega), rd_bt]
        have hb := bt_in hI (i := x) (by omega)
        have hr : RS (bt l x) := by
          rcases hs with h | h
          · omega
          · exact h
        unfold utf8_RuneStart.f
        rw [if_pos hb, Option.bind_some, if_pos (rs_f hr)]
      · rw [if_neg d]
    · rw [if_neg c]
  unfold runes_On.f
  rw [hb, Option.bind_some, if_pos rfl]
  simp
theorem count_sub {l : List Int} (hI : Sc.InB l = true) (hl : l.length ≤ 8000) {f : Nat} {rf : List (Nat × Nat)} (h : GR l f rf) (m : Nat) (hm : m ≤ rf.length) : runes_Count.f ((l.take (PP l rf m)).drop f) = some ((m : Int), 0) := by
  have h1 := h.sub f m (Nat.le_refl _) hm
  rw [Nat.sub_self] at h1
  have h2 := h1.good (Sc.InB_drop (InB_take hI _) _) (by rw [List.length_drop, List.length_take]; omega)
  unfold runes_Count.f runes_Runes.f
  rw [h2]
  show some (((List.map _ _ : List Int).length : Int), (0 : Int)) = _
  rw [List.length_map, List.length_map, List.length_take, Nat.min_eq_left hm]
theorem starts_sub {l : List Int} (hI : Sc.InB l = true) (hl : l.length ≤ 8000) {f : Nat} {rf : List (Nat × Nat)} (h : GR l f rf) (mt : Nat) (hm : mt ≤ rf.length) :
    ∃ T : List Int, runes_Starts.f ((l.take (PP l rf mt)).drop f) = some (T, 0) ∧ T.length = mt + 1 ∧ ∀ m, m ≤ mt → bt T m = ((PP l rf m : Nat) : Int) - f := by
  have h1 := h.sub f mt (Nat.le_refl _) hm
  rw [Nat.sub_self] at h1
  have h2 := h1.good (Sc.InB_drop (InB_take hI _) _) (by rw [List.length_drop, List.length_take]; omega)
  have hge := h.ge
  unfold runes_Starts.f
  rw [h2]
  refine ⟨_, rfl, by simp [Nat.min_eq_left hm], fun m hmm => ?_⟩
  unfold bt
  rw [List.getD_eq_getElem?_getD]
  by_cases c : m < mt
  · rw [List.getElem?_append_left (by simp; omega)]
    simp only [List.getElem?_map, List.getElem?_take, if_pos c]
    rw [List.getElem?_eq_getElem (show m < rf.length by omega)]
    have e : PP l rf m = rf[m].1 := by
      unfold PP
      rw [List.getD_eq_getElem?_getD, List.getElem?_append_left (by simp; omega), List.getElem?_map, List.getElem?_eq_getElem (show m < rf.length by omega)]
      rfl
    have := (hge m (by omega)).1
    show (((rf[m].1 - f : Nat)) : Int) = _
    rw [e] at this ⊢
    omega
  · obtain rfl : m = mt := by omega
    have := hge m hm
    rw [List.getElem?_append_right (by simp; omega)]
    simp [Nat.min_eq_left hm]
    omega
theorem place_at {l : List Int} (hI : Sc.InB l = true) (hl : l.length ≤ 8000) {rs : List (Nat × Nat)} (hg : Sc.goodRuns l = some rs) (hr : GR l 0 rs) (L : List S24) (hL : spans_Lines.f l = some (L, 0)) (hO : LnOK l 0 L) (hLl : L.length ≤ 10000)
    (c f t q m : Nat) (rf : List (Nat × Nat)) (hc : c < L.length) (hs : sp L c = ⟨(f : Int), (t : Int)⟩) (hf : GR l f rf) (hm : m ≤ rf.length) (hq : PP l rf m = q) (h1 : q ≤ t) (ht : t ≤ l.length) (k : Nat) (hk : L.length + 10 < k) :
    spans_Place.f k l q = some (((c : Int) + 1), ((m : Int) + 1), 0) := by
  have hfq := (hf.ge m hm).1
  have hql := (hf.ge m hm).2
  rw [hq] at hfq hql
  unfold spans_Place.f
  rw [on_true hI hg q hql (by rw [← hq]; exact hf.sp m hm) k (by omega), Option.bind_some, if_pos rfl, if_pos rfl, hL, Option.bind_some]
  have go : ∀ (d i z : Nat) (k : Nat), i + d = c → LnOK l z (L.drop i) → d + 3 < k → spans_Place.l0 k l q L L.length i = some (((c : Int) + 1), ((m : Int) + 1), 0) := by
    intro d
    induction d with
    | zero =>
      intro i z k hi hz hk
      obtain rfl : i = c := by omega
      obtain ⟨k, rfl⟩ : ∃ K, k = K + 1 := ⟨k - 1, by omega⟩
      simp only [spans_Place.l0]
      rw [if_pos (by omega), if_pos (by omega), if_pos (by omega), rd_sp, hs]
      have hw := within_f ⟨(q : Int), (q : Int)⟩ ⟨(f : Int), (t : Int)⟩
      dsimp only at hw ⊢
      rw [hw, Option.bind_some, if_pos (decide_eq_true (show Wi (⟨(q : Int), (q : Int)⟩ : S24) ⟨(f : Int), (t : Int)⟩ from ⟨by dsimp only; omega, by dsimp only; omega⟩)), if_pos (by omega), if_pos (by omega), if_pos (by omega)]
      have hcn := count_sub hI hl hf m hm
      rw [hq] at hcn
      rw [show ((q : Nat) : Int).toNat = q from rfl, show ((f : Nat) : Int).toNat = f from rfl, hcn, Option.bind_some]
      dsimp only
      rw [w64 (n := (i : Int) + 1) (by omega) (by omega), w64 (n := (m : Int) + 1) (by have := hf.len; omega) (by have := hf.len; omega)]
    | succ d ih =>
      intro i z k hi hz hk
      obtain ⟨k, rfl⟩ : ∃ K, k = K + 1 := ⟨k - 1, by omega⟩
      have hi' : i < L.length := by omega
      rw [List.drop_eq_getElem_cons hi'] at hz
      obtain ⟨t', e1, e2, e3, e4⟩ := hz
      have es : sp L i = ⟨(z : Int), (t' : Int)⟩ := by
        unfold sp
        rw [List.getD_eq_getElem?_getD, List.getElem?_eq_getElem hi', Option.getD_some]
        exact e1
      rcases e4 with ⟨e4, _⟩ | ⟨e4, e5, e6⟩
      · have := congrArg List.length e4
        rw [List.length_drop, List.length_nil] at this
        omega
      · obtain ⟨f', t'', g1, g2, _⟩ := LnOK.ge _ _ e6 (c - (i + 1)) (by rw [List.length_drop]; omega)
        have g3 : sp (L.drop (i + 1)) (c - (i + 1)) = sp L c := by
          unfold sp
          rw [List.getD_eq_getElem?_getD, List.getD_eq_getElem?_getD, List.getElem?_drop, show i + 1 + (c - (i + 1)) = c by omega]
        rw [g3, hs] at g1
        have g4 : (f : Int) = f' := congrArg S24.f0 g1
        simp only [spans_Place.l0]
        rw [if_pos (by omega), if_pos (by omega), if_pos (by omega), rd_sp, es]
        have hw := within_f ⟨(q : Int), (q : Int)⟩ ⟨(z : Int), (t' : Int)⟩
        dsimp only at hw ⊢
        rw [hw, Option.bind_some, if_neg (by simp [Wi]; omega), w64 (n := (i : Int) + 1) (by omega) (by omega)]
        have := ih (i + 1) (t' + 1) k (by omega) e6 (by omega)
        rwa [show ((i + 1 : Nat) : Int) = (i : Int) + 1 by omega] at this
  exact go c 0 0 k (by omega) hO (by omega)
theorem at_at {l : List Int} (hI : Sc.InB l = true) (hl : l.length ≤ 8000) (L : List S24) (hL : spans_Lines.f l = some (L, 0)) (hLl : L.length ≤ 10000)
    (c f t mt : Nat) (rf : List (Nat × Nat)) (hc : c < L.length) (hs : sp L c = ⟨(f : Int), (t : Int)⟩) (hf : GR l f rf) (hm : mt ≤ rf.length) (ht : PP l rf mt = t) (col : Int) (k : Nat) (hk : 10 < k) :
    spans_At.f k l ((c : Int) + 1) col = (if 1 ≤ col ∧ col ≤ (mt : Int) + 1 then some (((PP l rf (col - 1).toNat : Nat) : Int), 0) else some (0, 4)) := by
  obtain ⟨k, rfl⟩ : ∃ K, k = K + 1 := ⟨k - 1, by omega⟩
  have hge := hf.ge mt hm
  have hln := hf.len
  rw [ht] at hge
  obtain ⟨T, t1, t2, t3⟩ := starts_sub hI hl hf mt hm
  rw [ht] at t1
  unfold spans_At.f
  rw [hL, Option.bind_some, if_pos rfl]
  dsimp only
  rw [if_neg (by omega), decide_eq_false (by omega)]
  simp only [spans_At.j0]
  rw [if_neg (by decide), w64 (n := (c : Int) + 1 - 1) (by omega) (by omega), show (c : Int) + 1 - 1 = (c : Int) by omega, if_pos (by omega), if_pos (by omega), rd_sp, hs]
  dsimp only
  rw [if_pos (by omega), if_pos (by omega), if_pos (by omega), show ((t : Nat) : Int).toNat = t from rfl, show ((f : Nat) : Int).toNat = f from rfl, t1, Option.bind_some]
  dsimp only
  by_cases c1 : col < 1
  · rw [if_pos c1, if_neg (by omega)]
  · rw [if_neg c1]
    by_cases c2 : col > (T.length : Int)
    · rw [if_pos c2, if_neg (by omega)]
    · rw [if_neg c2, w64 (n := col - 1) (by omega) (by omega), if_pos (by omega), if_pos (by omega), if_pos (c := 1 ≤ col ∧ col ≤ (mt : Int) + 1) (by omega)]
      have e : rd T (col - 1) = bt T (col - 1).toNat := rfl
      have hP := hf.ge (col - 1).toNat (by omega)
      rw [e, t3 (col - 1).toNat (by omega), w64 (by omega) (by omega)]
      congr 2; omega
end Go.Proofs.YtnkfdobcmfdhfaaDoor.P
