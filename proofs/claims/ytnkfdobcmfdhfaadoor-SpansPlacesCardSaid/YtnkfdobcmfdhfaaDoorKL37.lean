import Derived.Test.YtnkfdobcmfdhfaaDoorKL36
import Derived.Test.YtnkfdobcmfdhfaaDoorKL21
import Derived.Test.YtnkfdobcmfdhfaaDoorKL30
import Derived.Test.YtnkfdobcmfdhfaaDoorKL32
namespace Go.Proofs.YtnkfdobcmfdhfaaDoor.P
open Go.RowKit Go.Proofs.YtnkfdobcmfdhfaaDoorW.PrintWords Go.Proofs.YtnkfdobcmfdhfaaDoorW.PrintLast Sc
set_option linter.unusedVariables false
set_option linter.unusedSimpArgs false
set_option maxRecDepth 20000
theorem short_cases (a b c n : Nat) (hn : 1 ≤ n) : Sc.Short a b c n ↔ (194 ≤ a ∧ a < 224 ∧ n < 2) ∨ (224 ≤ a ∧ a < 240 ∧ n < 3 ∧ (1 < n → (if a = 224 then 160 else 128) ≤ b ∧ b ≤ (if a = 237 then 159 else 191)) ) ∨ (240 ≤ a ∧ a < 245 ∧ n < 4 ∧ (1 < n → (if a = 240 then 144 else 128) ≤ b ∧ b ≤ (if a = 244 then 143 else 191)) ∧ (2 < n → 128 ≤ c ∧ c ≤ 191)) := by
  unfold Sc.Short Lib.firstT
  repeat' split
  all_goals simp only [show (240 : Nat) % 8 = 0 from rfl, show (241 : Nat) % 8 = 1 from rfl, show (2 : Nat) % 8 = 2 from rfl, show (19 : Nat) % 8 = 3 from rfl, show (3 : Nat) % 8 = 3 from rfl, show (35 : Nat) % 8 = 3 from rfl, show (52 : Nat) % 8 = 4 from rfl, show (4 : Nat) % 8 = 4 from rfl, show (68 : Nat) % 8 = 4 from rfl, show Lib.accLo (2 / 16) = 128 from rfl, show Lib.accHi (2 / 16) = 191 from rfl, show Lib.accLo (19 / 16) = 160 from rfl, show Lib.accHi (19 / 16) = 191 from rfl, show Lib.accLo (3 / 16) = 128 from rfl, show Lib.accHi (3 / 16) = 191 from rfl, show Lib.accLo (35 / 16) = 128 from rfl, show Lib.accHi (35 / 16) = 159 from rfl, show Lib.accLo (52 / 16) = 144 from rfl, show Lib.accHi (52 / 16) = 191 from rfl, show Lib.accLo (4 / 16) = 128 from rfl, show Lib.accHi (4 / 16) = 191 from rfl, show Lib.accLo (68 / 16) = 128 from rfl, show Lib.accHi (68 / 16) = 143 from rfl]
  all_goals omega
/-- These bytes are those of a rune. -/
def GL (ys : List Int) : Prop := Gd ys 0 ys.length
theorem stands_gl (ys : List Int) (hI : Sc.InB ys = true) (h1 : 1 ≤ ys.length) (h4 : ys.length ≤ 4) : ∃ v b, mummerref02_stands.f ys = some (v, b) ∧ (b = true ↔ GL ys) := by
  obtain ⟨v, b, h, h2, h3⟩ := stands_win ys hI 0 ys.length h1 h4 (by omega)
  rw [Nat.zero_add, List.take_length, List.drop_zero] at h
  exact ⟨v, b, h, fun hb => (h2 hb).1, h3⟩
theorem begins_l1v (xs : List Int) (m : Nat) (z : Int) (hm : m ≤ 4) : ∀ (d : Nat) (ys : List Int) (K : Nat), ys.length + d = m → 1 ≤ ys.length → Sc.InB ys = true →
    (∃ b, mummerref02_begins.l1 (K + d + 1) xs m z ys = (if b = true then some true else mummerref02_begins.l0 K xs m (wrap64 (z + 63))) ∧ (b = true ↔ GL (ys ++ List.replicate d (z % 256)))) := by
  intro d
  induction d with
  | zero =>
    intro ys K hy h1 hI
    obtain ⟨v, b, e, e2⟩ := stands_gl ys hI h1 (by omega)
    refine ⟨b, ?_, by simpa using e2⟩
    simp only [mummerref02_begins.l1]
    rw [if_neg (by omega), e, Option.bind_some]
  | succ d ih =>
    intro ys K hy h1 hI
    obtain ⟨b, e, e2⟩ := ih (ys ++ [z % 256]) K (by simp; omega) (by simp) (InB_app hI (InB1 (by omega)))
    refine ⟨b, ?_, by rw [e2, List.append_assoc, List.replicate_succ]; rfl⟩
    have e1 : K + (d + 1) + 1 = (K + d + 1) + 1 := by omega
    rw [e1]
    generalize K + d + 1 = F at e ⊢
    simp only [mummerref02_begins.l1]
    rw [if_pos (by omega), if_pos (by omega), e]
theorem begins_l0v (xs : List Int) (m : Nat) (hm : m ≤ 4) (h1 : 1 ≤ xs.length) (hlt : xs.length < m) (hI : Sc.InB xs = true) (z : Int) (K : Nat) (hz : z ≤ 191) :
    (∃ b, mummerref02_begins.l0 (K + 6) xs m z = (if b = true then some true else mummerref02_begins.l0 (K + 5 - (m - xs.length) - 1) xs m (wrap64 (z + 63))) ∧ (b = true ↔ GL (xs ++ List.replicate (m - xs.length) (z % 256)))) := by
  obtain ⟨b, e, e2⟩ := begins_l1v xs m z hm (m - xs.length) ([] ++ xs) (K + 5 - (m - xs.length) - 1) (by simp; omega) (by simpa using h1) (by simpa using hI)
  refine ⟨b, ?_, by simpa using e2⟩
  rw [← e, show K + 5 - (m - xs.length) - 1 + (m - xs.length) + 1 = K + 5 by omega]
  simp only [mummerref02_begins.l0]
  rw [if_pos hz, Option.bind_some, if_pos (by simp; omega)]
theorem begins_j2v (xs : List Int) (m : Nat) (hm : m ≤ 4) (h1 : 1 ≤ xs.length) (hI : Sc.InB xs = true) (k : Nat) (hk : 40 ≤ k) : ∃ b, mummerref02_begins.j2 k xs m = some b ∧ (b = true ↔ xs.length < m ∧ (GL (xs ++ List.replicate (m - xs.length) 128) ∨ GL (xs ++ List.replicate (m - xs.length) 191))) := by
  obtain ⟨k, rfl⟩ : ∃ K, k = (K + 6) + 1 := ⟨k - 7, by omega⟩
  simp only [mummerref02_begins.j2]
  by_cases c : (xs.length : Int) ≥ (m : Int)
  · rw [if_pos c]; exact ⟨false, rfl, ⟨(fun h => by cases h), (fun h => by omega)⟩⟩
  · rw [if_neg c]
    have hlt : xs.length < m := by omega
    obtain ⟨b, e, e2⟩ := begins_l0v xs m hm h1 hlt hI 128 k (by omega)
    rw [e]
    have e2' : b = true ↔ GL (xs ++ List.replicate (m - xs.length) 128) := e2
    cases b with
    | true => exact ⟨true, rfl, ⟨fun _ => ⟨hlt, .inl (e2'.1 rfl)⟩, fun _ => rfl⟩⟩
    | false =>
      rw [if_neg (by decide), w64 (n := 128 + 63) (by omega) (by omega)]
      generalize hK : k + 5 - (m - xs.length) - 1 = K
      obtain ⟨K, rfl⟩ : ∃ q, K = q + 6 := ⟨K - 6, by omega⟩
      obtain ⟨b, e, e3⟩ := begins_l0v xs m hm h1 hlt hI (128 + 63) K (by omega)
      rw [e]
      have e3' : b = true ↔ GL (xs ++ List.replicate (m - xs.length) 191) := e3
      have n1 : ¬ GL (xs ++ List.replicate (m - xs.length) 128) := fun h => by have := e2'.2 h; cases this
      cases b with
      | true => exact ⟨true, rfl, ⟨fun _ => ⟨hlt, .inr (e3'.1 rfl)⟩, fun _ => rfl⟩⟩
      | false =>
        have n2 : ¬ GL (xs ++ List.replicate (m - xs.length) 191) := fun h => by have := e3'.2 h; cases this
        rw [if_neg (by decide), w64 (n := 128 + 63 + 63) (by omega) (by omega)]
        generalize hK2 : K + 5 - (m - xs.length) - 1 = K2
        obtain ⟨K2, rfl⟩ : ∃ q, K2 = q + 1 := ⟨K2 - 1, by omega⟩
        simp only [mummerref02_begins.l0]
        rw [if_neg (by omega)]
        exact ⟨false, rfl, ⟨(fun h => by cases h), (fun h => (h.2.elim n1 n2).elim)⟩⟩
/-- How many bytes the first one asks for. -/
def manyI (a : Int) : Nat := if 192 ≤ a ∧ a < 224 then 2 else (if 224 ≤ a ∧ a < 240 then 3 else (if 240 ≤ a ∧ a < 248 then 4 else 0))
theorem begins_j (xs : List Int) (h1 : 1 ≤ xs.length) (hI : Sc.InB xs = true) (k : Nat) (hk : 50 ≤ k) : mummerref02_begins.f k xs = mummerref02_begins.j2 (k - 1) xs (manyI (bt xs 0)) ∨ mummerref02_begins.f k xs = mummerref02_begins.j2 (k - 2) xs (manyI (bt xs 0)) := by
  unfold mummerref02_begins.f
  rw [if_pos (by omega)]
  have hb := bt_in hI (i := 0) (by omega)
  have e : rd xs 0 = bt xs 0 := rfl
  rw [e, wr32 (n := bt xs 0) (by omega) (by omega)]
  obtain ⟨k, rfl⟩ : ∃ K, k = K + 1 + 1 := ⟨k - 2, by omega⟩
  rw [show k + 1 + 1 - 1 = k + 1 from rfl, show k + 1 + 1 - 2 = k from rfl]
  unfold manyI
  simp only [mummerref02_begins.j0]
  by_cases c : bt xs 0 ≥ 192
  · rw [if_pos c]
    by_cases d : bt xs 0 < 224
    · rw [if_pos (decide_eq_true d), if_pos (c := 192 ≤ bt xs 0 ∧ bt xs 0 < 224) ⟨c, d⟩]; exact .inl rfl
    · rw [if_neg (by simpa using d), if_neg (c := 192 ≤ bt xs 0 ∧ bt xs 0 < 224) (by omega), if_pos (by omega)]
      simp only [mummerref02_begins.j1]
      by_cases f : bt xs 0 < 240
      · rw [if_pos (decide_eq_true f), if_pos (c := 224 ≤ bt xs 0 ∧ bt xs 0 < 240) (by omega)]; exact .inr rfl
      · rw [if_neg (by simpa using f), if_pos (by omega), if_neg (c := 224 ≤ bt xs 0 ∧ bt xs 0 < 240) (by omega)]
        by_cases g : bt xs 0 < 248
        · rw [if_pos g, if_pos (c := 240 ≤ bt xs 0 ∧ bt xs 0 < 248) (by omega)]; exact .inr rfl
        · rw [if_neg g, if_neg (c := 240 ≤ bt xs 0 ∧ bt xs 0 < 248) (by omega)]; exact .inr rfl
  · rw [if_neg c, if_neg (by decide), if_neg (by omega), if_neg (c := 192 ≤ bt xs 0 ∧ bt xs 0 < 224) (by omega), if_neg (c := 224 ≤ bt xs 0 ∧ bt xs 0 < 240) (by omega), if_neg (c := 240 ≤ bt xs 0 ∧ bt xs 0 < 248) (by omega)]
    simp only [mummerref02_begins.j1]
    rw [if_neg (by decide), if_neg (by omega)]
    exact .inr rfl
theorem begins_val (xs : List Int) (h1 : 1 ≤ xs.length) (hI : Sc.InB xs = true) (k : Nat) (hk : 50 ≤ k) : ∃ b, mummerref02_begins.f k xs = some b ∧ (b = true ↔ xs.length < manyI (bt xs 0) ∧ (GL (xs ++ List.replicate (manyI (bt xs 0) - xs.length) 128) ∨ GL (xs ++ List.replicate (manyI (bt xs 0) - xs.length) 191))) := by
  have hm : manyI (bt xs 0) ≤ 4 := by unfold manyI; (repeat' split) <;> omega
  rcases begins_j xs h1 hI k hk with e | e <;> rw [e] <;> exact begins_j2v xs _ hm h1 hI _ (by omega)
theorem begins_short (xs : List Int) (h1 : 1 ≤ xs.length) (h3 : xs.length ≤ 3) (hI : Sc.InB xs = true) (k : Nat) (hk : 50 ≤ k) : mummerref02_begins.f k xs = some (decide (Sc.Short (bt xs 0).toNat (bt xs 1).toNat (bt xs 2).toNat xs.length)) := by
  obtain ⟨b, e, e2⟩ := begins_val xs h1 hI k hk
  rw [e]
  congr 1
  rw [Bool.eq_iff_iff, e2, decide_eq_true_eq, short_cases _ _ _ _ h1]
  have a0 := bt_in hI (i := 0) (by omega)
  match xs, h1, h3, hI with
  | [a], _, _, hI =>
    have e0 : bt [a] 0 = a := rfl
    rw [e0] at a0 ⊢
    have n1 : ([a] : List Int).length = 1 := rfl
    rw [n1]
    unfold manyI
    by_cases c1 : 192 ≤ a ∧ a < 224
    · rw [if_pos c1]
      have g1 : GL ([a] ++ List.replicate (2 - 1) 128) ↔ G2 a 128 := Iff.rfl
      have g2 : GL ([a] ++ List.replicate (2 - 1) 191) ↔ G2 a 191 := Iff.rfl
      rw [g1, g2]; unfold G2; omega
    · rw [if_neg c1]
      by_cases c2 : 224 ≤ a ∧ a < 240
      · rw [if_pos c2]
        have g1 : GL ([a] ++ List.replicate (3 - 1) 128) ↔ G3 a 128 128 := Iff.rfl
        have g2 : GL ([a] ++ List.replicate (3 - 1) 191) ↔ G3 a 191 191 := Iff.rfl
        rw [g1, g2]; unfold G3 IsR; omega
      · rw [if_neg c2]
        by_cases c3 : 240 ≤ a ∧ a < 248
        · rw [if_pos c3]
          have g1 : GL ([a] ++ List.replicate (4 - 1) 128) ↔ G4 a 128 128 128 := Iff.rfl
          have g2 : GL ([a] ++ List.replicate (4 - 1) 191) ↔ G4 a 191 191 191 := Iff.rfl
          rw [g1, g2]; unfold G4; omega
        · rw [if_neg c3]; omega
  | [a, b], _, _, hI =>
    have a1 := bt_in hI (i := 1) (by simp)
    have e0 : bt [a, b] 0 = a := rfl
    have e1 : bt [a, b] 1 = b := rfl
    rw [e0] at a0 ⊢
    rw [e1] at a1 ⊢
    have n1 : ([a, b] : List Int).length = 2 := rfl
    rw [n1]
    unfold manyI
    by_cases c1 : 192 ≤ a ∧ a < 224
    · rw [if_pos c1]; omega
    · rw [if_neg c1]
      by_cases c2 : 224 ≤ a ∧ a < 240
      · rw [if_pos c2]
        have g1 : GL ([a, b] ++ List.replicate (3 - 2) 128) ↔ G3 a b 128 := Iff.rfl
        have g2 : GL ([a, b] ++ List.replicate (3 - 2) 191) ↔ G3 a b 191 := Iff.rfl
        rw [g1, g2]; unfold G3 IsR
        (repeat' split) <;> omega
      · rw [if_neg c2]
        by_cases c3 : 240 ≤ a ∧ a < 248
        · rw [if_pos c3]
          have g1 : GL ([a, b] ++ List.replicate (4 - 2) 128) ↔ G4 a b 128 128 := Iff.rfl
          have g2 : GL ([a, b] ++ List.replicate (4 - 2) 191) ↔ G4 a b 191 191 := Iff.rfl
          rw [g1, g2]; unfold G4
          (repeat' split) <;> omega
        · rw [if_neg c3]; omega
  | [a, b, c], _, _, hI =>
    have a1 := bt_in hI (i := 1) (by simp)
    have a2 := bt_in hI (i := 2) (by simp)
    have e0 : bt [a, b, c] 0 = a := rfl
    have e1 : bt [a, b, c] 1 = b := rfl
    have e2 : bt [a, b, c] 2 = c := rfl
    rw [e0] at a0 ⊢
    rw [e1] at a1 ⊢
    rw [e2] at a2 ⊢
    have n1 : ([a, b, c] : List Int).length = 3 := rfl
    rw [n1]
    unfold manyI
    by_cases c1 : 192 ≤ a ∧ a < 224
    · rw [if_pos c1]; omega
    · rw [if_neg c1]
      by_cases c2 : 224 ≤ a ∧ a < 240
      · rw [if_pos c2]; omega
      · rw [if_neg c2]
        by_cases c3 : 240 ≤ a ∧ a < 248
        · rw [if_pos c3]
          have g1 : GL ([a, b, c] ++ List.replicate (4 - 3) 128) ↔ G4 a b c 128 := Iff.rfl
          have g2 : GL ([a, b, c] ++ List.replicate (4 - 3) 191) ↔ G4 a b c 191 := Iff.rfl
          rw [g1, g2]; unfold G4
          (repeat' split) <;> omega
        · rw [if_neg c3]; omega
def errI (l : List Int) (p : Nat) : Int := if Sc.Short (bt l p).toNat (bt l (p + 1)).toNat (bt l (p + 2)).toNat (l.length - p) then 320 else 6
theorem bt_drop (l : List Int) (p i : Nat) : bt (l.drop p) i = bt l (p + i) := by
  unfold bt
  rw [List.getD_eq_getElem?_getD, List.getD_eq_getElem?_getD, List.getElem?_drop]
theorem errI_ne (l : List Int) (p : Nat) : errI l p ≠ 0 := by unfold errI; split <;> decide
theorem dec_l0v (l : List Int) (hI : Sc.InB l = true) (hl : l.length ≤ 1000000) (p : Nat) (hp : p < l.length) : ∀ (m n : Nat), n + m = 5 → 1 ≤ n → ∀ k, 61 + 2 * m ≤ k →
    (∃ j : Nat, n ≤ j ∧ j ≤ 4 ∧ p + j ≤ l.length ∧ Gd l p j ∧ mummerref02_Decode.l0 k l p n = some (val l p j, (j : Int), 0)) ∨ ((∀ j, n ≤ j → j ≤ 4 → p + j ≤ l.length → ¬ Gd l p j) ∧ mummerref02_Decode.l0 k l p n = some (0, 0, errI l p)) := by
  have tail : ∀ k, 60 ≤ k → ∀ n : Int, mummerref02_Decode.j2 k l p n false = some (0, 0, errI l p) := by
    intro k hk n
    obtain ⟨k, rfl⟩ : ∃ K, k = K + 1 := ⟨k - 1, by omega⟩
    simp only [mummerref02_Decode.j2]
    rw [if_neg (by decide), w64 (n := (l.length : Int) - p) (by omega) (by omega)]
    unfold errI
    by_cases c : (l.length : Int) - p < 4
    · rw [if_pos c, if_pos (by omega), if_pos (by omega)]
      have e := begins_short (l.drop p) (by rw [List.length_drop]; omega) (by rw [List.length_drop]; omega) (Sc.InB_drop hI p) k (by omega)
      rw [bt_drop, bt_drop, bt_drop, List.length_drop, Nat.add_zero] at e
      rw [show (p : Int).toNat = p from rfl, e, Option.bind_some]
      by_cases g : Sc.Short (bt l p).toNat (bt l (p + 1)).toNat (bt l (p + 2)).toNat (l.length - p)
      · rw [if_pos (decide_eq_true g), if_pos g]
      · rw [if_neg (by simpa using g), if_neg g]
    · rw [if_neg c, if_neg (fun h => by rw [short_cases _ _ _ _ (by omega)] at h; omega)]
  intro m
  induction m with
  | zero =>
    intro n hn h1 k hk
    obtain ⟨k, rfl⟩ : ∃ K, k = K + 1 := ⟨k - 1, by omega⟩
    right
    refine ⟨fun j a b => by omega, ?_⟩
    simp only [mummerref02_Decode.l0]
    rw [if_neg (by omega)]
    exact tail k (by omega) n
  | succ m ih =>
    intro n hn h1 k hk
    obtain ⟨k, rfl⟩ : ∃ K, k = K + 1 + 1 := ⟨k - 2, by omega⟩
    simp only [mummerref02_Decode.l0]
    rw [if_pos (by omega), w64 (n := (p : Int) + n) (by omega) (by omega)]
    by_cases c : (p : Int) + n ≤ (l.length : Int)
    · rw [decide_eq_true c]
      simp only [mummerref02_Decode.j2]
      rw [if_pos trivial, w64 (n := (p : Int) + n) (by omega) (by omega), if_pos (by omega), if_pos (by omega), if_pos c, show ((p : Int) + n).toNat = p + n by omega, show (p : Int).toNat = p from rfl]
      obtain ⟨v, b, e1, e2, e3⟩ := stands_win l hI p n h1 (by omega) (by omega)
      rw [e1, Option.bind_some]
      cases b with
      | true =>
        obtain ⟨g1, g2⟩ := e2 rfl
        left
        exact ⟨n, Nat.le_refl _, by omega, by omega, g1, by rw [if_pos rfl, g2]⟩
      | false =>
        have ng : ¬ Gd l p n := fun h => by have := e3 h; cases this
        rw [if_neg (by simp), w64 (n := (n : Int) + 1) (by omega) (by omega)]
        have := ih (n + 1) (by omega) (by omega) k (by omega)
        rw [show ((n + 1 : Nat) : Int) = (n : Int) + 1 by omega] at this
        rcases this with ⟨j, a, b, c, d, e⟩ | ⟨h, e⟩
        · left; exact ⟨j, by omega, b, c, d, e⟩
        · right
          refine ⟨fun j a b c => ?_, e⟩
          by_cases q : j = n
          · subst q; exact ng
          · exact h j (by omega) b c
    · rw [decide_eq_false c]
      right
      exact ⟨fun j a b c' => by omega, tail (k + 1) (by omega) n⟩
theorem dec_fv (l : List Int) (hI : Sc.InB l = true) (hl : l.length ≤ 1000000) (p : Nat) (hp : p < l.length) (k : Nat) (hk : 80 ≤ k) :
    (∃ j : Nat, 1 ≤ j ∧ j ≤ 4 ∧ p + j ≤ l.length ∧ Gd l p j ∧ mummerref02_Decode.f k l p = some (val l p j, (j : Int), 0)) ∨ ((∀ j, 1 ≤ j → j ≤ 4 → p + j ≤ l.length → ¬ Gd l p j) ∧ mummerref02_Decode.f k l p = some (0, 0, errI l p)) := by
  unfold mummerref02_Decode.f
  obtain ⟨k, rfl⟩ : ∃ K, k = K + 1 := ⟨k - 1, by omega⟩
  rw [if_neg (by omega), decide_eq_false (by omega)]
  simp only [mummerref02_Decode.j0]
  rw [if_neg (by decide)]
  exact dec_l0v l hI hl p hp 4 1 (by omega) (by omega) k (by omega)
theorem get_out (l : List Int) (i : Nat) (h : l.length ≤ i) : ((strOfNums l).get! i).toNat = 0 ∧ bt l i = 0 := by
  refine ⟨?_, ?_⟩
  · show ((strOfNums l).data[i]!).toNat = 0
    have : (strOfNums l).data = (l.map fun n => UInt8.ofNat n.toNat).toArray := rfl
    rw [this]
    simp [h]
    rfl
  · unfold bt
    rw [List.getD_eq_getElem?_getD, List.getElem?_eq_none h]; rfl
theorem get_any (l : List Int) (hI : Sc.InB l = true) (i : Nat) : ((strOfNums l).get! i).toNat = (bt l i).toNat := by
  by_cases c : i < l.length
  · exact get_bt l hI i c
  · obtain ⟨a, b⟩ := get_out l i (by omega)
    rw [a, b]; rfl
theorem errS_errI (l : List Int) (hI : Sc.InB l = true) (p : Nat) : Sc.errS (strOfNums l) p = errI l p := by
  unfold Sc.errS errI
  rw [get_any l hI, get_any l hI, get_any l hI, strOfNums_size]
theorem bad_decode (l : List Int) (hI : Sc.InB l = true) (p : Nat) (hp : p < l.length) (hno : ∀ j, 1 ≤ j → j ≤ 4 → p + j ≤ l.length → ¬ Gd l p j) : Utf8.decode (strOfNums l) p = (65533, 1) := by
  have hs : (strOfNums l).size = l.length := strOfNums_size l
  have hb := fun i (hi : p + i < l.length) => bt_in hI (i := p + i) hi
  have b0 := hb 0 (by omega)
  rw [Nat.add_zero] at b0
  unfold Utf8.decode
  dsimp only
  simp only [Nat.add_zero, get_any l hI, hs]
  have n1 := hno 1 (by omega) (by omega) (by omega)
  have n1' : ¬ bt l p < 128 := n1
  rw [if_neg (by omega)]
  by_cases c2 : (((bt l p).toNat / 32 == 6) && (decide (p + 1 < l.length) && ((bt l (p + 1)).toNat / 64 == 2))) = true
  · rw [if_pos c2]
    simp at c2
    have b1 := hb 1 (by omega)
    have n2 := hno 2 (by omega) (by omega) (by omega)
    have n2' : ¬ G2 (bt l p) (bt l (p + 1)) := n2
    rw [if_neg (fun h => n2' (by unfold G2; omega))]
    rfl
  · rw [if_neg c2]
    by_cases c3 : (((bt l p).toNat / 16 == 14) && (decide (p + 1 < l.length) && ((bt l (p + 1)).toNat / 64 == 2)) && (decide (p + 2 < l.length) && ((bt l (p + 2)).toNat / 64 == 2))) = true
    · rw [if_pos c3]
      simp at c3
      have b1 := hb 1 (by omega)
      have b2 := hb 2 (by omega)
      have n3 := hno 3 (by omega) (by omega) (by omega)
      have n3' : ¬ G3 (bt l p) (bt l (p + 1)) (bt l (p + 2)) := n3
      rw [if_neg (fun h => n3' (by simp [Utf8.valid] at h; unfold G3 IsR; omega))]
      rfl
    · rw [if_neg c3]
      by_cases c4 : (((bt l p).toNat / 8 == 30) && (decide (p + 1 < l.length) && ((bt l (p + 1)).toNat / 64 == 2)) && (decide (p + 2 < l.length) && ((bt l (p + 2)).toNat / 64 == 2)) && (decide (p + 3 < l.length) && ((bt l (p + 3)).toNat / 64 == 2))) = true
      · rw [if_pos c4]
        simp at c4
        have b1 := hb 1 (by omega)
        have b2 := hb 2 (by omega)
        have b3 := hb 3 (by omega)
        have n4 := hno 4 (by omega) (by omega) (by omega)
        have n4' : ¬ G4 (bt l p) (bt l (p + 1)) (bt l (p + 2)) (bt l (p + 3)) := n4
        rw [if_neg (fun h => n4' (by simp [Utf8.valid] at h; unfold G4; omega))]
        rfl
      · rw [if_neg c4]; rfl
/-- Good, or both stop at the same place with the same error. -/
theorem ref_both (l : List Int) (hI : Sc.InB l = true) (hl : l.length ≤ 8000) : ∀ (d p : Nat), p + d = l.length →
    (∃ rs, GR l p rs) ∨ (∃ q : Nat, (∀ K, d < K → Sc.badF (strOfNums l) K p = some q) ∧ (∀ K, Sc.runsF K (strOfNums l) p = none) ∧ ∀ k, 100 + d ≤ k → mummerref02_Check.l0 k l p = some ((q : Int), errI l q)) := by
  intro d
  induction d using Nat.strongRecOn with
  | ind d ih =>
    intro p hp
    by_cases c : d = 0
    · left
      obtain rfl : p = l.length := by omega
      exact ⟨[], .stop⟩
    · rcases dec_fv l hI (by omega) p (by omega) 80 (by omega) with ⟨j, j1, j4, jl, g, e⟩ | ⟨hno, e2⟩
      · have up := dec_up e
        obtain ⟨z1, z2, z3⟩ := gd_decode l hI p j j1 j4 jl g
        rcases ih (d - j) (by omega) (p + j) (by omega) with ⟨rs, r1⟩ | ⟨q, q1, q2, q3⟩
        · left
          exact ⟨_, .step j1 j4 jl g r1⟩
        · right
          have cond : p < (strOfNums l).size ∧ ((Utf8.decode (strOfNums l) p).1 ≠ 65533 ∨ 1 < (Utf8.decode (strOfNums l) p).2) ∧ Lib.runeLen ((Utf8.decode (strOfNums l) p).1 : Int) = ((Utf8.decode (strOfNums l) p).2 : Int) ∧ 1 ≤ (Utf8.decode (strOfNums l) p).2 ∧ p + (Utf8.decode (strOfNums l) p).2 ≤ (strOfNums l).size := by
            rw [z1, strOfNums_size]; exact ⟨by omega, z2, z3, j1, jl⟩
          refine ⟨q, fun K hK => ?_, fun K => ?_, fun k hk => ?_⟩
          · obtain ⟨K, rfl⟩ : ∃ m, K = m + 1 := ⟨K - 1, by omega⟩
            simp only [Sc.badF]
            rw [if_neg (fun h => by rw [z1] at h; have h3 := h.2; simp only [Prod.mk.injEq] at h3; omega), if_pos cond, z1]
            exact q1 K (by omega)
          · cases K with
            | zero => rfl
            | succ K =>
              simp only [Sc.runsF]
              rw [if_neg (by rw [strOfNums_size]; omega), if_pos cond, z1]
              dsimp only
              rw [q2 K]; rfl
          · obtain ⟨k, rfl⟩ : ∃ K, k = K + 1 := ⟨k - 1, by omega⟩
            simp only [mummerref02_Check.l0]
            rw [if_pos (by omega), up k (by omega), Option.bind_some, if_pos rfl, w64 (n := (p : Int) + j) (by omega) (by omega)]
            have := q3 k (by omega)
            rwa [show ((p + j : Nat) : Int) = (p : Int) + j by omega] at this
      · have up := dec_up e2
        have hd := bad_decode l hI p (by omega) hno
        right
        refine ⟨p, fun K hK => ?_, fun K => ?_, fun k hk => ?_⟩
        · obtain ⟨K, rfl⟩ : ∃ m, K = m + 1 := ⟨K - 1, by omega⟩
          simp only [Sc.badF]
          rw [if_pos ⟨by rw [strOfNums_size]; omega, hd⟩]
        · cases K with
          | zero => rfl
          | succ K =>
            simp only [Sc.runsF]
            rw [if_neg (by rw [strOfNums_size]; omega), if_neg (fun h => by rw [hd] at h; rcases h.2.1 with h | h; exact h rfl; omega)]
        · obtain ⟨k, rfl⟩ : ∃ K, k = K + 1 := ⟨k - 1, by omega⟩
          simp only [mummerref02_Check.l0]
          rw [if_pos (by omega), up k (by omega), Option.bind_some, if_neg (errI_ne l p)]
theorem check_both (l : List Int) (hI : Sc.InB l = true) :
    (∃ rs, l.length ≤ 8000 ∧ GR l 0 rs) ∨ (∃ q e, e ≠ 0 ∧ Sc.checkL l = some (q, e) ∧ ∀ k, 9000 ≤ k → mummerref02_Check.f k l = some (q, e)) := by
  by_cases c : (l.length : Int) > 8000
  · right
    refine ⟨0, 3, by decide, ?_, fun k hk => ?_⟩
    · unfold Sc.checkL; rw [if_pos (by omega)]
    · unfold mummerref02_Check.f; rw [if_pos c]
  · rcases ref_both l hI (by omega) l.length 0 (by omega) with ⟨rs, h⟩ | ⟨q, q1, q2, q3⟩
    · exact .inl ⟨rs, by omega, h⟩
    · right
      refine ⟨q, errI l q, errI_ne l q, ?_, fun k hk => ?_⟩
      · unfold Sc.checkL
        rw [if_neg (by omega), if_pos hI, q2]
        dsimp only
        rw [q1 _ (by omega), Option.map_some, errS_errI l hI]
      · unfold mummerref02_Check.f
        rw [if_neg c]
        have := q3 k (by omega)
        exact this
theorem Gd_uniq {l : List Int} {p j j' : Nat} (h1 : 1 ≤ j) (h4 : j ≤ 4) (h1' : 1 ≤ j') (h4' : j' ≤ 4) (g : Gd l p j) (g' : Gd l p j') : j = j' := by
  have cls : ∀ i, 1 ≤ i → i ≤ 4 → Gd l p i → (i = 1 ∧ bt l p < 128) ∨ (i = 2 ∧ 192 ≤ bt l p ∧ bt l p < 224) ∨ (i = 3 ∧ 224 ≤ bt l p ∧ bt l p < 240) ∨ (i = 4 ∧ 240 ≤ bt l p) := by
    intro i a b g
    rcases (show i = 1 ∨ i = 2 ∨ i = 3 ∨ i = 4 by omega) with rfl | rfl | rfl | rfl
    · exact .inl ⟨rfl, g⟩
    · have h : G2 _ _ := g; exact .inr (.inl ⟨rfl, h.1, h.2.1⟩)
    · have h : G3 _ _ _ := g; exact .inr (.inr (.inl ⟨rfl, h.1, h.2.1⟩))
    · have h : G4 _ _ _ _ := g; exact .inr (.inr (.inr ⟨rfl, h.1⟩))
  rcases cls j h1 h4 g with h | h | h | h <;> rcases cls j' h1' h4' g' with h' | h' | h' | h' <;> omega
theorem Gd.dec {l : List Int} (hI : Sc.InB l = true) (hl : l.length ≤ 1000000) {p j : Nat} (h1 : 1 ≤ j) (h4 : j ≤ 4) (hp : p + j ≤ l.length) (g : Gd l p j) (k : Nat) (hk : 80 ≤ k) : mummerref02_Decode.f k l p = some (val l p j, (j : Int), 0) := by
  rcases dec_fv l hI hl p (by omega) k hk with ⟨j', a, b, c, d, e⟩ | ⟨h, _⟩
  · obtain rfl := Gd_uniq h1 h4 a b g d
    exact e
  · exact absurd g (h j h1 h4 hp)
theorem GR.ref {l : List Int} (hI : Sc.InB l = true) (hl : l.length ≤ 8000) {p : Nat} {rs : List (Nat × Nat)} (h : GR l p rs) :
    (∀ k, 100 + (l.length - p) ≤ k → mummerref02_Check.l0 k l p = some ((l.length : Int), 0)) ∧ (∀ k (out : List Int), 100 + (l.length - p) ≤ k → out.length + (l.length - p) ≤ 100000 → mummerref02_Starts.l0 k l out p = some (out ++ rs.map (fun x => ((x.1 : Nat) : Int)) ++ [(l.length : Int)], 0)) := by
  induction h with
  | stop =>
    refine ⟨fun k hk => ?_, fun k out hk ho => ?_⟩
    · obtain ⟨k, rfl⟩ : ∃ K, k = K + 1 := ⟨k - 1, by omega⟩
      simp only [mummerref02_Check.l0]
      rw [if_neg (by omega)]
    · obtain ⟨k, rfl⟩ : ∃ K, k = K + 1 := ⟨k - 1, by omega⟩
      simp only [mummerref02_Starts.l0]
      rw [if_neg (by omega), if_pos (by omega)]
      simp
  | @step p j rest j1 j4 jl g r1 ih =>
    obtain ⟨r2, r3⟩ := ih
    have up := fun k hk => g.dec hI (by omega) j1 j4 jl k hk
    refine ⟨fun k hk => ?_, fun k out hk ho => ?_⟩
    · obtain ⟨k, rfl⟩ : ∃ K, k = K + 1 := ⟨k - 1, by omega⟩
      simp only [mummerref02_Check.l0]
      rw [if_pos (by omega), up k (by omega), Option.bind_some, if_pos rfl, w64 (n := (p : Int) + j) (by omega) (by omega)]
      have := r2 k (by omega)
      rwa [show ((p + j : Nat) : Int) = (p : Int) + j by omega] at this
    · obtain ⟨k, rfl⟩ : ∃ K, k = K + 1 := ⟨k - 1, by omega⟩
      simp only [mummerref02_Starts.l0]
      rw [if_pos (by omega), if_pos (by omega), up k (by omega), Option.bind_some]
      dsimp only
      rw [w64 (n := (p : Int) + j) (by omega) (by omega)]
      have := r3 k (out ++ [(p : Int)]) (by omega) (by simp; omega)
      rw [show ((p + j : Nat) : Int) = (p : Int) + j by omega] at this
      rw [this]
      simp
def SL (l : List Int) (rs : List (Nat × Nat)) : List Int := rs.map (fun x => ((x.1 : Nat) : Int)) ++ [(l.length : Int)]
theorem GR.check {l : List Int} (hI : Sc.InB l = true) (hl : l.length ≤ 8000) {rs : List (Nat × Nat)} (h : GR l 0 rs) (k : Nat) (hk : 9000 ≤ k) : mummerref02_Check.f k l = some ((l.length : Int), 0) := by
  unfold mummerref02_Check.f
  rw [if_neg (by omega)]
  have := (h.ref hI hl).1 k (by omega)
  exact this
theorem GR.starts {l : List Int} (hI : Sc.InB l = true) (hl : l.length ≤ 8000) {rs : List (Nat × Nat)} (h : GR l 0 rs) (k : Nat) (hk : 9000 ≤ k) : mummerref02_Starts.f k l = some (SL l rs, 0) := by
  unfold mummerref02_Starts.f
  rw [h.check hI hl k hk, Option.bind_some, if_pos rfl]
  have := (h.ref hI hl).2 k [] (by omega) (by simp; omega)
  rw [List.nil_append] at this
  exact this
theorem SL_len (l : List Int) (rs : List (Nat × Nat)) : ((SL l rs).length : Int) = (rs.length : Int) + 1 := by unfold SL; simp
theorem SL_rd (l : List Int) (rs : List (Nat × Nat)) (i : Nat) (hi : i ≤ rs.length) : rd (SL l rs) (i : Int) = ((PP l rs i : Nat) : Int) := by
  unfold PP SL
  show (rs.map (fun x => ((x.1 : Nat) : Int)) ++ [(l.length : Int)]).getD i 0 = _
  have e : rs.map (fun x => ((x.1 : Nat) : Int)) ++ [(l.length : Int)] = (rs.map (fun x => x.1) ++ [l.length]).map (fun n : Nat => (n : Int)) := by simp
  rw [e, List.getD_eq_getElem?_getD, List.getD_eq_getElem?_getD, List.getElem?_map]
  have hlt : i < (rs.map (fun x => x.1) ++ [l.length]).length := by simp; omega
  rw [List.getElem?_eq_getElem hlt]
  rfl
theorem ref_lines_l0 (l : List Int) (hl : l.length ≤ 8000) : ∀ (r : List Int) (p z : Nat) (out : List S24) (k : Nat), l.drop p = r → z ≤ p → p ≤ l.length → out.length + r.length ≤ 100000 → r.length < k →
    mummerref03_Lines.l0 k l out z p = some (out ++ linesOf (Sc.lens r (p - z)) z, 0)
  | [], p, z, out, k, h, hz, hp, ho, hk => by
    have hp' : l.length = p := by
      have := congrArg List.length h
      rw [List.length_drop, List.length_nil] at this
      omega
    obtain ⟨k, rfl⟩ : ∃ K, k = K + 1 := ⟨k - 1, by omega⟩
    simp only [mummerref03_Lines.l0, Sc.lens, linesOf]
    rw [if_neg (by omega), if_pos (by simp at ho; omega), w64 (n := (z : Int) + ((p - z : Nat) : Int)) (by omega) (by omega), show (z : Int) + ((p - z : Nat) : Int) = (l.length : Int) by omega]
  | x :: r, p, z, out, k, h, hz, hp, ho, hk => by
    have hlt : p < l.length := by
      have := congrArg List.length h
      rw [List.length_drop, List.length_cons] at this
      omega
    have hd : l.drop (p + 1) = r := by
      have := congrArg (List.drop 1) h
      rw [List.drop_drop] at this
      simpa using this
    have hx : bt l p = x := by
      have := congrArg (fun y => y[0]?) h
      simp only [List.getElem?_drop, Nat.add_zero, List.getElem?_cons_zero] at this
      unfold bt
      rw [List.getD_eq_getElem?_getD, this]; rfl
    rw [List.length_cons] at ho hk
    obtain ⟨k, rfl⟩ : ∃ K, k = K + 1 := ⟨k - 1, by omega⟩
    simp only [mummerref03_Lines.l0]
    rw [if_pos (by omega), if_pos (by omega), rd_bt, hx, w64 (n := (p : Int) + 1) (by omega) (by omega), Sc.lens]
    by_cases c : x = 10
    · rw [if_pos c, if_pos c, if_pos (by omega)]
      have ih := ref_lines_l0 l hl r (p + 1) (p + 1) (out ++ [⟨(z : Int), (p : Int)⟩]) k hd (Nat.le_refl _) hlt (by simp; omega) (by omega)
      rw [Nat.sub_self, show ((p + 1 : Nat) : Int) = (p : Int) + 1 by omega] at ih
      rw [ih]
      simp only [linesOf]
      rw [w64 (n := ((p - z : Nat) : Int) + 1) (by omega) (by omega), w64 (n := (z : Int) + (((p - z : Nat) : Int) + 1)) (by omega) (by omega), w64 (n := (z : Int) + ((p - z : Nat) : Int)) (by omega) (by omega), show (z : Int) + (((p - z : Nat) : Int) + 1) = (p : Int) + 1 by omega, show (z : Int) + ((p - z : Nat) : Int) = (p : Int) by omega]
      simp
    · rw [if_neg c, if_neg c]
      have ih := ref_lines_l0 l hl r (p + 1) z out k hd (by omega) hlt (by omega) (by omega)
      rw [show p + 1 - z = p - z + 1 by omega, show ((p + 1 : Nat) : Int) = (p : Int) + 1 by omega] at ih
      exact ih
theorem no10 (l : List Int) (hl : l.length ≤ 8000) : ∀ (r : List Int) (p z : Nat), l.drop p = r → z ≤ p → p ≤ l.length → (∀ i, z ≤ i → i < p → bt l i ≠ 10) → ∀ c, c < (linesOf (Sc.lens r (p - z)) z).length → ∀ i : Nat, (sp (linesOf (Sc.lens r (p - z)) z) c).f0 ≤ i → (i : Int) < (sp (linesOf (Sc.lens r (p - z)) z) c).f1 → bt l i ≠ 10
  | [], p, z, h, hz, hp, hn, c, hc, i, h1, h2 => by
    simp only [Sc.lens, linesOf] at hc h1 h2
    obtain rfl : c = 0 := by simpa using hc
    have h1' : (z : Int) ≤ i := h1
    have h2' : (i : Int) < wrap64 ((z : Int) + ((p - z : Nat) : Int)) := h2
    rw [w64 (by omega) (by omega)] at h2'
    exact hn i (by omega) (by omega)
  | x :: r, p, z, h, hz, hp, hn, c, hc, i, h1, h2 => by
    have hlt : p < l.length := by
      have := congrArg List.length h
      rw [List.length_drop, List.length_cons] at this
      omega
    have hd : l.drop (p + 1) = r := by
      have := congrArg (List.drop 1) h
      rw [List.drop_drop] at this
      simpa using this
    have hx : bt l p = x := by
      have := congrArg (fun y => y[0]?) h
      simp only [List.getElem?_drop, Nat.add_zero, List.getElem?_cons_zero] at this
      unfold bt
      rw [List.getD_eq_getElem?_getD, this]; rfl
    rw [Sc.lens] at hc h1 h2
    by_cases c1 : x = 10
    · rw [if_pos c1] at hc h1 h2
      simp only [linesOf] at hc h1 h2
      rw [w64 (n := ((p - z : Nat) : Int) + 1) (by omega) (by omega), w64 (n := (z : Int) + (((p - z : Nat) : Int) + 1)) (by omega) (by omega), show (z : Int) + (((p - z : Nat) : Int) + 1) = ((p + 1 : Nat) : Int) by omega] at hc h1 h2
      cases c with
      | zero =>
        have h1' : (z : Int) ≤ i := h1
        have h2' : (i : Int) < wrap64 ((z : Int) + ((p - z : Nat) : Int)) := h2
        rw [w64 (by omega) (by omega)] at h2'
        exact hn i (by omega) (by omega)
      | succ c =>
        have ih := no10 l hl r (p + 1) (p + 1) hd (Nat.le_refl _) hlt (fun i a b => by omega) c
        rw [Nat.sub_self] at ih
        exact ih (by simpa using hc) i h1 h2
    · rw [if_neg c1, show p - z + 1 = p + 1 - z by omega] at hc h1 h2
      exact no10 l hl r (p + 1) z hd (by omega) hlt (fun i a b => by
        by_cases e : i = p
        · subst e; rw [hx]; exact c1
        · exact hn i a (by omega)) c hc i h1 h2
theorem back_val {l : List Int} (hI : Sc.InB l = true) (hl : l.length ≤ 8000) : ∀ (x k : Nat), x ≤ l.length → x + 1 < k → ∃ b : Nat, runes_Back.l0 k l x = some ((b : Int), 0) ∧ b ≤ x ∧ (b = x ↔ x = 0 ∨ Sp l x) := by
  intro x
  induction x with
  | zero =>
    intro k hx hk
    obtain ⟨k, rfl⟩ : ∃ K, k = K + 1 := ⟨k - 1, by omega⟩
    refine ⟨0, ?_, Nat.le_refl _, ⟨fun _ => .inl rfl, fun _ => rfl⟩⟩
    simp only [runes_Back.l0]
    split
    · rw [if_neg (by decide)]
    · rfl
  | succ x ih =>
    intro k hx hk
    obtain ⟨k, rfl⟩ : ∃ K, k = K + 1 := ⟨k - 1, by omega⟩
    simp only [runes_Back.l0]
    by_cases c : ((x + 1 : Nat) : Int) < (l.length : Int)
    · rw [if_pos c, if_pos (by omega), if_pos (by omega), rd_bt]
      have hb := bt_in hI (i := x + 1) (by omega)
      unfold utf8_RuneStart.f
      rw [if_pos hb, Option.bind_some]
      by_cases d : RS (bt l (x + 1))
      · rw [if_pos (rs_f d)]
        exact ⟨x + 1, rfl, Nat.le_refl _, ⟨fun _ => .inr (.inr d), fun _ => rfl⟩⟩
      · have hf : Lib.runeStart (bt l (x + 1)) = false := by unfold RS at d; unfold Lib.runeStart; simp; omega
        rw [hf, if_neg (by decide), w64 (n := ((x + 1 : Nat) : Int) - 1) (by omega) (by omega), show ((x + 1 : Nat) : Int) - 1 = (x : Int) by omega]
        obtain ⟨b, e1, e2, e3⟩ := ih k (by omega) (by omega)
        refine ⟨b, e1, by omega, ⟨fun h => by omega, fun h => ?_⟩⟩
        rcases h with h | h | h
        · omega
        · omega
        · exact absurd h d
    · rw [if_neg c]
      exact ⟨x + 1, rfl, Nat.le_refl _, ⟨fun _ => .inr (.inl (by omega)), fun _ => rfl⟩⟩
instance (l : List Int) (x : Nat) : Decidable (Sp l x) := by unfold Sp RS; infer_instance
theorem on_val {l : List Int} (hI : Sc.InB l = true) (hl : l.length ≤ 8000) {rs : List (Nat × Nat)} (hr : GR l 0 rs) (a : Int) (k : Nat) (hk : 9000 ≤ k) :
    runes_On.f k l a = some (if 0 ≤ a ∧ a ≤ (l.length : Int) then (decide (Sp l a.toNat), 0) else (false, 7)) := by
  have hg := hr.good hI hl
  have ck : runes_Check.f l = some ((l.length : Int), 0) := Sc.checkL_good hg
  obtain ⟨k, rfl⟩ : ∃ K, k = K + 1 := ⟨k - 1, by omega⟩
  unfold runes_On.f runes_Back.f
  rw [ck, Option.bind_some, if_pos rfl]
  by_cases c : 0 ≤ a ∧ a ≤ (l.length : Int)
  · rw [if_pos c, if_neg (by omega), decide_eq_false (by omega)]
    simp only [runes_Back.j0]
    rw [if_neg (by decide)]
    obtain ⟨x, rfl⟩ : ∃ x : Nat, a = (x : Int) := ⟨a.toNat, by omega⟩
    obtain ⟨b, e1, e2, e3⟩ := back_val hI hl x k (by omega) (by omega)
    rw [e1, Option.bind_some, if_pos rfl]
    congr 2
    have h0 : x = 0 → Sp l x := fun h => by subst h; exact hr.head
    rw [show ((x : Nat) : Int).toNat = x from rfl]
    by_cases d : Sp l x
    · rw [decide_eq_true d, e3.2 (.inr d)]; simp
    · rw [decide_eq_false d]
      have : b ≠ x := fun h => by rcases e3.1 h with h | h; exact d (h0 h); exact d h
      exact beq_eq_false_iff_ne.mpr (by omega)
  · rw [if_neg c]
    by_cases d : a < 0
    · rw [if_pos d]; simp only [runes_Back.j0]; rfl
    · rw [if_neg d, decide_eq_true (by omega)]; simp only [runes_Back.j0]; rfl
theorem rback_l0 (l : List Int) (rs : List (Nat × Nat)) (x : Nat) (hrl : rs.length ≤ 8000) (hS : ∀ m m', m < m' → m' ≤ rs.length → PP l rs m < PP l rs m') : ∀ (d i : Nat) (b : Nat) (k : Nat), i + d = rs.length + 1 → d < k →
    ∃ b' : Nat, mummerref02_Back.l0 k x (SL l rs) b i = some ((b' : Int), 0) ∧ ((b' = b ∧ ∀ m, i ≤ m → m ≤ rs.length → x < PP l rs m) ∨ ∃ m, i ≤ m ∧ m ≤ rs.length ∧ b' = PP l rs m ∧ b' ≤ x ∧ ∀ m', m < m' → m' ≤ rs.length → x < PP l rs m') := by
  intro d
  induction d with
  | zero =>
    intro i b k hi hk
    obtain ⟨k, rfl⟩ : ∃ K, k = K + 1 := ⟨k - 1, by omega⟩
    refine ⟨b, ?_, .inl ⟨rfl, fun m a b => by omega⟩⟩
    simp only [mummerref02_Back.l0]
    rw [if_neg (by rw [SL_len]; omega)]
  | succ d ih =>
    intro i b k hi hk
    obtain ⟨k, rfl⟩ : ∃ K, k = K + 1 := ⟨k - 1, by omega⟩
    simp only [mummerref02_Back.l0]
    rw [if_pos (by rw [SL_len]; omega), if_pos (by omega), SL_rd l rs i (by omega), w64 (n := (i : Int) + 1) (by omega) (by omega)]
    have step := fun b => ih (i + 1) b k (by omega) (by omega)
    rw [show ((i + 1 : Nat) : Int) = (i : Int) + 1 by omega] at step
    by_cases c : ((PP l rs i : Nat) : Int) ≤ (x : Int)
    · rw [if_pos c]
      obtain ⟨b', e, h⟩ := step (PP l rs i)
      refine ⟨b', e, .inr ?_⟩
      rcases h with ⟨rfl, h⟩ | ⟨m, m1, m2, m3, m4, m5⟩
      · exact ⟨i, Nat.le_refl _, by omega, rfl, by omega, fun m' a b => h m' (by omega) b⟩
      · exact ⟨m, by omega, m2, m3, m4, m5⟩
    · rw [if_neg c]
      obtain ⟨b', e, h⟩ := step b
      refine ⟨b', e, ?_⟩
      rcases h with ⟨rfl, h⟩ | ⟨m, m1, m2, m3, m4, m5⟩
      · refine .inl ⟨rfl, fun m a b => ?_⟩
        by_cases q : m = i
        · subst q; omega
        · exact h m (by omega) b
      · exact .inr ⟨m, by omega, m2, m3, m4, m5⟩
theorem ron_val {l : List Int} (hI : Sc.InB l = true) (hl : l.length ≤ 8000) {rs : List (Nat × Nat)} (hr : GR l 0 rs) (a : Int) (k : Nat) (hk : 9010 ≤ k) :
    mummerref02_On.f k l a = some (if 0 ≤ a ∧ a ≤ (l.length : Int) then (decide (Sp l a.toNat), 0) else (false, 7)) := by
  obtain ⟨k, rfl⟩ : ∃ K, k = K + 1 + 1 := ⟨k - 2, by omega⟩
  unfold mummerref02_On.f mummerref02_Back.f
  rw [hr.starts hI hl _ (by omega), Option.bind_some, if_pos rfl]
  dsimp only
  have hrl := hr.len
  by_cases c : 0 ≤ a ∧ a ≤ (l.length : Int)
  · rw [if_pos c, if_neg (by omega), decide_eq_false (by omega)]
    simp only [mummerref02_Back.j0]
    rw [if_neg (by decide)]
    simp only [mummerref02_Back.j1]
    rw [if_pos trivial]
    obtain ⟨x, rfl⟩ : ∃ x : Nat, a = (x : Int) := ⟨a.toNat, by omega⟩
    obtain ⟨b, e1, e2⟩ := rback_l0 l rs x (by omega) hr.asc (rs.length + 1) 0 0 k (by omega) (by omega)
    rw [show ((0 : Nat) : Int) = 0 from rfl] at e1
    rw [e1, Option.bind_some, if_pos rfl]
    congr 2
    rw [show ((x : Nat) : Int).toNat = x from rfl]
    rcases e2 with ⟨rfl, h⟩ | ⟨m, _, m2, m3, m4, m5⟩
    · have := h 0 (Nat.le_refl _) (Nat.zero_le _)
      rw [hr.first] at this
      omega
    · by_cases d : Sp l x
      · obtain ⟨m', n1, n2, _⟩ := hr.at_ x (Nat.zero_le _) (by omega) d
        have : ¬ m < m' := fun h => by have := m5 m' h n1; omega
        have : ¬ m' < m := fun h => by have := hr.asc m' m h m2; omega
        obtain rfl : m = m' := by omega
        rw [decide_eq_true d, m3, n2]; simp
      · rw [decide_eq_false d]
        refine beq_eq_false_iff_ne.mpr (fun h => d ?_)
        have e : b = x := by omega
        rw [← e, m3]; exact hr.sp m m2
  · rw [if_neg c]
    by_cases d : a < 0
    · rw [if_pos d]; simp only [mummerref02_Back.j0, mummerref02_Back.j1]; rfl
    · rw [if_neg d, decide_eq_true (by omega)]; simp only [mummerref02_Back.j0, mummerref02_Back.j1]; rfl
def chkV (n a b : Int) : Int := if a < 0 ∨ a > b then 6 else (if b > n then 7 else 0)
theorem chk_val (n a b : Int) (F : Nat) (hF : 0 < F) : spans_Check.f F n a b = some (chkV n a b) := by
  obtain ⟨F, rfl⟩ : ∃ m, F = m + 1 := ⟨F - 1, by omega⟩
  unfold spans_Check.f chkV
  by_cases c : a < 0
  · rw [if_pos c, if_pos (c := a < 0 ∨ a > b) (.inl c)]; rfl
  · rw [if_neg c]
    simp only [spans_Check.j0]
    by_cases c2 : a > b
    · rw [if_pos (decide_eq_true c2), if_pos (c := a < 0 ∨ a > b) (.inr c2)]
    · rw [if_neg (by simpa using c2), if_neg (c := a < 0 ∨ a > b) (by omega)]
      split <;> rfl
theorem rchk_val (n a b : Int) (hn : 0 ≤ n) (F : Nat) (hF : 0 < F) : mummerref03_Check.f F n a b = some (chkV n a b) := by
  obtain ⟨F, rfl⟩ : ∃ m, F = m + 1 := ⟨F - 1, by omega⟩
  unfold mummerref03_Check.f chkV
  by_cases c : a < 0
  · rw [if_pos c, if_pos (c := a < 0 ∨ a > b) (.inl c)]; rfl
  · rw [if_neg c]
    simp only [mummerref03_Check.j0]
    by_cases c2 : a > b
    · rw [if_pos (decide_eq_true c2), if_pos (c := a < 0 ∨ a > b) (.inr c2)]
    · rw [if_neg (by simpa using c2), if_neg (c := a < 0 ∨ a > b) (by omega), if_neg (by omega)]
      split <;> rfl
theorem cut_both {l : List Int} (hI : Sc.InB l = true) (hl : l.length ≤ 8000) {rs : List (Nat × Nat)} (hr : GR l 0 rs) (a b : Int) (k : Nat) (hk : 9100 ≤ k) :
    ∃ r, spans_Cut.f k l a b = some r ∧ mummerref03_Cut.f k l a b = some r := by
  have hg := hr.good hI hl
  unfold spans_Cut.f mummerref03_Cut.f
  rw [check_ok hg, Option.bind_some, if_pos rfl, chk_val _ _ _ k (by omega), Option.bind_some, hr.check hI hl k (by omega), Option.bind_some, Option.bind_some, if_pos rfl, rchk_val _ _ _ (by omega) k (by omega), Option.bind_some]
  obtain ⟨k, rfl⟩ : ∃ K, k = K + 1 + 1 + 1 := ⟨k - 3, by omega⟩
  by_cases c : chkV l.length a b = 0
  · rw [if_pos c, c]
    have hab : 0 ≤ a ∧ a ≤ b ∧ b ≤ (l.length : Int) := by
      unfold chkV at c
      split at c
      · cases c
      · split at c
        · cases c
        · omega
    have oa := on_val hI hl hr a
    have ob := on_val hI hl hr b
    have ra := ron_val hI hl hr a
    have rb := ron_val hI hl hr b
    rw [if_pos (by omega)] at oa ob ra rb
    have r0 : rd [a, b] 0 = a := rfl
    have r1 : rd [a, b] 1 = b := rfl
    have ln : (([a, b] : List Int).length : Int) = 2 := rfl
    rw [ln]
    simp only [mummerref03_Cut.j0]
    rw [if_pos trivial, ra _ (by omega), Option.bind_some, rb _ (by omega), Option.bind_some]
    dsimp only
    simp only [spans_Cut.l0]
    rw [if_pos (by omega), if_pos (by omega), if_pos (by rw [ln]; omega), r0, oa _ (by omega), Option.bind_some]
    dsimp only
    by_cases d1 : Sp l a.toNat
    · rw [if_pos (decide_eq_true d1), if_pos (decide_eq_true d1), w64 (n := 0 + 1) (by omega) (by omega), show (0 : Int) + 1 = 1 from rfl, if_pos (by omega), if_pos (by omega), if_pos (by rw [ln]; omega), r1, ob _ (by omega), Option.bind_some]
      dsimp only
      by_cases d2 : Sp l b.toNat
      · rw [if_pos (decide_eq_true d2), if_pos (decide_eq_true d2), w64 (n := 1 + 1) (by omega) (by omega), if_neg (by omega), if_pos (by omega), if_pos (by omega), if_pos (by omega)]
        exact ⟨_, rfl, rfl⟩
      · rw [if_neg (by simpa using d2), if_neg (by simpa using d2)]
        exact ⟨_, rfl, rfl⟩
    · rw [if_neg (by simpa using d1), if_neg (by simpa using d1)]
      exact ⟨_, rfl, rfl⟩
  · rw [if_neg c]
    simp only [mummerref03_Cut.j0]
    rw [if_neg c]
    exact ⟨_, rfl, rfl⟩
theorem LnOK.next {l : List Int} : ∀ (r : List S24) (z : Nat), LnOK l z r → ∀ c, c < r.length → ∀ f t : Nat, sp r c = ⟨(f : Int), (t : Int)⟩ → (t = l.length) ∨ (t < l.length ∧ bt l t = 10 ∧ c + 1 < r.length ∧ ∃ t' : Nat, sp r (c + 1) = ⟨((t + 1 : Nat) : Int), (t' : Int)⟩ ∧ t + 1 ≤ t' ∧ t' ≤ l.length)
  | [], z, h, c, hc, f, t, e => by simp at hc
  | s :: r, z, h, c, hc, f, t, e => by
    obtain ⟨t0, rfl, h1, h2, h3⟩ := h
    cases c with
    | zero =>
      have e' : (⟨(z : Int), (t0 : Int)⟩ : S24) = ⟨(f : Int), (t : Int)⟩ := e
      have et : (t0 : Int) = t := congrArg S24.f1 e'
      obtain rfl : t0 = t := by omega
      rcases h3 with ⟨_, h3⟩ | ⟨h3, h4, h5⟩
      · exact .inl h3
      · right
        refine ⟨h3, h4, ?_⟩
        match r, h5 with
        | s' :: r', h5 =>
          obtain ⟨t', rfl, g1, g2, _⟩ := h5
          exact ⟨by simp, t', rfl, g1, g2⟩
    | succ c =>
      rcases h3 with ⟨rfl, _⟩ | ⟨h3, h4, h5⟩
      · simp at hc
      · rcases LnOK.next r (t0 + 1) h5 c (by simpa using hc) f t e with h | ⟨a, b, d, t', g⟩
        · exact .inl h
        · exact .inr ⟨a, b, by simpa using d, t', g⟩
theorem PP_drop (l : List Int) (rs : List (Nat × Nat)) (mf m : Nat) (h : mf ≤ rs.length) : PP l (rs.drop mf) m = PP l rs (mf + m) := by
  unfold PP
  have e : (rs.drop mf).map (fun x => x.1) ++ [l.length] = (rs.map (fun x => x.1) ++ [l.length]).drop mf := by
    rw [List.drop_append_of_le_length (by simpa using h), List.map_drop]
  rw [e, List.getD_eq_getElem?_getD, List.getD_eq_getElem?_getD, List.getElem?_drop]
/-- The i-th start stands in this line and column. -/
def St (l : List Int) (rs : List (Nat × Nat)) (L : List S24) (i : Nat) (ln col : Int) : Prop := ∃ c f t mf m : Nat, c < L.length ∧ sp L c = ⟨(f : Int), (t : Int)⟩ ∧ mf ≤ rs.length ∧ PP l rs mf = f ∧ GR l f (rs.drop mf) ∧ i = mf + m ∧ i ≤ rs.length ∧ PP l rs i ≤ t ∧ t ≤ l.length ∧ ln = (c : Int) + 1 ∧ col = (m : Int) + 1
structure Ctx (l : List Int) (rs : List (Nat × Nat)) (L : List S24) : Prop where
  hI : Sc.InB l = true
  hl : l.length ≤ 8000
  hr : GR l 0 rs
  hL : spans_Lines.f l = some (L, 0)
  hO : LnOK l 0 L
  hLl : L.length ≤ 10000
  h10 : ∀ c, c < L.length → ∀ i : Nat, (sp L c).f0 ≤ i → (i : Int) < (sp L c).f1 → bt l i ≠ 10
theorem St.place {l : List Int} {rs : List (Nat × Nat)} {L : List S24} (X : Ctx l rs L) {i : Nat} {ln col : Int} (h : St l rs L i ln col) (k : Nat) (hk : 20000 < k) : spans_Place.f k l ((PP l rs i : Nat) : Int) = some (ln, col, 0) := by
  obtain ⟨c, f, t, mf, m, h1, h2, h3, h4, h5, rfl, h7, h8, h9, rfl, rfl⟩ := h
  exact place_at X.hI X.hl (X.hr.good X.hI X.hl) X.hr L X.hL X.hO X.hLl c f t _ m _ h1 h2 h5 (by rw [List.length_drop]; omega) (PP_drop l rs mf m h3) h8 h9 k (by have := X.hLl; omega)
theorem St.first {l : List Int} {rs : List (Nat × Nat)} {L : List S24} (X : Ctx l rs L) : St l rs L 0 1 1 := by
  have hO := X.hO
  match L, hO with
  | s :: r, hO =>
    obtain ⟨t, rfl, h1, h2, _⟩ := hO
    exact ⟨0, 0, t, 0, 0, by simp, rfl, Nat.zero_le _, X.hr.first, X.hr, rfl, Nat.zero_le _, by rw [X.hr.first]; exact h1, h2, rfl, rfl⟩
theorem St.next {l : List Int} {rs : List (Nat × Nat)} {L : List S24} (X : Ctx l rs L) {i : Nat} {ln col : Int} (h : St l rs L i ln col) (hi : i < rs.length) :
    (bt l (PP l rs i) = 10 ∧ St l rs L (i + 1) (ln + 1) 1) ∨ (bt l (PP l rs i) ≠ 10 ∧ St l rs L (i + 1) ln (col + 1)) := by
  obtain ⟨c, f, t, mf, m, h1, h2, h3, h4, h5, h6, h7, h8, h9, rfl, rfl⟩ := h
  have hN : PP l rs i < l.length := by
    have a := X.hr.asc i rs.length hi (Nat.le_refl _)
    have b := (X.hr.ge rs.length (Nat.le_refl _)).2
    omega
  have hf : f ≤ PP l rs i := by
    have := (h5.ge m (by rw [List.length_drop]; omega)).1
    rw [PP_drop l rs mf m h3, ← h6] at this
    exact this
  have hst : Sp l t := by
    obtain ⟨f', t', e, _, _, _, g4⟩ := LnOK.ge L 0 X.hO c h1
    rw [h2] at e
    have e1 : (t : Int) = t' := congrArg S24.f1 e
    have := (g4 rs X.hr X.hr.head).2
    rwa [show t = t' by omega]
  by_cases q : PP l rs i = t
  · rcases LnOK.next L 0 X.hO c h1 f t h2 with h | ⟨a, b, d, t', e, g1, g2⟩
    · omega
    · left
      rw [q]
      refine ⟨b, ?_⟩
      have s1 : Sp l (t + 1) := next10 X.hr t a b
      obtain ⟨m', n1, n2, n3⟩ := X.hr.at_ (t + 1) (Nat.zero_le _) a s1
      have l1 : ¬ m' ≤ i := fun h => by
        by_cases z : m' = i
        · rw [z] at n2; omega
        · have := X.hr.asc m' i (by omega) h7; omega
      have l2 : ¬ i + 1 < m' := fun h => by
        have := X.hr.asc (i + 1) m' h n1
        have := X.hr.asc i (i + 1) (by omega) (by omega)
        omega
      obtain rfl : m' = i + 1 := by omega
      exact ⟨c + 1, t + 1, t', i + 1, 0, d, e, n1, n2, n3, rfl, n1, by rw [n2]; exact g1, g2, by omega, rfl⟩
  · right
    have hlt : PP l rs i < t := by omega
    refine ⟨X.h10 c h1 _ (by rw [h2]; dsimp only; omega) (by rw [h2]; dsimp only; omega), ?_⟩
    obtain ⟨mt, n1, n2, n3⟩ := X.hr.at_ t (Nat.zero_le _) h9 hst
    have l1 : i < mt := Nat.lt_of_not_le fun h => by
      by_cases z : mt = i
      · rw [z] at n2; omega
      · have := X.hr.asc mt i (by omega) h7; omega
    have l2 : PP l rs (i + 1) ≤ t := by
      by_cases z : i + 1 = mt
      · rw [z, n2]; exact Nat.le_refl _
      · have := X.hr.asc (i + 1) mt (by omega) n1; omega
    exact ⟨c, f, t, mf, m + 1, h1, h2, h3, h4, h5, by omega, by omega, l2, h9, rfl, by omega⟩
theorem St.bounds {l : List Int} {rs : List (Nat × Nat)} {L : List S24} (X : Ctx l rs L) {i : Nat} {ln col : Int} (h : St l rs L i ln col) : 0 ≤ ln ∧ ln ≤ 10001 ∧ 0 ≤ col ∧ col ≤ 8001 := by
  obtain ⟨c, f, t, mf, m, h1, h2, h3, h4, h5, h6, h7, h8, h9, rfl, rfl⟩ := h
  have := X.hLl
  have := X.hr.len
  have := X.hl
  omega
theorem place_zero {l : List Int} {rs : List (Nat × Nat)} {L : List S24} (X : Ctx l rs L) (a : Int) (ha : 0 ≤ a ∧ a ≤ (l.length : Int)) (hn : ∀ m, m ≤ rs.length → ((PP l rs m : Nat) : Int) ≠ a) (k : Nat) (hk : 20000 < k) : spans_Place.f k l a = some (0, 0, 6) := by
  have ns : ¬ Sp l a.toNat := fun h => by
    obtain ⟨m, m1, m2, _⟩ := X.hr.at_ a.toNat (Nat.zero_le _) (by omega) h
    exact hn m m1 (by omega)
  unfold spans_Place.f
  rw [on_val X.hI X.hl X.hr a k (by omega), if_pos ha, Option.bind_some, if_pos rfl, if_neg (by simpa using ns)]
theorem rplace_l0 {l : List Int} {rs : List (Nat × Nat)} {L : List S24} (X : Ctx l rs L) (a : Int) (ha : 0 ≤ a ∧ a ≤ (l.length : Int)) (K : Nat) (hK : 20000 < K) : ∀ (d i : Nat) (ln col : Int) (k : Nat), i + d = rs.length + 1 → (i ≤ rs.length → St l rs L i ln col) → (∀ m, m < i → ((PP l rs m : Nat) : Int) ≠ a) → d < k →
    mummerref03_Place.l0 k l a (SL l rs) ln col i = spans_Place.f K l a := by
  intro d
  induction d with
  | zero =>
    intro i ln col k hi hs hn hk
    obtain ⟨k, rfl⟩ : ∃ m, k = m + 1 := ⟨k - 1, by omega⟩
    rw [place_zero X a ha (fun m hm => hn m (by omega)) K hK]
    simp only [mummerref03_Place.l0]
    rw [if_neg (by rw [SL_len]; omega)]
  | succ d ih =>
    intro i ln col k hi hs hn hk
    obtain ⟨k, rfl⟩ : ∃ m, k = m + 1 := ⟨k - 1, by omega⟩
    have hil : i ≤ rs.length := by omega
    have hst := hs hil
    have hrl := X.hr.len
    have hll := X.hl
    simp only [mummerref03_Place.l0]
    rw [if_pos (by rw [SL_len]; omega), if_pos (by omega), SL_rd l rs i hil, w64 (n := (i : Int) + 1) (by omega) (by omega)]
    by_cases c : ((PP l rs i : Nat) : Int) = a
    · rw [if_pos c, ← c, hst.place X K hK]
    · rw [if_neg c]
      have hn' : ∀ m, m < i + 1 → ((PP l rs m : Nat) : Int) ≠ a := fun m hm => by
        by_cases z : m = i
        · rw [z]; exact c
        · exact hn m (by omega)
      have go := fun ln col h => ih (i + 1) ln col k (by omega) h hn' (by omega)
      rw [show ((i + 1 : Nat) : Int) = (i : Int) + 1 by omega] at go
      by_cases c2 : i < rs.length
      · have hN : PP l rs i < l.length := by
          have a := X.hr.asc i rs.length c2 (Nat.le_refl _)
          have b := (X.hr.ge rs.length (Nat.le_refl _)).2
          omega
        have hb := hst.bounds X
        rw [if_pos (by omega), if_pos (by omega), rd_bt, w64 (n := ln + 1) (by omega) (by omega), w64 (n := col + 1) (by omega) (by omega)]
        rcases hst.next X c2 with ⟨e, h⟩ | ⟨e, h⟩
        · rw [if_pos e]; exact go _ _ (fun _ => h)
        · rw [if_neg e]; exact go _ _ (fun _ => h)
      · have hN : PP l rs i = l.length := by
          obtain ⟨m, m1, m2, _⟩ := X.hr.at_ l.length (Nat.zero_le _) (Nat.le_refl _) (.inl rfl)
          by_cases z : m = i
          · rw [← z]; exact m2
          · have := X.hr.asc m i (by omega) hil
            have := (X.hr.ge i hil).2
            omega
        rw [if_neg (by omega)]
        exact go _ _ (fun h => by omega)
theorem place_both {l : List Int} {rs : List (Nat × Nat)} {L : List S24} (X : Ctx l rs L) (a : Int) (k : Nat) (hk : 30000 < k) : ∃ r, spans_Place.f k l a = some r ∧ mummerref03_Place.f k l a = some r := by
  obtain ⟨k, rfl⟩ : ∃ K, k = K + 1 + 1 := ⟨k - 2, by omega⟩
  have hrl := X.hr.len
  have hll := X.hl
  have rf : mummerref03_Place.f (k + 1 + 1) l a = (if 0 ≤ a ∧ a ≤ (l.length : Int) then mummerref03_Place.l0 k l a (SL l rs) 1 1 0 else some (0, 0, 7)) := by
    unfold mummerref03_Place.f
    rw [X.hr.starts X.hI X.hl _ (by omega), Option.bind_some, if_pos rfl]
    dsimp only
    by_cases c : 0 ≤ a ∧ a ≤ (l.length : Int)
    · rw [if_pos c, if_neg (by omega), decide_eq_false (by omega)]
      simp only [mummerref03_Place.j0, mummerref03_Place.j1]
      rw [if_neg (by decide), if_pos trivial]
    · rw [if_neg c]
      by_cases d : a < 0
      · rw [if_pos d]; simp only [mummerref03_Place.j0, mummerref03_Place.j1]; rfl
      · rw [if_neg d, decide_eq_true (by omega)]; simp only [mummerref03_Place.j0, mummerref03_Place.j1]; rfl
  rw [rf]
  by_cases c : 0 ≤ a ∧ a ≤ (l.length : Int)
  · rw [if_pos c]
    have := rplace_l0 X a c (k + 1 + 1) (by omega) (rs.length + 1) 0 1 1 k (by omega) (fun _ => St.first X) (fun m hm => by omega) (by omega)
    rw [show ((0 : Nat) : Int) = 0 from rfl] at this
    rw [this]
    by_cases h : ∃ m, m ≤ rs.length ∧ ((PP l rs m : Nat) : Int) = a
    · obtain ⟨m, m1, m2⟩ := h
      have all : ∀ m, m ≤ rs.length → ∃ ln col, St l rs L m ln col := by
        intro m
        induction m with
        | zero => intro _; exact ⟨1, 1, St.first X⟩
        | succ m ih =>
          intro hm
          obtain ⟨ln, col, h⟩ := ih (by omega)
          rcases h.next X (by omega) with ⟨_, h⟩ | ⟨_, h⟩
          · exact ⟨_, _, h⟩
          · exact ⟨_, _, h⟩
      obtain ⟨ln, col, hs⟩ := all m m1
      rw [← m2, hs.place X _ (by omega)]
      exact ⟨_, rfl, rfl⟩
    · rw [place_zero X a c (fun m hm e => h ⟨m, hm, e⟩) _ (by omega)]
      exact ⟨_, rfl, rfl⟩
  · rw [if_neg c]
    refine ⟨(0, 0, 7), ?_, rfl⟩
    unfold spans_Place.f
    rw [on_val X.hI X.hl X.hr a _ (by omega), if_neg c, Option.bind_some, if_neg (by decide)]
theorem at_bad {l : List Int} {rs : List (Nat × Nat)} {L : List S24} (X : Ctx l rs L) (a1 a2 : Int) (c : ¬ (1 ≤ a1 ∧ a1 ≤ (L.length : Int))) (k : Nat) (hk : 1 < k) : spans_At.f k l a1 a2 = some (0, 4) := by
  obtain ⟨k, rfl⟩ : ∃ K, k = K + 1 := ⟨k - 1, by omega⟩
  unfold spans_At.f
  rw [X.hL, Option.bind_some, if_pos rfl]
  dsimp only
  by_cases c2 : a1 < 1
  · rw [if_pos c2]
    simp only [spans_At.j0]
    rfl
  · rw [if_neg c2, decide_eq_true (by omega)]
    simp only [spans_At.j0]
    rfl
theorem St.all {l : List Int} {rs : List (Nat × Nat)} {L : List S24} (X : Ctx l rs L) : ∀ m, m ≤ rs.length → ∃ ln col, St l rs L m ln col := by
  intro m
  induction m with
  | zero => intro _; exact ⟨1, 1, St.first X⟩
  | succ m ih =>
    intro hm
    obtain ⟨ln, col, h⟩ := ih (by omega)
    rcases h.next X (by omega) with ⟨_, h⟩ | ⟨_, h⟩
    · exact ⟨_, _, h⟩
    · exact ⟨_, _, h⟩
/-- At: the start with this line and column, or none has them. -/
theorem at_spec {l : List Int} {rs : List (Nat × Nat)} {L : List S24} (X : Ctx l rs L) (a1 a2 : Int) (k : Nat) (hk : 20 < k) :
    (∃ i, i ≤ rs.length ∧ St l rs L i a1 a2 ∧ spans_At.f k l a1 a2 = some (((PP l rs i : Nat) : Int), 0)) ∨ ((∀ i, i ≤ rs.length → ¬ St l rs L i a1 a2) ∧ spans_At.f k l a1 a2 = some (0, 4)) := by
  by_cases c : 1 ≤ a1 ∧ a1 ≤ (L.length : Int)
  · obtain ⟨i, hi⟩ : ∃ i : Nat, a1 = (i : Int) + 1 := ⟨(a1 - 1).toNat, by omega⟩
    subst hi
    have hiL : i < L.length := by omega
    obtain ⟨f, t, e, g1, g2, g3, g4⟩ := LnOK.ge L 0 X.hO i hiL
    obtain ⟨sf, stt⟩ := g4 rs X.hr X.hr.head
    obtain ⟨mf, m1, m2, m3⟩ := X.hr.at_ f (Nat.zero_le _) (by omega) sf
    obtain ⟨mt, n1, n2, n3⟩ := m3.at_ t g2 g3 stt
    have hat := at_at X.hI X.hl L X.hL X.hLl i f t mt _ hiL e m3 n1 n2 a2 k (by omega)
    have n1' := n1
    rw [List.length_drop] at n1'
    by_cases c2 : 1 ≤ a2 ∧ a2 ≤ (mt : Int) + 1
    · rw [if_pos c2] at hat
      obtain ⟨m, hm⟩ : ∃ m : Nat, a2 = (m : Int) + 1 := ⟨(a2 - 1).toNat, by omega⟩
      have hmm : m ≤ mt := by omega
      have e2 : (a2 - 1).toNat = m := by omega
      rw [e2, PP_drop l rs mf m m1] at hat
      left
      refine ⟨mf + m, by omega, ⟨i, f, t, mf, m, hiL, e, m1, m2, m3, rfl, by omega, ?_, g3, rfl, hm⟩, hat⟩
      rw [← PP_drop l rs mf m m1, ← n2]
      by_cases q : m = mt
      · rw [q]; exact Nat.le_refl _
      · exact Nat.le_of_lt (m3.asc m mt (by omega) n1)
    · rw [if_neg c2] at hat
      right
      refine ⟨fun j hj hs => ?_, hat⟩
      obtain ⟨c', f', t', mf', m', h1, h2, h3, h4, h5, h6, h7, h8, h9, h10, h11⟩ := hs
      obtain rfl : c' = i := by omega
      rw [e] at h2
      have z1 : (f : Int) = f' := congrArg S24.f0 h2
      have z2 : (t : Int) = t' := congrArg S24.f1 h2
      have u1 : mf' = mf := by
        have a1 : ¬ mf' < mf := fun h => by have := X.hr.asc mf' mf h m1; omega
        have a2 : ¬ mf < mf' := fun h => by have := X.hr.asc mf mf' h h3; omega
        omega
      subst u1
      have u2 : ¬ mt < m' := fun h => by
        have := m3.asc mt m' h (by rw [List.length_drop]; omega)
        rw [n2, PP_drop l rs mf' m' m1, ← h6] at this
        omega
      omega
  · right
    refine ⟨fun j hj hs => ?_, at_bad X a1 a2 c k (by omega)⟩
    obtain ⟨c', f', t', mf', m', h1, h2, h3, h4, h5, h6, h7, h8, h9, h10, h11⟩ := hs
    omega
theorem St.uniq {l : List Int} {rs : List (Nat × Nat)} {L : List S24} (X : Ctx l rs L) {i : Nat} {ln col ln' col' : Int} (h : St l rs L i ln col) (h' : St l rs L i ln' col') : ln = ln' ∧ col = col' := by
  have e := (h.place X 30000 (by omega)).symm.trans (h'.place X 30000 (by omega))
  simp only [Option.some.injEq, Prod.mk.injEq] at e
  exact ⟨e.1, e.2.1⟩
theorem St.inj {l : List Int} {rs : List (Nat × Nat)} {L : List S24} (X : Ctx l rs L) {i j : Nat} {ln col : Int} (h : St l rs L i ln col) (h' : St l rs L j ln col) : i = j := by
  obtain ⟨c, f, t, mf, m, h1, h2, h3, h4, h5, h6, h7, h8, h9, e1, e2⟩ := h
  obtain ⟨c', f', t', mf', m', h1', h2', h3', h4', h5', h6', h7', h8', h9', e1', e2'⟩ := h'
  obtain rfl : c = c' := by omega
  obtain rfl : m = m' := by omega
  rw [h2] at h2'
  have z1 : (f : Int) = f' := congrArg S24.f0 h2'
  have a1 : ¬ mf < mf' := fun h => by have := X.hr.asc mf mf' h h3'; omega
  have a2 : ¬ mf' < mf := fun h => by have := X.hr.asc mf' mf h h3; omega
  omega
theorem rat_l0 {l : List Int} {rs : List (Nat × Nat)} {L : List S24} (X : Ctx l rs L) (a1 a2 : Int) (K : Nat) (hK : 20 < K) : ∀ (d i k : Nat), i + d = rs.length + 1 → (∀ m, m < i → ¬ St l rs L m a1 a2) → 30001 + d < k →
    mummerref03_At.l0 k l a1 a2 (SL l rs) i = spans_At.f K l a1 a2 := by
  intro d
  induction d with
  | zero =>
    intro i k hi hn hk
    obtain ⟨k, rfl⟩ : ∃ m, k = m + 1 := ⟨k - 1, by omega⟩
    simp only [mummerref03_At.l0]
    rw [if_neg (by rw [SL_len]; omega)]
    rcases at_spec X a1 a2 K hK with ⟨j, j1, j2, _⟩ | ⟨_, e⟩
    · exact absurd j2 (hn j (by omega))
    · rw [e]
  | succ d ih =>
    intro i k hi hn hk
    obtain ⟨k, rfl⟩ : ∃ m, k = m + 1 := ⟨k - 1, by omega⟩
    have hil : i ≤ rs.length := by omega
    have hrl := X.hr.len
    have hll := X.hl
    obtain ⟨ln, col, hs⟩ := St.all X i hil
    obtain ⟨r, p1, p2⟩ := place_both X ((PP l rs i : Nat) : Int) k (by omega)
    rw [hs.place X k (by omega)] at p1
    obtain rfl := Option.some.inj p1
    simp only [mummerref03_At.l0]
    rw [if_pos (by rw [SL_len]; omega), if_pos (by omega), SL_rd l rs i hil, p2, Option.bind_some, w64 (n := (i : Int) + 1) (by omega) (by omega)]
    dsimp only
    have go : ¬ (ln = a1 ∧ col = a2) → mummerref03_At.l0 k l a1 a2 (SL l rs) ((i : Int) + 1) = spans_At.f K l a1 a2 := fun h => by
      have := ih (i + 1) k (by omega) (fun m hm hs' => by
        by_cases z : m = i
        · subst z; exact h (hs.uniq X hs')
        · exact hn m (by omega) hs') (by omega)
      rwa [show ((i + 1 : Nat) : Int) = (i : Int) + 1 by omega] at this
    by_cases c1 : ln = a1
    · rw [if_pos c1]
      by_cases c2 : col = a2
      · rw [if_pos c2]
        subst c1 c2
        rcases at_spec X ln col K hK with ⟨j, j1, j2, e⟩ | ⟨hno, _⟩
        · rw [e, hs.inj X j2]
        · exact absurd hs (hno i hil)
      · rw [if_neg c2]; exact go (fun h => c2 h.2)
    · rw [if_neg c1]; exact go (fun h => c1 h.1)
theorem at_both {l : List Int} {rs : List (Nat × Nat)} {L : List S24} (X : Ctx l rs L) (a1 a2 : Int) (k : Nat) (hk : 40000 < k) : ∃ r, spans_At.f k l a1 a2 = some r ∧ mummerref03_At.f k l a1 a2 = some r := by
  have hrl := X.hr.len
  have hll := X.hl
  have e : mummerref03_At.f k l a1 a2 = spans_At.f k l a1 a2 := by
    unfold mummerref03_At.f
    rw [X.hr.starts X.hI X.hl _ (by omega), Option.bind_some, if_pos rfl]
    have := rat_l0 X a1 a2 k (by omega) (rs.length + 1) 0 k (by omega) (fun m hm => by omega) (by omega)
    exact this
  rw [e]
  rcases at_spec X a1 a2 k (by omega) with ⟨j, _, _, e⟩ | ⟨_, e⟩
  · exact ⟨_, e, e⟩
  · exact ⟨_, e, e⟩
theorem same_refl (L : List S24) (hL : L.length ≤ 10001) : ∀ (d i k : Nat), i + d = L.length → d < k → mummerref03_Same.l0 k L L i = some true := by
  intro d
  induction d with
  | zero =>
    intro i k hi hk
    obtain ⟨k, rfl⟩ : ∃ m, k = m + 1 := ⟨k - 1, by omega⟩
    simp only [mummerref03_Same.l0]
    rw [if_neg (by omega)]
  | succ d ih =>
    intro i k hi hk
    obtain ⟨k, rfl⟩ : ∃ m, k = m + 1 := ⟨k - 1, by omega⟩
    simp only [mummerref03_Same.l0]
    rw [if_pos (by omega), if_pos (by omega), if_pos (by omega), if_neg (by simp), w64 (n := (i : Int) + 1) (by omega) (by omega)]
    have := ih (i + 1) k (by omega) (by omega)
    rwa [show ((i + 1 : Nat) : Int) = (i : Int) + 1 by omega] at this
theorem same_ref (L : List S24) (hL : L.length ≤ 10001) (k : Nat) (hk : 20000 < k) : mummerref03_Same.f k L L = some true := by
  unfold mummerref03_Same.f
  rw [if_pos rfl]
  exact same_refl L hL L.length 0 k (by omega) (by omega)
theorem places_run (l : List Int) (hI : Sc.InB l = true) (a b col : Int) (k : Nat) (hk : 50000 < k) : mummerlaw03_SpansPlaces.j0 k l col false a b = some true := by
  obtain ⟨k, rfl⟩ : ∃ K, k = K + 1 := ⟨k - 1, by omega⟩
  simp only [mummerlaw03_SpansPlaces.j0]
  rw [if_neg (by decide)]
  rcases check_both l hI with ⟨rs, hl, hr⟩ | ⟨q, e, he, hc, hrc⟩
  · have hg := hr.good hI hl
    obtain ⟨L, hLd⟩ : ∃ L, L = linesOf (Sc.lens l 0) 0 := ⟨_, rfl⟩
    have hLi : spans_Lines.f l = some (L, 0) := by unfold spans_Lines.f; rw [Sc.checkL_good hg, Option.bind_some, if_pos rfl, hg, hLd]; rfl
    have hO : LnOK l 0 L := by
      have := lines_ok l (by omega) l 0 0 rfl (Nat.le_refl _) (Nat.zero_le _)
      rw [hLd]; exact this
    have hlen : ∀ (ns : List Nat) (z : Int), (linesOf ns z).length = ns.length := by
      intro ns
      induction ns with
      | nil => intro z; rfl
      | cons n r ih => intro z; simp only [linesOf, List.length_cons, ih]
    have hLl : L.length ≤ 8001 := by
      rw [hLd, hlen]
      have := Sc.lens_le l 0
      omega
    have h10 : ∀ c, c < L.length → ∀ i : Nat, (sp L c).f0 ≤ i → (i : Int) < (sp L c).f1 → bt l i ≠ 10 := by
      have := no10 l hl l 0 0 rfl (Nat.le_refl _) (Nat.zero_le _) (fun i a b => by omega)
      rw [hLd]; exact this
    have X : Ctx l rs L := ⟨hI, hl, hr, hLi, hO, by omega, h10⟩
    have rl : mummerref03_Lines.f k l = some (L, 0) := by
      unfold mummerref03_Lines.f
      rw [hr.check hI hl k (by omega), Option.bind_some, if_pos rfl]
      have := ref_lines_l0 l hl l 0 0 [] k rfl (Nat.le_refl _) (Nat.zero_le _) (by simp; omega) (by omega)
      rw [List.nil_append] at this
      rw [hLd]; exact this
    obtain ⟨c1, d1, d2⟩ := cut_both hI hl hr a b k (by omega)
    obtain ⟨c2, d3, d4⟩ := place_both X a k (by omega)
    obtain ⟨c3, d5, d6⟩ := at_both X b col k (by omega)
    rw [hLi, Option.bind_some, rl, Option.bind_some, d1, Option.bind_some, d2, Option.bind_some, same_ref L (by omega) k (by omega), Option.bind_some, if_pos rfl, if_pos rfl, if_pos rfl, if_pos rfl, d3, Option.bind_some, d4, Option.bind_some, d5, Option.bind_some, d6, Option.bind_some, if_pos rfl, if_pos rfl, if_pos rfl, if_pos rfl, if_pos rfl, awake_f k (by omega)]
    rfl
  · obtain ⟨k, rfl⟩ : ∃ K, k = K + 1 + 1 := ⟨k - 2, by omega⟩
    have ck : runes_Check.f l = some (q, e) := hc
    have rc := hrc (k + 1 + 1) (by omega)
    have rs' : mummerref02_Starts.f (k + 1 + 1) l = some ([], e) := by unfold mummerref02_Starts.f; rw [rc, Option.bind_some, if_neg he]
    have c1 : spans_Lines.f l = some ([], e) := by unfold spans_Lines.f; rw [hc, Option.bind_some, if_neg he]
    have r1 : mummerref03_Lines.f (k + 1 + 1) l = some ([], e) := by unfold mummerref03_Lines.f; rw [rc, Option.bind_some, if_neg he]
    have c2 : spans_Cut.f (k + 1 + 1) l a b = some (⟨#[]⟩, e) := by unfold spans_Cut.f; rw [ck, Option.bind_some, if_neg he]
    have r2 : mummerref03_Cut.f (k + 1 + 1) l a b = some (⟨#[]⟩, e) := by
      unfold mummerref03_Cut.f
      rw [rc, Option.bind_some, if_neg he]
      simp only [mummerref03_Cut.j0]
      rw [if_neg he]
    have c3 : spans_Place.f (k + 1 + 1) l a = some (0, 0, e) := by
      unfold spans_Place.f runes_On.f runes_Back.f
      rw [ck, Option.bind_some, if_neg he, Option.bind_some, if_neg he, Option.bind_some, if_neg he]
    have r3 : mummerref03_Place.f (k + 1 + 1) l a = some (0, 0, e) := by
      unfold mummerref03_Place.f
      rw [rs', Option.bind_some, if_neg he]
      simp only [mummerref03_Place.j0, mummerref03_Place.j1]
      rw [if_neg (by decide), if_neg he]
    have c4 : spans_At.f (k + 1 + 1) l b col = some (0, e) := by unfold spans_At.f; rw [c1, Option.bind_some, if_neg he]
    have r4 : mummerref03_At.f (k + 1 + 1) l b col = some (0, e) := by unfold mummerref03_At.f; rw [rs', Option.bind_some, if_neg he]
    rw [c1, Option.bind_some, r1, Option.bind_some, c2, Option.bind_some, r2, Option.bind_some, same_ref [] (by simp) _ (by omega), Option.bind_some, if_pos rfl, if_pos rfl, if_pos rfl, if_pos rfl, c3, Option.bind_some, r3, Option.bind_some, c4, Option.bind_some, r4, Option.bind_some, if_pos rfl, if_pos rfl, if_pos rfl, if_pos rfl, if_pos rfl, awake_f _ (by omega)]
    rfl
theorem places_j0 (l : List Int) (hI : Sc.InB l = true) (a b col : Int) (x : Bool) (k : Nat) (hk : 50000 < k) : mummerlaw03_SpansPlaces.j0 k l col x a b = some true := by
  cases x with
  | false => exact places_run l hI a b col k hk
  | true =>
    obtain ⟨k, rfl⟩ : ∃ K, k = K + 1 := ⟨k - 1, by omega⟩
    simp only [mummerlaw03_SpansPlaces.j0]
    rw [if_pos trivial, awake_f k (by omega)]
    rfl
theorem law_places (l : List Int) (a b col : Int) (hl : ∀ z ∈ l, 0 ≤ z ∧ z ≤ 255) : ∃ k, mummerlaw03_SpansPlaces.f k l a b col = some true := by
  have hI : Sc.InB l = true := InB_of fun x hx => by have := hl x hx; omega
  refine ⟨60000, ?_⟩
  unfold mummerlaw03_SpansPlaces.f
  split
  · split
    · exact places_j0 l hI a b col _ _ (by omega)
    · exact places_j0 l hI a b col _ _ (by omega)
  · exact places_j0 l hI a b col _ _ (by omega)
end Go.Proofs.YtnkfdobcmfdhfaaDoor.P
