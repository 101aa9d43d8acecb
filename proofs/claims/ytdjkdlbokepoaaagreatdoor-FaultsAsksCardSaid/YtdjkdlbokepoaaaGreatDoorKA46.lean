import Derived.Test.YtdjkdlbokepoaaaGreatDoorKA43
import Derived.Test.YtdjkdlbokepoaaaGreatDoorKA36
import Derived.Test.YtdjkdlbokepoaaaGreatDoorKA37
import Derived.Test.YtdjkdlbokepoaaaGreatDoorKA41
import Derived.Test.YtdjkdlbokepoaaaGreatDoorKA44
import Derived.Test.YtdjkdlbokepoaaaGreatDoorKA21
namespace Go.Proofs.YtdjkdlbokepoaaaGreatDoor.P
open Go.RowKit YtdjkdlbokepoaaaGreatDoorW.PrintWords YtdjkdlbokepoaaaGreatDoorW.PrintLast YtdjkdlbokepoaaaGreatDoorW.PrintMore Sc
set_option linter.unusedVariables false
set_option linter.unusedSimpArgs false
set_option maxRecDepth 20000
theorem short_cases (a b c n : Nat) (hn : 1 ≤ n) : Sc.Short a b c n ↔ (194 ≤ a ∧ a < 224 ∧ n < 2) ∨ (224 ≤ a ∧ a < 240 ∧ n < 3 ∧ (1 < n → (if a = 224 then 160 else 128) ≤ b ∧ b ≤ (if a = 237 then 159 else 191)) ) ∨ (240 ≤ a ∧ a < 245 ∧ n < 4 ∧ (1 < n → (if a = 240 then 144 else 128) ≤ b ∧ b ≤ (if a = 244 then 143 else 191)) ∧ (2 < n → 128 ≤ c ∧ c ≤ 191)) := by
 unfold Sc.Short Lib.firstT
 repeat' split
 all_goals simp only [show (240 : Nat) % 8 = 0 from rfl, show (241 : Nat) % 8 = 1 from rfl, show (2 : Nat) % 8 = 2 from rfl, show (19 : Nat) % 8 = 3 from rfl, show (3 : Nat) % 8 = 3 from rfl, show (35 : Nat) % 8 = 3 from rfl, show (52 : Nat) % 8 = 4 from rfl, show (4 : Nat) % 8 = 4 from rfl, show (68 : Nat) % 8 = 4 from rfl, show Lib.accLo (2 / 16) = 128 from rfl, show Lib.accHi (2 / 16) = 191 from rfl, show Lib.accLo (19 / 16) = 160 from rfl, show Lib.accHi (19 / 16) = 191 from rfl, show Lib.accLo (3 / 16) = 128 from rfl, show Lib.accHi (3 / 16) = 191 from rfl, show Lib.accLo (35 / 16) = 128 from rfl, show Lib.accHi (35 / 16) = 159 from rfl, show Lib.accLo (52 / 16) = 144 from rfl, show Lib.accHi (52 / 16) = 191 from rfl, show Lib.accLo (4 / 16) = 128 from rfl, show Lib.accHi (4 / 16) = 191 from rfl, show Lib.accLo (68 / 16) = 128 from rfl, show Lib.accHi (68 / 16) = 143 from rfl]
 all_goals omega
def GL (ys : List Int) : Prop := Gd ys 0 ys.length
theorem stands_gl (ys : List Int) (hI : Sc.InB ys = true) (h1 : 1 ≤ ys.length) (h4 : ys.length ≤ 4) : ∃ v b, mummerref02_stands.f ys = some (v, b) ∧ (b = true ↔ GL ys) := by
 obtain ⟨v, b, h, h2, h3⟩ := stands_win ys hI 0 ys.length h1 h4 (by omega)
 rw [Nat.zero_add, List.take_length, List.drop_zero] at h
 exact ⟨v, b, h, fun hb => (h2 hb).1, h3⟩
theorem begins_l1v (xs : List Int) (m : Nat) (z : Int) (hm : m ≤ 4) : ∀ (d : Nat) (ys : List Int) (K : Nat), ys.length + d = m → 1 ≤ ys.length → Sc.InB ys = true →
  (∃ b, mummerref02_begins.l1 (K + d + 1) xs m z ys = (if b = true then some true else mummerref02_begins.l0 K xs m (wrap64 (z + 63))) ∧ (b = true ↔ GL (ys ++ List.replicate d (z % 256)))) := by
 intro d
 induction d with
 | zero =>
  intro ys K hy h1 hI
  obtain ⟨v, b, e, e2⟩ := stands_gl ys hI h1 (by omega)
  refine ⟨b, ?_, by simpa using e2⟩
  simp only [mummerref02_begins.l1]
  rw [if_neg (by omega), e, Option.bind_some]
 | succ d ih =>
  intro ys K hy h1 hI
  obtain ⟨b, e, e2⟩ := ih (ys ++ [z % 256]) K (by simp; omega) (by simp) (InB_app hI (InB1 (by omega)))
  refine ⟨b, ?_, by rw [e2, List.append_assoc, List.replicate_succ]; rfl⟩
  have e1 : K + (d + 1) + 1 = (K + d + 1) + 1 := by omega
  rw [e1]
  generalize K + d + 1 = F at e ⊢
  simp only [mummerref02_begins.l1]
  rw [if_pos (by omega), if_pos (by omega), e]
theorem begins_l0v (xs : List Int) (m : Nat) (hm : m ≤ 4) (h1 : 1 ≤ xs.length) (hlt : xs.length < m) (hI : Sc.InB xs = true) (z : Int) (K : Nat) (hz : z ≤ 191) :
  (∃ b, mummerref02_begins.l0 (K + 6) xs m z = (if b = true then some true else mummerref02_begins.l0 (K + 5 - (m - xs.length) - 1) xs m (wrap64 (z + 63))) ∧ (b = true ↔ GL (xs ++ List.replicate (m - xs.length) (z % 256)))) := by
 obtain ⟨b, e, e2⟩ := begins_l1v xs m z hm (m - xs.length) ([] ++ xs) (K + 5 - (m - xs.length) - 1) (by simp; omega) (by simpa using h1) (by simpa using hI)
 refine ⟨b, ?_, by simpa using e2⟩
 rw [← e, show K + 5 - (m - xs.length) - 1 + (m - xs.length) + 1 = K + 5 by omega]
 simp only [mummerref02_begins.l0]
 rw [if_pos hz, Option.bind_some, if_pos (by simp; omega)]
theorem begins_j2v (xs : List Int) (m : Nat) (hm : m ≤ 4) (h1 : 1 ≤ xs.length) (hI : Sc.InB xs = true) (k : Nat) (hk : 40 ≤ k) : ∃ b, mummerref02_begins.j2 k xs m = some b ∧ (b = true ↔ xs.length < m ∧ (GL (xs ++ List.replicate (m - xs.length) 128) ∨ GL (xs ++ List.replicate (m - xs.length) 191))) := by
 obtain ⟨k, rfl⟩ : ∃ K, k = (K + 6) + 1 := ⟨k - 7, by omega⟩
 simp only [mummerref02_begins.j2]
 by_cases c : (xs.length : Int) ≥ (m : Int)
 ·rw [if_pos c]; exact ⟨false, rfl, ⟨(fun h => by cases h), (fun h => by omega)⟩⟩
 ·rw [if_neg c]
  have hlt : xs.length < m := by omega
  obtain ⟨b, e, e2⟩ := begins_l0v xs m hm h1 hlt hI 128 k (by omega)
  rw [e]
  have e2' : b = true ↔ GL (xs ++ List.replicate (m - xs.length) 128) := e2
  cases b with
  | true => exact ⟨true, rfl, ⟨fun _ => ⟨hlt, .inl (e2'.1 rfl)⟩, fun _ => rfl⟩⟩
  | false =>
   rw [if_neg (by decide), w64 (n := 128 + 63) (by omega) (by omega)]
   generalize hK : k + 5 - (m - xs.length) - 1 = K
   obtain ⟨K, rfl⟩ : ∃ q, K = q + 6 := ⟨K - 6, by omega⟩
   obtain ⟨b, e, e3⟩ := begins_l0v xs m hm h1 hlt hI (128 + 63) K (by omega)
   rw [e]
   have e3' : b = true ↔ GL (xs ++ List.replicate (m - xs.length) 191) := e3
   have n1 : ¬ GL (xs ++ List.replicate (m - xs.length) 128) := fun h => by have := e2'.2 h; cases this
   cases b with
   | true => exact ⟨true, rfl, ⟨fun _ => ⟨hlt, .inr (e3'.1 rfl)⟩, fun _ => rfl⟩⟩
   | false =>
    have n2 : ¬ GL (xs ++ List.replicate (m - xs.length) 191) := fun h => by have := e3'.2 h; cases this
    rw [if_neg (by decide), w64 (n := 128 + 63 + 63) (by omega) (by omega)]
    generalize hK2 : K + 5 - (m - xs.length) - 1 = K2
    obtain ⟨K2, rfl⟩ : ∃ q, K2 = q + 1 := ⟨K2 - 1, by omega⟩
    simp only [mummerref02_begins.l0]
    rw [if_neg (by omega)]
    exact ⟨false, rfl, ⟨(fun h => by cases h), (fun h => (h.2.elim n1 n2).elim)⟩⟩
def manyI (a : Int) : Nat := if 192 ≤ a ∧ a < 224 then 2 else (if 224 ≤ a ∧ a < 240 then 3 else (if 240 ≤ a ∧ a < 248 then 4 else 0))
theorem begins_j (xs : List Int) (h1 : 1 ≤ xs.length) (hI : Sc.InB xs = true) (k : Nat) (hk : 50 ≤ k) : mummerref02_begins.f k xs = mummerref02_begins.j2 (k - 1) xs (manyI (lb xs 0)) ∨ mummerref02_begins.f k xs = mummerref02_begins.j2 (k - 2) xs (manyI (lb xs 0)) := by
 unfold mummerref02_begins.f
 rw [if_pos (by omega)]
 have hb := lb_in hI (i := 0) (by omega)
 have e : rd xs 0 = lb xs 0 := rfl
 rw [e, wr32 (n := lb xs 0) (by omega) (by omega)]
 obtain ⟨k, rfl⟩ : ∃ K, k = K + 1 + 1 := ⟨k - 2, by omega⟩
 rw [show k + 1 + 1 - 1 = k + 1 from rfl, show k + 1 + 1 - 2 = k from rfl]
 unfold manyI
 simp only [mummerref02_begins.j0]
 by_cases c : lb xs 0 ≥ 192
 ·rw [if_pos c]
  by_cases d : lb xs 0 < 224
  ·rw [if_pos (decide_eq_true d), if_pos (c := 192 ≤ lb xs 0 ∧ lb xs 0 < 224) ⟨c, d⟩]; exact .inl rfl
  ·rw [if_neg (by simpa using d), if_neg (c := 192 ≤ lb xs 0 ∧ lb xs 0 < 224) (by omega), if_pos (by omega)]
   simp only [mummerref02_begins.j1]
   by_cases f : lb xs 0 < 240
   ·rw [if_pos (decide_eq_true f), if_pos (c := 224 ≤ lb xs 0 ∧ lb xs 0 < 240) (by omega)]; exact .inr rfl
   ·rw [if_neg (by simpa using f), if_pos (by omega), if_neg (c := 224 ≤ lb xs 0 ∧ lb xs 0 < 240) (by omega)]
    by_cases g : lb xs 0 < 248
    ·rw [if_pos g, if_pos (c := 240 ≤ lb xs 0 ∧ lb xs 0 < 248) (by omega)]; exact .inr rfl
    ·rw [if_neg g, if_neg (c := 240 ≤ lb xs 0 ∧ lb xs 0 < 248) (by omega)]; exact .inr rfl
 ·rw [if_neg c, if_neg (by decide), if_neg (by omega), if_neg (c := 192 ≤ lb xs 0 ∧ lb xs 0 < 224) (by omega), if_neg (c := 224 ≤ lb xs 0 ∧ lb xs 0 < 240) (by omega), if_neg (c := 240 ≤ lb xs 0 ∧ lb xs 0 < 248) (by omega)]
  simp only [mummerref02_begins.j1]
  rw [if_neg (by decide), if_neg (by omega)]
  exact .inr rfl
theorem begins_val (xs : List Int) (h1 : 1 ≤ xs.length) (hI : Sc.InB xs = true) (k : Nat) (hk : 50 ≤ k) : ∃ b, mummerref02_begins.f k xs = some b ∧ (b = true ↔ xs.length < manyI (lb xs 0) ∧ (GL (xs ++ List.replicate (manyI (lb xs 0) - xs.length) 128) ∨ GL (xs ++ List.replicate (manyI (lb xs 0) - xs.length) 191))) := by
 have hm : manyI (lb xs 0) ≤ 4 := by unfold manyI; (repeat' split) <;> omega
 rcases begins_j xs h1 hI k hk with e | e <;> rw [e] <;> exact begins_j2v xs _ hm h1 hI _ (by omega)
theorem begins_short (xs : List Int) (h1 : 1 ≤ xs.length) (h3 : xs.length ≤ 3) (hI : Sc.InB xs = true) (k : Nat) (hk : 50 ≤ k) : mummerref02_begins.f k xs = some (decide (Sc.Short (lb xs 0).toNat (lb xs 1).toNat (lb xs 2).toNat xs.length)) := by
 obtain ⟨b, e, e2⟩ := begins_val xs h1 hI k hk
 rw [e]
 congr 1
 rw [Bool.eq_iff_iff, e2, decide_eq_true_eq, short_cases _ _ _ _ h1]
 have a0 := lb_in hI (i := 0) (by omega)
 match xs, h1, h3, hI with
 | [a], _, _, hI =>
  have e0 : lb [a] 0 = a := rfl
  rw [e0] at a0 ⊢
  have n1 : ([a] : List Int).length = 1 := rfl
  rw [n1]
  unfold manyI
  by_cases c1 : 192 ≤ a ∧ a < 224
  ·rw [if_pos c1]
   have g1 : GL ([a] ++ List.replicate (2 - 1) 128) ↔ G2 a 128 := Iff.rfl
   have g2 : GL ([a] ++ List.replicate (2 - 1) 191) ↔ G2 a 191 := Iff.rfl
   rw [g1, g2]; unfold G2; omega
  ·rw [if_neg c1]
   by_cases c2 : 224 ≤ a ∧ a < 240
   ·rw [if_pos c2]
    have g1 : GL ([a] ++ List.replicate (3 - 1) 128) ↔ G3 a 128 128 := Iff.rfl
    have g2 : GL ([a] ++ List.replicate (3 - 1) 191) ↔ G3 a 191 191 := Iff.rfl
    rw [g1, g2]; unfold G3 IsR; omega
   ·rw [if_neg c2]
    by_cases c3 : 240 ≤ a ∧ a < 248
    ·rw [if_pos c3]
     have g1 : GL ([a] ++ List.replicate (4 - 1) 128) ↔ G4 a 128 128 128 := Iff.rfl
     have g2 : GL ([a] ++ List.replicate (4 - 1) 191) ↔ G4 a 191 191 191 := Iff.rfl
     rw [g1, g2]; unfold G4; omega
    ·rw [if_neg c3]; omega
 | [a, b], _, _, hI =>
  have a1 := lb_in hI (i := 1) (by simp)
  have e0 : lb [a, b] 0 = a := rfl
  have e1 : lb [a, b] 1 = b := rfl
  rw [e0] at a0 ⊢
  rw [e1] at a1 ⊢
  have n1 : ([a, b] : List Int).length = 2 := rfl
  rw [n1]
  unfold manyI
  by_cases c1 : 192 ≤ a ∧ a < 224
  ·rw [if_pos c1]; omega
  ·rw [if_neg c1]
   by_cases c2 : 224 ≤ a ∧ a < 240
   ·rw [if_pos c2]
    have g1 : GL ([a, b] ++ List.replicate (3 - 2) 128) ↔ G3 a b 128 := Iff.rfl
    have g2 : GL ([a, b] ++ List.replicate (3 - 2) 191) ↔ G3 a b 191 := Iff.rfl
    rw [g1, g2]; unfold G3 IsR
    (repeat' split) <;> omega
   ·rw [if_neg c2]
    by_cases c3 : 240 ≤ a ∧ a < 248
    ·rw [if_pos c3]
     have g1 : GL ([a, b] ++ List.replicate (4 - 2) 128) ↔ G4 a b 128 128 := Iff.rfl
     have g2 : GL ([a, b] ++ List.replicate (4 - 2) 191) ↔ G4 a b 191 191 := Iff.rfl
     rw [g1, g2]; unfold G4
     (repeat' split) <;> omega
    ·rw [if_neg c3]; omega
 | [a, b, c], _, _, hI =>
  have a1 := lb_in hI (i := 1) (by simp)
  have a2 := lb_in hI (i := 2) (by simp)
  have e0 : lb [a, b, c] 0 = a := rfl
  have e1 : lb [a, b, c] 1 = b := rfl
  have e2 : lb [a, b, c] 2 = c := rfl
  rw [e0] at a0 ⊢
  rw [e1] at a1 ⊢
  rw [e2] at a2 ⊢
  have n1 : ([a, b, c] : List Int).length = 3 := rfl
  rw [n1]
  unfold manyI
  by_cases c1 : 192 ≤ a ∧ a < 224
  ·rw [if_pos c1]; omega
  ·rw [if_neg c1]
   by_cases c2 : 224 ≤ a ∧ a < 240
   ·rw [if_pos c2]; omega
   ·rw [if_neg c2]
    by_cases c3 : 240 ≤ a ∧ a < 248
    ·rw [if_pos c3]
     have g1 : GL ([a, b, c] ++ List.replicate (4 - 3) 128) ↔ G4 a b c 128 := Iff.rfl
     have g2 : GL ([a, b, c] ++ List.replicate (4 - 3) 191) ↔ G4 a b c 191 := Iff.rfl
     rw [g1, g2]; unfold G4
     (repeat' split) <;> omega
    ·rw [if_neg c3]; omega
def errI (l : List Int) (p : Nat) : Int := if Sc.Short (lb l p).toNat (lb l (p + 1)).toNat (lb l (p + 2)).toNat (l.length - p) then 320 else 6
theorem lb_drop (l : List Int) (p i : Nat) : lb (l.drop p) i = lb l (p + i) := by
 unfold lb
 rw [List.getD_eq_getElem?_getD, List.getD_eq_getElem?_getD, List.getElem?_drop]
theorem errI_ne (l : List Int) (p : Nat) : errI l p ≠ 0 := by unfold errI; split <;> decide
theorem dec_l0v (l : List Int) (hI : Sc.InB l = true) (hl : l.length ≤ 1000000) (p : Nat) (hp : p < l.length) : ∀ (m n : Nat), n + m = 5 → 1 ≤ n → ∀ k, 61 + 2 * m ≤ k →
  (∃ j : Nat, n ≤ j ∧ j ≤ 4 ∧ p + j ≤ l.length ∧ Gd l p j ∧ mummerref02_Decode.l0 k l p n = some (val l p j, (j : Int), 0)) ∨ ((∀ j, n ≤ j → j ≤ 4 → p + j ≤ l.length → ¬ Gd l p j) ∧ mummerref02_Decode.l0 k l p n = some (0, 0, errI l p)) := by
 have tail : ∀ k, 60 ≤ k → ∀ n : Int, mummerref02_Decode.j2 k l p n false = some (0, 0, errI l p) := by
  intro k hk n
  obtain ⟨k, rfl⟩ : ∃ K, k = K + 1 := ⟨k - 1, by omega⟩
  simp only [mummerref02_Decode.j2]
  rw [if_neg (by decide), w64 (n := (l.length : Int) - p) (by omega) (by omega)]
  unfold errI
  by_cases c : (l.length : Int) - p < 4
  ·rw [if_pos c, if_pos (by omega), if_pos (by omega)]
   have e := begins_short (l.drop p) (by rw [List.length_drop]; omega) (by rw [List.length_drop]; omega) (inB_drop hI p) k (by omega)
   rw [lb_drop, lb_drop, lb_drop, List.length_drop, Nat.add_zero] at e
   rw [show (p : Int).toNat = p from rfl, e, Option.bind_some]
   by_cases g : Sc.Short (lb l p).toNat (lb l (p + 1)).toNat (lb l (p + 2)).toNat (l.length - p)
   ·rw [if_pos (decide_eq_true g), if_pos g]
   ·rw [if_neg (by simpa using g), if_neg g]
  ·rw [if_neg c, if_neg (fun h => by rw [short_cases _ _ _ _ (by omega)] at h; omega)]
 intro m
 induction m with
 | zero =>
  intro n hn h1 k hk
  obtain ⟨k, rfl⟩ : ∃ K, k = K + 1 := ⟨k - 1, by omega⟩
  right
  refine ⟨fun j a b => by omega, ?_⟩
  simp only [mummerref02_Decode.l0]
  rw [if_neg (by omega)]
  exact tail k (by omega) n
 | succ m ih =>
  intro n hn h1 k hk
  obtain ⟨k, rfl⟩ : ∃ K, k = K + 1 + 1 := ⟨k - 2, by omega⟩
  simp only [mummerref02_Decode.l0]
  rw [if_pos (by omega), w64 (n := (p : Int) + n) (by omega) (by omega)]
  by_cases c : (p : Int) + n ≤ (l.length : Int)
  ·rw [decide_eq_true c]
   simp only [mummerref02_Decode.j2]
   rw [if_pos trivial, w64 (n := (p : Int) + n) (by omega) (by omega), if_pos (by omega), if_pos (by omega), if_pos c, show ((p : Int) + n).toNat = p + n by omega, show (p : Int).toNat = p from rfl]
   obtain ⟨v, b, e1, e2, e3⟩ := stands_win l hI p n h1 (by omega) (by omega)
   rw [e1, Option.bind_some]
   cases b with
   | true =>
    obtain ⟨g1, g2⟩ := e2 rfl
    left
    exact ⟨n, Nat.le_refl _, by omega, by omega, g1, by rw [if_pos rfl, g2]⟩
   | false =>
    have ng : ¬ Gd l p n := fun h => by have := e3 h; cases this
    rw [if_neg (by simp), w64 (n := (n : Int) + 1) (by omega) (by omega)]
    have := ih (n + 1) (by omega) (by omega) k (by omega)
    rw [show ((n + 1 : Nat) : Int) = (n : Int) + 1 by omega] at this
    rcases this with ⟨j, a, b, c, d, e⟩ | ⟨h, e⟩
    ·left; exact ⟨j, by omega, b, c, d, e⟩
    ·right
     refine ⟨fun j a b c => ?_, e⟩
     by_cases q : j = n
     ·subst q; exact ng
     ·exact h j (by omega) b c
  ·rw [decide_eq_false c]
   right
   exact ⟨fun j a b c' => by omega, tail (k + 1) (by omega) n⟩
theorem dec_fv (l : List Int) (hI : Sc.InB l = true) (hl : l.length ≤ 1000000) (p : Nat) (hp : p < l.length) (k : Nat) (hk : 80 ≤ k) :
  (∃ j : Nat, 1 ≤ j ∧ j ≤ 4 ∧ p + j ≤ l.length ∧ Gd l p j ∧ mummerref02_Decode.f k l p = some (val l p j, (j : Int), 0)) ∨ ((∀ j, 1 ≤ j → j ≤ 4 → p + j ≤ l.length → ¬ Gd l p j) ∧ mummerref02_Decode.f k l p = some (0, 0, errI l p)) := by
 unfold mummerref02_Decode.f
 obtain ⟨k, rfl⟩ : ∃ K, k = K + 1 := ⟨k - 1, by omega⟩
 rw [if_neg (by omega), decide_eq_false (by omega)]
 simp only [mummerref02_Decode.j0]
 rw [if_neg (by decide)]
 exact dec_l0v l hI hl p hp 4 1 (by omega) (by omega) k (by omega)
theorem get_out (l : List Int) (i : Nat) (h : l.length ≤ i) : ((strOfNums l).get! i).toNat = 0 ∧ lb l i = 0 := by
 refine ⟨?_, ?_⟩
 ·show ((strOfNums l).data[i]!).toNat = 0
  have : (strOfNums l).data = (l.map fun n => UInt8.ofNat n.toNat).toArray := rfl
  rw [this]
  simp [h]
  rfl
 ·unfold lb
  rw [List.getD_eq_getElem?_getD, List.getElem?_eq_none h]; rfl
theorem get_any (l : List Int) (hI : Sc.InB l = true) (i : Nat) : ((strOfNums l).get! i).toNat = (lb l i).toNat := by
 by_cases c : i < l.length
 ·exact get_bt l hI i c
 ·obtain ⟨a, b⟩ := get_out l i (by omega)
  rw [a, b]; rfl
theorem errS_errI (l : List Int) (hI : Sc.InB l = true) (p : Nat) : Sc.errS (strOfNums l) p = errI l p := by
 unfold Sc.errS errI
 rw [get_any l hI, get_any l hI, get_any l hI, strOfNums_size]
theorem bad_decode (l : List Int) (hI : Sc.InB l = true) (p : Nat) (hp : p < l.length) (hno : ∀ j, 1 ≤ j → j ≤ 4 → p + j ≤ l.length → ¬ Gd l p j) : Utf8.decode (strOfNums l) p = (65533, 1) := by
 have hs : (strOfNums l).size = l.length := strOfNums_size l
 have hb := fun i (hi : p + i < l.length) => lb_in hI (i := p + i) hi
 have b0 := hb 0 (by omega)
 rw [Nat.add_zero] at b0
 unfold Utf8.decode
 dsimp only
 simp only [Nat.add_zero, get_any l hI, hs]
 have n1 := hno 1 (by omega) (by omega) (by omega)
 have n1' : ¬ lb l p < 128 := n1
 rw [if_neg (by omega)]
 by_cases c2 : (((lb l p).toNat / 32 == 6) && (decide (p + 1 < l.length) && ((lb l (p + 1)).toNat / 64 == 2))) = true
 ·rw [if_pos c2]
  simp at c2
  have b1 := hb 1 (by omega)
  have n2 := hno 2 (by omega) (by omega) (by omega)
  have n2' : ¬ G2 (lb l p) (lb l (p + 1)) := n2
  rw [if_neg (fun h => n2' (by unfold G2; omega))]
  rfl
 ·rw [if_neg c2]
  by_cases c3 : (((lb l p).toNat / 16 == 14) && (decide (p + 1 < l.length) && ((lb l (p + 1)).toNat / 64 == 2)) && (decide (p + 2 < l.length) && ((lb l (p + 2)).toNat / 64 == 2))) = true
  ·rw [if_pos c3]
   simp at c3
   have b1 := hb 1 (by omega)
   have b2 := hb 2 (by omega)
   have n3 := hno 3 (by omega) (by omega) (by omega)
   have n3' : ¬ G3 (lb l p) (lb l (p + 1)) (lb l (p + 2)) := n3
   rw [if_neg (fun h => n3' (by simp [Utf8.valid] at h; unfold G3 IsR; omega))]
   rfl
  ·rw [if_neg c3]
   by_cases c4 : (((lb l p).toNat / 8 == 30) && (decide (p + 1 < l.length) && ((lb l (p + 1)).toNat / 64 == 2)) && (decide (p + 2 < l.length) && ((lb l (p + 2)).toNat / 64 == 2)) && (decide (p + 3 < l.length) && ((lb l (p + 3)).toNat / 64 == 2))) = true
   ·rw [if_pos c4]
    simp at c4
    have b1 := hb 1 (by omega)
    have b2 := hb 2 (by omega)
    have b3 := hb 3 (by omega)
    have n4 := hno 4 (by omega) (by omega) (by omega)
    have n4' : ¬ G4 (lb l p) (lb l (p + 1)) (lb l (p + 2)) (lb l (p + 3)) := n4
    rw [if_neg (fun h => n4' (by simp [Utf8.valid] at h; unfold G4; omega))]
    rfl
   ·rw [if_neg c4]; rfl
theorem ref_both (l : List Int) (hI : Sc.InB l = true) (hl : l.length ≤ 8000) : ∀ (d p : Nat), p + d = l.length →
  (∃ rs, GR l p rs) ∨ (∃ q : Nat, (∀ K, d < K → Sc.badF (strOfNums l) K p = some q) ∧ (∀ K, Sc.runsF K (strOfNums l) p = none) ∧ ∀ k, 100 + d ≤ k → mummerref02_Check.l0 k l p = some ((q : Int), errI l q)) := by
 intro d
 induction d using Nat.strongRecOn with
 | ind d ih =>
  intro p hp
  by_cases c : d = 0
  ·left
   obtain rfl : p = l.length := by omega
   exact ⟨[], .stop⟩
  ·rcases dec_fv l hI (by omega) p (by omega) 80 (by omega) with ⟨j, j1, j4, jl, g, e⟩ | ⟨hno, e2⟩
   ·have up := dec_up e
    obtain ⟨z1, z2, z3⟩ := gd_decode l hI p j j1 j4 jl g
    rcases ih (d - j) (by omega) (p + j) (by omega) with ⟨rs, r1⟩ | ⟨q, q1, q2, q3⟩
    ·left
     exact ⟨_, .step j1 j4 jl g r1⟩
    ·right
     have cond : p < (strOfNums l).size ∧ ((Utf8.decode (strOfNums l) p).1 ≠ 65533 ∨ 1 < (Utf8.decode (strOfNums l) p).2) ∧ Lib.runeLen ((Utf8.decode (strOfNums l) p).1 : Int) = ((Utf8.decode (strOfNums l) p).2 : Int) ∧ 1 ≤ (Utf8.decode (strOfNums l) p).2 ∧ p + (Utf8.decode (strOfNums l) p).2 ≤ (strOfNums l).size := by
      rw [z1, strOfNums_size]; exact ⟨by omega, z2, z3, j1, jl⟩
     refine ⟨q, fun K hK => ?_, fun K => ?_, fun k hk => ?_⟩
     ·obtain ⟨K, rfl⟩ : ∃ m, K = m + 1 := ⟨K - 1, by omega⟩
      simp only [Sc.badF]
      rw [if_neg (fun h => by rw [z1] at h; have h3 := h.2; simp only [Prod.mk.injEq] at h3; omega), if_pos cond, z1]
      exact q1 K (by omega)
     ·cases K with
      | zero => rfl
      | succ K =>
       simp only [Sc.runsF]
       rw [if_neg (by rw [strOfNums_size]; omega), if_pos cond, z1]
       dsimp only
       rw [q2 K]; rfl
     ·obtain ⟨k, rfl⟩ : ∃ K, k = K + 1 := ⟨k - 1, by omega⟩
      simp only [mummerref02_Check.l0]
      rw [if_pos (by omega), up k (by omega), Option.bind_some, if_pos rfl, w64 (n := (p : Int) + j) (by omega) (by omega)]
      have := q3 k (by omega)
      rwa [show ((p + j : Nat) : Int) = (p : Int) + j by omega] at this
   ·have up := dec_up e2
    have hd := bad_decode l hI p (by omega) hno
    right
    refine ⟨p, fun K hK => ?_, fun K => ?_, fun k hk => ?_⟩
    ·obtain ⟨K, rfl⟩ : ∃ m, K = m + 1 := ⟨K - 1, by omega⟩
     simp only [Sc.badF]
     rw [if_pos ⟨by rw [strOfNums_size]; omega, hd⟩]
    ·cases K with
     | zero => rfl
     | succ K =>
      simp only [Sc.runsF]
      rw [if_neg (by rw [strOfNums_size]; omega), if_neg (fun h => by rw [hd] at h; rcases h.2.1 with h | h; exact h rfl; omega)]
    ·obtain ⟨k, rfl⟩ : ∃ K, k = K + 1 := ⟨k - 1, by omega⟩
     simp only [mummerref02_Check.l0]
     rw [if_pos (by omega), up k (by omega), Option.bind_some, if_neg (errI_ne l p)]
theorem check_both (l : List Int) (hI : Sc.InB l = true) :
  (∃ rs, l.length ≤ 8000 ∧ GR l 0 rs) ∨ (∃ q e, e ≠ 0 ∧ Sc.checkL l = some (q, e) ∧ ∀ k, 9000 ≤ k → mummerref02_Check.f k l = some (q, e)) := by
 by_cases c : (l.length : Int) > 8000
 ·right
  refine ⟨0, 3, by decide, ?_, fun k hk => ?_⟩
  ·unfold Sc.checkL; rw [if_pos (by omega)]
  ·unfold mummerref02_Check.f; rw [if_pos c]
 ·rcases ref_both l hI (by omega) l.length 0 (by omega) with ⟨rs, h⟩ | ⟨q, q1, q2, q3⟩
  ·exact .inl ⟨rs, by omega, h⟩
  ·right
   refine ⟨q, errI l q, errI_ne l q, ?_, fun k hk => ?_⟩
   ·unfold Sc.checkL
    rw [if_neg (by omega), if_pos hI, q2]
    dsimp only
    rw [q1 _ (by omega), Option.map_some, errS_errI l hI]
   ·unfold mummerref02_Check.f
    rw [if_neg c]
    have := q3 k (by omega)
    exact this
theorem Gd_uniq {l : List Int} {p j j' : Nat} (h1 : 1 ≤ j) (h4 : j ≤ 4) (h1' : 1 ≤ j') (h4' : j' ≤ 4) (g : Gd l p j) (g' : Gd l p j') : j = j' := by
 have cls : ∀ i, 1 ≤ i → i ≤ 4 → Gd l p i → (i = 1 ∧ lb l p < 128) ∨ (i = 2 ∧ 192 ≤ lb l p ∧ lb l p < 224) ∨ (i = 3 ∧ 224 ≤ lb l p ∧ lb l p < 240) ∨ (i = 4 ∧ 240 ≤ lb l p) := by
  intro i a b g
  rcases (show i = 1 ∨ i = 2 ∨ i = 3 ∨ i = 4 by omega) with rfl | rfl | rfl | rfl
  ·exact .inl ⟨rfl, g⟩
  ·have h : G2 _ _ := g; exact .inr (.inl ⟨rfl, h.1, h.2.1⟩)
  ·have h : G3 _ _ _ := g; exact .inr (.inr (.inl ⟨rfl, h.1, h.2.1⟩))
  ·have h : G4 _ _ _ _ := g; exact .inr (.inr (.inr ⟨rfl, h.1⟩))
 rcases cls j h1 h4 g with h | h | h | h <;> rcases cls j' h1' h4' g' with h' | h' | h' | h' <;> omega
theorem Gd.dec {l : List Int} (hI : Sc.InB l = true) (hl : l.length ≤ 1000000) {p j : Nat} (h1 : 1 ≤ j) (h4 : j ≤ 4) (hp : p + j ≤ l.length) (g : Gd l p j) (k : Nat) (hk : 80 ≤ k) : mummerref02_Decode.f k l p = some (val l p j, (j : Int), 0) := by
 rcases dec_fv l hI hl p (by omega) k hk with ⟨j', a, b, c, d, e⟩ | ⟨h, _⟩
 ·obtain rfl := Gd_uniq h1 h4 a b g d
  exact e
 ·exact absurd g (h j h1 h4 hp)
theorem GR.ref {l : List Int} (hI : Sc.InB l = true) (hl : l.length ≤ 8000) {p : Nat} {rs : List (Nat × Nat)} (h : GR l p rs) :
  (∀ k, 100 + (l.length - p) ≤ k → mummerref02_Check.l0 k l p = some ((l.length : Int), 0)) ∧ (∀ k (out : List Int), 100 + (l.length - p) ≤ k → out.length + (l.length - p) ≤ 100000 → mummerref02_Starts.l0 k l out p = some (out ++ rs.map (fun x => ((x.1 : Nat) : Int)) ++ [(l.length : Int)], 0)) := by
 induction h with
 | stop =>
  refine ⟨fun k hk => ?_, fun k out hk ho => ?_⟩
  ·obtain ⟨k, rfl⟩ : ∃ K, k = K + 1 := ⟨k - 1, by omega⟩
   simp only [mummerref02_Check.l0]
   rw [if_neg (by omega)]
  ·obtain ⟨k, rfl⟩ : ∃ K, k = K + 1 := ⟨k - 1, by omega⟩
   simp only [mummerref02_Starts.l0]
   rw [if_neg (by omega), if_pos (by omega)]
   simp
 | @step p j rest j1 j4 jl g r1 ih =>
  obtain ⟨r2, r3⟩ := ih
  have up := fun k hk => g.dec hI (by omega) j1 j4 jl k hk
  refine ⟨fun k hk => ?_, fun k out hk ho => ?_⟩
  ·obtain ⟨k, rfl⟩ : ∃ K, k = K + 1 := ⟨k - 1, by omega⟩
   simp only [mummerref02_Check.l0]
   rw [if_pos (by omega), up k (by omega), Option.bind_some, if_pos rfl, w64 (n := (p : Int) + j) (by omega) (by omega)]
   have := r2 k (by omega)
   rwa [show ((p + j : Nat) : Int) = (p : Int) + j by omega] at this
  ·obtain ⟨k, rfl⟩ : ∃ K, k = K + 1 := ⟨k - 1, by omega⟩
   simp only [mummerref02_Starts.l0]
   rw [if_pos (by omega), if_pos (by omega), up k (by omega), Option.bind_some]
   dsimp only
   rw [w64 (n := (p : Int) + j) (by omega) (by omega)]
   have := r3 k (out ++ [(p : Int)]) (by omega) (by simp; omega)
   rw [show ((p + j : Nat) : Int) = (p : Int) + j by omega] at this
   rw [this]
   simp
theorem GR.check {l : List Int} (hI : Sc.InB l = true) (hl : l.length ≤ 8000) {rs : List (Nat × Nat)} (h : GR l 0 rs) (k : Nat) (hk : 9000 ≤ k) : mummerref02_Check.f k l = some ((l.length : Int), 0) := by
 unfold mummerref02_Check.f
 rw [if_neg (by omega)]
 have := (h.ref hI hl).1 k (by omega)
 exact this
instance (l : List Int) (x : Nat) : Decidable (Sp l x) := by unfold Sp RS; infer_instance
end Go.Proofs.YtdjkdlbokepoaaaGreatDoor.P
