import Derived.Test.YtdjkdlbokepoaaaGreatDoorKA9
import Derived.Test.YtdjkdlbokepoaaaGreatDoorKA3
import Derived.Test.YtdjkdlbokepoaaaGreatDoorKA13
import Derived.Test.YtdjkdlbokepoaaaGreatDoorKA10
import Derived.Test.YtdjkdlbokepoaaaGreatDoorKA2
import Derived.Test.YtdjkdlbokepoaaaGreatDoorKA5
import Derived.Test.YtdjkdlbokepoaaaGreatDoorKA11
import Derived.Test.YtdjkdlbokepoaaaGreatDoorKA33
import Derived.SizedLaws
import Derived.ChangeSlices
import Derived.Deep.RegionHeld3
import Derived.Deep.Cut
import Derived.Test.YtdjkdlbokepoaaaGreatDoorKA39
import Derived.Test.YtdjkdlbokepoaaaGreatDoorKA24
import Derived.Sort.LotA
namespace Go.Proofs.YtdjkdlbokepoaaaGreatDoor.P
open Go.RowKit YtdjkdlbokepoaaaGreatDoorW.PrintWords YtdjkdlbokepoaaaGreatDoorW.PrintLast YtdjkdlbokepoaaaGreatDoorW.PrintMore
attribute [local go_sem] max2_int min2_int max_two min_two max_three min_three max_four min_four
set_option linter.unusedVariables false
set_option linter.unusedSimpArgs false
theorem akS {p : Prop} (h : p) : Aside0 p := ⟨h⟩
section
variable {α : Type} [Inhabited α]
def swapR (d : Array α) (a b : Nat) : Nat → Array α
 | 0 => d
 | n + 1 => Go.Sort.swp (swapR d a b n) (a + n) (b + n)
theorem swapR_size (d : Array α) (a b : Nat) : ∀ n, (swapR d a b n).size = d.size
 | 0 => rfl
 | n + 1 => by rw [swapR, Go.Sort.size_swp, swapR_size d a b n]
def rotF (m : Nat) : Nat → Array α → Nat → Nat → Array α
 | 0, d, _, _ => d
 | k + 1, d, i, j => if i = j then swapR d (m - i) m i else if j < i then rotF m k (swapR d (m - i) m j) (i - j) j else rotF m k (swapR d (m - i) (m + j - i) i) i (j - i)
theorem rotF_size (m : Nat) : ∀ (k : Nat) (d : Array α) (i j : Nat), (rotF m k d i j).size = d.size
 | 0, d, i, j => rfl
 | k + 1, d, i, j => by
  rw [rotF]
  split
  ·rw [swapR_size]
  ·split
   ·rw [rotF_size m k, swapR_size]
   ·rw [rotF_size m k, swapR_size]
def bsF (p : Nat → Bool) : Nat → Nat → Nat → Nat
 | 0, i, _ => i
 | k + 1, i, j => if i < j then (if p ((i + j) / 2) = true then bsF p k ((i + j) / 2 + 1) j else bsF p k i ((i + j) / 2)) else i
theorem bsF_spec (p : Nat → Bool) (i0 j0 : Nat) : ∀ (k i j : Nat), i0 ≤ i → i ≤ j → j ≤ j0 → j - i ≤ k → (i = i0 ∨ p (i - 1) = true) → (j = j0 ∨ p j = false) →
  i0 ≤ bsF p k i j ∧ bsF p k i j ≤ j0 ∧ (bsF p k i j = i0 ∨ p (bsF p k i j - 1) = true) ∧ (bsF p k i j = j0 ∨ p (bsF p k i j) = false) := by
 intro k
 induction k with
 | zero =>
  intro i j h1 h2 h3 h4 h5 h6
  obtain rfl : i = j := by omega
  exact ⟨h1, h3, h5, h6⟩
 | succ k ih =>
  intro i j h1 h2 h3 h4 h5 h6
  rw [bsF]
  by_cases c : i < j
  ·rw [if_pos c]
   by_cases e : p ((i + j) / 2) = true
   ·rw [if_pos e]
    exact ih _ _ (by omega) (by omega) h3 (by omega) (.inr (by rw [Nat.add_sub_cancel]; exact e)) h6
   ·rw [if_neg e]
    exact ih _ _ h1 (by omega) (by omega) (by omega) h5 (.inr (by simpa using e))
  ·rw [if_neg c]
   obtain rfl : i = j := by omega
   exact ⟨h1, h3, h5, h6⟩
def shU (d : Array α) (a : Nat) : Nat → Array α
 | 0 => d
 | n + 1 => Go.Sort.swp (shU d a n) (a + n) (a + n + 1)
theorem shU_size (d : Array α) (a : Nat) : ∀ n, (shU d a n).size = d.size
 | 0 => rfl
 | n + 1 => by rw [shU, Go.Sort.size_swp, shU_size d a n]
def shD (d : Array α) (m : Nat) : Nat → Array α
 | 0 => d
 | n + 1 => Go.Sort.swp (shD d m n) (m - n) (m - n - 1)
theorem shD_size (d : Array α) (m : Nat) : ∀ n, (shD d m n).size = d.size
 | 0 => rfl
 | n + 1 => by rw [shD, Go.Sort.size_swp, shD_size d m n]
def symS (lt : α → α → Bool) (d : Array α) (a m b : Nat) : Nat :=
 if (a + b) / 2 < m then bsF (fun c => !lt d[(a + b) / 2 + m - 1 - c]! d[c]!) ((a + b) / 2 - ((a + b) / 2 + m - b)) ((a + b) / 2 + m - b) ((a + b) / 2)
 else bsF (fun c => !lt d[(a + b) / 2 + m - 1 - c]! d[c]!) (m - a) a m
def symRot (d : Array α) (s m e : Nat) : Array α := if s < m ∧ m < e then rotF m (e - s) d (m - s) (e - m) else d
def symG (r : Array α → Nat → Nat → Nat → Array α) (d : Array α) (a s mid e b : Nat) : Array α :=
 if mid < e ∧ e < b then r (if a < s ∧ s < mid then r d a s mid else d) mid e b else (if a < s ∧ s < mid then r d a s mid else d)
def symF (lt : α → α → Bool) : Nat → Array α → Nat → Nat → Nat → Array α
 | 0, d, _, _, _ => d
 | k + 1, d, a, m, b =>
  if m - a = 1 then shU d a (bsF (fun h => lt d[h]! d[a]!) (b - m) m b - 1 - a)
  else if b - m = 1 then shD d m (m - bsF (fun h => !lt d[m]! d[h]!) (m - a) a m)
  else symG (symF lt k) (symRot d (symS lt d a m b) m ((a + b) / 2 + m - symS lt d a m b)) a (symS lt d a m b) ((a + b) / 2) ((a + b) / 2 + m - symS lt d a m b) b
theorem symRot_size (d : Array α) (s m e : Nat) : (symRot d s m e).size = d.size := by
 unfold symRot
 split
 ·rw [rotF_size]
 ·rfl
theorem symF_size (lt : α → α → Bool) : ∀ (k : Nat) (d : Array α) (a m b : Nat), (symF lt k d a m b).size = d.size
 | 0, d, a, m, b => rfl
 | k + 1, d, a, m, b => by
  rw [symF]
  split
  ·rw [shU_size]
  ·split
   ·rw [shD_size]
   ·unfold symG
    split <;> split <;> simp only [symF_size lt k, symRot_size]
def RotAs (d e : Array α) (s m t : Nat) : Prop := ∀ k, e[k]! = if s ≤ k ∧ k < s + (t - m) then d[k + (m - s)]! else if s + (t - m) ≤ k ∧ k < t then d[k - (t - m)]! else d[k]!
theorem swapR_get (d : Array α) (a b : Nat) : ∀ (n : Nat), a + n ≤ b → b + n ≤ d.size → ∀ k, (swapR d a b n)[k]! = if a ≤ k ∧ k < a + n then d[k + (b - a)]! else if b ≤ k ∧ k < b + n then d[k - (b - a)]! else d[k]! := by
 intro n
 induction n with
 | zero =>
  intro h1 h2 k
  rw [if_neg (by omega), if_neg (by omega)]; rfl
 | succ n ih =>
  intro h1 h2 k
  have g := ih (by omega) (by omega)
  rw [swapR, Go.Sort.swp_get _ (by rw [swapR_size]; omega) (by rw [swapR_size]; omega), g, g, g]
  by_cases c1 : k = b + n
  ·subst c1
   rw [if_pos rfl, if_neg (by omega), if_neg (by omega), if_neg (by omega), if_pos (by omega)]
   congr 1; omega
  ·rw [if_neg c1]
   by_cases c2 : k = a + n
   ·subst c2
    rw [if_pos rfl, if_neg (by omega), if_neg (by omega), if_pos (by omega)]
    congr 1; omega
   ·rw [if_neg c2]
    by_cases c3 : a ≤ k ∧ k < a + n
    ·rw [if_pos c3, if_pos (by omega)]
    ·rw [if_neg c3, if_neg (show ¬ (a ≤ k ∧ k < a + (n + 1)) by omega)]
     by_cases c4 : b ≤ k ∧ k < b + n
     ·rw [if_pos c4, if_pos (by omega)]
     ·rw [if_neg c4, if_neg (by omega)]
theorem swapR_perm (d : Array α) (a b lo hi : Nat) (h1 : lo ≤ a) (h2 : lo ≤ b) (h3 : hi ≤ d.size) : ∀ (n : Nat), a + n ≤ hi → b + n ≤ hi → Go.Sort.PermIn lo hi d (swapR d a b n) := by
 intro n
 induction n with
 | zero => intro _ _; exact Go.Sort.permIn_refl _ _ _
 | succ n ih =>
  intro h4 h5
  exact Go.Sort.permIn_trans _ _ _ _ _ (ih (by omega) (by omega)) (Go.Sort.swp_permIn _ _ _ _ _ (by omega) (by omega) (by omega) (by omega) (by rw [swapR_size]; exact h3))
theorem rotF_perm (m lo hi : Nat) : ∀ (k : Nat) (d : Array α) (i j : Nat), hi ≤ d.size → i ≤ m → lo ≤ m - i → m + j ≤ hi → Go.Sort.PermIn lo hi d (rotF m k d i j) := by
 intro k
 induction k with
 | zero => intro d i j _ _ _ _; exact Go.Sort.permIn_refl _ _ _
 | succ k ih =>
  intro d i j h1 h2 h3 h4
  rw [rotF]
  by_cases c : i = j
  ·rw [if_pos c]
   exact swapR_perm d _ _ _ _ (by omega) (by omega) h1 _ (by omega) (by omega)
  ·rw [if_neg c]
   by_cases e : j < i
   ·rw [if_pos e]
    exact Go.Sort.permIn_trans _ _ _ _ _ (swapR_perm d _ _ _ _ (by omega) (by omega) h1 _ (by omega) (by omega)) (ih _ _ _ (by rw [swapR_size]; exact h1) (by omega) (by omega) (by omega))
   ·rw [if_neg e]
    exact Go.Sort.permIn_trans _ _ _ _ _ (swapR_perm d _ _ _ _ (by omega) (by omega) h1 _ (by omega) (by omega)) (ih _ _ _ (by rw [swapR_size]; exact h1) (by omega) (by omega) (by omega))
theorem rotF_get (m : Nat) : ∀ (k : Nat) (d : Array α) (i j : Nat), 0 < i → 0 < j → i ≤ m → m + j ≤ d.size → i + j ≤ k → RotAs d (rotF m k d i j) (m - i) m (m + j) := by
 intro k
 induction k with
 | zero => intro d i j h1 h2 _ _ h5; omega
 | succ k ih =>
  intro d i j h1 h2 h3 h4 h5 x
  rw [rotF]
  by_cases c : i = j
  ·subst c
   rw [if_pos rfl, swapR_get d _ _ _ (by omega) (by omega)]
   by_cases c1 : m - i ≤ x ∧ x < m
   ·rw [if_pos (by omega), if_pos (by omega)]
   ·rw [if_neg (by omega), if_neg (show ¬ (m - i ≤ x ∧ x < m - i + (m + i - m)) by omega)]
    by_cases c2 : m ≤ x ∧ x < m + i
    ·rw [if_pos (by omega), if_pos (by omega)]
     congr 1; omega
    ·rw [if_neg (by omega), if_neg (by omega)]
  ·rw [if_neg c]
   by_cases e : j < i
   ·rw [if_pos e, ih _ _ _ (by omega) h2 (by omega) (by rw [swapR_size]; exact h4) (by omega) x]
    have g := swapR_get d (m - i) m j (by omega) (by omega)
    by_cases c1 : m - (i - j) ≤ x ∧ x < m - (i - j) + (m + j - m)
    ·rw [if_pos c1, g, if_neg (by omega), if_pos (by omega)]
     by_cases c2 : x < m - i + j
     ·rw [if_pos (by omega)]; congr 1; omega
     ·rw [if_neg (by omega), if_pos (by omega)]; congr 1; omega
    ·rw [if_neg c1]
     by_cases c3 : m - (i - j) + (m + j - m) ≤ x ∧ x < m + j
     ·rw [if_pos c3, g, if_neg (by omega), if_neg (by omega), if_neg (by omega), if_pos (by omega)]
     ·rw [if_neg c3, g]
      by_cases c4 : m - i ≤ x ∧ x < m - i + j
      ·rw [if_pos c4, if_pos (by omega)]
      ·rw [if_neg c4, if_neg (by omega), if_neg (by omega), if_neg (by omega)]
   ·rw [if_neg e, ih _ _ _ h1 (by omega) (by omega) (by rw [swapR_size]; omega) (by omega) x]
    have g := swapR_get d (m - i) (m + j - i) i (by omega) (by omega)
    by_cases c1 : m - i ≤ x ∧ x < m - i + (m + (j - i) - m)
    ·rw [if_pos c1, g]
     by_cases c2 : x + (m - (m - i)) < m + j - i
     ·rw [if_neg (by omega), if_neg (by omega), if_pos (by omega)]
     ·omega
    ·rw [if_neg c1]
     by_cases c3 : m - i + (m + (j - i) - m) ≤ x ∧ x < m + (j - i)
     ·rw [if_pos c3, g, if_pos (by omega), if_pos (by omega)]; congr 1; omega
     ·rw [if_neg c3, g]
      by_cases c4 : m + j - i ≤ x ∧ x < m + j - i + i
      ·rw [if_neg (by omega), if_pos c4, if_neg (by omega), if_pos (by omega)]; congr 1; omega
      ·rw [if_neg (by omega), if_neg c4, if_neg (by omega), if_neg (by omega)]
theorem symRot_get (d : Array α) (s m e : Nat) (h1 : s ≤ m) (h2 : m ≤ e) (h3 : e ≤ d.size) : RotAs d (symRot d s m e) s m e := by
 unfold symRot
 by_cases c : s < m ∧ m < e
 ·rw [if_pos c]
  have g := rotF_get m (e - s) d (m - s) (e - m) (by omega) (by omega) (by omega) (by omega) (by omega)
  rw [show m - (m - s) = s by omega, show m + (e - m) = e by omega] at g
  exact g
 ·rw [if_neg c]
  intro k
  by_cases c1 : s ≤ k ∧ k < s + (e - m)
  ·rw [if_pos c1]; congr 1; omega
  ·rw [if_neg c1]
   by_cases c2 : s + (e - m) ≤ k ∧ k < e
   ·rw [if_pos c2]; congr 1; omega
   ·rw [if_neg c2]
theorem symRot_perm (d : Array α) (s m e lo hi : Nat) (h0 : lo ≤ s) (h1 : s ≤ m) (h2 : m ≤ e) (h3 : e ≤ hi) (h4 : hi ≤ d.size) : Go.Sort.PermIn lo hi d (symRot d s m e) := by
 unfold symRot
 by_cases c : s < m ∧ m < e
 ·rw [if_pos c]
  exact rotF_perm m lo hi _ d _ _ h4 (by omega) (by omega) (by omega)
 ·rw [if_neg c]; exact Go.Sort.permIn_refl _ _ _
theorem shU_get (d : Array α) (a : Nat) : ∀ (n : Nat), a + n < d.size → RotAs d (shU d a n) a (a + 1) (a + n + 1) := by
 intro n
 induction n with
 | zero =>
  intro h k
  rw [if_neg (by omega)]
  by_cases c : a + (a + 0 + 1 - (a + 1)) ≤ k ∧ k < a + 0 + 1
  ·rw [if_pos c]; rw [shU]; congr 1; omega
  ·rw [if_neg c]; rfl
 | succ n ih =>
  intro h k
  have g := ih (by omega)
  rw [shU, Go.Sort.swp_get _ (by rw [shU_size]; omega) (by rw [shU_size]; omega), g, g, g]
  by_cases c1 : k = a + n + 1
  ·subst c1
   rw [if_pos rfl, if_neg (by omega), if_pos (by omega), if_neg (by omega), if_pos (by omega)]
   congr 1; omega
  ·rw [if_neg c1]
   by_cases c2 : k = a + n
   ·subst c2
    rw [if_pos rfl, if_neg (by omega), if_neg (by omega), if_pos (by omega)]
    congr 1; omega
   ·rw [if_neg c2]
    by_cases c3 : a ≤ k ∧ k < a + n
    ·rw [if_pos (by omega), if_pos (by omega)]
    ·rw [if_neg (by omega), if_neg (by omega), if_neg (by omega), if_neg (by omega)]
theorem shU_perm (d : Array α) (a lo hi : Nat) (h1 : lo ≤ a) (h3 : hi ≤ d.size) : ∀ (n : Nat), a + n < hi → Go.Sort.PermIn lo hi d (shU d a n) := by
 intro n
 induction n with
 | zero => intro _; exact Go.Sort.permIn_refl _ _ _
 | succ n ih =>
  intro h4
  exact Go.Sort.permIn_trans _ _ _ _ _ (ih (by omega)) (Go.Sort.swp_permIn _ _ _ _ _ (by omega) (by omega) (by omega) (by omega) (by rw [shU_size]; exact h3))
theorem shD_get (d : Array α) (m : Nat) (hm : m < d.size) : ∀ (n : Nat), n ≤ m → RotAs d (shD d m n) (m - n) m (m + 1) := by
 intro n
 induction n with
 | zero =>
  intro h k
  by_cases c : m - 0 ≤ k ∧ k < m - 0 + (m + 1 - m)
  ·rw [if_pos c]; rw [shD]; congr 1; omega
  ·rw [if_neg c, if_neg (by omega)]; rfl
 | succ n ih =>
  intro h k
  have g := ih (by omega)
  rw [shD, Go.Sort.swp_get _ (by rw [shD_size]; omega) (by rw [shD_size]; omega), g, g, g]
  by_cases c1 : k = m - n - 1
  ·subst c1
   rw [if_pos rfl, if_pos (by omega), if_pos (by omega)]
   congr 1; omega
  ·rw [if_neg c1]
   by_cases c2 : k = m - n
   ·subst c2
    rw [if_pos rfl, if_neg (by omega), if_neg (by omega), if_neg (by omega), if_pos (by omega)]
    congr 1; omega
   ·rw [if_neg c2]
    by_cases c3 : m - n + (m + 1 - m) ≤ k ∧ k < m + 1
    ·rw [if_neg (by omega), if_pos (by omega), if_neg (by omega), if_pos (by omega)]
    ·rw [if_neg (by omega), if_neg (by omega), if_neg (by omega), if_neg (by omega)]
theorem shD_perm (d : Array α) (m lo hi : Nat) (h1 : m < hi) (h3 : hi ≤ d.size) : ∀ (n : Nat), lo + n ≤ m → Go.Sort.PermIn lo hi d (shD d m n) := by
 intro n
 induction n with
 | zero => intro _; exact Go.Sort.permIn_refl _ _ _
 | succ n ih =>
  intro h4
  exact Go.Sort.permIn_trans _ _ _ _ _ (ih (by omega)) (Go.Sort.swp_permIn _ _ _ _ _ (by omega) (by omega) (by omega) (by omega) (by rw [shD_size]; exact h3))
end
theorem swo_le {α : Type} {T : α → α → Bool} (hS : Go.Sort.SWO T) (x y z : α) (h1 : T y x = false) (h2 : T z y = false) : T z x = false := hS.ntrans z y x h2 h1
section
variable {α : Type} [Inhabited α] {lt T : α → α → Bool}
def QQ (lt T : α → α → Bool) (d : Array α) (a m b : Nat) : Prop := ∀ i j, a ≤ i → i < m → m ≤ j → j < b → lt d[j]! d[i]! = T d[j]! d[i]!
theorem sorted_le (hS : Go.Sort.SWO T) {a b : Nat} {d : Array α} (h : Go.Sort.SortedIn T a b d) (p q : Nat) (h1 : a ≤ p) (h2 : p ≤ q) (h3 : q < b) : T d[q]! d[p]! = false := by
 rcases Nat.eq_or_lt_of_le h2 with e | e
 ·subst e; exact hS.irrefl _
 ·exact h p q h1 e h3
theorem one_up (hS : Go.Sort.SWO T) {a t b : Nat} {d e : Array α} (h : RotAs d e a (a + 1) t) (h1 : a + 1 ≤ t) (h2 : t ≤ b) (hR : Go.Sort.SortedIn T (a + 1) b d)
  (c1 : t = a + 1 ∨ T d[t - 1]! d[a]! = true) (c2 : t = b ∨ T d[t]! d[a]! = false) : Go.Sort.SortedIn T a b e := by
 have g := sorted_le hS hR
 intro i j hi hij hj
 rw [h i, h j]
 by_cases k1 : i < a + (t - (a + 1))
 ·rw [if_pos (show a ≤ i ∧ i < a + (t - (a + 1)) from ⟨hi, k1⟩)]
  by_cases k2 : j < a + (t - (a + 1))
  ·rw [if_pos (by omega)]; exact g _ _ (by omega) (by omega) (by omega)
  ·rw [if_neg (by omega)]
   by_cases k3 : j < t
   ·rw [if_pos (by omega), show j - (t - (a + 1)) = a by omega]
    refine swo_le hS _ _ _ (g (i + (a + 1 - a)) (t - 1) (by omega) (by omega) (by omega)) ?_
    rcases c1 with c1 | c1
    ·omega
    ·exact hS.asymmA c1
   ·rw [if_neg (by omega)]; exact g _ _ (by omega) (by omega) (by omega)
 ·rw [if_neg (show ¬ (a ≤ j ∧ j < a + (t - (a + 1))) by omega), if_neg (show ¬ (a ≤ i ∧ i < a + (t - (a + 1))) by omega)]
  by_cases k2 : i < t
  ·rw [if_pos (show a + (t - (a + 1)) ≤ i ∧ i < t by omega), if_neg (by omega), show i - (t - (a + 1)) = a by omega]
   rcases c2 with c2 | c2
   ·omega
   ·exact swo_le hS _ _ _ c2 (g _ _ (by omega) (by omega) (by omega))
  ·rw [if_neg (by omega), if_neg (by omega)]; exact g _ _ (by omega) (by omega) (by omega)
theorem one_down (hS : Go.Sort.SWO T) {a s m : Nat} {d e : Array α} (h : RotAs d e s m (m + 1)) (h1 : a ≤ s) (h2 : s ≤ m) (hL : Go.Sort.SortedIn T a m d)
  (c1 : s = a ∨ T d[m]! d[s - 1]! = false) (c2 : s = m ∨ T d[m]! d[s]! = true) : Go.Sort.SortedIn T a (m + 1) e := by
 have g := sorted_le hS hL
 intro i j hi hij hj
 rw [h i, h j]
 by_cases k1 : j < s
 ·rw [if_neg (by omega), if_neg (by omega), if_neg (by omega), if_neg (by omega)]; exact g _ _ (by omega) (by omega) (by omega)
 ·by_cases k2 : j = s
  ·subst k2
   rw [if_pos (show j ≤ j ∧ j < j + (m + 1 - m) by omega), if_neg (by omega), if_neg (by omega), show j + (m - j) = m by omega]
   rcases c1 with c1 | c1
   ·omega
   ·exact swo_le hS _ _ _ (g i (j - 1) (by omega) (by omega) (by omega)) c1
  ·rw [if_neg (show ¬ (s ≤ j ∧ j < s + (m + 1 - m)) by omega), if_pos (show s + (m + 1 - m) ≤ j ∧ j < m + 1 by omega)]
   by_cases k3 : i < s
   ·rw [if_neg (by omega), if_neg (by omega)]; exact g _ _ (by omega) (by omega) (by omega)
   ·by_cases k4 : i = s
    ·subst k4
     rw [if_pos (by omega), show i + (m - i) = m by omega]
     rcases c2 with c2 | c2
     ·omega
     ·exact swo_le hS _ _ _ (hS.asymmA c2) (g _ _ (by omega) (by omega) (by omega))
    ·rw [if_neg (by omega), if_pos (by omega)]; exact g _ _ (by omega) (by omega) (by omega)
theorem symS_spec (lt : α → α → Bool) (d : Array α) (a m b : Nat) (h1 : a < m) (h2 : m < b) :
  a ≤ symS lt d a m b ∧ symS lt d a m b ≤ m ∧ symS lt d a m b ≤ (a + b) / 2 ∧ (a + b) / 2 + m - symS lt d a m b ≤ b ∧
  (symS lt d a m b = a ∨ (a + b) / 2 + m - symS lt d a m b = b ∨ lt d[(a + b) / 2 + m - symS lt d a m b]! d[symS lt d a m b - 1]! = false) ∧
  (symS lt d a m b = m ∨ (a + b) / 2 + m - symS lt d a m b = m ∨ lt d[(a + b) / 2 + m - symS lt d a m b - 1]! d[symS lt d a m b]! = true) := by
 unfold symS
 by_cases c : (a + b) / 2 < m
 ·rw [if_pos c]
  have g := bsF_spec (fun c => !lt d[(a + b) / 2 + m - 1 - c]! d[c]!) ((a + b) / 2 + m - b) ((a + b) / 2) ((a + b) / 2 - ((a + b) / 2 + m - b)) ((a + b) / 2 + m - b) ((a + b) / 2) (Nat.le_refl _) (by omega) (Nat.le_refl _) (Nat.le_refl _) (.inl rfl) (.inl rfl)
  generalize bsF (fun c => !lt d[(a + b) / 2 + m - 1 - c]! d[c]!) ((a + b) / 2 - ((a + b) / 2 + m - b)) ((a + b) / 2 + m - b) ((a + b) / 2) = s at g ⊢
  obtain ⟨g1, g2, g3, g4⟩ := g
  refine ⟨by omega, by omega, by omega, by omega, ?_, ?_⟩
  ·rcases g3 with g3 | g3
   ·exact .inr (.inl (by omega))
   ·by_cases e : s = a
    ·exact .inl e
    ·rw [show (a + b) / 2 + m - 1 - (s - 1) = (a + b) / 2 + m - s by omega] at g3
     exact .inr (.inr (by simpa using g3))
  ·rcases g4 with g4 | g4
   ·exact .inr (.inl (by omega))
   ·rw [show (a + b) / 2 + m - 1 - s = (a + b) / 2 + m - s - 1 by omega] at g4
    exact .inr (.inr (by simpa using g4))
 ·rw [if_neg c]
  have g := bsF_spec (fun c => !lt d[(a + b) / 2 + m - 1 - c]! d[c]!) a m (m - a) a m (Nat.le_refl _) (by omega) (Nat.le_refl _) (Nat.le_refl _) (.inl rfl) (.inl rfl)
  generalize bsF (fun c => !lt d[(a + b) / 2 + m - 1 - c]! d[c]!) (m - a) a m = s at g ⊢
  obtain ⟨g1, g2, g3, g4⟩ := g
  refine ⟨by omega, by omega, by omega, by omega, ?_, ?_⟩
  ·rcases g3 with g3 | g3
   ·exact .inl g3
   ·by_cases e : s = a
    ·exact .inl e
    ·rw [show (a + b) / 2 + m - 1 - (s - 1) = (a + b) / 2 + m - s by omega] at g3
     exact .inr (.inr (by simpa using g3))
  ·rcases g4 with g4 | g4
   ·exact .inl g4
   ·rw [show (a + b) / 2 + m - 1 - s = (a + b) / 2 + m - s - 1 by omega] at g4
    exact .inr (.inr (by simpa using g4))
theorem symF_ok (hS : Go.Sort.SWO T) : ∀ (k : Nat) (d : Array α) (a m b : Nat), a < m → m < b → b ≤ d.size → b - a ≤ k → Go.Sort.SortedIn T a m d → Go.Sort.SortedIn T m b d → QQ lt T d a m b →
  Go.Sort.PermIn a b d (symF lt k d a m b) ∧ Go.Sort.SortedIn T a b (symF lt k d a m b) := by
 intro k
 induction k with
 | zero => intro d a m b h1 h2 h3 h4; omega
 | succ k ih =>
  intro d a m b h1 h2 h3 h4 hL hR hQ
  rw [symF]
  by_cases e1 : m - a = 1
  ·rw [if_pos e1]
   obtain rfl : m = a + 1 := by omega
   have g := bsF_spec (fun h => lt d[h]! d[a]!) (a + 1) b (b - (a + 1)) (a + 1) b (Nat.le_refl _) (by omega) (Nat.le_refl _) (Nat.le_refl _) (.inl rfl) (.inl rfl)
   generalize bsF (fun h => lt d[h]! d[a]!) (b - (a + 1)) (a + 1) b = t at g ⊢
   obtain ⟨g1, g2, g3, g4⟩ := g
   have w := shU_get d a (t - 1 - a) (by omega)
   rw [show a + (t - 1 - a) + 1 = t by omega] at w
   refine ⟨shU_perm d a a b (Nat.le_refl _) h3 _ (by omega), one_up hS w g1 g2 hR ?_ ?_⟩
   ·rcases g3 with g3 | g3
    ·exact .inl g3
    ·by_cases z : t = a + 1
     ·exact .inl z
     ·exact .inr ((hQ a (t - 1) (by omega) (by omega) (by omega) (by omega)).symm.trans g3)
   ·rcases g4 with g4 | g4
    ·exact .inl g4
    ·by_cases z : t = b
     ·exact .inl z
     ·exact .inr ((hQ a t (by omega) (by omega) (by omega) (by omega)).symm.trans g4)
  rw [if_neg e1]
  by_cases e2 : b - m = 1
  ·rw [if_pos e2]
   obtain rfl : b = m + 1 := by omega
   have g := bsF_spec (fun h => !lt d[m]! d[h]!) a m (m - a) a m (Nat.le_refl _) (by omega) (Nat.le_refl _) (Nat.le_refl _) (.inl rfl) (.inl rfl)
   generalize bsF (fun h => !lt d[m]! d[h]!) (m - a) a m = s at g ⊢
   obtain ⟨g1, g2, g3, g4⟩ := g
   have w := shD_get d m (by omega) (m - s) (by omega)
   rw [show m - (m - s) = s by omega] at w
   refine ⟨shD_perm d m a (m + 1) (by omega) h3 _ (by omega), one_down hS w g1 g2 hL ?_ ?_⟩
   ·rcases g3 with g3 | g3
    ·exact .inl g3
    ·by_cases z : s = a
     ·exact .inl z
     ·exact .inr ((hQ (s - 1) m (by omega) (by omega) (by omega) (by omega)).symm.trans (by simpa using g3))
   ·rcases g4 with g4 | g4
    ·exact .inl g4
    ·by_cases z : s = m
     ·exact .inl z
     ·exact .inr ((hQ s m (by omega) (by omega) (by omega) (by omega)).symm.trans (by simpa using g4))
  rw [if_neg e2]
  obtain ⟨g1, g2, g3, g4, g5, g6⟩ := symS_spec lt d a m b h1 h2
  generalize symS lt d a m b = s at g1 g2 g3 g4 g5 g6 ⊢
  obtain ⟨t, ht⟩ : ∃ t, (a + b) / 2 + m - s = t := ⟨_, rfl⟩
  obtain ⟨c, hc⟩ : ∃ c, (a + b) / 2 = c := ⟨_, rfl⟩
  have hcb : c < b ∧ a < c := by omega
  rw [ht] at g4 g5 g6 ⊢
  rw [hc] at g3 ht ⊢
  have htm : m ≤ t := by omega
  have hcs : s + (t - m) = c := by omega
  have hE := symRot_get d s m t g2 htm (by omega)
  have hEp := symRot_perm d s m t a b g1 g2 htm g4 h3
  have hEz := symRot_size d s m t
  generalize symRot d s m t = E at hE hEp hEz ⊢
  have x1 : ∀ k, k < s → E[k]! = d[k]! := fun k h => by rw [hE k, if_neg (by omega), if_neg (by omega)]
  have x2 : ∀ k, s ≤ k → k < c → E[k]! = d[k + (m - s)]! := fun k h h' => by rw [hE k, if_pos (by omega)]
  have x3 : ∀ k, c ≤ k → k < t → E[k]! = d[k - (t - m)]! := fun k h h' => by rw [hE k, if_neg (by omega), if_pos (by omega)]
  have x4 : ∀ k, t ≤ k → E[k]! = d[k]! := fun k h => by rw [hE k, if_neg (by omega), if_neg (by omega)]
  have gL := sorted_le hS hL
  have gR := sorted_le hS hR
  have cross : ∀ i j, a ≤ i → i < c → c ≤ j → j < b → T E[j]! E[i]! = false := by
   intro i j i1 i2 j1 j2
   by_cases k1 : i < s
   ·rw [x1 i k1]
    by_cases k2 : j < t
    ·rw [x3 j j1 k2]; exact gL _ _ (by omega) (by omega) (by omega)
    ·rw [x4 j (by omega)]
     rcases g5 with g5 | g5 | g5
     ·omega
     ·omega
     ·rw [hQ (s - 1) t (by omega) (by omega) (by omega) (by omega)] at g5
      exact swo_le hS _ _ _ (gL i (s - 1) (by omega) (by omega) (by omega)) (swo_le hS _ _ _ g5 (gR t j (by omega) (by omega) (by omega)))
   ·rw [x2 i (by omega) i2]
    by_cases k2 : j < t
    ·rw [x3 j j1 k2]
     rcases g6 with g6 | g6 | g6
     ·omega
     ·omega
     ·rw [hQ s (t - 1) (by omega) (by omega) (by omega) (by omega)] at g6
      exact swo_le hS _ _ _ (gR (i + (m - s)) (t - 1) (by omega) (by omega) (by omega)) (swo_le hS _ _ _ (hS.asymmA g6) (gL s (j - (t - m)) (by omega) (by omega) (by omega)))
    ·rw [x4 j (by omega)]; exact gR _ _ (by omega) (by omega) (by omega)
  unfold symG
  have F1 : Go.Sort.PermIn a c E (if a < s ∧ s < c then symF lt k E a s c else E) ∧ Go.Sort.SortedIn T a c (if a < s ∧ s < c then symF lt k E a s c else E) := by
   by_cases k1 : a < s ∧ s < c
   ·rw [if_pos k1]
    refine ih E a s c k1.1 k1.2 (by omega) (by omega) ?_ ?_ ?_
    ·intro i j i1 ij j1; rw [x1 i (by omega), x1 j j1]; exact gL _ _ (by omega) (by omega) (by omega)
    ·intro i j i1 ij j1; rw [x2 i i1 (by omega), x2 j (by omega) j1]; exact gR _ _ (by omega) (by omega) (by omega)
    ·intro i j i1 i2 j1 j2; rw [x1 i i2, x2 j j1 j2]; exact hQ _ _ (by omega) (by omega) (by omega) (by omega)
   ·rw [if_neg k1]
    refine ⟨Go.Sort.permIn_refl _ _ _, ?_⟩
    intro i j i1 ij j1
    by_cases k2 : s ≤ a
    ·rw [x2 i (by omega) (by omega), x2 j (by omega) (by omega)]; exact gR _ _ (by omega) (by omega) (by omega)
    ·rw [x1 i (by omega), x1 j (by omega)]; exact gL _ _ (by omega) (by omega) (by omega)
  generalize (if a < s ∧ s < c then symF lt k E a s c else E) = D1 at F1 ⊢
  obtain ⟨P1, S1⟩ := F1
  have y1 : ∀ k, c ≤ k → D1[k]! = E[k]! := fun k h => P1.2.1 k (.inr h)
  have F2 : Go.Sort.PermIn c b D1 (if c < t ∧ t < b then symF lt k D1 c t b else D1) ∧ Go.Sort.SortedIn T c b (if c < t ∧ t < b then symF lt k D1 c t b else D1) := by
   by_cases k1 : c < t ∧ t < b
   ·rw [if_pos k1]
    refine ih D1 c t b k1.1 k1.2 (by rw [P1.1]; omega) (by omega) ?_ ?_ ?_
    ·intro i j i1 ij j1; rw [y1 i i1, y1 j (by omega), x3 i i1 (by omega), x3 j (by omega) j1]; exact gL _ _ (by omega) (by omega) (by omega)
    ·intro i j i1 ij j1; rw [y1 i (by omega), y1 j (by omega), x4 i i1, x4 j (by omega)]; exact gR _ _ (by omega) (by omega) (by omega)
    ·intro i j i1 i2 j1 j2; rw [y1 i i1, y1 j (by omega), x3 i i1 i2, x4 j j1]; exact hQ _ _ (by omega) (by omega) (by omega) (by omega)
   ·rw [if_neg k1]
    refine ⟨Go.Sort.permIn_refl _ _ _, ?_⟩
    intro i j i1 ij j1
    rw [y1 i i1, y1 j (by omega)]
    by_cases k2 : t ≤ c
    ·rw [x4 i (by omega), x4 j (by omega)]; exact gR _ _ (by omega) (by omega) (by omega)
    ·rw [x3 i (by omega) (by omega), x3 j (by omega) (by omega)]; exact gL _ _ (by omega) (by omega) (by omega)
  generalize (if c < t ∧ t < b then symF lt k D1 c t b else D1) = D2 at F2 ⊢
  obtain ⟨P2, S2⟩ := F2
  have z1 : D1.size = d.size := by rw [P1.1, hEz]
  refine ⟨Go.Sort.permIn_trans _ _ _ _ _ hEp (Go.Sort.permIn_trans _ _ _ _ _ (Go.Sort.permIn_mono _ _ _ _ _ _ (Nat.le_refl _) (by omega) (by omega) P1) (Go.Sort.permIn_mono _ _ _ _ _ _ (by omega) (Nat.le_refl _) (by omega) P2)), ?_⟩
  intro i j i1 ij j1
  by_cases k1 : j < c
  ·rw [P2.2.1 i (.inl (by omega)), P2.2.1 j (.inl k1)]; exact S1 i j i1 ij k1
  ·by_cases k2 : i < c
   ·rw [P2.2.1 i (.inl k2)]
    refine Go.Sort.permIn_all D1 D2 c b (fun y => T y D1[i]! = false) (by omega) P2 (fun q q1 q2 => ?_) j (by omega) j1
    rw [y1 q q1]
    exact Go.Sort.permIn_all E D1 a c (fun x => T E[q]! x = false) (by omega) P1 (fun p p1 p2 => cross p q p1 p2 q1 q2) i i1 k2
   ·exact S2 i j (by omega) ij j1
end
section
variable {α : Type} [Inhabited α] {lt T : α → α → Bool}
theorem insInner_perm (lt : α → α → Bool) (a b : Nat) : ∀ (j : Nat) (d : Array α), j < b → b ≤ d.size → Go.Sort.PermIn a b d (Go.Sort.insInner lt a j d)
 | 0, d, _, _ => by rw [Go.Sort.insInner]; exact Go.Sort.permIn_refl _ _ _
 | j + 1, d, h, hb => by
  rw [Go.Sort.insInner]
  by_cases c : a ≤ j
  ·split
   ·exact Go.Sort.permIn_trans _ _ _ _ _ (Go.Sort.swp_permIn _ _ _ _ _ (by omega) (by omega) (by omega) (by omega) hb) (insInner_perm lt a b j _ (by omega) (by rw [Go.Sort.size_swp]; exact hb))
   ·exact Go.Sort.permIn_refl _ _ _
  ·rw [if_neg (by simp; omega)]
   exact Go.Sort.permIn_refl _ _ _
theorem insInner_same (B : α → α → Prop) (hB : ∀ x y, B x y → lt y x = T y x) (a : Nat) : ∀ (j : Nat) (d : Array α), j < d.size → (∀ p, a ≤ p → p < j → B d[p]! d[j]!) → Go.Sort.insInner lt a j d = Go.Sort.insInner T a j d
 | 0, d, _, _ => by rw [Go.Sort.insInner, Go.Sort.insInner]
 | j + 1, d, h, hb => by
  rw [Go.Sort.insInner, Go.Sort.insInner]
  by_cases c : a ≤ j
  ·rw [hB _ _ (hb j c (by omega))]
   have := insInner_same B hB a j (Go.Sort.swp d (j + 1) j) (by rw [Go.Sort.size_swp]; omega) (fun p p1 p2 => by
    rw [Go.Sort.swp_other _ _ _ _ (by omega) (by omega), Go.Sort.swp_right _ _ _ (by omega)]; exact hb p p1 (by omega))
   rw [this]
  ·rw [if_neg (by simp; omega), if_neg (by simp; omega)]
theorem insOuter_same (B : α → α → Prop) (hB : ∀ x y, B x y → lt y x = T y x) (a b : Nat) : ∀ (m i : Nat) (d : Array α), b - i = m → a ≤ i → b ≤ d.size → (∀ p q, a ≤ p → p < q → i ≤ q → q < b → B d[p]! d[q]!) → Go.Sort.insOuter lt a b i d = Go.Sort.insOuter T a b i d := by
 intro m
 induction m with
 | zero => intro i d h h1 h2 h3; rw [Go.Proofs.insOuter_stop _ _ _ _ _ (by omega), Go.Proofs.insOuter_stop _ _ _ _ _ (by omega)]
 | succ m ih =>
  intro i d h h1 h2 h3
  have hib : i < b := by omega
  rw [Go.Proofs.insOuter_go _ _ _ _ _ hib, Go.Proofs.insOuter_go _ _ _ _ _ hib, insInner_same B hB a i d (by omega) (fun p p1 p2 => h3 p i p1 p2 (Nat.le_refl _) (by omega))]
  have hp := insInner_perm T a (i + 1) i d (by omega) (by omega)
  refine ih _ _ (by omega) (by omega) (by rw [hp.1]; exact h2) (fun p q p1 pq q1 q2 => ?_)
  rw [hp.2.1 q (.inr (by omega))]
  by_cases k : p < i + 1
  ·exact Go.Sort.permIn_all _ _ a (i + 1) (fun x => B x d[q]!) (by omega) hp (fun r r1 r2 => h3 r q r1 (by omega) (by omega) q2) p p1 k
  ·rw [hp.2.1 p (.inr (by omega))]; exact h3 p q p1 pq (by omega) q2
theorem ins_ok (hS : Go.Sort.SWO T) (B : α → α → Prop) (hB : ∀ x y, B x y → lt y x = T y x) (a b : Nat) (d : Array α) (h : a ≤ b) (hb : b ≤ d.size) (h3 : ∀ p q, a ≤ p → p < q → q < b → B d[p]! d[q]!) :
  Go.Sort.PermIn a b d (Go.Sort.insertionSort lt d a b) ∧ Go.Sort.SortedIn T a b (Go.Sort.insertionSort lt d a b) := by
 have e : Go.Sort.insertionSort lt d a b = Go.Sort.insertionSort T d a b := by
  unfold Go.Sort.insertionSort
  exact insOuter_same B hB a b _ _ d rfl (by omega) hb (fun p q p1 pq _ q2 => h3 p q p1 pq q2)
 rw [e]
 exact Go.Sort.insertionSort_holds hS d a b h hb
def ordA (lt : α → α → Bool) (n : Nat) (d : Array α) : Array α :=
 if n < 20 then Go.Sort.insertionSort lt d 0 n
 else if n = 20 then Go.Sort.insertionSort lt (Go.Sort.insertionSort lt d 0 20) 20 n
 else if n < 40 then symF lt (n - 0) (Go.Sort.insertionSort lt (Go.Sort.insertionSort lt d 0 20) 20 n) 0 20 n
 else if n = 40 then symF lt (40 - 0) (Go.Sort.insertionSort lt (Go.Sort.insertionSort lt (Go.Sort.insertionSort lt d 0 20) 20 40) 40 n) 0 20 40
 else symF lt (n - 0) (symF lt (40 - 0) (Go.Sort.insertionSort lt (Go.Sort.insertionSort lt (Go.Sort.insertionSort lt d 0 20) 20 40) 40 n) 0 20 40) 0 40 n
theorem step_ins (hS : Go.Sort.SWO T) (B : α → α → Prop) (hB : ∀ x y, B x y → lt y x = T y x) {n : Nat} {d0 d : Array α} (a b : Nat) (h : a ≤ b) (hbn : b ≤ n) (hn : d0.size = n) (h0 : ∀ p q, p < q → q < n → B d0[p]! d0[q]!)
  (hz : d.size = n) (hd : ∀ k, a ≤ k → d[k]! = d0[k]!) : Go.Sort.PermIn a b d (Go.Sort.insertionSort lt d a b) ∧ Go.Sort.SortedIn T a b (Go.Sort.insertionSort lt d a b) :=
 ins_ok hS B hB a b d h (by omega) (fun p q p1 pq q1 => by rw [hd p p1, hd q (by omega)]; exact h0 p q pq (by omega))
theorem qq_runs (B : α → α → Prop) (hB : ∀ x y, B x y → lt y x = T y x) {n : Nat} {d0 d : Array α} (m b : Nat) (hbn : b ≤ n) (hm : m ≤ b) (hn : d0.size = n) (h0 : ∀ p q, p < q → q < n → B d0[p]! d0[q]!)
  {e : Array α} (h1 : Go.Sort.PermIn 0 m d0 e) (h2 : Go.Sort.PermIn m b e d) : QQ lt T d 0 m b := by
 intro i j i1 i2 j1 j2
 refine hB _ _ ?_
 rw [h2.2.1 i (.inl i2)]
 refine Go.Sort.permIn_all e d m b (fun y => B e[i]! y) (by rw [h1.1]; omega) h2 (fun q q1 q2 => ?_) j j1 j2
 rw [h1.2.1 q (.inr q1)]
 exact Go.Sort.permIn_all d0 e 0 m (fun x => B x d0[q]!) (by omega) h1 (fun p p1 p2 => h0 p q (by omega) (by omega)) i i1 i2
theorem sorted_keep {a b lo hi : Nat} {d e : Array α} (h : Go.Sort.SortedIn T a b d) (hp : Go.Sort.PermIn lo hi d e) (ho : b ≤ lo ∨ hi ≤ a) : Go.Sort.SortedIn T a b e := by
 intro i j i1 ij j1
 rw [hp.2.1 i (by omega), hp.2.1 j (by omega)]
 exact h i j i1 ij j1
theorem ordA_ok (hS : Go.Sort.SWO T) (B : α → α → Prop) (hB : ∀ x y, B x y → lt y x = T y x) (n : Nat) (d : Array α) (hn : d.size = n) (hm : n ≤ 59) (h0 : ∀ p q, p < q → q < n → B d[p]! d[q]!) :
  Go.Sort.PermIn 0 n d (ordA lt n d) ∧ Go.Sort.SortedIn T 0 n (ordA lt n d) := by
 unfold ordA
 have R := Go.Sort.permIn_refl d 0 0
 by_cases c1 : n < 20
 ·rw [if_pos c1]
  exact step_ins hS B hB 0 n (Nat.zero_le _) (Nat.le_refl _) hn h0 hn (fun _ _ => rfl)
 rw [if_neg c1]
 obtain ⟨P1, S1⟩ := step_ins (d := d) hS B hB 0 20 (by omega) (by omega) hn h0 hn (fun _ _ => rfl)
 generalize Go.Sort.insertionSort lt d 0 20 = d1 at P1 S1 ⊢
 have z1 : d1.size = n := by rw [P1.1, hn]
 have M1 := Go.Sort.permIn_mono d d1 0 20 0 n (Nat.le_refl _) (by omega) (by omega) P1
 by_cases c2 : n = 20
 ·rw [if_pos c2]
  obtain ⟨P2, S2⟩ := step_ins hS B hB 20 n (by omega) (Nat.le_refl _) hn h0 z1 (fun k h => P1.2.1 k (.inr h))
  refine ⟨Go.Sort.permIn_trans _ _ _ _ _ M1 (Go.Sort.permIn_mono _ _ _ _ _ _ (by omega) (Nat.le_refl _) (by omega) P2), ?_⟩
  rw [c2] at P2 ⊢
  exact sorted_keep S1 P2 (.inl (Nat.le_refl _))
 rw [if_neg c2]
 by_cases c3 : n < 40
 ·rw [if_pos c3]
  obtain ⟨P2, S2⟩ := step_ins hS B hB 20 n (by omega) (Nat.le_refl _) hn h0 z1 (fun k h => P1.2.1 k (.inr h))
  generalize Go.Sort.insertionSort lt d1 20 n = d2 at P2 S2 ⊢
  have z2 : d2.size = n := by rw [P2.1, z1]
  obtain ⟨P3, S3⟩ := symF_ok (lt := lt) hS (n - 0) d2 0 20 n (by omega) (by omega) (by omega) (by omega) (sorted_keep S1 P2 (.inl (Nat.le_refl _))) S2 (qq_runs B hB 20 n (Nat.le_refl _) (by omega) hn h0 P1 P2)
  exact ⟨Go.Sort.permIn_trans _ _ _ _ _ M1 (Go.Sort.permIn_trans _ _ _ _ _ (Go.Sort.permIn_mono _ _ _ _ _ _ (by omega) (Nat.le_refl _) (by omega) P2) P3), S3⟩
 rw [if_neg c3]
 obtain ⟨P2, S2⟩ := step_ins hS B hB 20 40 (by omega) (by omega) hn h0 z1 (fun k h => P1.2.1 k (.inr h))
 generalize Go.Sort.insertionSort lt d1 20 40 = d2 at P2 S2 ⊢
 have z2 : d2.size = n := by rw [P2.1, z1]
 have M2 := Go.Sort.permIn_mono d1 d2 20 40 0 40 (by omega) (by omega) (by omega) P2
 have N1 := Go.Sort.permIn_mono d d1 0 20 0 40 (by omega) (by omega) (by omega) P1
 have N2 := Go.Sort.permIn_trans _ _ _ _ _ N1 M2
 obtain ⟨P3, S3⟩ := step_ins hS B hB 40 n (by omega) (Nat.le_refl _) hn h0 z2 (fun k h => N2.2.1 k (.inr h))
 generalize Go.Sort.insertionSort lt d2 40 n = d3 at P3 S3 ⊢
 have z3 : d3.size = n := by rw [P3.1, z2]
 have Q3 : QQ lt T d3 0 20 40 := by
  intro i j i1 i2 j1 j2
  rw [P3.2.1 i (.inl (by omega)), P3.2.1 j (.inl (by omega))]
  exact qq_runs B hB 20 40 (by omega) (by omega) hn h0 P1 P2 i j i1 i2 j1 j2
 obtain ⟨P4, S4⟩ := symF_ok (lt := lt) hS (40 - 0) d3 0 20 40 (by omega) (by omega) (by omega) (by omega) (sorted_keep (sorted_keep S1 P2 (.inl (Nat.le_refl _))) P3 (.inl (by omega))) (sorted_keep S2 P3 (.inl (Nat.le_refl _))) Q3
 generalize symF lt (40 - 0) d3 0 20 40 = d4 at P4 S4 ⊢
 have z4 : d4.size = n := by rw [P4.1, z3]
 have M4 := Go.Sort.permIn_mono d3 d4 0 40 0 n (by omega) (by omega) (by omega) P4
 have M3 := Go.Sort.permIn_mono d2 d3 40 n 0 n (by omega) (by omega) (by omega) P3
 have MM := Go.Sort.permIn_trans _ _ _ _ _ M1 (Go.Sort.permIn_trans _ _ _ _ _ (Go.Sort.permIn_mono d1 d2 20 40 0 n (by omega) (by omega) (by omega) P2) (Go.Sort.permIn_trans _ _ _ _ _ M3 M4))
 by_cases c4 : n = 40
 ·rw [if_pos c4]
  refine ⟨MM, ?_⟩
  rw [c4]; exact S4
 ·rw [if_neg c4]
  have Q4 : QQ lt T d4 0 40 n := by
   intro i j i1 i2 j1 j2
   rw [P4.2.1 j (.inr j1)]
   refine Go.Sort.permIn_all d3 d4 0 40 (fun x => lt d3[j]! x = T d3[j]! x) (by omega) P4 (fun p p1 p2 => ?_) i i1 i2
   exact qq_runs B hB 40 n (Nat.le_refl _) (by omega) hn h0 N2 P3 p j p1 p2 j1 j2
  obtain ⟨P5, S5⟩ := symF_ok (lt := lt) hS (n - 0) d4 0 40 n (by omega) (by omega) (by omega) (by omega) S4 (sorted_keep S3 P4 (.inr (Nat.le_refl _))) Q4
  exact ⟨Go.Sort.permIn_trans _ _ _ _ _ MM P5, S5⟩
end
set_option maxHeartbeats 4000000 in
set_option maxRecDepth 100000 in
theorem swapR_calls {α : Type} [Inhabited α] (enc : α → Value) (blk off cap a b n : Nat) (d0 d : Array α) (w0 w : World) (fv : Value) (R : Row1 enc w0 blk off d0) (hs : d0.size = d.size) (S : SW enc w0 blk off d w) (ha : a + n ≤ d.size) (hb : b + n ≤ d.size) (hsz : d.size < 4611686018427387904) :
  Calls Tryz.prog 145 #[.slice (some ⟨blk, off, none⟩) d.size cap, .int .i64 a, .int .i64 b, .int .i64 n, fv] w fun e w' => e = .returned (.tuple #[]) ∧ SW enc w0 blk off (swapR d a b n) w' := by
 have mixed : Tryz.prog.follows Departure.mixedOrders = true := Tryz.sortInsL.mixed
 have hcl0 := R.hO.cells
 simp only [Value.cells] at hcl0
 have hst := R.hO.store Tryz.prog
 have S0 : Aside0 (SW enc w0 blk off d w) := ⟨S⟩
 clear S
 go_enter Tryz.func145, Tryz.ntmps145
 go_wp2
 go_loopg [10] n (fun g1 vi wr => ∃ (i : Nat), vi = .int .i64 (i : Int) ∧ i ≤ n ∧ g1 = n - i ∧ Aside0 (SW enc w0 blk off (swapR d a b i) wr))
 case atStart => exact ⟨0, rfl, Nat.zero_le _, rfl, S0⟩
 case round =>
  clear S0
  obtain ⟨i, rfl, hi, rfl, S1⟩ := hrel
  by_cases hlt : i < n
  ·have hltz : (i : Int) < (n : Int) := by omega
   have hsz1 := swapR_size d a b i
   obtain ⟨dk, hdk⟩ : ∃ dk, swapR d a b i = dk := ⟨_, rfl⟩
   rw [hdk] at S1 hsz1
   obtain ⟨iN, hiN⟩ : ∃ q, q = a + i := ⟨_, rfl⟩
   obtain ⟨jN, hjN⟩ : ∃ q, q = b + i := ⟨_, rfl⟩
   have ea : ((a : Int) + (i : Int)).toNat = iN := by omega
   have pa : (0 : Int) ≤ (a : Int) + (i : Int) := by omega
   have ba : (a : Int) + (i : Int) < (d.size : Int) := by omega
   have ra : IntKind.i64.wrap ((a : Int) + (i : Int)) = (a : Int) + (i : Int) := by rw [IntKind.wrap_i64]; omega
   have ec : ((b : Int) + (i : Int)).toNat = jN := by omega
   have pc : (0 : Int) ≤ (b : Int) + (i : Int) := by omega
   have bc : (b : Int) + (i : Int) < (d.size : Int) := by omega
   have rc : IntKind.i64.wrap ((b : Int) + (i : Int)) = (b : Int) + (i : Int) := by rw [IntKind.wrap_i64]; omega
   have hwi : IntKind.i64.wrap ((i : Int) + 1) = ((i + 1 : Nat) : Int) := by rw [IntKind.wrap_i64]; omega
   obtain ⟨x, hx⟩ : ∃ x, x = dk[a + i]! := ⟨_, rfl⟩
   obtain ⟨y, hy⟩ : ∃ x, x = dk[b + i]! := ⟨_, rfl⟩
   have S3 : Aside0 (SW enc w0 blk off (Go.Sort.swp dk (a + i) (b + i)) ((wr.setCell ⟨blk, off + iN, none⟩ (enc y)).setCell ⟨blk, off + jN, none⟩ (enc x)).drew) := ⟨by rw [hiN, hjN, hx, hy]; exact S1.out.swapped R (a + i) (b + i) (by omega) (by omega)⟩
   have c1a := S1.out.c1 R (by omega) (a + i) (by omega)
   have c1b := S1.out.c1 R (by omega) (b + i) (by omega)
   have f1a := S1.out.f1 R (by omega) (a + i) (by omega)
   have f1b := S1.out.f1 R (by omega) (b + i) (by omega)
   obtain ⟨u, c1c⟩ := S1.out.c2 R (by omega) (a + i) (b + i) (by omega) (by omega) (enc y)
   rw [← hjN, ← hiN] at c1c
   rw [← hx, ← hiN] at c1a
   rw [← hy, ← hjN] at c1b
   rw [← hiN] at f1a
   rw [← hjN] at f1b
   clear S1 hx hy hiN hjN
   go_wp2_with fail
   go_big_region_o
   clear c1a c1b c1c f1a f1b
   generalize ((wr.setCell ⟨blk, off + iN, none⟩ (enc y)).setCell ⟨blk, off + jN, none⟩ (enc x)).drew = w3 at S3 ⊢
   clear ea ec
   have HN : Aside0 (Go.Sort.swp dk (a + i) (b + i) = swapR d a b (i + 1)) := ⟨by rw [swapR, hdk]⟩
   clear hdk
   go_wp2
   go_roundg (n - (i + 1))
   case measure => omega
   case rel => exact ⟨i + 1, rfl, by omega, rfl, ⟨by rw [← HN.out]; exact S3.out⟩⟩
  ·have hltz : ¬ (i : Int) < (n : Int) := by omega
   obtain rfl : i = n := by omega
   go_wp2
   go_end0
   exact ⟨rfl, S1.out⟩
set_option maxHeartbeats 4000000 in
set_option maxRecDepth 100000 in
theorem rot_calls {α : Type} [Inhabited α] (enc : α → Value) (blk off cap a m b : Nat) (d0 d : Array α) (w0 w : World) (fv : Value) (R : Row1 enc w0 blk off d0) (hs : d0.size = d.size) (S : SW enc w0 blk off d w) (ha : a < m) (hb : m < b) (hbs : b ≤ d.size) (hsz : d.size < 4611686018427387904) :
  Calls Tryz.prog 138 #[.slice (some ⟨blk, off, none⟩) d.size cap, .int .i64 a, .int .i64 m, .int .i64 b, fv] w fun e w' => e = .returned (.tuple #[]) ∧ SW enc w0 blk off (rotF m (b - a) d (m - a) (b - m)) w' := by
 have HS : ∀ (dk : Array α) (W : World) (x y n : Nat), dk.size = d.size → SW enc w0 blk off dk W → x + n ≤ d.size → y + n ≤ d.size → Calls Tryz.prog 145 #[.slice (some ⟨blk, off, none⟩) d.size cap, .int .i64 x, .int .i64 y, .int .i64 n, fv] W fun e w' => e = .returned (.tuple #[]) ∧ SW enc w0 blk off (swapR dk x y n) w' := fun dk W x y n h1 h2 h3 h4 => by
  have := swapR_calls enc blk off cap x y n d0 dk w0 W fv R (by omega) h2 (by omega) (by omega) (by omega)
  rw [h1] at this
  exact this
 have HH := akS HS
 have S0 : Aside0 (SW enc w0 blk off d w) := ⟨S⟩
 have r1 : IntKind.i64.wrap ((m : Int) - (a : Int)) = ((m - a : Nat) : Int) := by rw [IntKind.wrap_i64]; omega
 have r2 : IntKind.i64.wrap ((b : Int) - (m : Int)) = ((b - m : Nat) : Int) := by rw [IntKind.wrap_i64]; omega
 clear S HS R hs
 go_enter Tryz.func138, Tryz.ntmps138
 go_wp2
 go_loopg [10, 11] (b - a) (fun gh vi vj wr => ∃ (i j F : Nat) (dk : Array α), vi = .int .i64 (i : Int) ∧ vj = .int .i64 (j : Int) ∧ 0 < i ∧ 0 < j ∧ i ≤ m ∧ m + j ≤ d.size ∧ i + j ≤ gh ∧ i + j ≤ F ∧ dk.size = d.size ∧ Aside0 (SW enc w0 blk off dk wr) ∧ Aside0 (rotF m F dk i j = rotF m (b - a) d (m - a) (b - m)))
 case atStart => exact ⟨m - a, b - m, b - a, d, rfl, rfl, by omega, by omega, by omega, by omega, by omega, by omega, rfl, S0, ⟨rfl⟩⟩
 case round =>
  clear S0 r1 r2
  obtain ⟨i, j, F, dk, rfl, rfl, hi, hj, him, hjm, hg, hF, hdk, S1, HF⟩ := hrel
  obtain ⟨F, rfl⟩ : ∃ k, F = k + 1 := ⟨F - 1, by omega⟩
  have q1 : IntKind.i64.wrap ((m : Int) - (i : Int)) = ((m - i : Nat) : Int) := by rw [IntKind.wrap_i64]; omega
  by_cases hij : i = j
  ·subst hij
   have HC := akS (HH.out dk wr (m - i) m i hdk S1.out (by omega) (by omega))
   have HN : Aside0 (swapR dk (m - i) m i = rotF m (b - a) d (m - a) (b - m)) := ⟨by rw [← HF.out, rotF, if_pos rfl]⟩
   have z : ((i : Int) != (i : Int)) = false := by simp
   clear S1 HF HH
   go_wp2_with (first
    | (go_at_call 145; (with_reducible refine HC.out.mono ?_); rintro e w3 ⟨rfl, hs3⟩; have HS3 := akS hs3; clear hs3))
   go_end0
   exact ⟨rfl, by rw [← HN.out]; exact HS3.out⟩
  ·have z : ((i : Int) != (j : Int)) = true := by simpa using (fun h => hij (by omega))
   by_cases hlt : j < i
   ·have hlz : (i : Int) > (j : Int) := by omega
    have HC := akS (HH.out dk wr (m - i) m j hdk S1.out (by omega) (by omega))
    have HN : Aside0 (rotF m F (swapR dk (m - i) m j) (i - j) j = rotF m (b - a) d (m - a) (b - m)) := ⟨by rw [← HF.out, rotF, if_neg hij, if_pos hlt]⟩
    have q2 : IntKind.i64.wrap ((i : Int) - (j : Int)) = ((i - j : Nat) : Int) := by rw [IntKind.wrap_i64]; omega
    have hsz3 := swapR_size dk (m - i) m j
    clear S1 HF
    go_wp2_with (first
     | (go_at_call 145; (with_reducible refine HC.out.mono ?_); rintro e w3 ⟨rfl, hs3⟩; have HS3 := akS hs3; clear hs3))
    go_roundg (i - j + j)
    case measure => omega
    case rel => exact ⟨i - j, j, F, _, rfl, rfl, by omega, by omega, by omega, by omega, by omega, by omega, by omega, HS3, HN⟩
   ·have hlz : ¬ (i : Int) > (j : Int) := by omega
    have HC := akS (HH.out dk wr (m - i) (m + j - i) i hdk S1.out (by omega) (by omega))
    have HN : Aside0 (rotF m F (swapR dk (m - i) (m + j - i) i) i (j - i) = rotF m (b - a) d (m - a) (b - m)) := ⟨by rw [← HF.out, rotF, if_neg hij, if_neg hlt]⟩
    have q2 : IntKind.i64.wrap ((j : Int) - (i : Int)) = ((j - i : Nat) : Int) := by rw [IntKind.wrap_i64]; omega
    have q3 : IntKind.i64.wrap ((m : Int) + (j : Int)) = (m : Int) + (j : Int) := by rw [IntKind.wrap_i64]; omega
    have q4 : IntKind.i64.wrap ((m : Int) + (j : Int) - (i : Int)) = ((m + j - i : Nat) : Int) := by rw [IntKind.wrap_i64]; omega
    have hsz3 := swapR_size dk (m - i) (m + j - i) i
    clear S1 HF
    go_wp2_with (first
     | (go_at_call 145; (with_reducible refine HC.out.mono ?_); rintro e w3 ⟨rfl, hs3⟩; have HS3 := akS hs3; clear hs3))
    go_roundg (i + (j - i))
    case measure => omega
    case rel => exact ⟨i, j - i, F, _, rfl, rfl, by omega, by omega, by omega, by omega, by omega, by omega, by omega, HS3, HN⟩
set_option maxHeartbeats 16000000 in
set_option maxRecDepth 1000000 in
theorem sym1_calls {α : Type} [Inhabited α] (enc : α → Value) (cf : α → α → Int) (g : Nat) (cb : Array Value) (blk off cap a m b : Nat) (d0 d : Array α) (w0 w : World)
  (eg : ∀ args w, (callFunc g args).run Tryz.prog w = .ok (.enter g args) w) (hcmp : CmpLays1 Tryz.prog g cb enc cf blk off d0.size w0) (R : Row1 enc w0 blk off d0)
  (hs : d0.size = d.size) (S : SW enc w0 blk off d w) (ham : a < m) (hmb : m < b) (hb : b ≤ d.size) (hsz : d.size < 4611686018427387904) (h1 : m - a = 1) :
  Calls Tryz.prog 124 #[.slice (some ⟨blk, off, none⟩) d.size cap, .int .i64 a, .int .i64 m, .int .i64 b, .func (.func g) #[] cb] w fun e w' => e = .returned (.tuple #[]) ∧ SW enc w0 blk off (shU d a (bsF (fun h => ltOf cf d[h]! d[a]!) (b - m) m b - 1 - a)) w' := by
 have mixed : Tryz.prog.follows Departure.mixedOrders = true := Tryz.sortInsL.mixed
 have hcl0 := R.hO.cells
 simp only [Value.cells] at hcl0
 have hst := R.hO.store Tryz.prog
 have HC := akS hcmp
 have S0 := akS S
 clear S hcmp
 have r1 : IntKind.i64.wrap ((m : Int) - (a : Int)) = 1 := by rw [IntKind.wrap_i64]; omega
 go_enter Tryz.func124, Tryz.ntmps124
 go_wp2
 go_loopg [10, 11] (b - m) (fun gh vi vj wr => ∃ (i j F : Nat), vi = .int .i64 (i : Int) ∧ vj = .int .i64 (j : Int) ∧ m ≤ i ∧ i ≤ j ∧ j ≤ b ∧ j - i ≤ gh ∧ j - i ≤ F ∧ Aside0 (SW enc w0 blk off d wr) ∧ Aside0 (bsF (fun h => ltOf cf d[h]! d[a]!) F i j = bsF (fun h => ltOf cf d[h]! d[a]!) (b - m) m b))
 case atStart => exact ⟨m, b, b - m, rfl, rfl, by omega, by omega, by omega, by omega, by omega, S0, ⟨rfl⟩⟩
 case round =>
  clear S0 r1
  obtain ⟨i, j, F, rfl, rfl, hi, hij, hj, hg, hF, S1, HF⟩ := hrel
  by_cases hlt : i < j
  ·obtain ⟨F, rfl⟩ : ∃ k, F = k + 1 := ⟨F - 1, by omega⟩
   have hltz : (i : Int) < (j : Int) := by omega
   cases hlv : ltOf cf d[(i + j) / 2]! d[a]! with
   | true =>
    have HN : Aside0 (bsF (fun h => ltOf cf d[h]! d[a]!) F ((i + j) / 2 + 1) j = bsF (fun h => ltOf cf d[h]! d[a]!) (b - m) m b) := ⟨by rw [← HF.out, bsF, if_pos hlt, if_pos hlv]⟩
    clear HF
    obtain ⟨iN1, hiN1⟩ : ∃ q, q = (i + j) / 2 := ⟨_, rfl⟩
    obtain ⟨jN1, hjN1⟩ : ∃ q, q = a := ⟨_, rfl⟩
    have ea1 : (((i : Int) + (j : Int)) / 2).toNat = iN1 := by omega
    have pa1 : (0 : Int) ≤ ((i : Int) + (j : Int)) / 2 := by omega
    have ba1 : ((i : Int) + (j : Int)) / 2 < (d.size : Int) := by omega
    have ec1 : ((a : Int)).toNat = jN1 := by omega
    have pc1 : (0 : Int) ≤ (a : Int) := by omega
    have bc1 : (a : Int) < (d.size : Int) := by omega
    obtain ⟨x1, hx1⟩ : ∃ x, x = d[(i + j) / 2]! := ⟨_, rfl⟩
    obtain ⟨y1, hy1⟩ : ∃ x, x = d[a]! := ⟨_, rfl⟩
    have l1a := S1.out.cl R (by omega) ((i + j) / 2) (by omega)
    have l1b := S1.out.cl R (by omega) (a) (by omega)
    rw [← hx1, ← hiN1] at l1a
    rw [← hy1, ← hjN1] at l1b
    have hc1 := S1.out.cmp HC.out (by omega) x1 y1
    have hv1 : cf x1 y1 < 0 := by rw [hx1, hy1]; exact of_decide_eq_true hlv
    have hd1 : decide (cf x1 y1 < 0) = true := decide_eq_true hv1
    clear hx1 hy1 hiN1 hjN1
    go_wp2_with fail
    go_quiet_grown (first | (go_at_fn g; refine Calls.grown_of (hc1 _ _)))
    have S2 := akS (S1.out.grown nq osq)
    clear l1a l1b hc1 S1
    generalize Go.Sort.grow (wr.drewN nq) osq = w2 at S2 ⊢
    clear nq osq
    clear ea1 ec1
    go_wp2
    go_roundg (j - ((i + j) / 2 + 1))
    case measure => omega
    case rel => exact ⟨(i + j) / 2 + 1, j, F, by rw [show ((i : Int) + (j : Int)) / 2 + 1 = (((i + j) / 2 + 1 : Nat) : Int) by omega], rfl, by omega, by omega, hj, Nat.le_refl _, by omega, S2, HN⟩
   | false =>
    have HN : Aside0 (bsF (fun h => ltOf cf d[h]! d[a]!) F i ((i + j) / 2) = bsF (fun h => ltOf cf d[h]! d[a]!) (b - m) m b) := ⟨by rw [← HF.out, bsF, if_pos hlt, if_neg (by rw [hlv]; decide)]⟩
    clear HF
    obtain ⟨iN2, hiN2⟩ : ∃ q, q = (i + j) / 2 := ⟨_, rfl⟩
    obtain ⟨jN2, hjN2⟩ : ∃ q, q = a := ⟨_, rfl⟩
    have ea2 : (((i : Int) + (j : Int)) / 2).toNat = iN2 := by omega
    have pa2 : (0 : Int) ≤ ((i : Int) + (j : Int)) / 2 := by omega
    have ba2 : ((i : Int) + (j : Int)) / 2 < (d.size : Int) := by omega
    have ec2 : ((a : Int)).toNat = jN2 := by omega
    have pc2 : (0 : Int) ≤ (a : Int) := by omega
    have bc2 : (a : Int) < (d.size : Int) := by omega
    obtain ⟨x2, hx2⟩ : ∃ x, x = d[(i + j) / 2]! := ⟨_, rfl⟩
    obtain ⟨y2, hy2⟩ : ∃ x, x = d[a]! := ⟨_, rfl⟩
    have l2a := S1.out.cl R (by omega) ((i + j) / 2) (by omega)
    have l2b := S1.out.cl R (by omega) (a) (by omega)
    rw [← hx2, ← hiN2] at l2a
    rw [← hy2, ← hjN2] at l2b
    have hc2 := S1.out.cmp HC.out (by omega) x2 y2
    have hv2 : ¬ cf x2 y2 < 0 := by rw [hx2, hy2]; exact of_decide_eq_false hlv
    have hd2 : decide (cf x2 y2 < 0) = false := decide_eq_false hv2
    clear hx2 hy2 hiN2 hjN2
    go_wp2_with fail
    go_quiet_grown (first | (go_at_fn g; refine Calls.grown_of (hc2 _ _)))
    have S2 := akS (S1.out.grown nq osq)
    clear l2a l2b hc2 S1
    generalize Go.Sort.grow (wr.drewN nq) osq = w2 at S2 ⊢
    clear nq osq
    clear ea2 ec2
    go_wp2
    go_roundg ((i + j) / 2 - i)
    case measure => omega
    case rel => exact ⟨i, (i + j) / 2, F, rfl, by rw [show ((i : Int) + (j : Int)) / 2 = (((i + j) / 2 : Nat) : Int) by omega], hi, by omega, by omega, Nat.le_refl _, by omega, S2, HN⟩
  ·have hltz : ¬ (i : Int) < (j : Int) := by omega
   have HN : Aside0 (i = bsF (fun h => ltOf cf d[h]! d[a]!) (b - m) m b) := ⟨by rw [← HF.out]; cases F with | zero => rfl | succ k => rw [bsF, if_neg hlt]⟩
   clear HF
   have r2 : IntKind.i64.wrap ((i : Int) - 1) = ((i - 1 : Nat) : Int) := by rw [IntKind.wrap_i64]; omega
   go_wp2
   go_loopg [13] (i - 1 - a) (fun gh vk wr => ∃ (k : Nat), vk = .int .i64 (k : Int) ∧ a ≤ k ∧ k ≤ i - 1 ∧ i - 1 - k ≤ gh ∧ Aside0 (SW enc w0 blk off (shU d a (k - a)) wr))
   case atStart => exact ⟨a, rfl, Nat.le_refl _, by omega, Nat.le_refl _, by rw [Nat.sub_self]; exact S1⟩
   case round =>
    clear S1
    obtain ⟨k, rfl, hak, hki, hg2, S1⟩ := hrel
    by_cases hlk : k < i - 1
    ·have hlkz : (k : Int) < ((i - 1 : Nat) : Int) := by omega
     have hlkz2 : (k : Int) < (i : Int) - 1 := by omega
     have hz := shU_size d a (k - a)
     have HN2 : Aside0 (Go.Sort.swp (shU d a (k - a)) k (k + 1) = shU d a (k + 1 - a)) := ⟨by rw [show k + 1 - a = (k - a) + 1 by omega, shU, show a + (k - a) = k by omega]⟩
     generalize shU d a (k - a) = dk at S1 hz HN2
     obtain ⟨iN3, hiN3⟩ : ∃ q, q = k := ⟨_, rfl⟩
     obtain ⟨jN3, hjN3⟩ : ∃ q, q = k + 1 := ⟨_, rfl⟩
     have ea3 : ((k : Int)).toNat = iN3 := by omega
     have pa3 : (0 : Int) ≤ (k : Int) := by omega
     have ba3 : (k : Int) < (d.size : Int) := by omega
     have ra3 : IntKind.i64.wrap ((k : Int)) = (k : Int) := by rw [IntKind.wrap_i64]; omega
     have ec3 : ((k : Int) + 1).toNat = jN3 := by omega
     have pc3 : (0 : Int) ≤ (k : Int) + 1 := by omega
     have bc3 : (k : Int) + 1 < (d.size : Int) := by omega
     have rc3 : IntKind.i64.wrap ((k : Int) + 1) = (k : Int) + 1 := by rw [IntKind.wrap_i64]; omega
     obtain ⟨x3, hx3⟩ : ∃ x, x = dk[k]! := ⟨_, rfl⟩
     obtain ⟨y3, hy3⟩ : ∃ x, x = dk[k + 1]! := ⟨_, rfl⟩
     have S3 : Aside0 (SW enc w0 blk off (Go.Sort.swp dk (k) (k + 1)) ((wr.setCell ⟨blk, off + iN3, none⟩ (enc y3)).setCell ⟨blk, off + jN3, none⟩ (enc x3)).drew) := ⟨by rw [hiN3, hjN3, hx3, hy3]; exact S1.out.swapped R (k) (k + 1) (by omega) (by omega)⟩
     have c3a := S1.out.c1 R (by omega) (k) (by omega)
     have c3b := S1.out.c1 R (by omega) (k + 1) (by omega)
     have f3a := S1.out.f1 R (by omega) (k) (by omega)
     have f3b := S1.out.f1 R (by omega) (k + 1) (by omega)
     obtain ⟨u3, c3c⟩ := S1.out.c2 R (by omega) (k) (k + 1) (by omega) (by omega) (enc y3)
     rw [← hjN3, ← hiN3] at c3c
     rw [← hx3, ← hiN3] at c3a
     rw [← hy3, ← hjN3] at c3b
     rw [← hiN3] at f3a
     rw [← hjN3] at f3b
     clear S1 hx3 hy3 hiN3 hjN3
     go_wp2_with fail
     go_big_region_o
     clear c3a c3b c3c f3a f3b
     generalize ((wr.setCell ⟨blk, off + iN3, none⟩ (enc y3)).setCell ⟨blk, off + jN3, none⟩ (enc x3)).drew = w3 at S3 ⊢
     clear ea3 ec3
     go_wp2
     go_roundg (i - 1 - (k + 1))
     case measure => omega
     case rel => exact ⟨k + 1, rfl, by omega, by omega, Nat.le_refl _, by rw [← HN2.out]; exact S3⟩
    ·have hlkz : ¬ (k : Int) < ((i - 1 : Nat) : Int) := by omega
     have hlkz2 : ¬ (k : Int) < (i : Int) - 1 := by omega
     obtain rfl : k = i - 1 := by omega
     go_wp2
     (try simp only [Exit.inBlock, Exit.then])
     refine bodyPost_ret (results_none rfl _ _ _) rfl ?_
     exact ⟨rfl, by rw [← HN.out]; exact S1.out⟩
set_option maxHeartbeats 16000000 in
set_option maxRecDepth 1000000 in
theorem sym2_calls {α : Type} [Inhabited α] (enc : α → Value) (cf : α → α → Int) (g : Nat) (cb : Array Value) (blk off cap a m b : Nat) (d0 d : Array α) (w0 w : World)
  (eg : ∀ args w, (callFunc g args).run Tryz.prog w = .ok (.enter g args) w) (hcmp : CmpLays1 Tryz.prog g cb enc cf blk off d0.size w0) (R : Row1 enc w0 blk off d0)
  (hs : d0.size = d.size) (S : SW enc w0 blk off d w) (ham : a < m) (hmb : m < b) (hb : b ≤ d.size) (hsz : d.size < 4611686018427387904) (h1 : ¬ m - a = 1) (h2 : b - m = 1) :
  Calls Tryz.prog 124 #[.slice (some ⟨blk, off, none⟩) d.size cap, .int .i64 a, .int .i64 m, .int .i64 b, .func (.func g) #[] cb] w fun e w' => e = .returned (.tuple #[]) ∧ SW enc w0 blk off (shD d m (m - bsF (fun h => !ltOf cf d[m]! d[h]!) (m - a) a m)) w' := by
 have mixed : Tryz.prog.follows Departure.mixedOrders = true := Tryz.sortInsL.mixed
 have hcl0 := R.hO.cells
 simp only [Value.cells] at hcl0
 have hst := R.hO.store Tryz.prog
 have HC := akS hcmp
 have S0 := akS S
 clear S hcmp
 have r1 : IntKind.i64.wrap ((m : Int) - (a : Int)) = ((m - a : Nat) : Int) := by rw [IntKind.wrap_i64]; omega
 have z1 : (((m - a : Nat) : Int) == 1) = false := beq_eq_false_iff_ne.mpr (by omega)
 have r2 : IntKind.i64.wrap ((b : Int) - (m : Int)) = 1 := by rw [IntKind.wrap_i64]; omega
 go_enter Tryz.func124, Tryz.ntmps124
 go_wp2
 go_loopg [14, 15] (m - a) (fun gh vi vj wr => ∃ (i j F : Nat), vi = .int .i64 (i : Int) ∧ vj = .int .i64 (j : Int) ∧ a ≤ i ∧ i ≤ j ∧ j ≤ m ∧ j - i ≤ gh ∧ j - i ≤ F ∧ Aside0 (SW enc w0 blk off d wr) ∧ Aside0 (bsF (fun h => !ltOf cf d[m]! d[h]!) F i j = bsF (fun h => !ltOf cf d[m]! d[h]!) (m - a) a m))
 case atStart => exact ⟨a, m, m - a, rfl, rfl, by omega, by omega, by omega, by omega, by omega, S0, ⟨rfl⟩⟩
 case round =>
  clear S0 r1 z1 r2
  obtain ⟨i, j, F, rfl, rfl, hi, hij, hj, hg, hF, S1, HF⟩ := hrel
  by_cases hlt : i < j
  ·obtain ⟨F, rfl⟩ : ∃ k, F = k + 1 := ⟨F - 1, by omega⟩
   have hltz : (i : Int) < (j : Int) := by omega
   cases hlv : ltOf cf d[m]! d[(i + j) / 2]! with
   | false =>
    have HN : Aside0 (bsF (fun h => !ltOf cf d[m]! d[h]!) F ((i + j) / 2 + 1) j = bsF (fun h => !ltOf cf d[m]! d[h]!) (m - a) a m) := ⟨by rw [← HF.out, bsF, if_pos hlt, if_pos (by rw [hlv]; rfl)]⟩
    clear HF
    obtain ⟨iN1, hiN1⟩ : ∃ q, q = m := ⟨_, rfl⟩
    obtain ⟨jN1, hjN1⟩ : ∃ q, q = (i + j) / 2 := ⟨_, rfl⟩
    have ea1 : ((m : Int)).toNat = iN1 := by omega
    have pa1 : (0 : Int) ≤ (m : Int) := by omega
    have ba1 : (m : Int) < (d.size : Int) := by omega
    have ec1 : (((i : Int) + (j : Int)) / 2).toNat = jN1 := by omega
    have pc1 : (0 : Int) ≤ ((i : Int) + (j : Int)) / 2 := by omega
    have bc1 : ((i : Int) + (j : Int)) / 2 < (d.size : Int) := by omega
    obtain ⟨x1, hx1⟩ : ∃ x, x = d[m]! := ⟨_, rfl⟩
    obtain ⟨y1, hy1⟩ : ∃ x, x = d[(i + j) / 2]! := ⟨_, rfl⟩
    have l1a := S1.out.cl R (by omega) (m) (by omega)
    have l1b := S1.out.cl R (by omega) ((i + j) / 2) (by omega)
    rw [← hx1, ← hiN1] at l1a
    rw [← hy1, ← hjN1] at l1b
    have hc1 := S1.out.cmp HC.out (by omega) x1 y1
    have hv1 : ¬ cf x1 y1 < 0 := by rw [hx1, hy1]; exact of_decide_eq_false hlv
    have hd1 : decide (cf x1 y1 < 0) = false := decide_eq_false hv1
    clear hx1 hy1 hiN1 hjN1
    go_wp2_with fail
    go_quiet_grown (first | (go_at_fn g; refine Calls.grown_of (hc1 _ _)))
    have S2 := akS (S1.out.grown nq osq)
    clear l1a l1b hc1 S1
    generalize Go.Sort.grow (wr.drewN nq) osq = w2 at S2 ⊢
    clear nq osq
    clear ea1 ec1
    go_wp2
    go_roundg (j - ((i + j) / 2 + 1))
    case measure => omega
    case rel => exact ⟨(i + j) / 2 + 1, j, F, by rw [show ((i : Int) + (j : Int)) / 2 + 1 = (((i + j) / 2 + 1 : Nat) : Int) by omega], rfl, by omega, by omega, hj, Nat.le_refl _, by omega, S2, HN⟩
   | true =>
    have HN : Aside0 (bsF (fun h => !ltOf cf d[m]! d[h]!) F i ((i + j) / 2) = bsF (fun h => !ltOf cf d[m]! d[h]!) (m - a) a m) := ⟨by rw [← HF.out, bsF, if_pos hlt, if_neg (by rw [hlv]; decide)]⟩
    clear HF
    obtain ⟨iN2, hiN2⟩ : ∃ q, q = m := ⟨_, rfl⟩
    obtain ⟨jN2, hjN2⟩ : ∃ q, q = (i + j) / 2 := ⟨_, rfl⟩
    have ea2 : ((m : Int)).toNat = iN2 := by omega
    have pa2 : (0 : Int) ≤ (m : Int) := by omega
    have ba2 : (m : Int) < (d.size : Int) := by omega
    have ec2 : (((i : Int) + (j : Int)) / 2).toNat = jN2 := by omega
    have pc2 : (0 : Int) ≤ ((i : Int) + (j : Int)) / 2 := by omega
    have bc2 : ((i : Int) + (j : Int)) / 2 < (d.size : Int) := by omega
    obtain ⟨x2, hx2⟩ : ∃ x, x = d[m]! := ⟨_, rfl⟩
    obtain ⟨y2, hy2⟩ : ∃ x, x = d[(i + j) / 2]! := ⟨_, rfl⟩
    have l2a := S1.out.cl R (by omega) (m) (by omega)
    have l2b := S1.out.cl R (by omega) ((i + j) / 2) (by omega)
    rw [← hx2, ← hiN2] at l2a
    rw [← hy2, ← hjN2] at l2b
    have hc2 := S1.out.cmp HC.out (by omega) x2 y2
    have hv2 : cf x2 y2 < 0 := by rw [hx2, hy2]; exact of_decide_eq_true hlv
    have hd2 : decide (cf x2 y2 < 0) = true := decide_eq_true hv2
    clear hx2 hy2 hiN2 hjN2
    go_wp2_with fail
    go_quiet_grown (first | (go_at_fn g; refine Calls.grown_of (hc2 _ _)))
    have S2 := akS (S1.out.grown nq osq)
    clear l2a l2b hc2 S1
    generalize Go.Sort.grow (wr.drewN nq) osq = w2 at S2 ⊢
    clear nq osq
    clear ea2 ec2
    go_wp2
    go_roundg ((i + j) / 2 - i)
    case measure => omega
    case rel => exact ⟨i, (i + j) / 2, F, rfl, by rw [show ((i : Int) + (j : Int)) / 2 = (((i + j) / 2 : Nat) : Int) by omega], hi, by omega, by omega, Nat.le_refl _, by omega, S2, HN⟩
  ·have hltz : ¬ (i : Int) < (j : Int) := by omega
   have HN : Aside0 (i = bsF (fun h => !ltOf cf d[m]! d[h]!) (m - a) a m) := ⟨by rw [← HF.out]; cases F with | zero => rfl | succ k => rw [bsF, if_neg hlt]⟩
   clear HF
   go_wp2
   go_loopg [17] (m - i) (fun gh vk wr => ∃ (k : Nat), vk = .int .i64 (k : Int) ∧ i ≤ k ∧ k ≤ m ∧ k - i ≤ gh ∧ Aside0 (SW enc w0 blk off (shD d m (m - k)) wr))
   case atStart => exact ⟨m, rfl, by omega, Nat.le_refl _, Nat.le_refl _, by rw [Nat.sub_self]; exact S1⟩
   case round =>
    clear S1
    obtain ⟨k, rfl, hik, hkm, hg2, S1⟩ := hrel
    by_cases hlk : i < k
    ·obtain ⟨kp, rfl⟩ : ∃ q, k = q + 1 := ⟨k - 1, by omega⟩
     have hlkz : (i : Int) < (kp : Int) + 1 := by omega
     have hlkd : decide ((kp : Int) + 1 > (i : Int)) = true := decide_eq_true (by omega)
     have hz := shD_size d m (m - (kp + 1))
     have HN2 : Aside0 (Go.Sort.swp (shD d m (m - (kp + 1))) (kp + 1) kp = shD d m (m - kp)) := ⟨by rw [show m - kp = (m - (kp + 1)) + 1 by omega, shD, show m - (m - (kp + 1)) = kp + 1 by omega, Nat.add_sub_cancel]⟩
     generalize shD d m (m - (kp + 1)) = dk at S1 hz HN2
     obtain ⟨iN3, hiN3⟩ : ∃ q, q = kp + 1 := ⟨_, rfl⟩
     obtain ⟨jN3, hjN3⟩ : ∃ q, q = kp := ⟨_, rfl⟩
     have ea3 : ((kp : Int) + 1).toNat = iN3 := by omega
     have pa3 : (0 : Int) ≤ (kp : Int) + 1 := by omega
     have ba3 : (kp : Int) + 1 < (d.size : Int) := by omega
     have ra3 : IntKind.i64.wrap ((kp : Int) + 1) = (kp : Int) + 1 := by rw [IntKind.wrap_i64]; omega
     have ec3 : ((kp : Int)).toNat = jN3 := by omega
     have pc3 : (0 : Int) ≤ (kp : Int) := by omega
     have bc3 : (kp : Int) < (d.size : Int) := by omega
     have rc3 : IntKind.i64.wrap ((kp : Int)) = (kp : Int) := by rw [IntKind.wrap_i64]; omega
     obtain ⟨x3, hx3⟩ : ∃ x, x = dk[kp + 1]! := ⟨_, rfl⟩
     obtain ⟨y3, hy3⟩ : ∃ x, x = dk[kp]! := ⟨_, rfl⟩
     have S3 : Aside0 (SW enc w0 blk off (Go.Sort.swp dk (kp + 1) (kp)) ((wr.setCell ⟨blk, off + iN3, none⟩ (enc y3)).setCell ⟨blk, off + jN3, none⟩ (enc x3)).drew) := ⟨by rw [hiN3, hjN3, hx3, hy3]; exact S1.out.swapped R (kp + 1) (kp) (by omega) (by omega)⟩
     have c3a := S1.out.c1 R (by omega) (kp + 1) (by omega)
     have c3b := S1.out.c1 R (by omega) (kp) (by omega)
     have f3a := S1.out.f1 R (by omega) (kp + 1) (by omega)
     have f3b := S1.out.f1 R (by omega) (kp) (by omega)
     obtain ⟨u3, c3c⟩ := S1.out.c2 R (by omega) (kp + 1) (kp) (by omega) (by omega) (enc y3)
     rw [← hiN3, ← hjN3] at c3c
     rw [← hx3, ← hiN3] at c3a
     rw [← hy3, ← hjN3] at c3b
     rw [← hiN3] at f3a
     rw [← hjN3] at f3b
     clear S1 hx3 hy3 hiN3 hjN3
     go_wp2_with fail
     go_big_region_o
     clear c3a c3b c3c f3a f3b
     generalize ((wr.setCell ⟨blk, off + iN3, none⟩ (enc y3)).setCell ⟨blk, off + jN3, none⟩ (enc x3)).drew = w3 at S3 ⊢
     clear ea3 ec3
     go_wp2
     go_roundg (kp - i)
     case measure => omega
     case rel => exact ⟨kp, by first | rfl | go_num | (congr 1; omega), by omega, by omega, Nat.le_refl _, by rw [← HN2.out]; exact S3⟩
    ·have hlkz : ¬ (i : Int) < (k : Int) := by omega
     obtain rfl : k = i := by omega
     go_wp2
     (try simp only [Exit.inBlock, Exit.then])
     refine bodyPost_ret (results_none rfl _ _ _) rfl ?_
     exact ⟨rfl, by rw [← HN.out]; exact S1.out⟩
set_option maxHeartbeats 16000000 in
set_option maxRecDepth 1000000 in
theorem sym3_calls {α : Type} [Inhabited α] (enc : α → Value) (cf : α → α → Int) (g : Nat) (cb : Array Value) (blk off cap k a m b : Nat) (d0 d : Array α) (w0 w : World)
  (eg : ∀ args w, (callFunc g args).run Tryz.prog w = .ok (.enter g args) w) (hcmp : CmpLays1 Tryz.prog g cb enc cf blk off d0.size w0) (R : Row1 enc w0 blk off d0)
  (hs : d0.size = d.size) (S : SW enc w0 blk off d w) (ham : a < m) (hmb : m < b) (hb : b ≤ d.size) (hsz : d.size < 4611686018427387904) (h1 : ¬ m - a = 1) (h2 : ¬ b - m = 1) (hk : b - a ≤ k + 1)
  (ih : ∀ (a' m' b' : Nat) (d' : Array α) (W : World), d'.size = d.size → SW enc w0 blk off d' W → a' < m' → m' < b' → b' ≤ d.size → b' - a' ≤ k → Calls Tryz.prog 124 #[.slice (some ⟨blk, off, none⟩) d.size cap, .int .i64 (a' : Int), .int .i64 (m' : Int), .int .i64 (b' : Int), .func (.func g) #[] cb] W fun e w' => e = .returned (.tuple #[]) ∧ SW enc w0 blk off (symF (ltOf cf) k d' a' m' b') w') :
  Calls Tryz.prog 124 #[.slice (some ⟨blk, off, none⟩) d.size cap, .int .i64 a, .int .i64 m, .int .i64 b, .func (.func g) #[] cb] w fun e w' => e = .returned (.tuple #[]) ∧ SW enc w0 blk off (symF (ltOf cf) (k + 1) d a m b) w' := by
 have mixed : Tryz.prog.follows Departure.mixedOrders = true := Tryz.sortInsL.mixed
 have hcl0 := R.hO.cells
 simp only [Value.cells] at hcl0
 have hst := R.hO.store Tryz.prog
 have HC := akS hcmp
 have S0 := akS S
 clear S hcmp
 have HI := akS ih
 have HR : Aside0 (∀ (dk : Array α) (W : World) (s m t : Nat), dk.size = d.size → SW enc w0 blk off dk W → s < m → m < t → t ≤ d.size → Calls Tryz.prog 138 #[.slice (some ⟨blk, off, none⟩) d.size cap, .int .i64 (s : Int), .int .i64 (m : Int), .int .i64 (t : Int), .func (.func g) #[] cb] W fun e w' => e = .returned (.tuple #[]) ∧ SW enc w0 blk off (rotF m (t - s) dk (m - s) (t - m)) w') := ⟨fun dk W s m t e1 e2 e3 e4 e5 => by
  have := rot_calls enc blk off cap s m t d0 dk w0 W (.func (.func g) #[] cb) R (by omega) e2 e3 e4 (by omega) (by omega)
  rw [e1] at this
  exact this⟩
 obtain ⟨M, hM⟩ : ∃ M, (a + b) / 2 = M := ⟨_, rfl⟩
 have HE : Aside0 (symF (ltOf cf) (k + 1) d a m b = symG (symF (ltOf cf) k) (symRot d (symS (ltOf cf) d a m b) m (M + m - symS (ltOf cf) d a m b)) a (symS (ltOf cf) d a m b) M (M + m - symS (ltOf cf) d a m b) b) := ⟨by rw [symF, if_neg h1, if_neg h2, hM]⟩
 have r1 : IntKind.i64.wrap ((m : Int) - (a : Int)) = ((m - a : Nat) : Int) := by rw [IntKind.wrap_i64]; omega
 have z1 : (((m - a : Nat) : Int) == 1) = false := beq_eq_false_iff_ne.mpr (by omega)
 have r2 : IntKind.i64.wrap ((b : Int) - (m : Int)) = ((b - m : Nat) : Int) := by rw [IntKind.wrap_i64]; omega
 have z2 : (((b - m : Nat) : Int) == 1) = false := beq_eq_false_iff_ne.mpr (by omega)
 clear ih
 go_enter Tryz.func124, Tryz.ntmps124
 go_upto_if 140 with (fail)
 have e18 : ((a : Int) + (b : Int)) / 2 = (M : Int) := by omega
 simp only [e18]
 clear e18 r1 r2 z1 z2
 go_cut [20, 21] from 25 (fun v20 v21 wc => ∃ (s0 r0 : Nat), v20 = .int .i64 (s0 : Int) ∧ v21 = .int .i64 (r0 : Int) ∧ a ≤ s0 ∧ s0 ≤ r0 ∧ r0 ≤ m ∧ r0 ≤ M ∧ M + m ≤ b + s0 ∧ Aside0 (SW enc w0 blk off d wc) ∧ Aside0 (bsF (fun c => !ltOf cf d[M + m - 1 - c]! d[c]!) (r0 - s0) s0 r0 = symS (ltOf cf) d a m b))
 case first =>
  by_cases c : M < m
  ·have cz : (M : Int) < (m : Int) := by omega
   have q1 : IntKind.i64.wrap ((M : Int) + (m : Int) - (b : Int)) = ((M + m - b : Nat) : Int) := by rw [IntKind.wrap_i64]; omega
   go_wp2
   go_meet
   case rel => exact ⟨M + m - b, M, by first | rfl | (congr 1; omega), rfl, by omega, by omega, by omega, Nat.le_refl _, by omega, S0, ⟨by unfold symS; rw [hM, if_pos c]⟩⟩
  ·have cz : ¬ (M : Int) < (m : Int) := by omega
   go_wp2
   go_meet
   case rel => exact ⟨a, m, rfl, rfl, Nat.le_refl _, by omega, Nat.le_refl _, by omega, by omega, S0, ⟨by unfold symS; rw [hM, if_neg c]⟩⟩
 case rest =>
  clear S0
  obtain ⟨s0, r0, rfl, rfl, q1, q2, q3, q4, q5, S0, HB⟩ := hcut
  go_wp2
  go_loopg [20, 21] (r0 - s0) (fun gh vi vj wr => ∃ (i j F : Nat), vi = .int .i64 (i : Int) ∧ vj = .int .i64 (j : Int) ∧ s0 ≤ i ∧ i ≤ j ∧ j ≤ r0 ∧ j - i ≤ gh ∧ j - i ≤ F ∧ Aside0 (SW enc w0 blk off d wr) ∧ Aside0 (bsF (fun c => !ltOf cf d[M + m - 1 - c]! d[c]!) F i j = symS (ltOf cf) d a m b))
  case atStart => exact ⟨s0, r0, r0 - s0, rfl, rfl, Nat.le_refl _, q2, Nat.le_refl _, Nat.le_refl _, Nat.le_refl _, S0, HB⟩
  case round =>
   clear S0 HB
   obtain ⟨i, j, F, rfl, rfl, hi, hij, hj, hg, hF, S1, HF⟩ := hrel
   by_cases hlt : i < j
   ·clear HE HI HR
    obtain ⟨F, rfl⟩ : ∃ k, F = k + 1 := ⟨F - 1, by omega⟩
    have hltz : (i : Int) < (j : Int) := by omega
    cases hlv : ltOf cf d[M + m - 1 - (i + j) / 2]! d[(i + j) / 2]! with
    | false =>
     have HN : Aside0 (bsF (fun c => !ltOf cf d[M + m - 1 - c]! d[c]!) F ((i + j) / 2 + 1) j = symS (ltOf cf) d a m b) := ⟨by rw [← HF.out, bsF, if_pos hlt, if_pos (by rw [hlv]; rfl)]⟩
     clear HF
     obtain ⟨iN1, hiN1⟩ : ∃ q, q = M + m - 1 - (i + j) / 2 := ⟨_, rfl⟩
     obtain ⟨jN1, hjN1⟩ : ∃ q, q = (i + j) / 2 := ⟨_, rfl⟩
     have ra1 : IntKind.i64.wrap ((M : Int) + (m : Int) - 1 - ((i : Int) + (j : Int)) / 2) = (iN1 : Int) := by rw [IntKind.wrap_i64]; omega
     have ea1 : ((iN1 : Int)).toNat = iN1 := by omega
     have pa1 : (0 : Int) ≤ (iN1 : Int) := by omega
     have ba1 : (iN1 : Int) < (d.size : Int) := by omega
     have ec1 : (((i : Int) + (j : Int)) / 2).toNat = jN1 := by omega
     have pc1 : (0 : Int) ≤ ((i : Int) + (j : Int)) / 2 := by omega
     have bc1 : ((i : Int) + (j : Int)) / 2 < (d.size : Int) := by omega
     obtain ⟨x1, hx1⟩ : ∃ x, x = d[M + m - 1 - (i + j) / 2]! := ⟨_, rfl⟩
     obtain ⟨y1, hy1⟩ : ∃ x, x = d[(i + j) / 2]! := ⟨_, rfl⟩
     have l1a := S1.out.cl R (by omega) (M + m - 1 - (i + j) / 2) (by omega)
     have l1b := S1.out.cl R (by omega) ((i + j) / 2) (by omega)
     rw [← hx1, ← hiN1] at l1a
     rw [← hy1, ← hjN1] at l1b
     have hc1 := S1.out.cmp HC.out (by omega) x1 y1
     have hv1 : ¬ cf x1 y1 < 0 := by rw [hx1, hy1]; exact of_decide_eq_false hlv
     have hd1 : decide (cf x1 y1 < 0) = false := decide_eq_false hv1
     clear hx1 hy1 hiN1 hjN1
     go_wp2_with fail
     go_quiet_grown (first | (go_at_fn g; refine Calls.grown_of (hc1 _ _)))
     have S2 := akS (S1.out.grown nq osq)
     clear l1a l1b hc1 S1
     generalize Go.Sort.grow (wr.drewN nq) osq = w2 at S2 ⊢
     clear nq osq
     clear ea1 ec1
     go_wp2
     go_roundg (j - ((i + j) / 2 + 1))
     case measure => omega
     case rel => exact ⟨(i + j) / 2 + 1, j, F, by rw [show ((i : Int) + (j : Int)) / 2 + 1 = (((i + j) / 2 + 1 : Nat) : Int) by omega], rfl, by omega, by omega, hj, Nat.le_refl _, by omega, S2, HN⟩
    | true =>
     have HN : Aside0 (bsF (fun c => !ltOf cf d[M + m - 1 - c]! d[c]!) F i ((i + j) / 2) = symS (ltOf cf) d a m b) := ⟨by rw [← HF.out, bsF, if_pos hlt, if_neg (by rw [hlv]; decide)]⟩
     clear HF
     obtain ⟨iN2, hiN2⟩ : ∃ q, q = M + m - 1 - (i + j) / 2 := ⟨_, rfl⟩
     obtain ⟨jN2, hjN2⟩ : ∃ q, q = (i + j) / 2 := ⟨_, rfl⟩
     have ra2 : IntKind.i64.wrap ((M : Int) + (m : Int) - 1 - ((i : Int) + (j : Int)) / 2) = (iN2 : Int) := by rw [IntKind.wrap_i64]; omega
     have ea2 : ((iN2 : Int)).toNat = iN2 := by omega
     have pa2 : (0 : Int) ≤ (iN2 : Int) := by omega
     have ba2 : (iN2 : Int) < (d.size : Int) := by omega
     have ec2 : (((i : Int) + (j : Int)) / 2).toNat = jN2 := by omega
     have pc2 : (0 : Int) ≤ ((i : Int) + (j : Int)) / 2 := by omega
     have bc2 : ((i : Int) + (j : Int)) / 2 < (d.size : Int) := by omega
     obtain ⟨x2, hx2⟩ : ∃ x, x = d[M + m - 1 - (i + j) / 2]! := ⟨_, rfl⟩
     obtain ⟨y2, hy2⟩ : ∃ x, x = d[(i + j) / 2]! := ⟨_, rfl⟩
     have l2a := S1.out.cl R (by omega) (M + m - 1 - (i + j) / 2) (by omega)
     have l2b := S1.out.cl R (by omega) ((i + j) / 2) (by omega)
     rw [← hx2, ← hiN2] at l2a
     rw [← hy2, ← hjN2] at l2b
     have hc2 := S1.out.cmp HC.out (by omega) x2 y2
     have hv2 : cf x2 y2 < 0 := by rw [hx2, hy2]; exact of_decide_eq_true hlv
     have hd2 : decide (cf x2 y2 < 0) = true := decide_eq_true hv2
     clear hx2 hy2 hiN2 hjN2
     go_wp2_with fail
     go_quiet_grown (first | (go_at_fn g; refine Calls.grown_of (hc2 _ _)))
     have S2 := akS (S1.out.grown nq osq)
     clear l2a l2b hc2 S1
     generalize Go.Sort.grow (wr.drewN nq) osq = w2 at S2 ⊢
     clear nq osq
     clear ea2 ec2
     go_wp2
     go_roundg ((i + j) / 2 - i)
     case measure => omega
     case rel => exact ⟨i, (i + j) / 2, F, rfl, by rw [show ((i : Int) + (j : Int)) / 2 = (((i + j) / 2 : Nat) : Int) by omega], hi, by omega, by omega, Nat.le_refl _, by omega, S2, HN⟩
   ·have hltz : ¬ (i : Int) < (j : Int) := by omega
    have HN : Aside0 (i = symS (ltOf cf) d a m b) := ⟨by rw [← HF.out]; cases F with | zero => rfl | succ k => rw [bsF, if_neg hlt]⟩
    clear HF
    rw [← HN.out] at HE
    clear HN
    have hi1 : a ≤ i := by omega
    have hi2 : i ≤ m := by omega
    have hi3 : i ≤ M := by omega
    have hi4 : M + m - i ≤ b := by omega
    clear hi hij hj hg hF q1 q2 q3 q4 q5
    obtain ⟨t, ht⟩ : ∃ t, M + m - i = t := ⟨_, rfl⟩
    rw [ht] at HE hi4
    have htm : m ≤ t := by omega
    have hMa : a < M := by omega
    have hMb : M < b := by omega
    obtain ⟨E, hE⟩ : ∃ E, symRot d i m t = E := ⟨_, rfl⟩
    have hEz : E.size = d.size := by rw [← hE, symRot_size]
    rw [hE] at HE
    have et : IntKind.i64.wrap ((M : Int) + (m : Int) - (i : Int)) = (t : Int) := by rw [IntKind.wrap_i64]; omega
    go_upto_region 38 with (fail)
    iterate 17 go_step
    clear et
    go_cut [20] from 25 (fun v20 wc => v20 = .int .i64 (i : Int) ∧ Aside0 (SW enc w0 blk off E wc))
    case first =>
     clear HE HI
     by_cases c1 : i < m
     ·have c1z : (i : Int) < (m : Int) := by omega
      by_cases c2 : m < t
      ·have c2z : (m : Int) < (t : Int) := by omega
       have HX := akS (HR.out d wr i m t rfl S1.out c1 c2 (by omega))
       have HN : Aside0 (rotF m (t - i) d (m - i) (t - m) = E) := ⟨by rw [← hE]; unfold symRot; rw [if_pos ⟨c1, c2⟩]⟩
       clear HR S1
       go_wp2_with (first
        | (go_at_call 138; (with_reducible refine HX.out.mono ?_); rintro e w3 ⟨rfl, hs3⟩; have HS3 := akS hs3; clear hs3))
       go_meet
       case rel => exact ⟨rfl, by rw [← HN.out]; exact HS3⟩
      ·have c2z : ¬ (m : Int) < (t : Int) := by omega
       have HN : Aside0 (d = E) := ⟨by rw [← hE]; unfold symRot; rw [if_neg (fun h => c2 h.2)]⟩
       clear HR
       go_wp2
       go_meet
       case rel => exact ⟨rfl, by rw [← HN.out]; exact S1⟩
     ·have c1z : ¬ (i : Int) < (m : Int) := by omega
      have HN : Aside0 (d = E) := ⟨by rw [← hE]; unfold symRot; rw [if_neg (fun h => c1 h.1)]⟩
      clear HR
      go_wp2
      go_meet
      case rel => exact ⟨rfl, by rw [← HN.out]; exact S1⟩
    case rest =>
     clear S1 HR hE
     obtain ⟨rfl, S1⟩ := hcut
     obtain ⟨D1, hD⟩ : ∃ D1, (if a < i ∧ i < M then symF (ltOf cf) k E a i M else E) = D1 := ⟨_, rfl⟩
     have hDz : D1.size = d.size := by rw [← hD, ← hEz]; split; exact symF_size _ _ _ _ _ _; rfl
     have HE2 : Aside0 (symF (ltOf cf) (k + 1) d a m b = if M < t ∧ t < b then symF (ltOf cf) k D1 M t b else D1) := ⟨by rw [HE.out]; unfold symG; rw [hD]⟩
     clear HE
     iterate 2 go_step
     go_cut [20] from 25 (fun v20 wc => v20 = .int .i64 (i : Int) ∧ Aside0 (SW enc w0 blk off D1 wc))
     case first =>
      clear HE2
      by_cases c1 : a < i
      ·have c1z : (a : Int) < (i : Int) := by omega
       by_cases c2 : i < M
       ·have c2z : (i : Int) < (M : Int) := by omega
        have HX := akS (HI.out a i M E wc hEz S1.out c1 c2 (by omega) (by omega))
        have HN : Aside0 (symF (ltOf cf) k E a i M = D1) := ⟨by rw [← hD, if_pos ⟨c1, c2⟩]⟩
        clear HI S1
        go_wp2_with (first
         | (go_at_call 124; (with_reducible refine HX.out.mono ?_); rintro e w3 ⟨rfl, hs3⟩; have HS3 := akS hs3; clear hs3))
        go_meet
        case rel => exact ⟨rfl, by rw [← HN.out]; exact HS3⟩
       ·have c2z : ¬ (i : Int) < (M : Int) := by omega
        have HN : Aside0 (E = D1) := ⟨by rw [← hD, if_neg (fun h => c2 h.2)]⟩
        clear HI
        go_wp2
        go_meet
        case rel => exact ⟨rfl, by rw [← HN.out]; exact S1⟩
      ·have c1z : ¬ (a : Int) < (i : Int) := by omega
       have HN : Aside0 (E = D1) := ⟨by rw [← hD, if_neg (fun h => c1 h.1)]⟩
       clear HI
       go_wp2
       go_meet
       case rel => exact ⟨rfl, by rw [← HN.out]; exact S1⟩
     case rest =>
      clear S1 hD
      obtain ⟨rfl, S1⟩ := hcut
      by_cases c1 : M < t
      ·have c1z : (M : Int) < (t : Int) := by omega
       by_cases c2 : t < b
       ·have c2z : (t : Int) < (b : Int) := by omega
        rename_i wd
        have HX := akS (HI.out M t b D1 _ hDz S1.out c1 c2 hb (by omega))
        have HN : Aside0 (symF (ltOf cf) (k + 1) d a m b = symF (ltOf cf) k D1 M t b) := ⟨by rw [HE2.out, if_pos ⟨c1, c2⟩]⟩
        clear HI S1 HE2
        go_wp2_with (first
         | (go_at_call 124; (with_reducible refine HX.out.mono ?_); rintro e w3 ⟨rfl, hs3⟩; have HS3 := akS hs3; clear hs3))
        go_end0
        exact ⟨rfl, by rw [HN.out]; exact HS3.out⟩
       ·have c2z : ¬ (t : Int) < (b : Int) := by omega
        have HN : Aside0 (symF (ltOf cf) (k + 1) d a m b = D1) := ⟨by rw [HE2.out, if_neg (fun h => c2 h.2)]⟩
        clear HI HE2
        go_wp2
        go_end0
        exact ⟨rfl, by rw [HN.out]; exact S1.out⟩
      ·have c1z : ¬ (M : Int) < (t : Int) := by omega
       have HN : Aside0 (symF (ltOf cf) (k + 1) d a m b = D1) := ⟨by rw [HE2.out, if_neg (fun h => c1 h.1)]⟩
       clear HI HE2
       go_wp2
       go_end0
       exact ⟨rfl, by rw [HN.out]; exact S1.out⟩
theorem sym_calls {α : Type} [Inhabited α] (enc : α → Value) (cf : α → α → Int) (g : Nat) (cb : Array Value) (blk off cap : Nat) (d0 : Array α) (w0 : World)
  (eg : ∀ args w, (callFunc g args).run Tryz.prog w = .ok (.enter g args) w) (hcmp : CmpLays1 Tryz.prog g cb enc cf blk off d0.size w0) (R : Row1 enc w0 blk off d0) (hsz : d0.size < 4611686018427387904) :
  ∀ (k a m b : Nat) (d : Array α) (w : World), d0.size = d.size → SW enc w0 blk off d w → a < m → m < b → b ≤ d.size → b - a ≤ k →
   Calls Tryz.prog 124 #[.slice (some ⟨blk, off, none⟩) d.size cap, .int .i64 a, .int .i64 m, .int .i64 b, .func (.func g) #[] cb] w fun e w' => e = .returned (.tuple #[]) ∧ SW enc w0 blk off (symF (ltOf cf) k d a m b) w' := by
 intro k
 induction k with
 | zero => intro a m b d w hs S h1 h2 h3 h4; omega
 | succ k ih =>
  intro a m b d w hs S h1 h2 h3 h4
  by_cases c1 : m - a = 1
  ·have e : symF (ltOf cf) (k + 1) d a m b = shU d a (bsF (fun h => ltOf cf d[h]! d[a]!) (b - m) m b - 1 - a) := by rw [symF, if_pos c1]
   rw [e]
   exact sym1_calls enc cf g cb blk off cap a m b d0 d w0 w eg hcmp R hs S h1 h2 h3 (by omega) c1
  ·by_cases c2 : b - m = 1
   ·have e : symF (ltOf cf) (k + 1) d a m b = shD d m (m - bsF (fun h => !ltOf cf d[m]! d[h]!) (m - a) a m) := by rw [symF, if_neg c1, if_pos c2]
    rw [e]
    exact sym2_calls enc cf g cb blk off cap a m b d0 d w0 w eg hcmp R hs S h1 h2 h3 (by omega) c1 c2
   ·refine sym3_calls enc cf g cb blk off cap k a m b d0 d w0 w eg hcmp R hs S h1 h2 h3 (by omega) c1 c2 h4 (fun a' m' b' d' W e1 e2 e3 e4 e5 e6 => ?_)
    have := ih a' m' b' d' W (by omega) e2 e3 e4 (by omega) e6
    rw [e1] at this
    exact this
theorem ins_size {α : Type} [Inhabited α] (lt : α → α → Bool) : ∀ (j a : Nat) (d : Array α), (Go.Sort.insInner lt a j d).size = d.size
 | 0, a, d => by rw [Go.Sort.insInner]
 | j + 1, a, d => by
  rw [Go.Sort.insInner]
  split
  ·rw [ins_size lt j a, Go.Sort.size_swp]
  ·rfl
theorem ins_size2 {α : Type} [Inhabited α] (lt : α → α → Bool) (a b : Nat) : ∀ (m i : Nat) (d : Array α), b - i = m → (Go.Sort.insOuter lt a b i d).size = d.size := by
 intro m
 induction m with
 | zero => intro i d h; rw [Go.Proofs.insOuter_stop _ _ _ _ _ (by omega)]
 | succ m ih => intro i d h; rw [Go.Proofs.insOuter_go _ _ _ _ _ (by omega), ih _ _ (by omega), ins_size]
theorem ins_size3 {α : Type} [Inhabited α] (lt : α → α → Bool) (a b : Nat) (d : Array α) : (Go.Sort.insertionSort lt d a b).size = d.size := by
 unfold Go.Sort.insertionSort
 exact ins_size2 lt a b _ _ d rfl
theorem ordA_size {α : Type} [Inhabited α] (lt : α → α → Bool) (n : Nat) (d : Array α) : (ordA lt n d).size = d.size := by
 unfold ordA
 split
 ·exact ins_size3 _ _ _ _
 ·split
  ·rw [ins_size3, ins_size3]
  ·split
   ·rw [symF_size, ins_size3, ins_size3]
   ·split
    ·rw [symF_size, ins_size3, ins_size3, ins_size3]
    ·rw [symF_size, symF_size, ins_size3, ins_size3, ins_size3]
def InsC {α : Type} [Inhabited α] (enc : α → Value) (cf : α → α → Int) (g : Nat) (cb : Array Value) (blk off cap n : Nat) (w0 : World) : Prop :=
 ∀ (x y : Nat) (X Y : Int), X = (x : Int) → Y = (y : Int) → ∀ (d : Array α) (W : World), d.size = n → SW enc w0 blk off d W → x ≤ y → y ≤ n →
 Calls Tryz.prog 123 #[.slice (some ⟨blk, off, none⟩) n cap, .int .i64 X, .int .i64 Y, .func (.func g) #[] cb] W fun e w' => e = .returned (.tuple #[]) ∧ SW enc w0 blk off (Go.Sort.insertionSort (ltOf cf) d x y) w'
def SymC {α : Type} [Inhabited α] (enc : α → Value) (cf : α → α → Int) (g : Nat) (cb : Array Value) (blk off cap n : Nat) (w0 : World) : Prop :=
 ∀ (k a m b : Nat) (A M B : Int), A = (a : Int) → M = (m : Int) → B = (b : Int) → ∀ (d : Array α) (W : World), d.size = n → SW enc w0 blk off d W → a < m → m < b → b ≤ n → b - a ≤ k →
 Calls Tryz.prog 124 #[.slice (some ⟨blk, off, none⟩) n cap, .int .i64 A, .int .i64 M, .int .i64 B, .func (.func g) #[] cb] W fun e w' => e = .returned (.tuple #[]) ∧ SW enc w0 blk off (symF (ltOf cf) k d a m b) w'
set_option maxHeartbeats 16000000 in
set_option maxRecDepth 1000000 in
theorem stableA_calls {α : Type} [Inhabited α] (enc : α → Value) (cf : α → α → Int) (g : Nat) (cb : Array Value) (blk off cap n : Nat) (d0 : Array α) (w0 w : World)
  (HI : Aside0 (InsC enc cf g cb blk off cap n w0)) (HY : Aside0 (SymC enc cf g cb blk off cap n w0))
  (hs : d0.size = n) (S : SW enc w0 blk off d0 w) (c : n < 20) :
  Calls Tryz.prog 100 #[.slice (some ⟨blk, off, none⟩) n cap, .int .i64 (n : Int), .func (.func g) #[] cb] w fun e w' => e = .returned (.tuple #[]) ∧ SW enc w0 blk off (ordA (ltOf cf) n d0) w' := by
 have S0 := akS S
 clear S
 have HN : Aside0 (ordA (ltOf cf) n d0 = Go.Sort.insertionSort (ltOf cf) d0 0 n) := ⟨by unfold ordA; rw [if_pos c]⟩
 have hl0 : ¬ (20 : Int) ≤ (n : Int) := by omega
 have hl1 : ¬ (20 : Int) < (n : Int) := by omega
 go_enter Tryz.func100, Tryz.ntmps100
 go_wp2
 refine wp_loop_rounds 1 ?_
 rw [rounds_succ]
 go_wp2_with (first
  | (go_at_call 123; refine (HI.out 0 n 0 (n : Int) (by first | rfl | omega) (by first | rfl | omega) d0 _ hs S0.out (by omega) (by omega)).mono ?_; rintro e H1w ⟨rfl, hx⟩; have H1 := akS hx; clear hx))
 refine wp_loop_rounds 1 ?_
 rw [rounds_succ]
 go_wp2
 go_end0
 exact ⟨rfl, by rw [HN.out]; exact H1.out⟩
set_option maxHeartbeats 16000000 in
set_option maxRecDepth 1000000 in
theorem stableC_calls {α : Type} [Inhabited α] (enc : α → Value) (cf : α → α → Int) (g : Nat) (cb : Array Value) (blk off cap n : Nat) (d0 : Array α) (w0 w : World)
  (HI : Aside0 (InsC enc cf g cb blk off cap n w0)) (HY : Aside0 (SymC enc cf g cb blk off cap n w0))
  (hs : d0.size = n) (S : SW enc w0 blk off d0 w) (c1 : 20 < n) (c2 : n < 40) :
  Calls Tryz.prog 100 #[.slice (some ⟨blk, off, none⟩) n cap, .int .i64 (n : Int), .func (.func g) #[] cb] w fun e w' => e = .returned (.tuple #[]) ∧ SW enc w0 blk off (ordA (ltOf cf) n d0) w' := by
 have S0 := akS S
 clear S
 have HN : Aside0 (ordA (ltOf cf) n d0 = symF (ltOf cf) (n - 0) (Go.Sort.insertionSort (ltOf cf) (Go.Sort.insertionSort (ltOf cf) d0 0 20) 20 n) 0 20 n) := ⟨by unfold ordA; rw [if_neg (by omega), if_neg (by omega), if_pos c2]⟩
 have hl0 : (20 : Int) ≤ (n : Int) := by omega
 have hl1 : ¬ (40 : Int) ≤ (n : Int) := by omega
 have hl2 : (20 : Int) < (n : Int) := by omega
 have hl3 : ¬ (40 : Int) < (n : Int) := by omega
 go_enter Tryz.func100, Tryz.ntmps100
 go_wp2
 refine wp_loop_rounds 2 ?_
 rw [rounds_succ]
 go_wp2_with (first
  | (go_at_call 123; refine (HI.out 0 20 0 20 (by first | rfl | omega) (by first | rfl | omega) d0 _ hs S0.out (by omega) (by omega)).mono ?_; rintro e H1w ⟨rfl, hx⟩; have H1 := akS hx; clear hx))
 rw [rounds_succ]
 go_wp2_with (first
  | (go_at_call 123; refine (HI.out 20 n 20 (n : Int) (by first | rfl | omega) (by first | rfl | omega) (Go.Sort.insertionSort (ltOf cf) d0 0 20) _ (by rw [ins_size3]; exact hs) H1.out (by omega) (by omega)).mono ?_; rintro e H2w ⟨rfl, hx⟩; have H2 := akS hx; clear hx))
 refine wp_loop_rounds 2 ?_
 rw [rounds_succ]
 go_wp2
 refine wp_loop_rounds 1 ?_
 rw [rounds_succ]
 go_wp2_with (first
  | (go_at_call 124; refine (HY.out (n - 0) 0 20 n 0 20 (n : Int) (by first | rfl | omega) (by first | rfl | omega) (by first | rfl | omega) (Go.Sort.insertionSort (ltOf cf) (Go.Sort.insertionSort (ltOf cf) d0 0 20) 20 n) _ (by rw [ins_size3, ins_size3]; exact hs) H2.out (by omega) (by omega) (by omega) (by omega)).mono ?_; rintro e H3w ⟨rfl, hx⟩; have H3 := akS hx; clear hx))
 rw [rounds_succ]
 go_wp2
 go_end0
 exact ⟨rfl, by rw [HN.out]; exact H3.out⟩
set_option maxHeartbeats 16000000 in
set_option maxRecDepth 1000000 in
theorem stableB_calls {α : Type} [Inhabited α] (enc : α → Value) (cf : α → α → Int) (g : Nat) (cb : Array Value) (blk off cap n : Nat) (d0 : Array α) (w0 w : World)
  (HI : Aside0 (InsC enc cf g cb blk off cap n w0)) (HY : Aside0 (SymC enc cf g cb blk off cap n w0))
  (hs : d0.size = n) (S : SW enc w0 blk off d0 w) (c1 : n = 20) :
  Calls Tryz.prog 100 #[.slice (some ⟨blk, off, none⟩) n cap, .int .i64 (n : Int), .func (.func g) #[] cb] w fun e w' => e = .returned (.tuple #[]) ∧ SW enc w0 blk off (ordA (ltOf cf) n d0) w' := by
 have S0 := akS S
 clear S
 subst c1
 have HN : Aside0 (ordA (ltOf cf) 20 d0 = (Go.Sort.insertionSort (ltOf cf) (Go.Sort.insertionSort (ltOf cf) d0 0 20) 20 20)) := ⟨by unfold ordA; rw [if_neg (by decide), if_pos rfl]⟩
 go_enter Tryz.func100, Tryz.ntmps100
 go_wp2
 refine wp_loop_rounds 2 ?_
 rw [rounds_succ]
 go_wp2_with (first
  | (go_at_call 123; refine (HI.out 0 20 0 20 (by first | rfl | omega) (by first | rfl | omega) d0 _ hs S0.out (by omega) (by omega)).mono ?_; rintro e H1w ⟨rfl, hx⟩; have H1 := akS hx; clear hx))
 rw [rounds_succ]
 go_wp2_with (first
  | (go_at_call 123; refine (HI.out 20 20 20 20 (by first | rfl | omega) (by first | rfl | omega) (Go.Sort.insertionSort (ltOf cf) d0 0 20) _ (by rw [ins_size3]; exact hs) H1.out (by omega) (by omega)).mono ?_; rintro e H2w ⟨rfl, hx⟩; have H2 := akS hx; clear hx))
 refine wp_loop_rounds 1 ?_
 rw [rounds_succ]
 go_wp2
 go_end0
 exact ⟨rfl, by rw [HN.out]; exact H2.out⟩
set_option maxHeartbeats 16000000 in
set_option maxRecDepth 1000000 in
theorem stableD_calls {α : Type} [Inhabited α] (enc : α → Value) (cf : α → α → Int) (g : Nat) (cb : Array Value) (blk off cap n : Nat) (d0 : Array α) (w0 w : World)
  (HI : Aside0 (InsC enc cf g cb blk off cap n w0)) (HY : Aside0 (SymC enc cf g cb blk off cap n w0))
  (hs : d0.size = n) (S : SW enc w0 blk off d0 w) (c1 : n = 40) :
  Calls Tryz.prog 100 #[.slice (some ⟨blk, off, none⟩) n cap, .int .i64 (n : Int), .func (.func g) #[] cb] w fun e w' => e = .returned (.tuple #[]) ∧ SW enc w0 blk off (ordA (ltOf cf) n d0) w' := by
 have S0 := akS S
 clear S
 subst c1
 have HN : Aside0 (ordA (ltOf cf) 40 d0 = symF (ltOf cf) (40 - 0) (Go.Sort.insertionSort (ltOf cf) (Go.Sort.insertionSort (ltOf cf) (Go.Sort.insertionSort (ltOf cf) d0 0 20) 20 40) 40 40) 0 20 40) := ⟨by unfold ordA; rw [if_neg (by decide), if_neg (by decide), if_neg (by decide), if_pos rfl]⟩
 go_enter Tryz.func100, Tryz.ntmps100
 go_wp2
 refine wp_loop_rounds 3 ?_
 rw [rounds_succ]
 go_wp2_with (first
  | (go_at_call 123; refine (HI.out 0 20 0 20 (by first | rfl | omega) (by first | rfl | omega) d0 _ hs S0.out (by omega) (by omega)).mono ?_; rintro e H1w ⟨rfl, hx⟩; have H1 := akS hx; clear hx))
 rw [rounds_succ]
 go_wp2_with (first
  | (go_at_call 123; refine (HI.out 20 40 20 40 (by first | rfl | omega) (by first | rfl | omega) (Go.Sort.insertionSort (ltOf cf) d0 0 20) _ (by rw [ins_size3]; exact hs) H1.out (by omega) (by omega)).mono ?_; rintro e H2w ⟨rfl, hx⟩; have H2 := akS hx; clear hx))
 rw [rounds_succ]
 go_wp2_with (first
  | (go_at_call 123; refine (HI.out 40 40 40 40 (by first | rfl | omega) (by first | rfl | omega) (Go.Sort.insertionSort (ltOf cf) (Go.Sort.insertionSort (ltOf cf) d0 0 20) 20 40) _ (by rw [ins_size3, ins_size3]; exact hs) H2.out (by omega) (by omega)).mono ?_; rintro e H3w ⟨rfl, hx⟩; have H3 := akS hx; clear hx))
 refine wp_loop_rounds 2 ?_
 rw [rounds_succ]
 go_wp2
 refine wp_loop_rounds 2 ?_
 rw [rounds_succ]
 go_wp2_with (first
  | (go_at_call 124; refine (HY.out (40 - 0) 0 20 40 0 20 40 (by first | rfl | omega) (by first | rfl | omega) (by first | rfl | omega) (Go.Sort.insertionSort (ltOf cf) (Go.Sort.insertionSort (ltOf cf) (Go.Sort.insertionSort (ltOf cf) d0 0 20) 20 40) 40 40) _ (by rw [ins_size3, ins_size3, ins_size3]; exact hs) H3.out (by omega) (by omega) (by omega) (by omega)).mono ?_; rintro e H4w ⟨rfl, hx⟩; have H4 := akS hx; clear hx))
 rw [rounds_succ]
 go_wp2
 rw [rounds_succ]
 go_wp2
 go_end0
 exact ⟨rfl, by rw [HN.out]; exact H4.out⟩
set_option maxHeartbeats 16000000 in
set_option maxRecDepth 1000000 in
theorem stableE_calls {α : Type} [Inhabited α] (enc : α → Value) (cf : α → α → Int) (g : Nat) (cb : Array Value) (blk off cap n : Nat) (d0 : Array α) (w0 w : World)
  (HI : Aside0 (InsC enc cf g cb blk off cap n w0)) (HY : Aside0 (SymC enc cf g cb blk off cap n w0))
  (hs : d0.size = n) (S : SW enc w0 blk off d0 w) (c1 : 40 < n) (c2 : n ≤ 59) :
  Calls Tryz.prog 100 #[.slice (some ⟨blk, off, none⟩) n cap, .int .i64 (n : Int), .func (.func g) #[] cb] w fun e w' => e = .returned (.tuple #[]) ∧ SW enc w0 blk off (ordA (ltOf cf) n d0) w' := by
 have S0 := akS S
 clear S
 have HN : Aside0 (ordA (ltOf cf) n d0 = symF (ltOf cf) (n - 0) (symF (ltOf cf) (40 - 0) (Go.Sort.insertionSort (ltOf cf) (Go.Sort.insertionSort (ltOf cf) (Go.Sort.insertionSort (ltOf cf) d0 0 20) 20 40) 40 n) 0 20 40) 0 40 n) := ⟨by unfold ordA; rw [if_neg (by omega), if_neg (by omega), if_neg (by omega), if_neg (by omega)]⟩
 have hl0 : (20 : Int) ≤ (n : Int) := by omega
 have hl1 : (40 : Int) ≤ (n : Int) := by omega
 have hl2 : ¬ (60 : Int) ≤ (n : Int) := by omega
 have hl3 : (20 : Int) < (n : Int) := by omega
 have hl4 : (40 : Int) < (n : Int) := by omega
 have hl5 : ¬ (60 : Int) < (n : Int) := by omega
 have hl6 : ¬ (80 : Int) ≤ (n : Int) := by omega
 have hl7 : ¬ (80 : Int) < (n : Int) := by omega
 go_enter Tryz.func100, Tryz.ntmps100
 go_wp2
 refine wp_loop_rounds 3 ?_
 rw [rounds_succ]
 go_wp2_with (first
  | (go_at_call 123; refine (HI.out 0 20 0 20 (by first | rfl | omega) (by first | rfl | omega) d0 _ hs S0.out (by omega) (by omega)).mono ?_; rintro e H1w ⟨rfl, hx⟩; have H1 := akS hx; clear hx))
 rw [rounds_succ]
 go_wp2_with (first
  | (go_at_call 123; refine (HI.out 20 40 20 40 (by first | rfl | omega) (by first | rfl | omega) (Go.Sort.insertionSort (ltOf cf) d0 0 20) _ (by rw [ins_size3]; exact hs) H1.out (by omega) (by omega)).mono ?_; rintro e H2w ⟨rfl, hx⟩; have H2 := akS hx; clear hx))
 rw [rounds_succ]
 go_wp2_with (first
  | (go_at_call 123; refine (HI.out 40 n 40 (n : Int) (by first | rfl | omega) (by first | rfl | omega) (Go.Sort.insertionSort (ltOf cf) (Go.Sort.insertionSort (ltOf cf) d0 0 20) 20 40) _ (by rw [ins_size3, ins_size3]; exact hs) H2.out (by omega) (by omega)).mono ?_; rintro e H3w ⟨rfl, hx⟩; have H3 := akS hx; clear hx))
 refine wp_loop_rounds 3 ?_
 rw [rounds_succ]
 go_wp2
 refine wp_loop_rounds 2 ?_
 rw [rounds_succ]
 go_wp2_with (first
  | (go_at_call 124; refine (HY.out (40 - 0) 0 20 40 0 20 40 (by first | rfl | omega) (by first | rfl | omega) (by first | rfl | omega) (Go.Sort.insertionSort (ltOf cf) (Go.Sort.insertionSort (ltOf cf) (Go.Sort.insertionSort (ltOf cf) d0 0 20) 20 40) 40 n) _ (by rw [ins_size3, ins_size3, ins_size3]; exact hs) H3.out (by omega) (by omega) (by omega) (by omega)).mono ?_; rintro e H4w ⟨rfl, hx⟩; have H4 := akS hx; clear hx))
 rw [rounds_succ]
 go_wp2
 rw [rounds_succ]
 go_wp2
 refine wp_loop_rounds 1 ?_
 rw [rounds_succ]
 go_wp2_with (first
  | (go_at_call 124; refine (HY.out (n - 0) 0 40 n 0 40 (n : Int) (by first | rfl | omega) (by first | rfl | omega) (by first | rfl | omega) (symF (ltOf cf) (40 - 0) (Go.Sort.insertionSort (ltOf cf) (Go.Sort.insertionSort (ltOf cf) (Go.Sort.insertionSort (ltOf cf) d0 0 20) 20 40) 40 n) 0 20 40) _ (by rw [symF_size, ins_size3, ins_size3, ins_size3]; exact hs) H4.out (by omega) (by omega) (by omega) (by omega)).mono ?_; rintro e H5w ⟨rfl, hx⟩; have H5 := akS hx; clear hx))
 rw [rounds_succ]
 go_wp2
 go_end0
 exact ⟨rfl, by rw [HN.out]; exact H5.out⟩
end Go.Proofs.YtdjkdlbokepoaaaGreatDoor.P
