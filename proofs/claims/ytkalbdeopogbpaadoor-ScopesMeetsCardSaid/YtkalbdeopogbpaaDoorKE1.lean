import Derived.Test.YtkalbdeopogbpaaDoorOpen
import Derived.Test.YtkalbdeopogbpaaDoorPx31
import Derived.Test.YtkalbdeopogbpaaDoorPx1
import Derived.Test.YtkalbdeopogbpaaDoorPx2
import Derived.Test.YtkalbdeopogbpaaDoorPx3
import Derived.Test.YtkalbdeopogbpaaDoorPx4
import Derived.Test.YtkalbdeopogbpaaDoorPx5
import Derived.Test.YtkalbdeopogbpaaDoorPx8
import Derived.Test.YtkalbdeopogbpaaDoorPx13
import Derived.Test.YtkalbdeopogbpaaDoorPx14
import Derived.Test.YtkalbdeopogbpaaDoorPx16
import Derived.Test.YtkalbdeopogbpaaDoorPx18
import Derived.Test.YtkalbdeopogbpaaDoorPx9
import Derived.Test.YtkalbdeopogbpaaDoorPx23
import Derived.Test.YtkalbdeopogbpaaDoorPx6
import Derived.Test.YtkalbdeopogbpaaDoorPx25
import Derived.Test.YtkalbdeopogbpaaDoorPx26
import Derived.Test.YtkalbdeopogbpaaDoorPx27
import Derived.Test.YtkalbdeopogbpaaDoorPx28
import Derived.Test.YtkalbdeopogbpaaDoorPx29
import Derived.Test.YtkalbdeopogbpaaDoorPx30
namespace Go.Proofs.YtkalbdeopogbpaaDoor.P
open Go.RowKit Go.Proofs.YtkalbdeopogbpaaDoorW.PrintWords Go.Proofs.YtkalbdeopogbpaaDoorW.PrintLast
/-- What is left to prove of the law. -/
def mummerlaw09_ScopesMeets.Goal : Prop := ∀ (a0 : ByteArray) (a1 : ByteArray), (a0.size ≤ 140737488351232) → (a1.size ≤ 140737488351232) → ∃ k, mummerlaw09_ScopesMeets.f k a0 a1 = some true
end Go.Proofs.YtkalbdeopogbpaaDoor.P
namespace Go.Proofs.YtkalbdeopogbpaaDoor.P
open Go.RowKit Go.Proofs.YtkalbdeopogbpaaDoorW.PrintWords Go.Proofs.YtkalbdeopogbpaaDoorW.PrintLast Sc
set_option linter.unusedVariables false
set_option linter.unusedSimpArgs false
set_option maxRecDepth 20000
theorem merge_l0 : ∀ (d k : Nat) (f b s l m : List Int), l.length + m.length = d → d < k → Asc l → Asc m → f.length + l.length < 17592186044416 → b.length + l.length < 17592186044416 → s.length + m.length < 17592186044416 →
    scopes_merge.l0 k f b s l m = some (f ++ l.filter (fun x => decide (x ∉ m)), b ++ l.filter (fun x => decide (x ∈ m)), s ++ m.filter (fun x => decide (x ∉ l)), 0) := by
  intro d
  induction d using Nat.strongRecOn with
  | _ d ih =>
  intro k f b s l m hd hk hl hm h1 h2 h3
  obtain ⟨k, rfl⟩ : ∃ q, k = q + 1 := ⟨k - 1, by omega⟩
  match l, m, hl, hm with
  | [], m, _, _ =>
    simp only [scopes_merge.l0]
    rw [if_pos (by simp), if_pos (by simpa using h3)]
    have : m.filter (fun x => decide (x ∉ ([] : List Int))) = m := List.filter_eq_self.2 (by simp)
    rw [this]
    simp
  | x :: l, [], _, _ =>
    simp only [scopes_merge.l0]
    rw [if_neg (by simp <;> omega), if_pos (by simp), if_pos (by simpa using h1)]
    have e1 : (x :: l).filter (fun z => decide (z ∉ ([] : List Int))) = x :: l := List.filter_eq_self.2 (by simp)
    have e2 : (x :: l).filter (fun z => decide (z ∈ ([] : List Int))) = [] := List.filter_eq_nil_iff.2 (by simp)
    rw [e1, e2]
    simp
  | x :: l, y :: m, hl, hm =>
    obtain ⟨hx, hl'⟩ := List.pairwise_cons.1 hl
    obtain ⟨hy, hm'⟩ := List.pairwise_cons.1 hm
    simp only [List.length_cons] at hd h1 h2 h3
    simp only [scopes_merge.l0]
    have e1 : rd (x :: l) 0 = x := rfl
    have e2 : rd (y :: m) 0 = y := rfl
    have e3 : (x :: l).drop (1 : Int).toNat = l := rfl
    have e4 : (y :: m).drop (1 : Int).toNat = m := rfl
    rw [if_neg (by simp <;> omega), if_neg (by simp <;> omega), if_pos (by simp <;> omega), if_pos (by simp <;> omega), e1, e2, e3, e4]
    by_cases c1 : x < y
    · rw [if_pos c1, if_pos (by omega), if_pos (by simp <;> omega)]
      rw [ih (l.length + (y :: m).length) (by simp <;> omega) k (f ++ [x]) b s l (y :: m) rfl (by simp <;> omega) hl' hm (by simp <;> omega) (by omega) (by simp <;> omega)]
      have hxm : x ∉ y :: m := fun h => by
        rcases List.mem_cons.1 h with rfl | h
        · omega
        · have := hy x h; omega
      have hf : (y :: m).filter (fun z => decide (z ∉ x :: l)) = (y :: m).filter (fun z => decide (z ∉ l)) := List.filter_congr fun z hz => by
        have : z ≠ x := fun e => hxm (e ▸ hz)
        simp [this]
      rw [hf, List.filter_cons_of_pos (p := fun z => decide (z ∉ y :: m)) (decide_eq_true hxm), List.filter_cons_of_neg (p := fun z => decide (z ∈ y :: m)) (fun e => hxm (of_decide_eq_true e))]
      simp
    · rw [if_neg c1]
      by_cases c2 : x > y
      · rw [if_pos c2, if_pos (by omega), if_pos (by simp <;> omega)]
        rw [ih ((x :: l).length + m.length) (by simp <;> omega) k f b (s ++ [y]) (x :: l) m rfl (by simp <;> omega) hl hm' (by simp <;> omega) (by simp <;> omega) (by simp <;> omega)]
        have hyl : y ∉ x :: l := fun h => by
          rcases List.mem_cons.1 h with rfl | h
          · omega
          · have := hx y h; omega
        have hf : ∀ z ∈ x :: l, (z ∈ y :: m ↔ z ∈ m) := fun z hz => by
          have : z ≠ y := fun e => hyl (e ▸ hz)
          simp [this]
        have hf1 : (x :: l).filter (fun z => decide (z ∉ y :: m)) = (x :: l).filter (fun z => decide (z ∉ m)) := List.filter_congr fun z hz => by simp only [hf z hz]
        have hf2 : (x :: l).filter (fun z => decide (z ∈ y :: m)) = (x :: l).filter (fun z => decide (z ∈ m)) := List.filter_congr fun z hz => by simp only [hf z hz]
        rw [hf1, hf2, List.filter_cons_of_pos (p := fun z => decide (z ∉ x :: l)) (decide_eq_true hyl)]
        simp
      · obtain rfl : x = y := by omega
        rw [if_neg c2, if_pos (by omega), if_pos (by simp <;> omega), if_pos (by simp <;> omega)]
        rw [ih (l.length + m.length) (by omega) k f (b ++ [x]) s l m rfl (by omega) hl' hm' (by omega) (by simp <;> omega) (by omega)]
        have hf1 : l.filter (fun z => decide (z ∉ x :: m)) = l.filter (fun z => decide (z ∉ m)) := List.filter_congr fun z hz => by
          have := hx z hz
          have : z ≠ x := by omega
          simp [this]
        have hf2 : l.filter (fun z => decide (z ∈ x :: m)) = l.filter (fun z => decide (z ∈ m)) := List.filter_congr fun z hz => by
          have := hx z hz
          have : z ≠ x := by omega
          simp [this]
        have hf3 : m.filter (fun z => decide (z ∉ x :: l)) = m.filter (fun z => decide (z ∉ l)) := List.filter_congr fun z hz => by
          have := hy z hz
          have : z ≠ x := by omega
          simp [this]
        rw [List.filter_cons_of_neg (p := fun z => decide (z ∉ x :: m)) (by simp), List.filter_cons_of_pos (p := fun z => decide (z ∈ x :: m)) (by simp), List.filter_cons_of_neg (p := fun z => decide (z ∉ x :: l)) (by simp), hf1, hf2, hf3]
        simp
theorem sIds (s : ByteArray) (h : s.size ≤ 2000000) : scopes_Ids.f s = some (Ids_p s) := by unfold scopes_Ids.f; rw [if_pos (by omega)]
theorem sOf (l : List Int) (h : l.length ≤ 1000000) : scopes_Of.f l = some (ofS l) := by unfold scopes_Of.f; rw [if_pos h]
theorem sAdd (s : ByteArray) (n : Int) (h : s.size ≤ 2000000) : scopes_Add.f s n = some (addS s n) := by unfold scopes_Add.f; rw [if_pos (by omega)]
theorem sDrop (s : ByteArray) (n : Int) (h : s.size ≤ 2000000) : scopes_Drop.f s n = some (dropS s n) := by unfold scopes_Drop.f; rw [if_pos (by omega)]
theorem sFlip (s : ByteArray) (n : Int) (h : s.size ≤ 2000000) : scopes_Flip.f s n = some (flipS s n) := by unfold scopes_Flip.f; rw [if_pos (by omega)]
theorem P_len_le (s : ByteArray) (h : s.size ≤ 2000000) : (P s).length ≤ 1000000 := by rw [P_length]; omega
/-- merge, whole. -/
def mergeS (a b : ByteArray) : List Int × List Int × List Int × Int := if chk a = 0 then (if chk b = 0 then (minusL (P a) (P b), meetL (P a) (P b), minusL (P b) (P a), 0) else ([], [], [], chk b)) else ([], [], [], chk a)
theorem filt_minus (l m : List Int) : l.filter (fun x => decide (x ∉ m)) = minusL l m := by
  unfold minusL
  congr 1
  funext x
  by_cases h : x ∈ m <;> simp [h]
theorem filt_meet (l m : List Int) : l.filter (fun x => decide (x ∈ m)) = meetL l m := by
  unfold meetL
  congr 1
  funext x
  by_cases h : x ∈ m <;> simp [h]
theorem merge_f (a b : ByteArray) (ha : a.size ≤ 2000000) (hb : b.size ≤ 2000000) (k : Nat) (hk : 5000000 < k) : scopes_merge.f k a b = some (mergeS a b) := by
  unfold scopes_merge.f mergeS
  rw [sIds a ha, Option.bind_some]
  by_cases c1 : chk a = 0
  · rw [ids_good c1, if_pos c1]
    dsimp only
    rw [if_pos rfl, sIds b hb, Option.bind_some]
    by_cases c2 : chk b = 0
    · rw [ids_good c2, if_pos c2]
      dsimp only
      rw [if_pos rfl]
      have h1 := P_len_le a ha
      have h2 := P_len_le b hb
      rw [merge_l0 _ k [] [] [] (P a) (P b) rfl (by omega) (chk_asc c1) (chk_asc c2) (by simp; omega) (by simp; omega) (by simp; omega)]
      rw [filt_minus, filt_meet, filt_minus]
      rfl
    · rw [ids_bad c2, if_neg c2]
      dsimp only
      rw [if_neg c2]
  · rw [ids_bad c1, if_neg c1]
    dsimp only
    rw [if_neg c1]
theorem sRel (a b : ByteArray) (ha : a.size ≤ 2000000) (hb : b.size ≤ 2000000) (k : Nat) (hk : 5000001 < k) : scopes_Relate.f k a b = some (relS a b) := by
  obtain ⟨k, rfl⟩ : ∃ m, k = m + 1 := ⟨k - 1, by omega⟩
  unfold scopes_Relate.f
  rw [merge_f a b ha hb (k + 1) (by omega), Option.bind_some]
  unfold mergeS relS
  by_cases c1 : chk a = 0
  · by_cases c2 : chk b = 0
    · rw [if_pos c1, if_pos c2, if_pos c1, if_pos c2]
      dsimp only
      rw [if_pos rfl]
      generalize minusL (P a) (P b) = x
      generalize minusL (P b) (P a) = y
      cases x with
      | nil =>
        rw [if_neg (by simp)]
        simp only [scopes_Relate.j0]
        cases y with
        | nil => simp
        | cons y ys =>
          have h1 : ((y :: ys).length : Int) > 0 := by rw [List.length_cons]; omega
          rw [if_neg (by decide), if_neg (by simp), if_pos h1]
          simp
      | cons x xs =>
        have h0 : ((x :: xs).length : Int) > 0 := by rw [List.length_cons]; omega
        rw [if_pos h0]
        simp only [scopes_Relate.j0]
        cases y with
        | nil =>
          rw [if_neg (by simp), if_pos h0]
          simp
        | cons y ys =>
          have h1 : ((y :: ys).length : Int) > 0 := by rw [List.length_cons]; omega
          rw [if_pos (decide_eq_true h1)]
          simp
    · rw [if_pos c1, if_neg c2, if_pos c1, if_neg c2]
      dsimp only
      rw [if_neg c2]
  · rw [if_neg c1, if_neg c1]
    dsimp only
    rw [if_neg c1]
theorem g_of (l : List Int) (h : (l.all fun x => decide (0 ≤ x ∧ x < 65536)) = true) (ha : l.Pairwise (· < ·)) (hl : l.length ≤ 10000) : Good (ofP l) l := good_ofP (fun x hx => of_decide_eq_true (List.all_eq_true.1 h x hx)) ha hl
theorem ex_of : ofS [5, 258, 1, 5] = (ofP [1, 5, 258], 0) := by
  unfold ofS
  rw [if_pos (by decide), once_eq [5, 258, 1, 5] [1, 5, 258] (show List.Pairwise (· < ·) _ by decide) (by intro x; simp; omega)]
  exact setSpec_le (by rw [ofP_size]; decide)
theorem dec1 : Lib.itoa 1 = [49] := by simp [Lib.itoa, Lib.decDigits]
theorem dec5 : Lib.itoa 5 = [53] := by simp [Lib.itoa, Lib.decDigits]
theorem dec6 : Lib.itoa 6 = [54] := by simp [Lib.itoa, Lib.decDigits]
theorem dec258 : Lib.itoa 258 = [50, 53, 56] := by simp [Lib.itoa, Lib.decDigits]
theorem ex_print : printS (ofP [1, 5, 6, 258]) = ((⟨#[49, 44, 53, 45, 54, 44, 50, 53, 56]⟩ : ByteArray), 0) := by
  have g := g_of [1, 5, 6, 258] (by decide) (by decide) (by decide)
  unfold printS
  rw [if_pos g.ok, g.pl]
  unfold listS
  rw [if_neg (by decide), if_neg (by decide), if_neg (by decide), if_neg (by decide)]
  simp [listGo, runLen, dec1, dec5, dec6, dec258]
theorem awake_f (k : Nat) (hk : 6000000 < k) : mummerlaw09_awake.f k = some true := by
  unfold mummerlaw09_awake.f
  have g0 := g_of [1, 5, 258] (by decide) (by decide) (by decide)
  have g1 := g_of [1] (by decide) (by decide) (by decide)
  have z0 : (ofP [1, 5, 258]).size ≤ 2000000 := by rw [ofP_size]; decide
  rw [sOf _ (by decide), Option.bind_some, ex_of]
  dsimp only
  rw [sDrop _ _ z0, Option.bind_some, sFlip _ _ z0, Option.bind_some]
  have e1 : dropS (ofP [1, 5, 258]) 5 = (ofP [1, 258], 0) := by
    unfold dropS
    rw [if_pos g0.ok, if_pos (by decide), g0.pl]
    exact setSpec_le (by rw [ofP_size]; decide)
  have e2 : flipS (ofP [1, 5, 258]) 6 = (ofP [1, 5, 6, 258], 0) := by
    rw [flipS_ok _ _ g0.ok (by decide), g0.pl]
    exact setSpec_le (by rw [ofP_size]; decide)
  have e3 : addS (ofP [1, 5, 258]) 65536 = ((⟨#[]⟩ : ByteArray), 7) := by
    unfold addS
    rw [if_pos g0.ok, if_neg (by decide)]
  have e4 : relS (⟨#[0, 1]⟩ : ByteArray) (ofP [1, 5, 258]) = (1, 0) := by
    have h1 : (⟨#[0, 1]⟩ : ByteArray) = ofP [1] := rfl
    rw [h1]
    unfold relS
    rw [if_pos g1.ok, if_pos g0.ok, g1.pl, g0.pl]
    decide
  rw [e1, e2]
  dsimp only
  have e5 : scopes_Print.f (ofP [1, 5, 6, 258]) = some (printS (ofP [1, 5, 6, 258])) := by unfold scopes_Print.f; rw [if_pos (by rw [ofP_size]; decide)]
  rw [e5, ex_print, Option.bind_some, sRel _ _ (by decide) z0 k (by omega), Option.bind_some, sAdd _ _ z0, Option.bind_some, e3, e4]
  dsimp only
  rw [if_pos (by rw [ofP_toList]; rfl), if_pos rfl, if_pos (by rw [ofP_toList]; rfl), if_pos rfl, if_pos rfl, if_pos (by rw [ByteArray.toList_eq]), if_pos rfl, if_pos rfl, if_pos rfl]
  rfl
end Go.Proofs.YtkalbdeopogbpaaDoor.P
namespace Go.Proofs.YtkalbdeopogbpaaDoor.P
open Go.RowKit Go.Proofs.YtkalbdeopogbpaaDoorW.PrintWords Go.Proofs.YtkalbdeopogbpaaDoorW.PrintLast Sc
set_option linter.unusedVariables false
set_option linter.unusedSimpArgs false
set_option maxRecDepth 20000
set_option linter.unusedVariables false
set_option linter.unusedSimpArgs false
set_option maxRecDepth 20000
theorem check_l0 (s : ByteArray) (hs : s.size ≤ 4611686018427387904) (he : s.size % 2 = 0) : ∀ (d j k : Nat), 1 ≤ j → j + d = s.size / 2 → d < k →
    mummerref09_Check.l0 k s ((2 * j : Nat) : Int) = some (if asc (pairAt s (j - 1)) (tailFrom s j) = true then chkEnd s else 6) := by
  intro d
  induction d with
  | zero =>
    intro j k h1 hj hk
    obtain ⟨k, rfl⟩ : ∃ m, k = m + 1 := ⟨k - 1, by omega⟩
    have : j = s.size / 2 := by omega
    subst this
    rw [tailFrom_end]
    simp only [mummerref09_Check.l0]
    have ha : asc (pairAt s (s.size / 2 - 1)) [] = true := rfl
    rw [if_neg (by omega), ha]
    simp only [if_true, chkEnd]
    by_cases hx : (s.size : Int) > 20000
    · rw [if_pos hx, if_pos hx]
    · rw [if_neg hx, if_neg hx]
  | succ d ih =>
    intro j k h1 hj hk
    obtain ⟨k, rfl⟩ : ∃ m, k = m + 1 := ⟨k - 1, by omega⟩
    have e1 : wrap64 (((2 * j : Nat) : Int) - 2) = ((2 * (j - 1) : Nat) : Int) := by rw [w64 (by omega) (by omega)]; omega
    have e2 : wrap64 (((2 * j : Nat) : Int) + 2) = ((2 * (j + 1) : Nat) : Int) := by rw [w64 (by omega) (by omega)]; omega
    simp only [mummerref09_Check.l0]
    rw [if_pos (by omega), e1, if_pos (by omega), if_pos (by omega), if_pos (by omega), if_pos (by omega), e2, if_pos (by omega), if_pos (by omega)]
    simp only [Int.toNat_natCast]
    have hl := less_pairs s (j - 1) j (by omega) (by omega)
    rw [show 2 * (j - 1) + 2 = 2 * j by omega] at hl
    rw [show 2 * (j + 1) = 2 * j + 2 by omega]
    rw [tailFrom_step s j (by omega)]
    by_cases hc : pairAt s (j - 1) < pairAt s j
    · rw [if_pos (hl.2 hc)]
      have := ih (j + 1) k (by omega) (by omega) (by omega)
      rw [show 2 * (j + 1) = 2 * j + 2 by omega] at this
      rw [this]
      simp [asc, hc]
    · rw [if_neg (fun h => hc (hl.1 h))]
      simp [asc, hc]
theorem check_f (s : ByteArray) (hs : s.size ≤ 4611686018427387904) (k : Nat) (hk : s.size / 2 < k) : mummerref09_Check.f k s = some (chk s) := by
  unfold mummerref09_Check.f chk
  by_cases he : (s.size : Int) % 2 = 0
  · rw [if_pos he, if_pos he, pairs_tail]
    by_cases h0 : s.size = 0
    · obtain ⟨k, rfl⟩ : ∃ m, k = m + 1 := ⟨k - 1, by omega⟩
      simp only [mummerref09_Check.l0]
      rw [if_neg (by omega)]
      simp [tailFrom, h0, asc]
    · have := check_l0 s hs (by omega) (s.size / 2 - 1) 1 k (by omega) (by omega) (by omega)
      simp only [Nat.mul_one, Nat.sub_self] at this
      rw [show (2 : Int) = ((2 : Nat) : Int) from rfl, this, tailFrom_step s 0 (by omega)]
      have hp := pairAt_nonneg s 0
      have : asc (-1) (pairAt s 0 :: tailFrom s (0 + 1)) = asc (pairAt s 0) (tailFrom s 1) := by simp [asc]; omega
      rw [this]
      rfl
  · rw [if_neg he, if_neg he]
end Go.Proofs.YtkalbdeopogbpaaDoor.P
namespace Go.Proofs.YtkalbdeopogbpaaDoor.P
open Go.RowKit Go.Proofs.YtkalbdeopogbpaaDoorW.PrintWords Go.Proofs.YtkalbdeopogbpaaDoorW.PrintLast Sc
set_option linter.unusedVariables false
set_option linter.unusedSimpArgs false
set_option maxRecDepth 20000
theorem without_l0 (l : List Int) (x : Int) (hl : InS l) (hx : 0 ≤ x ∧ x < 65536) (hb : l.length ≤ 1099511627776) : ∀ (d j k : Nat), j + d = l.length → d < k → x ∉ l.take j →
    mummerref09_without.l0 k (ofP l) (ofP [x]) ((2 * j : Nat) : Int) = some (ofP (l.erase x)) := by
  intro d
  induction d with
  | zero =>
    intro j k hj hk hn
    obtain ⟨k, rfl⟩ : ∃ m, k = m + 1 := ⟨k - 1, by omega⟩
    simp only [mummerref09_without.l0, ofP_size]
    rw [if_neg (by omega)]
    have : x ∉ l := by rwa [show j = l.length by omega, List.take_length] at hn
    rw [List.erase_of_not_mem this]
  | succ d ih =>
    intro j k hj hk hn
    obtain ⟨k, rfl⟩ : ∃ m, k = m + 1 := ⟨k - 1, by omega⟩
    have hjl : j < l.length := by omega
    have e2 : wrap64 (((2 * j : Nat) : Int) + 2) = ((2 * (j + 1) : Nat) : Int) := by rw [w64 (by omega) (by omega)]; omega
    simp only [mummerref09_without.l0, ofP_size, e2, Int.toNat_natCast]
    rw [if_pos (by omega), if_pos (by omega), if_pos (by omega), if_pos (by omega), ofP_extract, get_drop_take l j hjl]
    by_cases hc : l[j] = x
    · have e0 : (ofP l).extract 0 (2 * j) = ofP (l.take j) := by have := ofP_extract l 0 j; simpa using this
      have e1 : (ofP l).extract (2 * (j + 1)) (2 * l.length) = ofP (l.drop (j + 1)) := by rw [ofP_extract, List.take_length]
      rw [if_pos ((ofP_one (hl _ (List.getElem_mem hjl)) hx).2 hc), if_pos (by omega), if_pos (by omega), e0, e1, if_pos (by rw [ofP_size, ofP_size]; simp; omega), ofP_append, erase_at l j x hjl hc hn]
    · rw [if_neg (fun h => hc ((ofP_one (hl _ (List.getElem_mem hjl)) hx).1 h))]
      refine ih (j + 1) k (by omega) (by omega) ?_
      rw [List.take_succ_eq_append_getElem hjl]
      intro h
      rcases List.mem_append.1 h with h | h
      · exact hn h
      · exact hc (by simpa using (List.mem_singleton.1 h).symm)
theorem without_f (l : List Int) (x : Int) (hl : InS l) (hx : 0 ≤ x ∧ x < 65536) (hb : l.length ≤ 1099511627776) (k : Nat) (hk : l.length < k) : mummerref09_without.f k (ofP l) x = some (ofP (l.erase x)) := by
  unfold mummerref09_without.f mummerref09_bytes.f
  rw [strOf_bs x hx, Option.bind_some]
  exact without_l0 l x hl hx hb l.length 0 k (by omega) hk (by simp)
theorem has_l0 (l : List Int) (x : Int) (hl : InS l) (hx : 0 ≤ x ∧ x < 65536) (hb : l.length ≤ 1099511627776) : ∀ (d j k : Nat), j + d = l.length → d < k → x ∉ l.take j →
    mummerref09_has.l0 k (ofP l) (ofP [x]) ((2 * j : Nat) : Int) = some (decide (x ∈ l)) := by
  intro d
  induction d with
  | zero =>
    intro j k hj hk hn
    obtain ⟨k, rfl⟩ : ∃ m, k = m + 1 := ⟨k - 1, by omega⟩
    simp only [mummerref09_has.l0, ofP_size]
    rw [if_neg (by omega)]
    have : x ∉ l := by rwa [show j = l.length by omega, List.take_length] at hn
    rw [decide_eq_false this]
  | succ d ih =>
    intro j k hj hk hn
    obtain ⟨k, rfl⟩ : ∃ m, k = m + 1 := ⟨k - 1, by omega⟩
    have hjl : j < l.length := by omega
    have e2 : wrap64 (((2 * j : Nat) : Int) + 2) = ((2 * (j + 1) : Nat) : Int) := by rw [w64 (by omega) (by omega)]; omega
    simp only [mummerref09_has.l0, ofP_size, e2, Int.toNat_natCast]
    rw [if_pos (by omega), if_pos (by omega), if_pos (by omega), if_pos (by omega), ofP_extract, get_drop_take l j hjl]
    by_cases hc : l[j] = x
    · rw [if_pos ((ofP_one (hl _ (List.getElem_mem hjl)) hx).2 hc), decide_eq_true (hc ▸ List.getElem_mem hjl)]
    · rw [if_neg (fun h => hc ((ofP_one (hl _ (List.getElem_mem hjl)) hx).1 h))]
      refine ih (j + 1) k (by omega) (by omega) ?_
      rw [List.take_succ_eq_append_getElem hjl]
      intro h
      rcases List.mem_append.1 h with h | h
      · exact hn h
      · exact hc (by simpa using (List.mem_singleton.1 h).symm)
theorem has_f (l : List Int) (x : Int) (hl : InS l) (hx : 0 ≤ x ∧ x < 65536) (hb : l.length ≤ 1099511627776) (k : Nat) (hk : l.length < k) : mummerref09_has.f k (ofP l) x = some (decide (x ∈ l)) := by
  unfold mummerref09_has.f mummerref09_bytes.f
  rw [strOf_bs x hx, Option.bind_some]
  exact has_l0 l x hl hx hb l.length 0 k (by omega) hk (by simp)
theorem with_l0 (l : List Int) (x : Int) (hl : InS l) (hx : 0 ≤ x ∧ x < 65536) (hb : l.length ≤ 1099511627776) (hn : x ∉ l) : ∀ (d j k : Nat), j + d = l.length → d < k → (∀ i (h : i < j) (h' : i < l.length), l[i] < x) →
    mummerref09_with.l0 k (ofP l) (ofP [x]) ((2 * j : Nat) : Int) = some (ofP (ins x l)) := by
  have fin : ∀ j, j ≤ l.length → insAt x l = j → ((ofP l).extract 0 (2 * j) ++ ofP [x]) ++ (ofP l).extract (2 * j) (2 * l.length) = ofP (ins x l) := by
    intro j hj e
    have e0 : (ofP l).extract 0 (2 * j) = ofP (l.take j) := by have := ofP_extract l 0 j; simpa using this
    have e1 : (ofP l).extract (2 * j) (2 * l.length) = ofP (l.drop j) := by rw [ofP_extract, List.take_length]
    rw [e0, e1, ofP_append, ofP_append]
    unfold ins
    rw [if_neg hn, e]
    simp
  intro d
  induction d with
  | zero =>
    intro j k hj hk hlt
    obtain ⟨k, rfl⟩ : ∃ m, k = m + 1 := ⟨k - 1, by omega⟩
    have e := insAt_at x l j (by omega) (fun i h => hlt i h (by omega)) (fun h => by omega)
    have s1 : ((ofP l).extract 0 (2 * j)).size ≤ 2 * l.length := by
      have := ofP_extract l 0 j
      rw [Nat.mul_zero] at this
      rw [this, ofP_size]; simp; omega
    have s2 : ((ofP l).extract (2 * j) (2 * l.length)).size ≤ 2 * l.length := by rw [ofP_extract, ofP_size]; simp; omega
    have s3 : (ofP [x]).size = 2 := by rw [ofP_size]; rfl
    simp only [mummerref09_with.l0, ofP_size, Int.toNat_natCast]
    rw [if_neg (by omega), if_pos (by omega), if_pos (by omega), if_pos (by simp only [List.length_singleton]; omega), if_pos (by rw [ByteArray.size_append, s3]; omega), fin j (by omega) e]
  | succ d ih =>
    intro j k hj hk hlt
    obtain ⟨k, rfl⟩ : ∃ m, k = m + 1 := ⟨k - 1, by omega⟩
    have hjl : j < l.length := by omega
    have e2 : wrap64 (((2 * j : Nat) : Int) + 2) = ((2 * (j + 1) : Nat) : Int) := by rw [w64 (by omega) (by omega)]; omega
    have s1 : ((ofP l).extract 0 (2 * j)).size ≤ 2 * l.length := by
      have := ofP_extract l 0 j
      rw [Nat.mul_zero] at this
      rw [this, ofP_size]; simp; omega
    have s2 : ((ofP l).extract (2 * j) (2 * l.length)).size ≤ 2 * l.length := by rw [ofP_extract, ofP_size]; simp; omega
    have s3 : (ofP [x]).size = 2 := by rw [ofP_size]; rfl
    simp only [mummerref09_with.l0, ofP_size, e2, Int.toNat_natCast]
    rw [if_pos (by omega), if_pos (by omega), if_pos (by omega), if_pos (by omega)]
    have ee : (ofP l).extract (2 * j) (2 * (j + 1)) = ofP [l[j]] := by rw [ofP_extract, get_drop_take l j hjl]
    rw [ee]
    by_cases hc : l[j] < x
    · rw [if_pos ((less_one (hl _ (List.getElem_mem hjl)) hx).2 hc)]
      refine ih (j + 1) k (by omega) (by omega) fun i h h' => ?_
      by_cases e : i = j
      · subst e; exact hc
      · exact hlt i (by omega) h'
    · have e := insAt_at x l j (by omega) (fun i h => hlt i h (by omega)) (fun _ => hc)
      rw [if_neg (fun h => hc ((less_one (hl _ (List.getElem_mem hjl)) hx).1 h)), if_pos (by omega), if_pos (by simp only [List.length_singleton]; omega), if_pos (by rw [ByteArray.size_append, s3]; omega), fin j (by omega) e]
theorem with_f (l : List Int) (x : Int) (hl : InS l) (hx : 0 ≤ x ∧ x < 65536) (hb : l.length ≤ 1099511627776) (k : Nat) (hk : l.length < k) : mummerref09_with.f k (ofP l) x = some (ofP (ins x l)) := by
  unfold mummerref09_with.f
  rw [has_f l x hl hx hb k hk, Option.bind_some]
  by_cases c : x ∈ l
  · rw [if_pos (decide_eq_true c)]
    unfold ins
    rw [if_pos c]
  · rw [if_neg (by simpa using c)]
    unfold mummerref09_bytes.f
    rw [strOf_bs x hx, Option.bind_some]
    exact with_l0 l x hl hx hb c l.length 0 k (by omega) hk (fun i h => by omega)
end Go.Proofs.YtkalbdeopogbpaaDoor.P
namespace Go.Proofs.YtkalbdeopogbpaaDoor.P
open Go.RowKit Go.Proofs.YtkalbdeopogbpaaDoorW.PrintWords Go.Proofs.YtkalbdeopogbpaaDoorW.PrintLast Sc
set_option linter.unusedVariables false
set_option linter.unusedSimpArgs false
set_option maxRecDepth 20000
theorem ids_l0 (s : ByteArray) (he : s.size % 2 = 0) (hb : s.size ≤ 1099511627776) : ∀ (d j k : Nat), j + d = s.size / 2 → d < k →
    mummerref09_ids.l0 k s (pairs s j) ((2 * j : Nat) : Int) = some (pairs s (s.size / 2)) := by
  intro d
  induction d with
  | zero =>
    intro j k hj hk
    obtain ⟨k, rfl⟩ : ∃ m, k = m + 1 := ⟨k - 1, by omega⟩
    simp only [mummerref09_ids.l0]
    rw [if_neg (by omega), show j = s.size / 2 by omega]
  | succ d ih =>
    intro j k hj hk
    obtain ⟨k, rfl⟩ : ∃ m, k = m + 1 := ⟨k - 1, by omega⟩
    have e1 : wrap64 (((2 * j : Nat) : Int) + 1) = ((2 * j + 1 : Nat) : Int) := by rw [w64 (by omega) (by omega)]; omega
    have e2 : wrap64 (((2 * j : Nat) : Int) + 2) = ((2 * (j + 1) : Nat) : Int) := by rw [w64 (by omega) (by omega)]; omega
    simp only [mummerref09_ids.l0, e1, e2]
    have r1 := bt_range s ((2 * j : Nat) : Int); have r2 := bt_range s ((2 * j + 1 : Nat) : Int)
    rw [if_pos (by omega), if_pos (by omega), if_pos (by omega), if_pos (by omega), if_pos (by rw [pairs_length]; omega)]
    rw [w64 (n := bt s ((2 * j : Nat) : Int)) (by omega) (by omega), w64 (n := bt s ((2 * j + 1 : Nat) : Int)) (by omega) (by omega), w64 (n := 256 * bt s ((2 * j : Nat) : Int)) (by omega) (by omega), w64 (by omega) (by omega)]
    have := ih (j + 1) k (by omega) (by omega)
    rw [pairs_succ] at this
    have e3 : 256 * bt s ((2 * j : Nat) : Int) + bt s ((2 * j + 1 : Nat) : Int) = pairAt s j := by unfold pairAt; omega
    rw [e3]; exact this
theorem ids_f (s : ByteArray) (he : s.size % 2 = 0) (hb : s.size ≤ 1099511627776) (k : Nat) (hk : s.size / 2 < k) : mummerref09_ids.f k s = some (pairs s (s.size / 2)) :=
  ids_l0 s he hb (s.size / 2) 0 k (by omega) hk
end Go.Proofs.YtkalbdeopogbpaaDoor.P
namespace Go.Proofs.YtkalbdeopogbpaaDoor.P
open Go.RowKit Go.Proofs.YtkalbdeopogbpaaDoorW.PrintWords Go.Proofs.YtkalbdeopogbpaaDoorW.PrintLast Sc
set_option linter.unusedVariables false
set_option linter.unusedSimpArgs false
set_option maxRecDepth 20000
theorem sWrite (l : List Int) (h : l.length ≤ 1000000) (hI : InS l) : scopes_write.f l = some (ofP l) := by unfold scopes_write.f; rw [if_pos ⟨h, hI⟩]
theorem minusL_len (l m : List Int) : (minusL l m).length ≤ l.length := List.length_filter_le _ _
theorem meetL_len (l m : List Int) : (meetL l m).length ≤ l.length := List.length_filter_le _ _
theorem meetL_InS {l : List Int} (h : InS l) (m : List Int) : InS (meetL l m) := fun x hx => h x ((mem_meetL x l m).1 hx).1
theorem sUnion (a b : ByteArray) (ha : a.size ≤ 300000) (hb : b.size ≤ 300000) (k : Nat) (hk : 5000000 < k) : scopes_Union.f k a b = some (unionSpec a b) := by
  unfold scopes_Union.f
  rw [merge_f a b (by omega) (by omega) k hk, Option.bind_some]
  unfold mergeS
  by_cases c1 : chk a = 0
  · by_cases c2 : chk b = 0
    · rw [if_pos c1, if_pos c2]
      dsimp only
      have e := unionS_lib a b c1 c2
      have h1 := minusL_len (P a) (P b)
      have h2 := meetL_len (P a) (P b)
      have h3 := minusL_len (P b) (P a)
      have h4 : (P a).length ≤ 150000 := by rw [P_length]; omega
      have h5 : (P b).length ≤ 150000 := by rw [P_length]; omega
      rw [if_pos rfl, if_pos (by omega), List.append_assoc]
      exact congrArg some e
    · rw [if_pos c1, if_neg c2]
      dsimp only
      rw [if_neg c2]
      unfold unionSpec
      rw [if_pos c1, if_neg c2]
  · rw [if_neg c1]
    dsimp only
    rw [if_neg c1]
    unfold unionSpec
    rw [if_neg c1]
theorem sMeet (a b : ByteArray) (ha : a.size ≤ 2000000) (hb : b.size ≤ 2000000) (k : Nat) (hk : 5000000 < k) : scopes_Meet.f k a b = some (meetS a b) := by
  unfold scopes_Meet.f
  rw [merge_f a b ha hb k hk, Option.bind_some]
  unfold mergeS meetS
  by_cases c1 : chk a = 0
  · by_cases c2 : chk b = 0
    · rw [if_pos c1, if_pos c2, if_pos c1, if_pos c2]
      dsimp only
      have h4 := P_len_le a ha
      have h2 := meetL_len (P a) (P b)
      rw [sWrite _ (by omega) (meetL_InS (P_InS a) _)]
      rfl
    · rw [if_pos c1, if_neg c2, if_pos c1, if_neg c2]
      rfl
  · rw [if_neg c1, if_neg c1]
    rfl
end Go.Proofs.YtkalbdeopogbpaaDoor.P
namespace Go.Proofs.YtkalbdeopogbpaaDoor.P
open Go.RowKit Go.Proofs.YtkalbdeopogbpaaDoorW.PrintWords Go.Proofs.YtkalbdeopogbpaaDoorW.PrintLast Sc
set_option linter.unusedVariables false
set_option linter.unusedSimpArgs false
set_option maxRecDepth 20000
theorem minus_l0 (m : List Int) (hm : InS m) (hmb : m.length ≤ 1099511627776) : ∀ (d j k : Nat) (l : List Int), InS l → l.length ≤ 1099511627776 → j + d = m.length → d + l.length < k →
    mummerref09_Minus.l0 k (ofP l) m (j : Int) = some (ofP ((m.drop j).foldl List.erase l), 0) := by
  intro d
  induction d with
  | zero =>
    intro j k l hl hlb hj hk
    obtain ⟨k, rfl⟩ : ∃ q, k = q + 1 := ⟨k - 1, by omega⟩
    simp only [mummerref09_Minus.l0]
    rw [if_neg (by omega), List.drop_eq_nil_of_le (by omega)]; rfl
  | succ d ih =>
    intro j k l hl hlb hj hk
    obtain ⟨k, rfl⟩ : ∃ q, k = q + 1 := ⟨k - 1, by omega⟩
    have hjl : j < m.length := by omega
    have e1 : rd m (j : Int) = m[j] := by simp [rd, hjl]
    have e2 : wrap64 ((j : Int) + 1) = ((j + 1 : Nat) : Int) := by rw [w64 (by omega) (by omega)]; omega
    simp only [mummerref09_Minus.l0, e1, e2]
    rw [if_pos (by omega), if_pos (by omega), without_f l m[j] hl (hm _ (List.getElem_mem hjl)) hlb k (by omega), Option.bind_some]
    have hle := List.length_erase_le (a := m[j]) (l := l)
    rw [ih (j + 1) k (l.erase m[j]) (InS_erase hl _) (by omega) (by omega) (by omega), List.drop_eq_getElem_cons hjl, List.foldl_cons]
theorem refSub_f (a b : ByteArray) (ha : a.size ≤ 1099511627776) (hb : b.size ≤ 1099511627776) (k : Nat) (hk : a.size + b.size < k) : mummerref09_Sub.f k a b = some (subSpec a b) := by
  unfold mummerref09_Sub.f mummerref09_Minus.f mummerref09_two.f subSpec
  rw [check_f a (by omega) k (by omega), Option.bind_some]
  by_cases c1 : chk a = 0
  · rw [if_pos c1, if_pos c1, check_f b (by omega) k (by omega), Option.bind_some, Option.bind_some]
    by_cases c2 : chk b = 0
    · rw [if_pos c2, if_pos c2, ids_f b (chk_even c2) hb k (by omega), Option.bind_some]
      have hla := P_length a; have hlb := P_length b
      have hm := minus_l0 (P b) (P_InS b) (by omega) (P b).length 0 k (P a) (P_InS a) (by omega) (by omega) (by omega)
      rw [← ofP_P c1] at hm
      rw [show pairs b (b.size / 2) = P b from rfl, show ((0 : Nat) : Int) = 0 from rfl] at *
      rw [hm, Option.bind_some]
      simp only [if_true, List.drop_zero]
      have hs : (((ofP ((P b).foldl List.erase (P a))).toList == ([] : List UInt8)) : Bool) = subset a b := by
        rw [Bool.eq_iff_iff, beq_iff_eq, ofP_nil_iff, foldl_erase_nil _ _ (chk_asc c1).nodup, subset_iff]
      rw [hs]
    · rw [if_neg c2, if_neg c2]
      simp [c2]
  · rw [if_neg c1, if_neg c1]
    simp [c1]
theorem scopesSub_f (a b : ByteArray) (ha : a.size ≤ 1099511627776) (hb : b.size ≤ 1099511627776) (k : Nat) (hk : a.size + b.size < k) : scopes_Sub.f k a b = some (subSpec a b) := by
  unfold scopes_Sub.f scopes_merge.f scopes_Ids.f subSpec
  rw [if_pos (by omega), if_pos (by omega), Option.bind_some]
  unfold Ids_p
  by_cases c1 : chk a = 0
  · rw [if_pos c1, if_pos c1]
    simp only [if_true, Option.bind_some]
    by_cases c2 : chk b = 0
    · rw [if_pos c2, if_pos c2]
      simp only [if_true]
      have hla := P_length a; have hlb := P_length b
      have hm := merge_l0 ((P a).length + (P b).length) k [] [] [] (P a) (P b) rfl (by omega) (chk_asc c1) (chk_asc c2) (by simp; omega) (by simp; omega) (by simp; omega)
      rw [show pairs a (a.size / 2) = P a from rfl, show pairs b (b.size / 2) = P b from rfl, hm, Option.bind_some]
      simp only [List.nil_append, if_true]
      have hs : ((((P a).filter (fun x => decide (x ∉ P b))).length : Int) == 0) = subset a b := by
        rw [Bool.eq_iff_iff, beq_iff_eq, subset_iff]
        constructor
        · intro h x hx
          have h0 : (P a).filter (fun x => decide (x ∉ P b)) = [] := List.length_eq_zero_iff.1 (by omega)
          have := List.filter_eq_nil_iff.1 h0 x hx
          simpa using this
        · intro h
          have h0 : (P a).filter (fun x => decide (x ∉ P b)) = [] := List.filter_eq_nil_iff.2 fun x hx => by simpa using h x hx
          rw [h0]; rfl
      rw [hs]
    · rw [if_neg c2, if_neg c2]
      simp [c2]
  · rw [if_neg c1, if_neg c1]
    simp [c1]
theorem union_l0 (m : List Int) (hm : InS m) (hmb : m.length ≤ 1000000000) : ∀ (d j k : Nat) (l : List Int), InS l → l.length ≤ 1000000 + j → j + d = m.length → d + m.length + 1000000 < k →
    mummerref09_Union.l0 k (ofP l) m (j : Int) = some (setSpec (ofP (uni l (m.drop j)))) := by
  intro d
  induction d with
  | zero =>
    intro j k l hl hlb hj hk
    obtain ⟨k, rfl⟩ : ∃ m, k = m + 1 := ⟨k - 1, by omega⟩
    simp only [mummerref09_Union.l0]
    rw [if_neg (by omega), List.drop_eq_nil_of_le (by omega)]
    have e : uni l [] = l := rfl
    rw [e]
    unfold mummerref09_set.f setSpec
    by_cases c : ((ofP l).size : Int) > 20000
    · rw [if_pos c, if_pos c]; rfl
    · rw [if_neg c, if_neg c]; rfl
  | succ d ih =>
    intro j k l hl hlb hj hk
    obtain ⟨k, rfl⟩ : ∃ m, k = m + 1 := ⟨k - 1, by omega⟩
    have hjl : j < m.length := by omega
    have hx := hm _ (List.getElem_mem hjl)
    have hil := ins_len m[j] l
    simp only [mummerref09_Union.l0, wnext j (by omega)]
    rw [if_pos (by omega), if_pos (by omega), show rd m (j : Int) = m[j] from by simp [rd, hjl], with_f l m[j] hl hx (by omega) k (by omega), Option.bind_some, List.drop_eq_getElem_cons hjl]
    exact ih (j + 1) k (ins m[j] l) (ins_InS hl hx) (by omega) (by omega) (by omega)
theorem two_f (a b : ByteArray) (ha : a.size ≤ 2000000) (hb : b.size ≤ 2000000) (k : Nat) (hk : 2000000 < k) : mummerref09_two.f k a b = some (if chk a = 0 then chk b else chk a) := by
  unfold mummerref09_two.f
  rw [check_f a (by omega) k (by omega), Option.bind_some]
  split
  · rw [check_f b (by omega) k (by omega)]; rfl
  · rfl
theorem union_f (a b : ByteArray) (ha : a.size ≤ 2000000) (hb : b.size ≤ 2000000) (k : Nat) (hk : 5000000 < k) : mummerref09_Union.f k a b = some (unionSpec a b) := by
  unfold mummerref09_Union.f unionSpec
  rw [two_f a b ha hb k (by omega), Option.bind_some]
  by_cases c1 : chk a = 0
  · rw [if_pos c1, if_pos c1]
    by_cases c2 : chk b = 0
    · rw [if_pos c2, if_pos c2, ids_f b (chk_even c2) (by omega) k (by omega), Option.bind_some]
      have hla := P_length a; have hlb := P_length b
      have := union_l0 (P b) (P_InS b) (by omega) (P b).length 0 k (P a) (P_InS a) (by omega) (by omega) (by omega)
      rw [← ofP_P c1, List.drop_zero] at this
      exact this
    · rw [if_neg c2, if_neg c2]
  · rw [if_neg c1, if_neg c1, if_neg c1]
theorem minusL_InS {l : List Int} (h : InS l) (m : List Int) : InS (minusL l m) := fun x hx => h x ((mem_minusL x l m).1 hx).1
theorem sMinus (a b : ByteArray) (ha : a.size ≤ 2000000) (hb : b.size ≤ 2000000) (k : Nat) (hk : 5000000 < k) : scopes_Minus.f k a b = some (minusS a b) := by
  unfold scopes_Minus.f
  rw [merge_f a b ha hb k hk, Option.bind_some]
  unfold mergeS minusS
  by_cases c1 : chk a = 0
  · by_cases c2 : chk b = 0
    · rw [if_pos c1, if_pos c2, if_pos c1, if_pos c2]
      dsimp only
      have h4 := P_len_le a ha
      have h2 := minusL_len (P a) (P b)
      rw [sWrite _ (by omega) (minusL_InS (P_InS a) _)]
      rfl
    · rw [if_pos c1, if_neg c2, if_pos c1, if_neg c2]
      rfl
  · rw [if_neg c1, if_neg c1]
    rfl
theorem rMinus (a b : ByteArray) (ha : a.size ≤ 2000000) (hb : b.size ≤ 2000000) (k : Nat) (hk : 5000000 < k) : mummerref09_Minus.f k a b = some (minusS a b) := by
  unfold mummerref09_Minus.f
  rw [two_f a b ha hb k (by omega), Option.bind_some]
  by_cases c1 : chk a = 0
  · rw [if_pos c1]
    by_cases c2 : chk b = 0
    · rw [if_pos c2, ids_f b (chk_even c2) (by omega) k (by omega), Option.bind_some]
      have h1 := P_len_le a ha
      have h2 := P_len_le b hb
      have e := minus_l0 (P b) (P_InS b) (by omega) (P b).length 0 k (P a) (P_InS a) (by omega) (by omega) (by omega)
      rw [← ofP_P c1, List.drop_zero] at e
      exact e.trans (congrArg some (minusS_ref a b c1 c2))
    · rw [if_neg c2]
      unfold minusS
      rw [if_pos c1, if_neg c2]
  · rw [if_neg c1, if_neg c1]
    unfold minusS
    rw [if_neg c1]
theorem rMeet (a b : ByteArray) (ha : a.size ≤ 20100) (hb : b.size ≤ 2000000) (k : Nat) (hk : 5000000 < k) : mummerref09_Meet.f k a b = some (meetS a b) := by
  unfold mummerref09_Meet.f
  rw [rMinus a b (by omega) hb k hk, Option.bind_some]
  by_cases c1 : chk a = 0
  · by_cases c2 : chk b = 0
    · have g := good_minus (good_of c1) (good_of c2)
      rw [g.1]
      dsimp only
      have hl := minusL_len (P a) (P b)
      have h4 : (P a).length ≤ 10050 := by rw [P_length]; omega
      rw [if_pos rfl, rMinus a _ (by omega) (by rw [ofP_size]; omega) k hk, Option.bind_some]
      have e := minusS_ref a (ofP (minusL (P a) (P b))) c1 g.2.ok
      rw [g.2.pl] at e
      have m1 : minusL (P a) (P b) = (P b).foldl List.erase (P a) := (minus_filter (chk_asc c1) _).symm
      rw [← e, ← meetS_ref a b c1 c2, m1]
    · have e : minusS a b = ((⟨#[]⟩ : ByteArray), chk b) := by unfold minusS; rw [if_pos c1, if_neg c2]
      rw [e]
      dsimp only
      rw [if_neg c2]
      unfold meetS
      rw [if_pos c1, if_neg c2]
  · have e : minusS a b = ((⟨#[]⟩ : ByteArray), chk a) := by unfold minusS; rw [if_neg c1]
    rw [e]
    dsimp only
    rw [if_neg c1]
    unfold meetS
    rw [if_neg c1]
theorem rRel (a b : ByteArray) (ha : a.size ≤ 2000000) (hb : b.size ≤ 2000000) (k : Nat) (hk : 5000001 < k) : mummerref09_Relate.f k a b = some (relS a b) := by
  obtain ⟨k, rfl⟩ : ∃ m, k = m + 1 := ⟨k - 1, by omega⟩
  rw [← relS_ref]
  unfold mummerref09_Relate.f relRef
  rw [refSub_f a b (by omega) (by omega) (k + 1) (by omega), Option.bind_some, refSub_f b a (by omega) (by omega) (k + 1) (by omega), Option.bind_some]
  generalize subSpec a b = x
  generalize subSpec b a = y
  obtain ⟨x1, x2⟩ := x
  obtain ⟨y1, y2⟩ := y
  dsimp only
  by_cases c1 : x2 = 0
  · rw [if_pos c1, if_pos c1]
    by_cases c2 : y2 = 0
    · rw [if_pos c2, if_pos c2]
      cases x1 <;> cases y1 <;> simp [mummerref09_Relate.j0]
    · rw [if_neg c2, if_neg c2]
  · rw [if_neg c1, if_neg c1]
theorem meets_j0 (a b : ByteArray) (f : Bool) (h : f = false → a.size ≤ 300 ∧ b.size ≤ 300) (k : Nat) (hk : 7000000 < k) : mummerlaw09_ScopesMeets.j0 k a b f = some true := by
  obtain ⟨k, rfl⟩ : ∃ m, k = m + 1 := ⟨k - 1, by omega⟩
  simp only [mummerlaw09_ScopesMeets.j0]
  cases f with
  | true => rw [if_pos rfl, awake_f k (by omega)]; rfl
  | false =>
    obtain ⟨h1, h2⟩ := h rfl
    rw [if_neg (by decide), sUnion a b (by omega) (by omega) k (by omega), Option.bind_some, union_f a b (by omega) (by omega) k (by omega), Option.bind_some, sMeet a b (by omega) (by omega) k (by omega), Option.bind_some, rMeet a b (by omega) (by omega) k (by omega), Option.bind_some]
    rw [if_pos rfl, if_pos rfl, if_pos rfl, if_pos rfl]
    rw [sMinus a b (by omega) (by omega) k (by omega), Option.bind_some, rMinus a b (by omega) (by omega) k (by omega), Option.bind_some, scopesSub_f a b (by omega) (by omega) k (by omega), Option.bind_some, refSub_f a b (by omega) (by omega) k (by omega), Option.bind_some, sRel a b (by omega) (by omega) k (by omega), Option.bind_some, rRel a b (by omega) (by omega) k (by omega), Option.bind_some]
    rw [if_pos rfl, if_pos rfl, if_pos (by simp), if_pos rfl, if_pos rfl, if_pos rfl, awake_f k (by omega)]
    rfl
theorem law_meets (a b : ByteArray) : ∃ k, mummerlaw09_ScopesMeets.f k a b = some true := by
  refine ⟨8000000, ?_⟩
  unfold mummerlaw09_ScopesMeets.f
  split
  · exact meets_j0 a b true (fun h => by cases h) _ (by omega)
  · exact meets_j0 a b _ (fun h => ⟨by omega, by have := of_decide_eq_false h; omega⟩) _ (by omega)
end Go.Proofs.YtkalbdeopogbpaaDoor.P
namespace Go.Proofs.YtkalbdeopogbpaaDoor.Pure
open Go.RowKit Go.Proofs.YtkalbdeopogbpaaDoor.P Go.Proofs.YtkalbdeopogbpaaDoorW.PrintWords Go.Proofs.YtkalbdeopogbpaaDoorW.PrintLast
theorem ScopesMeets : mummerlaw09_ScopesMeets.Goal := by
  intro a b _ _; exact law_meets a b
end Go.Proofs.YtkalbdeopogbpaaDoor.Pure
