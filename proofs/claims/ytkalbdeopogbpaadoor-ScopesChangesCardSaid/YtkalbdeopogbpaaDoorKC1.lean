import Derived.Test.YtkalbdeopogbpaaDoorOpen
import Derived.Test.YtkalbdeopogbpaaDoorPx21
import Derived.Test.YtkalbdeopogbpaaDoorPx1
import Derived.Test.YtkalbdeopogbpaaDoorPx2
import Derived.Test.YtkalbdeopogbpaaDoorPx3
import Derived.Test.YtkalbdeopogbpaaDoorPx4
import Derived.Test.YtkalbdeopogbpaaDoorPx5
import Derived.Test.YtkalbdeopogbpaaDoorPx8
import Derived.Test.YtkalbdeopogbpaaDoorPx13
import Derived.Test.YtkalbdeopogbpaaDoorPx14
import Derived.Test.YtkalbdeopogbpaaDoorPx16
import Derived.Test.YtkalbdeopogbpaaDoorPx18
import Derived.Test.YtkalbdeopogbpaaDoorPx6
import Derived.Test.YtkalbdeopogbpaaDoorPx15
import Derived.Test.YtkalbdeopogbpaaDoorPx17
import Derived.Test.YtkalbdeopogbpaaDoorPx19
import Derived.Test.YtkalbdeopogbpaaDoorPx20
namespace Go.Proofs.YtkalbdeopogbpaaDoor.P
open Go.RowKit Go.Proofs.YtkalbdeopogbpaaDoorW.PrintWords Go.Proofs.YtkalbdeopogbpaaDoorW.PrintLast
/-- What is left to prove of the law. -/
def mummerlaw09_ScopesChanges.Goal : Prop := ∀ (a0 : ByteArray) (a1 : Int), (a0.size ≤ 140737488351232) → ((-9223372036854775808) ≤ a1 ∧ a1 ≤ 9223372036854775807) → ∃ k, mummerlaw09_ScopesChanges.f k a0 a1 = some true
end Go.Proofs.YtkalbdeopogbpaaDoor.P
namespace Go.Proofs.YtkalbdeopogbpaaDoor.P
open Go.RowKit Go.Proofs.YtkalbdeopogbpaaDoorW.PrintWords Go.Proofs.YtkalbdeopogbpaaDoorW.PrintLast Sc
set_option linter.unusedVariables false
set_option linter.unusedSimpArgs false
set_option maxRecDepth 20000
theorem merge_l0 : ∀ (d k : Nat) (f b s l m : List Int), l.length + m.length = d → d < k → Asc l → Asc m → f.length + l.length < 17592186044416 → b.length + l.length < 17592186044416 → s.length + m.length < 17592186044416 →
    scopes_merge.l0 k f b s l m = some (f ++ l.filter (fun x => decide (x ∉ m)), b ++ l.filter (fun x => decide (x ∈ m)), s ++ m.filter (fun x => decide (x ∉ l)), 0) := by
  intro d
  induction d using Nat.strongRecOn with
  | _ d ih =>
  intro k f b s l m hd hk hl hm h1 h2 h3
  obtain ⟨k, rfl⟩ : ∃ q, k = q + 1 := ⟨k - 1, by omega⟩
  match l, m, hl, hm with
  | [], m, _, _ =>
    simp only [scopes_merge.l0]
    rw [if_pos (by simp), if_pos (by simpa using h3)]
    have : m.filter (fun x => decide (x ∉ ([] : List Int))) = m := List.filter_eq_self.2 (by simp)
    rw [this]
    simp
  | x :: l, [], _, _ =>
    simp only [scopes_merge.l0]
    rw [if_neg (by simp <;> omega), if_pos (by simp), if_pos (by simpa using h1)]
    have e1 : (x :: l).filter (fun z => decide (z ∉ ([] : List Int))) = x :: l := List.filter_eq_self.2 (by simp)
    have e2 : (x :: l).filter (fun z => decide (z ∈ ([] : List Int))) = [] := List.filter_eq_nil_iff.2 (by simp)
    rw [e1, e2]
    simp
  | x :: l, y :: m, hl, hm =>
    obtain ⟨hx, hl'⟩ := List.pairwise_cons.1 hl
    obtain ⟨hy, hm'⟩ := List.pairwise_cons.1 hm
    simp only [List.length_cons] at hd h1 h2 h3
    simp only [scopes_merge.l0]
    have e1 : rd (x :: l) 0 = x := rfl
    have e2 : rd (y :: m) 0 = y := rfl
    have e3 : (x :: l).drop (1 : Int).toNat = l := rfl
    have e4 : (y :: m).drop (1 : Int).toNat = m := rfl
    rw [if_neg (by simp <;> omega), if_neg (by simp <;> omega), if_pos (by simp <;> omega), if_pos (by simp <;> omega), e1, e2, e3, e4]
    by_cases c1 : x < y
    · rw [if_pos c1, if_pos (by omega), if_pos (by simp <;> omega)]
      rw [ih (l.length + (y :: m).length) (by simp <;> omega) k (f ++ [x]) b s l (y :: m) rfl (by simp <;> omega) hl' hm (by simp <;> omega) (by omega) (by simp <;> omega)]
      have hxm : x ∉ y :: m := fun h => by
        rcases List.mem_cons.1 h with rfl | h
        · omega
        · have := hy x h; omega
      have hf : (y :: m).filter (fun z => decide (z ∉ x :: l)) = (y :: m).filter (fun z => decide (z ∉ l)) := List.filter_congr fun z hz => by
        have : z ≠ x := fun e => hxm (e ▸ hz)
        simp [this]
      rw [hf, List.filter_cons_of_pos (p := fun z => decide (z ∉ y :: m)) (decide_eq_true hxm), List.filter_cons_of_neg (p := fun z => decide (z ∈ y :: m)) (fun e => hxm (of_decide_eq_true e))]
      simp
    · rw [if_neg c1]
      by_cases c2 : x > y
      · rw [if_pos c2, if_pos (by omega), if_pos (by simp <;> omega)]
        rw [ih ((x :: l).length + m.length) (by simp <;> omega) k f b (s ++ [y]) (x :: l) m rfl (by simp <;> omega) hl hm' (by simp <;> omega) (by simp <;> omega) (by simp <;> omega)]
        have hyl : y ∉ x :: l := fun h => by
          rcases List.mem_cons.1 h with rfl | h
          · omega
          · have := hx y h; omega
        have hf : ∀ z ∈ x :: l, (z ∈ y :: m ↔ z ∈ m) := fun z hz => by
          have : z ≠ y := fun e => hyl (e ▸ hz)
          simp [this]
        have hf1 : (x :: l).filter (fun z => decide (z ∉ y :: m)) = (x :: l).filter (fun z => decide (z ∉ m)) := List.filter_congr fun z hz => by simp only [hf z hz]
        have hf2 : (x :: l).filter (fun z => decide (z ∈ y :: m)) = (x :: l).filter (fun z => decide (z ∈ m)) := List.filter_congr fun z hz => by simp only [hf z hz]
        rw [hf1, hf2, List.filter_cons_of_pos (p := fun z => decide (z ∉ x :: l)) (decide_eq_true hyl)]
        simp
      · obtain rfl : x = y := by omega
        rw [if_neg c2, if_pos (by omega), if_pos (by simp <;> omega), if_pos (by simp <;> omega)]
        rw [ih (l.length + m.length) (by omega) k f (b ++ [x]) s l m rfl (by omega) hl' hm' (by omega) (by simp <;> omega) (by omega)]
        have hf1 : l.filter (fun z => decide (z ∉ x :: m)) = l.filter (fun z => decide (z ∉ m)) := List.filter_congr fun z hz => by
          have := hx z hz
          have : z ≠ x := by omega
          simp [this]
        have hf2 : l.filter (fun z => decide (z ∈ x :: m)) = l.filter (fun z => decide (z ∈ m)) := List.filter_congr fun z hz => by
          have := hx z hz
          have : z ≠ x := by omega
          simp [this]
        have hf3 : m.filter (fun z => decide (z ∉ x :: l)) = m.filter (fun z => decide (z ∉ l)) := List.filter_congr fun z hz => by
          have := hy z hz
          have : z ≠ x := by omega
          simp [this]
        rw [List.filter_cons_of_neg (p := fun z => decide (z ∉ x :: m)) (by simp), List.filter_cons_of_pos (p := fun z => decide (z ∈ x :: m)) (by simp), List.filter_cons_of_neg (p := fun z => decide (z ∉ x :: l)) (by simp), hf1, hf2, hf3]
        simp
theorem sIds (s : ByteArray) (h : s.size ≤ 2000000) : scopes_Ids.f s = some (Ids_p s) := by unfold scopes_Ids.f; rw [if_pos (by omega)]
theorem sOf (l : List Int) (h : l.length ≤ 1000000) : scopes_Of.f l = some (ofS l) := by unfold scopes_Of.f; rw [if_pos h]
theorem sAdd (s : ByteArray) (n : Int) (h : s.size ≤ 2000000) : scopes_Add.f s n = some (addS s n) := by unfold scopes_Add.f; rw [if_pos (by omega)]
theorem sDrop (s : ByteArray) (n : Int) (h : s.size ≤ 2000000) : scopes_Drop.f s n = some (dropS s n) := by unfold scopes_Drop.f; rw [if_pos (by omega)]
theorem sFlip (s : ByteArray) (n : Int) (h : s.size ≤ 2000000) : scopes_Flip.f s n = some (flipS s n) := by unfold scopes_Flip.f; rw [if_pos (by omega)]
theorem P_len_le (s : ByteArray) (h : s.size ≤ 2000000) : (P s).length ≤ 1000000 := by rw [P_length]; omega
/-- merge, whole. -/
def mergeS (a b : ByteArray) : List Int × List Int × List Int × Int := if chk a = 0 then (if chk b = 0 then (minusL (P a) (P b), meetL (P a) (P b), minusL (P b) (P a), 0) else ([], [], [], chk b)) else ([], [], [], chk a)
theorem filt_minus (l m : List Int) : l.filter (fun x => decide (x ∉ m)) = minusL l m := by
  unfold minusL
  congr 1
  funext x
  by_cases h : x ∈ m <;> simp [h]
theorem filt_meet (l m : List Int) : l.filter (fun x => decide (x ∈ m)) = meetL l m := by
  unfold meetL
  congr 1
  funext x
  by_cases h : x ∈ m <;> simp [h]
theorem merge_f (a b : ByteArray) (ha : a.size ≤ 2000000) (hb : b.size ≤ 2000000) (k : Nat) (hk : 5000000 < k) : scopes_merge.f k a b = some (mergeS a b) := by
  unfold scopes_merge.f mergeS
  rw [sIds a ha, Option.bind_some]
  by_cases c1 : chk a = 0
  · rw [ids_good c1, if_pos c1]
    dsimp only
    rw [if_pos rfl, sIds b hb, Option.bind_some]
    by_cases c2 : chk b = 0
    · rw [ids_good c2, if_pos c2]
      dsimp only
      rw [if_pos rfl]
      have h1 := P_len_le a ha
      have h2 := P_len_le b hb
      rw [merge_l0 _ k [] [] [] (P a) (P b) rfl (by omega) (chk_asc c1) (chk_asc c2) (by simp; omega) (by simp; omega) (by simp; omega)]
      rw [filt_minus, filt_meet, filt_minus]
      rfl
    · rw [ids_bad c2, if_neg c2]
      dsimp only
      rw [if_neg c2]
  · rw [ids_bad c1, if_neg c1]
    dsimp only
    rw [if_neg c1]
theorem sRel (a b : ByteArray) (ha : a.size ≤ 2000000) (hb : b.size ≤ 2000000) (k : Nat) (hk : 5000001 < k) : scopes_Relate.f k a b = some (relS a b) := by
  obtain ⟨k, rfl⟩ : ∃ m, k = m + 1 := ⟨k - 1, by omega⟩
  unfold scopes_Relate.f
  rw [merge_f a b ha hb (k + 1) (by omega), Option.bind_some]
  unfold mergeS relS
  by_cases c1 : chk a = 0
  · by_cases c2 : chk b = 0
    · rw [if_pos c1, if_pos c2, if_pos c1, if_pos c2]
      dsimp only
      rw [if_pos rfl]
      generalize minusL (P a) (P b) = x
      generalize minusL (P b) (P a) = y
      cases x with
      | nil =>
        rw [if_neg (by simp)]
        simp only [scopes_Relate.j0]
        cases y with
        | nil => simp
        | cons y ys =>
          have h1 : ((y :: ys).length : Int) > 0 := by rw [List.length_cons]; omega
          rw [if_neg (by decide), if_neg (by simp), if_pos h1]
          simp
      | cons x xs =>
        have h0 : ((x :: xs).length : Int) > 0 := by rw [List.length_cons]; omega
        rw [if_pos h0]
        simp only [scopes_Relate.j0]
        cases y with
        | nil =>
          rw [if_neg (by simp), if_pos h0]
          simp
        | cons y ys =>
          have h1 : ((y :: ys).length : Int) > 0 := by rw [List.length_cons]; omega
          rw [if_pos (decide_eq_true h1)]
          simp
    · rw [if_pos c1, if_neg c2, if_pos c1, if_neg c2]
      dsimp only
      rw [if_neg c2]
  · rw [if_neg c1, if_neg c1]
    dsimp only
    rw [if_neg c1]
theorem g_of (l : List Int) (h : (l.all fun x => decide (0 ≤ x ∧ x < 65536)) = true) (ha : l.Pairwise (· < ·)) (hl : l.length ≤ 10000) : Good (ofP l) l := good_ofP (fun x hx => of_decide_eq_true (List.all_eq_true.1 h x hx)) ha hl
theorem ex_of : ofS [5, 258, 1, 5] = (ofP [1, 5, 258], 0) := by
  unfold ofS
  rw [if_pos (by decide), once_eq [5, 258, 1, 5] [1, 5, 258] (show List.Pairwise (· < ·) _ by decide) (by intro x; simp; omega)]
  exact setSpec_le (by rw [ofP_size]; decide)
theorem dec1 : Lib.itoa 1 = [49] := by simp [Lib.itoa, Lib.decDigits]
theorem dec5 : Lib.itoa 5 = [53] := by simp [Lib.itoa, Lib.decDigits]
theorem dec6 : Lib.itoa 6 = [54] := by simp [Lib.itoa, Lib.decDigits]
theorem dec258 : Lib.itoa 258 = [50, 53, 56] := by simp [Lib.itoa, Lib.decDigits]
theorem ex_print : printS (ofP [1, 5, 6, 258]) = ((⟨#[49, 44, 53, 45, 54, 44, 50, 53, 56]⟩ : ByteArray), 0) := by
  have g := g_of [1, 5, 6, 258] (by decide) (by decide) (by decide)
  unfold printS
  rw [if_pos g.ok, g.pl]
  unfold listS
  rw [if_neg (by decide), if_neg (by decide), if_neg (by decide), if_neg (by decide)]
  simp [listGo, runLen, dec1, dec5, dec6, dec258]
theorem awake_f (k : Nat) (hk : 6000000 < k) : mummerlaw09_awake.f k = some true := by
  unfold mummerlaw09_awake.f
  have g0 := g_of [1, 5, 258] (by decide) (by decide) (by decide)
  have g1 := g_of [1] (by decide) (by decide) (by decide)
  have z0 : (ofP [1, 5, 258]).size ≤ 2000000 := by rw [ofP_size]; decide
  rw [sOf _ (by decide), Option.bind_some, ex_of]
  dsimp only
  rw [sDrop _ _ z0, Option.bind_some, sFlip _ _ z0, Option.bind_some]
  have e1 : dropS (ofP [1, 5, 258]) 5 = (ofP [1, 258], 0) := by
    unfold dropS
    rw [if_pos g0.ok, if_pos (by decide), g0.pl]
    exact setSpec_le (by rw [ofP_size]; decide)
  have e2 : flipS (ofP [1, 5, 258]) 6 = (ofP [1, 5, 6, 258], 0) := by
    rw [flipS_ok _ _ g0.ok (by decide), g0.pl]
    exact setSpec_le (by rw [ofP_size]; decide)
  have e3 : addS (ofP [1, 5, 258]) 65536 = ((⟨#[]⟩ : ByteArray), 7) := by
    unfold addS
    rw [if_pos g0.ok, if_neg (by decide)]
  have e4 : relS (⟨#[0, 1]⟩ : ByteArray) (ofP [1, 5, 258]) = (1, 0) := by
    have h1 : (⟨#[0, 1]⟩ : ByteArray) = ofP [1] := rfl
    rw [h1]
    unfold relS
    rw [if_pos g1.ok, if_pos g0.ok, g1.pl, g0.pl]
    decide
  rw [e1, e2]
  dsimp only
  have e5 : scopes_Print.f (ofP [1, 5, 6, 258]) = some (printS (ofP [1, 5, 6, 258])) := by unfold scopes_Print.f; rw [if_pos (by rw [ofP_size]; decide)]
  rw [e5, ex_print, Option.bind_some, sRel _ _ (by decide) z0 k (by omega), Option.bind_some, sAdd _ _ z0, Option.bind_some, e3, e4]
  dsimp only
  rw [if_pos (by rw [ofP_toList]; rfl), if_pos rfl, if_pos (by rw [ofP_toList]; rfl), if_pos rfl, if_pos rfl, if_pos (by rw [ByteArray.toList_eq]), if_pos rfl, if_pos rfl, if_pos rfl]
  rfl
end Go.Proofs.YtkalbdeopogbpaaDoor.P
namespace Go.Proofs.YtkalbdeopogbpaaDoor.P
open Go.RowKit Go.Proofs.YtkalbdeopogbpaaDoorW.PrintWords Go.Proofs.YtkalbdeopogbpaaDoorW.PrintLast Sc
set_option linter.unusedVariables false
set_option linter.unusedSimpArgs false
set_option maxRecDepth 20000
set_option linter.unusedVariables false
set_option linter.unusedSimpArgs false
set_option maxRecDepth 20000
theorem check_l0 (s : ByteArray) (hs : s.size ≤ 4611686018427387904) (he : s.size % 2 = 0) : ∀ (d j k : Nat), 1 ≤ j → j + d = s.size / 2 → d < k →
    mummerref09_Check.l0 k s ((2 * j : Nat) : Int) = some (if asc (pairAt s (j - 1)) (tailFrom s j) = true then chkEnd s else 6) := by
  intro d
  induction d with
  | zero =>
    intro j k h1 hj hk
    obtain ⟨k, rfl⟩ : ∃ m, k = m + 1 := ⟨k - 1, by omega⟩
    have : j = s.size / 2 := by omega
    subst this
    rw [tailFrom_end]
    simp only [mummerref09_Check.l0]
    have ha : asc (pairAt s (s.size / 2 - 1)) [] = true := rfl
    rw [if_neg (by omega), ha]
    simp only [if_true, chkEnd]
    by_cases hx : (s.size : Int) > 20000
    · rw [if_pos hx, if_pos hx]
    · rw [if_neg hx, if_neg hx]
  | succ d ih =>
    intro j k h1 hj hk
    obtain ⟨k, rfl⟩ : ∃ m, k = m + 1 := ⟨k - 1, by omega⟩
    have e1 : wrap64 (((2 * j : Nat) : Int) - 2) = ((2 * (j - 1) : Nat) : Int) := by rw [w64 (by omega) (by omega)]; omega
    have e2 : wrap64 (((2 * j : Nat) : Int) + 2) = ((2 * (j + 1) : Nat) : Int) := by rw [w64 (by omega) (by omega)]; omega
    simp only [mummerref09_Check.l0]
    rw [if_pos (by omega), e1, if_pos (by omega), if_pos (by omega), if_pos (by omega), if_pos (by omega), e2, if_pos (by omega), if_pos (by omega)]
    simp only [Int.toNat_natCast]
    have hl := less_pairs s (j - 1) j (by omega) (by omega)
    rw [show 2 * (j - 1) + 2 = 2 * j by omega] at hl
    rw [show 2 * (j + 1) = 2 * j + 2 by omega]
    rw [tailFrom_step s j (by omega)]
    by_cases hc : pairAt s (j - 1) < pairAt s j
    · rw [if_pos (hl.2 hc)]
      have := ih (j + 1) k (by omega) (by omega) (by omega)
      rw [show 2 * (j + 1) = 2 * j + 2 by omega] at this
      rw [this]
      simp [asc, hc]
    · rw [if_neg (fun h => hc (hl.1 h))]
      simp [asc, hc]
theorem check_f (s : ByteArray) (hs : s.size ≤ 4611686018427387904) (k : Nat) (hk : s.size / 2 < k) : mummerref09_Check.f k s = some (chk s) := by
  unfold mummerref09_Check.f chk
  by_cases he : (s.size : Int) % 2 = 0
  · rw [if_pos he, if_pos he, pairs_tail]
    by_cases h0 : s.size = 0
    · obtain ⟨k, rfl⟩ : ∃ m, k = m + 1 := ⟨k - 1, by omega⟩
      simp only [mummerref09_Check.l0]
      rw [if_neg (by omega)]
      simp [tailFrom, h0, asc]
    · have := check_l0 s hs (by omega) (s.size / 2 - 1) 1 k (by omega) (by omega) (by omega)
      simp only [Nat.mul_one, Nat.sub_self] at this
      rw [show (2 : Int) = ((2 : Nat) : Int) from rfl, this, tailFrom_step s 0 (by omega)]
      have hp := pairAt_nonneg s 0
      have : asc (-1) (pairAt s 0 :: tailFrom s (0 + 1)) = asc (pairAt s 0) (tailFrom s 1) := by simp [asc]; omega
      rw [this]
      rfl
  · rw [if_neg he, if_neg he]
end Go.Proofs.YtkalbdeopogbpaaDoor.P
namespace Go.Proofs.YtkalbdeopogbpaaDoor.P
open Go.RowKit Go.Proofs.YtkalbdeopogbpaaDoorW.PrintWords Go.Proofs.YtkalbdeopogbpaaDoorW.PrintLast Sc
set_option linter.unusedVariables false
set_option linter.unusedSimpArgs false
set_option maxRecDepth 20000
def farB (s : ByteArray) : Bool := if (s.size : Int) > 300 then (if (s.size : Int) < 19900 then true else decide ((s.size : Int) > 20100)) else decide ((s.size : Int) > 20100)
theorem far_f (s : ByteArray) : mummerlaw09_far.f s = some (farB s) := by
  unfold mummerlaw09_far.f farB
  split
  · split <;> rfl
  · rfl
theorem far_le {s : ByteArray} (h : farB s = false) : s.size ≤ 20100 := by
  unfold farB at h
  split at h
  · split at h
    · cases h
    · have := of_decide_eq_false h; omega
  · have := of_decide_eq_false h; omega
end Go.Proofs.YtkalbdeopogbpaaDoor.P
namespace Go.Proofs.YtkalbdeopogbpaaDoor.P
open Go.RowKit Go.Proofs.YtkalbdeopogbpaaDoorW.PrintWords Go.Proofs.YtkalbdeopogbpaaDoorW.PrintLast Sc
set_option linter.unusedVariables false
set_option linter.unusedSimpArgs false
set_option maxRecDepth 20000
theorem without_l0 (l : List Int) (x : Int) (hl : InS l) (hx : 0 ≤ x ∧ x < 65536) (hb : l.length ≤ 1099511627776) : ∀ (d j k : Nat), j + d = l.length → d < k → x ∉ l.take j →
    mummerref09_without.l0 k (ofP l) (ofP [x]) ((2 * j : Nat) : Int) = some (ofP (l.erase x)) := by
  intro d
  induction d with
  | zero =>
    intro j k hj hk hn
    obtain ⟨k, rfl⟩ : ∃ m, k = m + 1 := ⟨k - 1, by omega⟩
    simp only [mummerref09_without.l0, ofP_size]
    rw [if_neg (by omega)]
    have : x ∉ l := by rwa [show j = l.length by omega, List.take_length] at hn
    rw [List.erase_of_not_mem this]
  | succ d ih =>
    intro j k hj hk hn
    obtain ⟨k, rfl⟩ : ∃ m, k = m + 1 := ⟨k - 1, by omega⟩
    have hjl : j < l.length := by omega
    have e2 : wrap64 (((2 * j : Nat) : Int) + 2) = ((2 * (j + 1) : Nat) : Int) := by rw [w64 (by omega) (by omega)]; omega
    simp only [mummerref09_without.l0, ofP_size, e2, Int.toNat_natCast]
    rw [if_pos (by omega), if_pos (by omega), if_pos (by omega), if_pos (by omega), ofP_extract, get_drop_take l j hjl]
    by_cases hc : l[j] = x
    · have e0 : (ofP l).extract 0 (2 * j) = ofP (l.take j) := by have := ofP_extract l 0 j; simpa using this
      have e1 : (ofP l).extract (2 * (j + 1)) (2 * l.length) = ofP (l.drop (j + 1)) := by rw [ofP_extract, List.take_length]
      rw [if_pos ((ofP_one (hl _ (List.getElem_mem hjl)) hx).2 hc), if_pos (by omega), if_pos (by omega), e0, e1, if_pos (by rw [ofP_size, ofP_size]; simp; omega), ofP_append, erase_at l j x hjl hc hn]
    · rw [if_neg (fun h => hc ((ofP_one (hl _ (List.getElem_mem hjl)) hx).1 h))]
      refine ih (j + 1) k (by omega) (by omega) ?_
      rw [List.take_succ_eq_append_getElem hjl]
      intro h
      rcases List.mem_append.1 h with h | h
      · exact hn h
      · exact hc (by simpa using (List.mem_singleton.1 h).symm)
theorem without_f (l : List Int) (x : Int) (hl : InS l) (hx : 0 ≤ x ∧ x < 65536) (hb : l.length ≤ 1099511627776) (k : Nat) (hk : l.length < k) : mummerref09_without.f k (ofP l) x = some (ofP (l.erase x)) := by
  unfold mummerref09_without.f mummerref09_bytes.f
  rw [strOf_bs x hx, Option.bind_some]
  exact without_l0 l x hl hx hb l.length 0 k (by omega) hk (by simp)
theorem has_l0 (l : List Int) (x : Int) (hl : InS l) (hx : 0 ≤ x ∧ x < 65536) (hb : l.length ≤ 1099511627776) : ∀ (d j k : Nat), j + d = l.length → d < k → x ∉ l.take j →
    mummerref09_has.l0 k (ofP l) (ofP [x]) ((2 * j : Nat) : Int) = some (decide (x ∈ l)) := by
  intro d
  induction d with
  | zero =>
    intro j k hj hk hn
    obtain ⟨k, rfl⟩ : ∃ m, k = m + 1 := ⟨k - 1, by omega⟩
    simp only [mummerref09_has.l0, ofP_size]
    rw [if_neg (by omega)]
    have : x ∉ l := by rwa [show j = l.length by omega, List.take_length] at hn
    rw [decide_eq_false this]
  | succ d ih =>
    intro j k hj hk hn
    obtain ⟨k, rfl⟩ : ∃ m, k = m + 1 := ⟨k - 1, by omega⟩
    have hjl : j < l.length := by omega
    have e2 : wrap64 (((2 * j : Nat) : Int) + 2) = ((2 * (j + 1) : Nat) : Int) := by rw [w64 (by omega) (by omega)]; omega
    simp only [mummerref09_has.l0, ofP_size, e2, Int.toNat_natCast]
    rw [if_pos (by omega), if_pos (by omega), if_pos (by omega), if_pos (by omega), ofP_extract, get_drop_take l j hjl]
    by_cases hc : l[j] = x
    · rw [if_pos ((ofP_one (hl _ (List.getElem_mem hjl)) hx).2 hc), decide_eq_true (hc ▸ List.getElem_mem hjl)]
    · rw [if_neg (fun h => hc ((ofP_one (hl _ (List.getElem_mem hjl)) hx).1 h))]
      refine ih (j + 1) k (by omega) (by omega) ?_
      rw [List.take_succ_eq_append_getElem hjl]
      intro h
      rcases List.mem_append.1 h with h | h
      · exact hn h
      · exact hc (by simpa using (List.mem_singleton.1 h).symm)
theorem has_f (l : List Int) (x : Int) (hl : InS l) (hx : 0 ≤ x ∧ x < 65536) (hb : l.length ≤ 1099511627776) (k : Nat) (hk : l.length < k) : mummerref09_has.f k (ofP l) x = some (decide (x ∈ l)) := by
  unfold mummerref09_has.f mummerref09_bytes.f
  rw [strOf_bs x hx, Option.bind_some]
  exact has_l0 l x hl hx hb l.length 0 k (by omega) hk (by simp)
theorem with_l0 (l : List Int) (x : Int) (hl : InS l) (hx : 0 ≤ x ∧ x < 65536) (hb : l.length ≤ 1099511627776) (hn : x ∉ l) : ∀ (d j k : Nat), j + d = l.length → d < k → (∀ i (h : i < j) (h' : i < l.length), l[i] < x) →
    mummerref09_with.l0 k (ofP l) (ofP [x]) ((2 * j : Nat) : Int) = some (ofP (ins x l)) := by
  have fin : ∀ j, j ≤ l.length → insAt x l = j → ((ofP l).extract 0 (2 * j) ++ ofP [x]) ++ (ofP l).extract (2 * j) (2 * l.length) = ofP (ins x l) := by
    intro j hj e
    have e0 : (ofP l).extract 0 (2 * j) = ofP (l.take j) := by have := ofP_extract l 0 j; simpa using this
    have e1 : (ofP l).extract (2 * j) (2 * l.length) = ofP (l.drop j) := by rw [ofP_extract, List.take_length]
    rw [e0, e1, ofP_append, ofP_append]
    unfold ins
    rw [if_neg hn, e]
    simp
  intro d
  induction d with
  | zero =>
    intro j k hj hk hlt
    obtain ⟨k, rfl⟩ : ∃ m, k = m + 1 := ⟨k - 1, by omega⟩
    have e := insAt_at x l j (by omega) (fun i h => hlt i h (by omega)) (fun h => by omega)
    have s1 : ((ofP l).extract 0 (2 * j)).size ≤ 2 * l.length := by
      have := ofP_extract l 0 j
      rw [Nat.mul_zero] at this
      rw [this, ofP_size]; simp; omega
    have s2 : ((ofP l).extract (2 * j) (2 * l.length)).size ≤ 2 * l.length := by rw [ofP_extract, ofP_size]; simp; omega
    have s3 : (ofP [x]).size = 2 := by rw [ofP_size]; rfl
    simp only [mummerref09_with.l0, ofP_size, Int.toNat_natCast]
    rw [if_neg (by omega), if_pos (by omega), if_pos (by omega), if_pos (by simp only [List.length_singleton]; omega), if_pos (by rw [ByteArray.size_append, s3]; omega), fin j (by omega) e]
  | succ d ih =>
    intro j k hj hk hlt
    obtain ⟨k, rfl⟩ : ∃ m, k = m + 1 := ⟨k - 1, by omega⟩
    have hjl : j < l.length := by omega
    have e2 : wrap64 (((2 * j : Nat) : Int) + 2) = ((2 * (j + 1) : Nat) : Int) := by rw [w64 (by omega) (by omega)]; omega
    have s1 : ((ofP l).extract 0 (2 * j)).size ≤ 2 * l.length := by
      have := ofP_extract l 0 j
      rw [Nat.mul_zero] at this
      rw [this, ofP_size]; simp; omega
    have s2 : ((ofP l).extract (2 * j) (2 * l.length)).size ≤ 2 * l.length := by rw [ofP_extract, ofP_size]; simp; omega
    have s3 : (ofP [x]).size = 2 := by rw [ofP_size]; rfl
    simp only [mummerref09_with.l0, ofP_size, e2, Int.toNat_natCast]
    rw [if_pos (by omega), if_pos (by omega), if_pos (by omega), if_pos (by omega)]
    have ee : (ofP l).extract (2 * j) (2 * (j + 1)) = ofP [l[j]] := by rw [ofP_extract, get_drop_take l j hjl]
    rw [ee]
    by_cases hc : l[j] < x
    · rw [if_pos ((less_one (hl _ (List.getElem_mem hjl)) hx).2 hc)]
      refine ih (j + 1) k (by omega) (by omega) fun i h h' => ?_
      by_cases e : i = j
      · subst e; exact hc
      · exact hlt i (by omega) h'
    · have e := insAt_at x l j (by omega) (fun i h => hlt i h (by omega)) (fun _ => hc)
      rw [if_neg (fun h => hc ((less_one (hl _ (List.getElem_mem hjl)) hx).1 h)), if_pos (by omega), if_pos (by simp only [List.length_singleton]; omega), if_pos (by rw [ByteArray.size_append, s3]; omega), fin j (by omega) e]
theorem with_f (l : List Int) (x : Int) (hl : InS l) (hx : 0 ≤ x ∧ x < 65536) (hb : l.length ≤ 1099511627776) (k : Nat) (hk : l.length < k) : mummerref09_with.f k (ofP l) x = some (ofP (ins x l)) := by
  unfold mummerref09_with.f
  rw [has_f l x hl hx hb k hk, Option.bind_some]
  by_cases c : x ∈ l
  · rw [if_pos (decide_eq_true c)]
    unfold ins
    rw [if_pos c]
  · rw [if_neg (by simpa using c)]
    unfold mummerref09_bytes.f
    rw [strOf_bs x hx, Option.bind_some]
    exact with_l0 l x hl hx hb c l.length 0 k (by omega) hk (fun i h => by omega)
end Go.Proofs.YtkalbdeopogbpaaDoor.P
namespace Go.Proofs.YtkalbdeopogbpaaDoor.P
open Go.RowKit Go.Proofs.YtkalbdeopogbpaaDoorW.PrintWords Go.Proofs.YtkalbdeopogbpaaDoorW.PrintLast Sc
set_option linter.unusedVariables false
set_option linter.unusedSimpArgs false
set_option maxRecDepth 20000
theorem sHas (s : ByteArray) (n : Int) (h : s.size ≤ 2000000) : scopes_Has.f s n = some (hasS s n) := by unfold scopes_Has.f; rw [if_pos (by omega)]
end Go.Proofs.YtkalbdeopogbpaaDoor.P
namespace Go.Proofs.YtkalbdeopogbpaaDoor.P
open Go.RowKit Go.Proofs.YtkalbdeopogbpaaDoorW.PrintWords Go.Proofs.YtkalbdeopogbpaaDoorW.PrintLast Sc
set_option linter.unusedVariables false
set_option linter.unusedSimpArgs false
set_option maxRecDepth 20000
theorem rSet (s : ByteArray) : mummerref09_set.f s = some (setSpec s) := by
  unfold mummerref09_set.f setSpec
  by_cases c : (s.size : Int) > 20000
  · rw [if_pos c, if_pos c]
  · rw [if_neg c, if_neg c]
theorem rOne (s : ByteArray) (n : Int) (h : s.size ≤ 2000000) (k : Nat) (hk : 2000000 < k) : mummerref09_one.f k s n = some (if chk s = 0 then (if inR n = true then 0 else 7) else chk s) := by
  unfold mummerref09_one.f
  rw [check_f s (by omega) k (by omega), Option.bind_some]
  by_cases c : chk s = 0
  · rw [if_pos c, if_pos c, c]
    have e : mummerref09_scope.f n = some (inR n) := by
      unfold mummerref09_scope.f inR
      by_cases c2 : n ≥ 0
      · rw [if_pos c2, decide_eq_true c2, Bool.true_and]
      · rw [if_neg c2, decide_eq_false (show ¬ 0 ≤ n from c2), Bool.false_and]
    rw [e, Option.bind_some]
    split <;> rfl
  · rw [if_neg c, if_neg c]
theorem rHas (s : ByteArray) (n : Int) (h : s.size ≤ 2000000) (k : Nat) (hk : 2000000 < k) : mummerref09_Has.f k s n = some (hasS s n) := by
  unfold mummerref09_Has.f
  rw [rOne s n h k hk, Option.bind_some]
  unfold hasS
  by_cases c : chk s = 0
  · rw [if_pos c, if_pos c]
    by_cases c2 : inR n = true
    · rw [if_pos c2, if_pos c2, if_pos rfl]
      have h2 := P_len_le s h
      have e := has_f (P s) n (P_InS s) ((inR_iff n).1 c2) (by omega) k (by omega)
      rw [← ofP_P c] at e
      rw [e, Option.bind_some]
    · rw [if_neg c2, if_neg c2]
      rfl
  · rw [if_neg c, if_neg c, if_neg c]
theorem rAdd (s : ByteArray) (n : Int) (h : s.size ≤ 2000000) (k : Nat) (hk : 2000000 < k) : mummerref09_Add.f k s n = some (addS s n) := by
  unfold mummerref09_Add.f
  rw [rOne s n h k hk, Option.bind_some]
  unfold addS
  by_cases c : chk s = 0
  · rw [if_pos c, if_pos c]
    by_cases c2 : inR n = true
    · rw [if_pos c2, if_pos c2, if_pos rfl]
      have h2 := P_len_le s h
      have e := with_f (P s) n (P_InS s) ((inR_iff n).1 c2) (by omega) k (by omega)
      rw [← ofP_P c] at e
      rw [e, Option.bind_some, rSet, Option.bind_some]
    · rw [if_neg c2, if_neg c2]
      rfl
  · rw [if_neg c, if_neg c, if_neg c]
theorem rDrop (s : ByteArray) (n : Int) (h : s.size ≤ 2000000) (k : Nat) (hk : 2000000 < k) : mummerref09_Drop.f k s n = some (dropS s n) := by
  unfold mummerref09_Drop.f
  rw [rOne s n h k hk, Option.bind_some, dropS_eq]
  by_cases c : chk s = 0
  · rw [if_pos c, if_pos c]
    by_cases c2 : inR n = true
    · rw [if_pos c2, if_pos c2, if_pos rfl]
      have h2 := P_len_le s h
      have e := without_f (P s) n (P_InS s) ((inR_iff n).1 c2) (by omega) k (by omega)
      rw [← ofP_P c] at e
      rw [e, Option.bind_some]
    · rw [if_neg c2, if_neg c2]
      rfl
  · rw [if_neg c, if_neg c, if_neg c]
theorem rFlip (s : ByteArray) (n : Int) (h : s.size ≤ 2000000) (k : Nat) (hk : 2000001 < k) : mummerref09_Flip.f k s n = some (flipS s n) := by
  obtain ⟨k, rfl⟩ : ∃ m, k = m + 1 := ⟨k - 1, by omega⟩
  unfold mummerref09_Flip.f flipS
  rw [rHas s n h (k + 1) (by omega), Option.bind_some]
  have e : ∀ b, mummerref09_Flip.j0 (k + 1) s n b = some (if b = true then dropS s n else addS s n) := by
    intro b
    simp only [mummerref09_Flip.j0]
    cases b with
    | true => rw [if_pos rfl, if_pos rfl, rDrop s n h k (by omega)]; rfl
    | false => rw [if_neg (by decide), if_neg (by decide), rAdd s n h k (by omega)]; rfl
  by_cases c : (hasS s n).2 = 0
  · rw [if_pos c, e]
  · rw [if_neg c, e]
    have hf : (hasS s n).1 = false := by
      unfold hasS at c ⊢
      by_cases c1 : chk s = 0
      · rw [if_pos c1] at c ⊢
        by_cases c2 : inR n = true
        · rw [if_pos c2] at c; exact absurd rfl c
        · rw [if_neg c2]
      · rw [if_neg c1]
    rw [hf]
theorem law_changes (a : ByteArray) (n : Int) : ∃ k, mummerlaw09_ScopesChanges.f k a n = some true := by
  refine ⟨8000000, ?_⟩
  unfold mummerlaw09_ScopesChanges.f
  rw [far_f, Option.bind_some]
  cases hf : farB a with
  | true => rw [if_pos rfl, awake_f _ (by omega)]; rfl
  | false =>
    have h1 := far_le hf
    rw [if_neg (by decide), sHas a n (by omega), Option.bind_some, rHas a n (by omega) _ (by omega), Option.bind_some, sAdd a n (by omega), Option.bind_some, rAdd a n (by omega) _ (by omega), Option.bind_some]
    rw [if_neg (by simp), if_pos rfl, if_pos rfl, if_pos rfl]
    rw [sDrop a n (by omega), Option.bind_some, rDrop a n (by omega) _ (by omega), Option.bind_some, sFlip a n (by omega), Option.bind_some, rFlip a n (by omega) _ (by omega), Option.bind_some]
    rw [if_pos rfl, if_pos rfl, if_pos rfl, if_pos rfl, awake_f _ (by omega)]
    rfl
end Go.Proofs.YtkalbdeopogbpaaDoor.P
namespace Go.Proofs.YtkalbdeopogbpaaDoor.Pure
open Go.RowKit Go.Proofs.YtkalbdeopogbpaaDoor.P Go.Proofs.YtkalbdeopogbpaaDoorW.PrintWords Go.Proofs.YtkalbdeopogbpaaDoorW.PrintLast
theorem ScopesChanges : mummerlaw09_ScopesChanges.Goal := by
  intro a n _ _; exact law_changes a n
end Go.Proofs.YtkalbdeopogbpaaDoor.Pure
