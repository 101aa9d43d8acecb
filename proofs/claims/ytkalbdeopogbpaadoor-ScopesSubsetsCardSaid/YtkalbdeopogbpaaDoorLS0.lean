/- Plain lemmas over the printed functions, for law_subsets. -/
import Derived.Test.YtkalbdeopogbpaaDoorPx1
import Derived.Test.YtkalbdeopogbpaaDoorPx2
import Derived.Test.YtkalbdeopogbpaaDoorPx3
import Derived.Test.YtkalbdeopogbpaaDoorPx4
import Derived.Test.YtkalbdeopogbpaaDoorPx5
import Derived.Test.YtkalbdeopogbpaaDoorPx23
import Derived.Test.YtkalbdeopogbpaaDoorPx28
import Derived.Test.YtkalbdeopogbpaaDoorPx32
namespace Go.Proofs.YtkalbdeopogbpaaDoor.P
open Go.RowKit Go.Proofs.YtkalbdeopogbpaaDoorW.PrintWords Go.Proofs.YtkalbdeopogbpaaDoorW.PrintLast Sc
set_option linter.unusedVariables false
set_option linter.unusedSimpArgs false
set_option maxRecDepth 20000
theorem merge_l0 : ∀ (d k : Nat) (f b s l m : List Int), l.length + m.length = d → d < k → Asc l → Asc m → f.length + l.length < 17592186044416 → b.length + l.length < 17592186044416 → s.length + m.length < 17592186044416 →
    scopes_merge.l0 k f b s l m = some (f ++ l.filter (fun x => decide (x ∉ m)), b ++ l.filter (fun x => decide (x ∈ m)), s ++ m.filter (fun x => decide (x ∉ l)), 0) := by
  intro d
  induction d using Nat.strongRecOn with
  | _ d ih =>
  intro k f b s l m hd hk hl hm h1 h2 h3
  obtain ⟨k, rfl⟩ : ∃ q, k = q + 1 := ⟨k - 1, by omega⟩
  match l, m, hl, hm with
  | [], m, _, _ =>
    simp only [scopes_merge.l0]
    rw [if_pos (by simp), if_pos (by simpa using h3)]
    have : m.filter (fun x => decide (x ∉ ([] : List Int))) = m := List.filter_eq_self.2 (by simp)
    rw [this]
    simp
  | x :: l, [], _, _ =>
    simp only [scopes_merge.l0]
    rw [if_neg (by simp <;> omega), if_pos (by simp), if_pos (by simpa using h1)]
    have e1 : (x :: l).filter (fun z => decide (z ∉ ([] : List Int))) = x :: l := List.filter_eq_self.2 (by simp)
    have e2 : (x :: l).filter (fun z => decide (z ∈ ([] : List Int))) = [] := List.filter_eq_nil_iff.2 (by simp)
    rw [e1, e2]
    simp
  | x :: l, y :: m, hl, hm =>
    obtain ⟨hx, hl'⟩ := List.pairwise_cons.1 hl
    obtain ⟨hy, hm'⟩ := List.pairwise_cons.1 hm
    simp only [List.length_cons] at hd h1 h2 h3
    simp only [scopes_merge.l0]
    have e1 : rd (x :: l) 0 = x := rfl
    have e2 : rd (y :: m) 0 = y := rfl
    have e3 : (x :: l).drop (1 : Int).toNat = l := rfl
    have e4 : (y :: m).drop (1 : Int).toNat = m := rfl
    rw [if_neg (by simp <;> omega), if_neg (by simp <;> omega), if_pos (by simp <;> omega), if_pos (by simp <;> omega), e1, e2, e3, e4]
    by_cases c1 : x < y
    · rw [if_pos c1, if_pos (by omega), if_pos (by simp <;> omega)]
      rw [ih (l.length + (y :: m).length) (by simp <;> omega) k (f ++ [x]) b s l (y :: m) rfl (by simp <;> omega) hl' hm (by simp <;> omega) (by omega) (by simp <;> omega)]
      have hxm : x ∉ y :: m := fun h => by
        rcases List.mem_cons.1 h with rfl | h
        · omega
        · have := hy x h; omega
      have hf : (y :: m).filter (fun z => decide (z ∉ x :: l)) = (y :: m).filter (fun z => decide (z ∉ l)) := List.filter_congr fun z hz => by
        have : z ≠ x := fun e => hxm (e ▸ hz)
        simp [this]
      rw [hf, List.filter_cons_of_pos (p := fun z => decide (z ∉ y :: m)) (decide_eq_true hxm), List.filter_cons_of_neg (p := fun z => decide (z ∈ y :: m)) (fun e => hxm (of_decide_eq_true e))]
      simp
    · rw [if_neg c1]
      by_cases c2 : x > y
      · rw [if_pos c2, if_pos (by omega), if_pos (by simp <;> omega)]
        rw [ih ((x :: l).length + m.length) (by simp <;> omega) k f b (s ++ [y]) (x :: l) m rfl (by simp <;> omega) hl hm' (by simp <;> omega) (by simp <;> omega) (by simp <;> omega)]
        have hyl : y ∉ x :: l := fun h => by
          rcases List.mem_cons.1 h with rfl | h
          · omega
          · have := hx y h; omega
        have hf : ∀ z ∈ x :: l, (z ∈ y :: m ↔ z ∈ m) := fun z hz => by
          have : z ≠ y := fun e => hyl (e ▸ hz)
          simp [this]
        have hf1 : (x :: l).filter (fun z => decide (z ∉ y :: m)) = (x :: l).filter (fun z => decide (z ∉ m)) := List.filter_congr fun z hz => by simp only [hf z hz]
        have hf2 : (x :: l).filter (fun z => decide (z ∈ y :: m)) = (x :: l).filter (fun z => decide (z ∈ m)) := List.filter_congr fun z hz => by simp only [hf z hz]
        rw [hf1, hf2, List.filter_cons_of_pos (p := fun z => decide (z ∉ x :: l)) (decide_eq_true hyl)]
        simp
      · obtain rfl : x = y := by omega
        rw [if_neg c2, if_pos (by omega), if_pos (by simp <;> omega), if_pos (by simp <;> omega)]
        rw [ih (l.length + m.length) (by omega) k f (b ++ [x]) s l m rfl (by omega) hl' hm' (by omega) (by simp <;> omega) (by omega)]
        have hf1 : l.filter (fun z => decide (z ∉ x :: m)) = l.filter (fun z => decide (z ∉ m)) := List.filter_congr fun z hz => by
          have := hx z hz
          have : z ≠ x := by omega
          simp [this]
        have hf2 : l.filter (fun z => decide (z ∈ x :: m)) = l.filter (fun z => decide (z ∈ m)) := List.filter_congr fun z hz => by
          have := hx z hz
          have : z ≠ x := by omega
          simp [this]
        have hf3 : m.filter (fun z => decide (z ∉ x :: l)) = m.filter (fun z => decide (z ∉ l)) := List.filter_congr fun z hz => by
          have := hy z hz
          have : z ≠ x := by omega
          simp [this]
        rw [List.filter_cons_of_neg (p := fun z => decide (z ∉ x :: m)) (by simp), List.filter_cons_of_pos (p := fun z => decide (z ∈ x :: m)) (by simp), List.filter_cons_of_neg (p := fun z => decide (z ∉ x :: l)) (by simp), hf1, hf2, hf3]
        simp
theorem scopesSub_f (a b : ByteArray) (ha : a.size ≤ 1099511627776) (hb : b.size ≤ 1099511627776) (k : Nat) (hk : a.size + b.size < k) : scopes_Sub.f k a b = some (subSpec a b) := by
  unfold scopes_Sub.f scopes_merge.f scopes_Ids.f subSpec
  rw [if_pos (by omega), if_pos (by omega), Option.bind_some]
  unfold Ids_p
  by_cases c1 : chk a = 0
  · rw [if_pos c1, if_pos c1]
    simp only [if_true, Option.bind_some]
    by_cases c2 : chk b = 0
    · rw [if_pos c2, if_pos c2]
      simp only [if_true]
      have hla := P_length a; have hlb := P_length b
      have hm := merge_l0 ((P a).length + (P b).length) k [] [] [] (P a) (P b) rfl (by omega) (chk_asc c1) (chk_asc c2) (by simp; omega) (by simp; omega) (by simp; omega)
      rw [show pairs a (a.size / 2) = P a from rfl, show pairs b (b.size / 2) = P b from rfl, hm, Option.bind_some]
      simp only [List.nil_append, if_true]
      have hs : ((((P a).filter (fun x => decide (x ∉ P b))).length : Int) == 0) = subset a b := by
        rw [Bool.eq_iff_iff, beq_iff_eq, subset_iff]
        constructor
        · intro h x hx
          have h0 : (P a).filter (fun x => decide (x ∉ P b)) = [] := List.length_eq_zero_iff.1 (by omega)
          have := List.filter_eq_nil_iff.1 h0 x hx
          simpa using this
        · intro h
          have h0 : (P a).filter (fun x => decide (x ∉ P b)) = [] := List.filter_eq_nil_iff.2 fun x hx => by simpa using h x hx
          rw [h0]; rfl
      rw [hs]
    · rw [if_neg c2, if_neg c2]
      simp [c2]
  · rw [if_neg c1, if_neg c1]
    simp [c1]
theorem sChk (s : ByteArray) (h : s.size ≤ 2000000) : scopes_Check.f s = some (chk s) := by unfold scopes_Check.f; rw [if_pos (by omega)]
theorem sIds (s : ByteArray) (h : s.size ≤ 2000000) : scopes_Ids.f s = some (Ids_p s) := by unfold scopes_Ids.f; rw [if_pos (by omega)]
theorem sOf (l : List Int) (h : l.length ≤ 1000000) : scopes_Of.f l = some (ofS l) := by unfold scopes_Of.f; rw [if_pos h]
theorem sAdd (s : ByteArray) (n : Int) (h : s.size ≤ 2000000) : scopes_Add.f s n = some (addS s n) := by unfold scopes_Add.f; rw [if_pos (by omega)]
theorem sDrop (s : ByteArray) (n : Int) (h : s.size ≤ 2000000) : scopes_Drop.f s n = some (dropS s n) := by unfold scopes_Drop.f; rw [if_pos (by omega)]
theorem sFlip (s : ByteArray) (n : Int) (h : s.size ≤ 2000000) : scopes_Flip.f s n = some (flipS s n) := by unfold scopes_Flip.f; rw [if_pos (by omega)]
theorem sWrite (l : List Int) (h : l.length ≤ 1000000) (hI : InS l) : scopes_write.f l = some (ofP l) := by unfold scopes_write.f; rw [if_pos ⟨h, hI⟩]
theorem P_len_le (s : ByteArray) (h : s.size ≤ 2000000) : (P s).length ≤ 1000000 := by rw [P_length]; omega
/-- merge, whole. -/
def mergeS (a b : ByteArray) : List Int × List Int × List Int × Int := if chk a = 0 then (if chk b = 0 then (minusL (P a) (P b), meetL (P a) (P b), minusL (P b) (P a), 0) else ([], [], [], chk b)) else ([], [], [], chk a)
theorem filt_minus (l m : List Int) : l.filter (fun x => decide (x ∉ m)) = minusL l m := by
  unfold minusL
  congr 1
  funext x
  by_cases h : x ∈ m <;> simp [h]
theorem filt_meet (l m : List Int) : l.filter (fun x => decide (x ∈ m)) = meetL l m := by
  unfold meetL
  congr 1
  funext x
  by_cases h : x ∈ m <;> simp [h]
theorem merge_f (a b : ByteArray) (ha : a.size ≤ 2000000) (hb : b.size ≤ 2000000) (k : Nat) (hk : 5000000 < k) : scopes_merge.f k a b = some (mergeS a b) := by
  unfold scopes_merge.f mergeS
  rw [sIds a ha, Option.bind_some]
  by_cases c1 : chk a = 0
  · rw [ids_good c1, if_pos c1]
    dsimp only
    rw [if_pos rfl, sIds b hb, Option.bind_some]
    by_cases c2 : chk b = 0
    · rw [ids_good c2, if_pos c2]
      dsimp only
      rw [if_pos rfl]
      have h1 := P_len_le a ha
      have h2 := P_len_le b hb
      rw [merge_l0 _ k [] [] [] (P a) (P b) rfl (by omega) (chk_asc c1) (chk_asc c2) (by simp; omega) (by simp; omega) (by simp; omega)]
      rw [filt_minus, filt_meet, filt_minus]
      rfl
    · rw [ids_bad c2, if_neg c2]
      dsimp only
      rw [if_neg c2]
  · rw [ids_bad c1, if_neg c1]
    dsimp only
    rw [if_neg c1]
theorem minusL_len (l m : List Int) : (minusL l m).length ≤ l.length := List.length_filter_le _ _
theorem meetL_len (l m : List Int) : (meetL l m).length ≤ l.length := List.length_filter_le _ _
theorem minusL_InS {l : List Int} (h : InS l) (m : List Int) : InS (minusL l m) := fun x hx => h x ((mem_minusL x l m).1 hx).1
theorem meetL_InS {l : List Int} (h : InS l) (m : List Int) : InS (meetL l m) := fun x hx => h x ((mem_meetL x l m).1 hx).1
theorem sUnion (a b : ByteArray) (ha : a.size ≤ 300000) (hb : b.size ≤ 300000) (k : Nat) (hk : 5000000 < k) : scopes_Union.f k a b = some (unionSpec a b) := by
  unfold scopes_Union.f
  rw [merge_f a b (by omega) (by omega) k hk, Option.bind_some]
  unfold mergeS
  by_cases c1 : chk a = 0
  · by_cases c2 : chk b = 0
    · rw [if_pos c1, if_pos c2]
      dsimp only
      have e := unionS_lib a b c1 c2
      have h1 := minusL_len (P a) (P b)
      have h2 := meetL_len (P a) (P b)
      have h3 := minusL_len (P b) (P a)
      have h4 : (P a).length ≤ 150000 := by rw [P_length]; omega
      have h5 : (P b).length ≤ 150000 := by rw [P_length]; omega
      rw [if_pos rfl, if_pos (by omega), List.append_assoc]
      exact congrArg some e
    · rw [if_pos c1, if_neg c2]
      dsimp only
      rw [if_neg c2]
      unfold unionSpec
      rw [if_pos c1, if_neg c2]
  · rw [if_neg c1]
    dsimp only
    rw [if_neg c1]
    unfold unionSpec
    rw [if_neg c1]
theorem sMeet (a b : ByteArray) (ha : a.size ≤ 2000000) (hb : b.size ≤ 2000000) (k : Nat) (hk : 5000000 < k) : scopes_Meet.f k a b = some (meetS a b) := by
  unfold scopes_Meet.f
  rw [merge_f a b ha hb k hk, Option.bind_some]
  unfold mergeS meetS
  by_cases c1 : chk a = 0
  · by_cases c2 : chk b = 0
    · rw [if_pos c1, if_pos c2, if_pos c1, if_pos c2]
      dsimp only
      have h4 := P_len_le a ha
      have h2 := meetL_len (P a) (P b)
      rw [sWrite _ (by omega) (meetL_InS (P_InS a) _)]
      rfl
    · rw [if_pos c1, if_neg c2, if_pos c1, if_neg c2]
      rfl
  · rw [if_neg c1, if_neg c1]
    rfl
theorem sMinus (a b : ByteArray) (ha : a.size ≤ 2000000) (hb : b.size ≤ 2000000) (k : Nat) (hk : 5000000 < k) : scopes_Minus.f k a b = some (minusS a b) := by
  unfold scopes_Minus.f
  rw [merge_f a b ha hb k hk, Option.bind_some]
  unfold mergeS minusS
  by_cases c1 : chk a = 0
  · by_cases c2 : chk b = 0
    · rw [if_pos c1, if_pos c2, if_pos c1, if_pos c2]
      dsimp only
      have h4 := P_len_le a ha
      have h2 := minusL_len (P a) (P b)
      rw [sWrite _ (by omega) (minusL_InS (P_InS a) _)]
      rfl
    · rw [if_pos c1, if_neg c2, if_pos c1, if_neg c2]
      rfl
  · rw [if_neg c1, if_neg c1]
    rfl
theorem sRel (a b : ByteArray) (ha : a.size ≤ 2000000) (hb : b.size ≤ 2000000) (k : Nat) (hk : 5000001 < k) : scopes_Relate.f k a b = some (relS a b) := by
  obtain ⟨k, rfl⟩ : ∃ m, k = m + 1 := ⟨k - 1, by omega⟩
  unfold scopes_Relate.f
  rw [merge_f a b ha hb (k + 1) (by omega), Option.bind_some]
  unfold mergeS relS
  by_cases c1 : chk a = 0
  · by_cases c2 : chk b = 0
    · rw [if_pos c1, if_pos c2, if_pos c1, if_pos c2]
      dsimp only
      rw [if_pos rfl]
      generalize minusL (P a) (P b) = x
      generalize minusL (P b) (P a) = y
      cases x with
      | nil =>
        rw [if_neg (by simp)]
        simp only [scopes_Relate.j0]
        cases y with
        | nil => simp
        | cons y ys =>
          have h1 : ((y :: ys).length : Int) > 0 := by rw [List.length_cons]; omega
          rw [if_neg (by decide), if_neg (by simp), if_pos h1]
          simp
      | cons x xs =>
        have h0 : ((x :: xs).length : Int) > 0 := by rw [List.length_cons]; omega
        rw [if_pos h0]
        simp only [scopes_Relate.j0]
        cases y with
        | nil =>
          rw [if_neg (by simp), if_pos h0]
          simp
        | cons y ys =>
          have h1 : ((y :: ys).length : Int) > 0 := by rw [List.length_cons]; omega
          rw [if_pos (decide_eq_true h1)]
          simp
    · rw [if_pos c1, if_neg c2, if_pos c1, if_neg c2]
      dsimp only
      rw [if_neg c2]
  · rw [if_neg c1, if_neg c1]
    dsimp only
    rw [if_neg c1]
theorem g_of (l : List Int) (h : (l.all fun x => decide (0 ≤ x ∧ x < 65536)) = true) (ha : l.Pairwise (· < ·)) (hl : l.length ≤ 10000) : Good (ofP l) l := good_ofP (fun x hx => of_decide_eq_true (List.all_eq_true.1 h x hx)) ha hl
theorem ex_of : ofS [5, 258, 1, 5] = (ofP [1, 5, 258], 0) := by
  unfold ofS
  rw [if_pos (by decide), once_eq [5, 258, 1, 5] [1, 5, 258] (show List.Pairwise (· < ·) _ by decide) (by intro x; simp; omega)]
  exact setSpec_le (by rw [ofP_size]; decide)
theorem dec1 : Lib.itoa 1 = [49] := by simp [Lib.itoa, Lib.decDigits]
theorem dec5 : Lib.itoa 5 = [53] := by simp [Lib.itoa, Lib.decDigits]
theorem dec6 : Lib.itoa 6 = [54] := by simp [Lib.itoa, Lib.decDigits]
theorem dec258 : Lib.itoa 258 = [50, 53, 56] := by simp [Lib.itoa, Lib.decDigits]
theorem ex_print : printS (ofP [1, 5, 6, 258]) = ((⟨#[49, 44, 53, 45, 54, 44, 50, 53, 56]⟩ : ByteArray), 0) := by
  have g := g_of [1, 5, 6, 258] (by decide) (by decide) (by decide)
  unfold printS
  rw [if_pos g.ok, g.pl]
  unfold listS
  rw [if_neg (by decide), if_neg (by decide), if_neg (by decide), if_neg (by decide)]
  simp [listGo, runLen, dec1, dec5, dec6, dec258]
theorem awake_f (k : Nat) (hk : 6000000 < k) : mummerlaw09_awake.f k = some true := by
  unfold mummerlaw09_awake.f
  have g0 := g_of [1, 5, 258] (by decide) (by decide) (by decide)
  have g1 := g_of [1] (by decide) (by decide) (by decide)
  have z0 : (ofP [1, 5, 258]).size ≤ 2000000 := by rw [ofP_size]; decide
  rw [sOf _ (by decide), Option.bind_some, ex_of]
  dsimp only
  rw [sDrop _ _ z0, Option.bind_some, sFlip _ _ z0, Option.bind_some]
  have e1 : dropS (ofP [1, 5, 258]) 5 = (ofP [1, 258], 0) := by
    unfold dropS
    rw [if_pos g0.ok, if_pos (by decide), g0.pl]
    exact setSpec_le (by rw [ofP_size]; decide)
  have e2 : flipS (ofP [1, 5, 258]) 6 = (ofP [1, 5, 6, 258], 0) := by
    rw [flipS_ok _ _ g0.ok (by decide), g0.pl]
    exact setSpec_le (by rw [ofP_size]; decide)
  have e3 : addS (ofP [1, 5, 258]) 65536 = ((⟨#[]⟩ : ByteArray), 7) := by
    unfold addS
    rw [if_pos g0.ok, if_neg (by decide)]
  have e4 : relS (⟨#[0, 1]⟩ : ByteArray) (ofP [1, 5, 258]) = (1, 0) := by
    have h1 : (⟨#[0, 1]⟩ : ByteArray) = ofP [1] := rfl
    rw [h1]
    unfold relS
    rw [if_pos g1.ok, if_pos g0.ok, g1.pl, g0.pl]
    decide
  rw [e1, e2]
  dsimp only
  have e5 : scopes_Print.f (ofP [1, 5, 6, 258]) = some (printS (ofP [1, 5, 6, 258])) := by unfold scopes_Print.f; rw [if_pos (by rw [ofP_size]; decide)]
  rw [e5, ex_print, Option.bind_some, sRel _ _ (by decide) z0 k (by omega), Option.bind_some, sAdd _ _ z0, Option.bind_some, e3, e4]
  dsimp only
  rw [if_pos (by rw [ofP_toList]; rfl), if_pos rfl, if_pos (by rw [ofP_toList]; rfl), if_pos rfl, if_pos rfl, if_pos (by rw [ByteArray.toList_eq]), if_pos rfl, if_pos rfl, if_pos rfl]
  rfl

theorem good_len {s : ByteArray} {l : List Int} (h : Good s l) {n : Nat} (hs : s.size ≤ n) : l.length ≤ n := by have := h.len; omega
theorem tl_inj {a b : ByteArray} : a.toList = b.toList ↔ a = b := by
  constructor
  · intro h
    rw [ByteArray.toList_eq, ByteArray.toList_eq] at h
    exact ByteArray.ext (Array.toList_inj.1 h)
  · intro h; rw [h]
theorem bx (d : Bool) (x y : List UInt8) (h : d = true ↔ x = y) : (d != (x == y)) = false := by
  cases d
  · have : ¬ x = y := fun e => by simpa using h.2 e
    simp [this]
  · have : x = y := h.1 rfl
    simp [this]
theorem subsets_j1 (a b c : ByteArray) (h1 : a.size ≤ 300) (h2 : b.size ≤ 300) (h3 : c.size ≤ 300) (c1 : chk a = 0) (c2 : chk b = 0) (c3 : chk c = 0) (k : Nat) (hk : 6900000 < k) : mummerlaw09_ScopesSubsets.j1 k a b c (subSpec a b).1 (meetS a b).1 (minusS a b).1 false = some true := by
  obtain ⟨k, rfl⟩ : ∃ m, k = m + 1 := ⟨k - 1, by omega⟩
  simp only [mummerlaw09_ScopesSubsets.j1]
  have ga := good_of c1
  have gb := good_of c2
  have gc := good_of c3
  have la := good_len ga h1
  have p1 := parts_join ga gb (by omega)
  have p2 := parts_apart ga gb
  have z1 : (meetS a b).1.size ≤ 600 := by
    rw [(good_meet ga gb).1]
    have := meetL_len (P a) (P b)
    show (ofP _).size ≤ 600
    rw [ofP_size]; omega
  have z2 : (minusS a b).1.size ≤ 600 := by
    rw [(good_minus ga gb).1]
    have := minusL_len (P a) (P b)
    show (ofP _).size ≤ 600
    rw [ofP_size]; omega
  rw [if_neg (by decide), sUnion _ _ (by omega) (by omega) k (by omega), Option.bind_some, p1, sMeet _ b (by omega) (by omega) k (by omega), Option.bind_some, p2]
  dsimp only
  rw [if_pos rfl, if_pos rfl, if_pos rfl, if_pos (by rw [ByteArray.toList_eq])]
  have q := rel_says ga gb
  have t := sub_trans ga gb gc
  have same : (subSpec a b).1 = true → (subSpec b a).1 = true → a = b := by
    intro x y
    rw [good_sub ga gb, decide_eq_true_eq] at x
    rw [good_sub gb ga, decide_eq_true_eq] at y
    exact ga.eq gb fun z => ⟨x z, y z⟩
  have e1 : subSpec b c = ((subSpec b c).1, 0) := by rw [good_sub gb gc]
  have e2 : subSpec a c = ((subSpec a c).1, 0) := by rw [good_sub ga gc]
  have e3 : subSpec b a = ((subSpec b a).1, 0) := by rw [good_sub gb ga]
  rw [scopesSub_f b c (by omega) (by omega) k (by omega), Option.bind_some, scopesSub_f a c (by omega) (by omega) k (by omega), Option.bind_some, scopesSub_f b a (by omega) (by omega) k (by omega), Option.bind_some, sRel a b (by omega) (by omega) k (by omega), Option.bind_some, e1, e2, e3, q, awake_f k (by omega)]
  dsimp only
  revert same t
  generalize (subSpec a b).1 = d
  generalize (subSpec b c).1 = e
  generalize (subSpec a c).1 = f
  generalize (subSpec b a).1 = g
  intro t same
  cases d with
  | false => cases g <;> simp
  | true =>
    have t' := t rfl
    cases g with
    | false =>
      cases e with
      | false => simp
      | true => rw [t' rfl]; simp
    | true =>
      have s' := same rfl rfl
      subst s'
      cases e with
      | false => simp
      | true => rw [t' rfl]; simp
theorem subsets_j0 (a b c : ByteArray) (f : Bool) (h : f = false → (a.size ≤ 300 ∧ b.size ≤ 300 ∧ c.size ≤ 300) ∧ chk a = 0 ∧ chk b = 0 ∧ chk c = 0) (k : Nat) (hk : 7000000 < k) : mummerlaw09_ScopesSubsets.j0 k a b c f = some true := by
  obtain ⟨k, rfl⟩ : ∃ m, k = m + 1 := ⟨k - 1, by omega⟩
  simp only [mummerlaw09_ScopesSubsets.j0]
  cases f with
  | true => rw [if_pos rfl, awake_f k (by omega)]; rfl
  | false =>
    obtain ⟨⟨h1, h2, h3⟩, c1, c2, c3⟩ := h rfl
    have ga := good_of c1
    have gb := good_of c2
    have la := good_len ga h1
    have lb := good_len gb h2
    have hj := subsets_j1 a b c h1 h2 h3 c1 c2 c3 k (by omega)
    have u1 := sub_union ga gb (by omega)
    have u2 := sub_meet ga gb
    have u3 := sub_minus ga gb
    have e1 : (subSpec a b).2 = 0 := by rw [good_sub ga gb]
    have e2 : (unionSpec a b).2 = 0 := by rw [(good_union ga gb (by omega)).1]
    have e3 : (meetS a b).2 = 0 := by rw [(good_meet ga gb).1]
    have e4 : (minusS a b).2 = 0 := by rw [(good_minus ga gb).1]
    rw [← tl_inj] at u1 u2
    rw [if_neg (by decide), scopesSub_f a b (by omega) (by omega) k (by omega), Option.bind_some, sUnion a b (by omega) (by omega) k (by omega), Option.bind_some, sMeet a b (by omega) (by omega) k (by omega), Option.bind_some, sMinus a b (by omega) (by omega) k (by omega), Option.bind_some]
    rw [if_pos e1, if_pos e3, if_pos e4, if_pos e2, bx _ _ _ u1, if_neg (by decide), bx _ _ _ u2, if_neg (by decide), bx _ _ _ u3]
    exact hj
theorem law_subsets (a b c : ByteArray) : ∃ k, mummerlaw09_ScopesSubsets.f k a b c = some true := by
  refine ⟨8000000, ?_⟩
  unfold mummerlaw09_ScopesSubsets.f
  have hT := subsets_j0 a b c true (fun h => by cases h) 8000000 (by omega)
  split
  · exact hT
  · split
    · exact hT
    · split
      · exact hT
      · rw [sChk a (by omega), Option.bind_some]
        split
        · rw [sChk b (by omega), Option.bind_some]
          split
          · rw [sChk c (by omega), Option.bind_some]
            refine subsets_j0 a b c _ (fun h => ⟨⟨by omega, by omega, by omega⟩, by assumption, by assumption, ?_⟩) _ (by omega)
            simpa using h
          · exact hT
        · exact hT
end Go.Proofs.YtkalbdeopogbpaaDoor.P
