import Derived.Test.YtciaocdpojnmcaaGreatDoorKI55
import Derived.Test.YtciaocdpojnmcaaGreatDoorKI60
import Derived.Test.YtciaocdpojnmcaaGreatDoorKI61
import Derived.Test.YtciaocdpojnmcaaGreatDoorKI34
import Derived.Test.YtciaocdpojnmcaaGreatDoorKI35
import Derived.Test.YtciaocdpojnmcaaGreatDoorKI36
namespace Go.Proofs.YtciaocdpojnmcaaGreatDoor.P
open Go.RowKit Go.Proofs.YtciaocdpojnmcaaGreatDoorW.PrintWords Go.Proofs.YtciaocdpojnmcaaGreatDoorW.PrintLast
set_option linter.unusedVariables false
set_option linter.unusedSimpArgs false
set_option maxRecDepth 20000
theorem listGo_len : ∀ (g : Nat) (l : List Int) (acc : List UInt8), (∀ x ∈ l, 0 ≤ x ∧ x ≤ 1000000000) → l.length ≤ 500 → (Wd.listGo g l acc).length ≤ acc.length + 44 * g := by
  intro g
  induction g with
  | zero => intro l acc _ _; cases l <;> (rw [Wd.listGo]; omega)
  | succ g ih =>
    intro l acc hl h5
    cases l with
    | nil => rw [Wd.listGo]; omega
    | cons x r =>
      have h0 := hl x (by simp)
      have hr := Wd.runLen_le r x
      rw [List.length_cons] at h5
      have a1 : (Lib.itoa x).length ≤ 21 := Lib.itoa_length_le x (by omega) (by omega)
      have a2 : (Lib.itoa (x + (Wd.runLen x r : Int))).length ≤ 21 := Lib.itoa_length_le _ (by omega) (by omega)
      rw [Wd.listGo]
      have := ih (r.drop (Wd.runLen x r)) (acc ++ (if acc = [] then [] else [44]) ++ Lib.itoa x ++ (if Wd.runLen x r = 0 then [] else 45 :: Lib.itoa (x + (Wd.runLen x r : Int)))) (fun y hy => hl y (by simp [List.mem_of_mem_drop hy])) (by rw [List.length_drop]; omega)
      have hb : (acc ++ (if acc = [] then [] else [44]) ++ Lib.itoa x ++ (if Wd.runLen x r = 0 then [] else 45 :: Lib.itoa (x + (Wd.runLen x r : Int)))).length ≤ acc.length + 44 := by
        by_cases c1 : acc = [] <;> by_cases c2 : Wd.runLen x r = 0 <;> simp [c1, c2] <;> omega
      omega
theorem listS_size (l : List Int) : (Wd.listS l).1.size ≤ 30000 := by
  unfold Wd.listS
  split
  · exact Nat.zero_le _
  · rename_i h1
    split
    · exact Nat.zero_le _
    · rename_i h2
      split
      · exact Nat.zero_le _
      · split
        · exact Nat.le_of_lt (by decide)
        · have := listGo_len l.length l [] (outB_not (by simpa using h2)) (by omega)
          have e : (⟨(Wd.listGo l.length l []).toArray⟩ : ByteArray).size = (Wd.listGo l.length l []).length := mkB_size _
          rw [e]
          simp at this
          omega
theorem intS_range (a : ByteArray) (lo hi : Int) (h : (intS a lo hi).2 = 0) : lo ≤ (intS a lo hi).1 ∧ (intS a lo hi).1 ≤ hi := by
  unfold intS at h ⊢
  split
  · rename_i h1; rw [if_pos h1] at h; exact absurd h (by decide)
  · rename_i h1
    rw [if_neg h1] at h
    split
    · rename_i h2
      rw [if_pos h2] at h
      split
      · rename_i h3; rw [if_pos h3] at h; exact absurd h (by decide)
      · rename_i h3
        rw [if_neg h3] at h
        split
        · rename_i h4; rw [if_pos h4] at h; exact absurd h (by decide)
        · rename_i h4
          have e1 : ¬ -(vl a (a.size - 1) 1 0) < lo := fun h => h4 (.inl h)
          have e2 : ¬ hi < -(vl a (a.size - 1) 1 0) := fun h => h4 (.inr h)
          exact ⟨by omega, by omega⟩
    · rename_i h2
      rw [if_neg h2] at h
      split
      · rename_i h3; rw [if_pos h3] at h; exact absurd h (by decide)
      · rename_i h3
        rw [if_neg h3] at h
        split
        · rename_i h4; rw [if_pos h4] at h; exact absurd h (by decide)
        · rename_i h4
          have e1 : ¬ vl a a.size 0 0 < lo := fun h => h4 (.inl h)
          have e2 : ¬ hi < vl a a.size 0 0 := fun h => h4 (.inr h)
          exact ⟨by omega, by omega⟩
theorem inv_j5 (a : ByteArray) (hs : a.size ≤ 3000) (xs : List Int) (n : Int) (h0 : -9223372036854775808 ≤ n) (h1 : n ≤ 9223372036854775807) (k : Nat) (hk : 100 ≤ k) : mummerlaw01_WordsInverse.j5 (k + 1) a xs n = some true := by
  have hi : (Lib.itoa n).length ≤ 21 := Lib.itoa_length_le n (by omega) (by omega)
  rw [mummerlaw01_WordsInverse.j5, wDig_f n h0 h1]
  simp only [Option.bind_some]
  have hw := wInt_f (mkB (Lib.itoa n)) n n (by rw [mkB_size]; omega)
  rw [inv_ID n h0 h1] at hw
  rw [show (⟨(Lib.itoa n).toArray⟩ : ByteArray) = mkB (Lib.itoa n) from rfl, hw, wInt_f a _ _ (by omega)]
  simp only [Option.bind_some, if_true]
  by_cases h : (intS a (-9223372036854775808) 9223372036854775807).2 = 0
  · have hr := intS_range a _ _ h
    rw [if_pos h, wDig_f _ hr.1 hr.2]
    simp only [Option.bind_some]
    rw [show (⟨(Lib.itoa (intS a (-9223372036854775808) 9223372036854775807).1).toArray⟩ : ByteArray) = mkB (Lib.itoa (intS a (-9223372036854775808) 9223372036854775807).1) from rfl, inv_DI a _ _ h, if_pos rfl, shown_f k (by omega)]; rfl
  · rw [if_neg h, shown_f k (by omega)]; rfl
theorem inv_j4 (a : ByteArray) (hs : a.size ≤ 3000) (xs : List Int) (n : Int) (h0 : -9223372036854775808 ≤ n) (h1 : n ≤ 9223372036854775807) (k : Nat) (hk : 300000 ≤ k) : mummerlaw01_WordsInverse.j4 (k + 1) a xs n = some true := by
  obtain ⟨k, rfl⟩ : ∃ k', k = k' + 1 := ⟨k - 1, by omega⟩
  have hj := inv_j5 a hs xs n h0 h1 k (by omega)
  have hw : ∀ l, words_List.f l = some (Wd.listS l) := fun l => rfl
  rw [mummerlaw01_WordsInverse.j4, wParse_f a (by omega) (k + 1) (by omega)]
  simp only [Option.bind_some]
  by_cases h : (parseS a).2 = 0
  · rw [if_pos h, hw, inv_PL a h]
    simp only [Option.bind_some, if_true]
    exact hj
  · rw [if_neg h, hj]
theorem inv_j3 (a : ByteArray) (hs : a.size ≤ 3000) (xs : List Int) (n : Int) (h0 : -9223372036854775808 ≤ n) (h1 : n ≤ 9223372036854775807) (k : Nat) (hk : 300002 ≤ k) : mummerlaw01_WordsInverse.j3 (k + 1) a false xs n = some true := by
  obtain ⟨k, rfl⟩ : ∃ k', k = k' + 1 := ⟨k - 1, by omega⟩
  have hj := inv_j4 a hs xs n h0 h1 k (by omega)
  have hw : words_List.f xs = some (Wd.listS xs) := rfl
  rw [mummerlaw01_WordsInverse.j3, if_neg Bool.false_ne_true, hw]
  simp only [Option.bind_some]
  by_cases h : (Wd.listS xs).2 = 0
  · have hl : xs.length ≤ 500 := by
      unfold Wd.listS at h
      split at h
      · exact absurd h (by decide)
      · omega
    rw [if_pos h, wParse_f _ (listS_size xs) (k + 1) (by omega), inv_LP xs h]
    simp only [Option.bind_some, if_true]
    rw [lists_f xs (by omega) (k + 1) (by omega)]
    simp only [Option.bind_some, if_true]
    exact hj
  · rw [if_neg h, hj]
theorem uq_len (a : ByteArray) : ∀ (g p : Nat) (acc : List Int), acc.length ≤ p → (uq a g p acc).1.size ≤ a.size := by
  intro g
  induction g with
  | zero => intro p acc _; exact Nat.zero_le _
  | succ g ih =>
    intro p acc h
    rw [uq]
    split
    · rename_i hp
      split
      · rw [str_size]; omega
      · rename_i h34
        cases hs : st a p with
        | none => exact Nat.zero_le _
        | some t =>
          obtain ⟨b, n⟩ := t
          have := (st_fits hp h34 hs).1
          exact ih (p + n) (acc ++ [b]) (by simp; omega)
    · exact Nat.zero_le _
theorem unquoteS_size (a : ByteArray) : (unquoteS a).1.size ≤ a.size := by
  unfold unquoteS
  split
  · unfold unq
    split
    · exact Nat.zero_le _
    · exact uq_len a _ _ _ (by simp)
  · exact Nat.zero_le _
theorem inv_j2 (a : ByteArray) (hs : a.size ≤ 3000) (xs : List Int) (n : Int) (h0 : -9223372036854775808 ≤ n) (h1 : n ≤ 9223372036854775807) (k : Nat) (hk : 300004 ≤ k) : mummerlaw01_WordsInverse.j2 (k + 1) a xs n = some true := by
  obtain ⟨k, rfl⟩ : ∃ k', k = k' + 1 := ⟨k - 1, by omega⟩
  have hj := inv_j3 a hs xs n h0 h1 k (by omega)
  have hq := (quoteS_size a).2
  have hu := unquoteS_size a
  rw [mummerlaw01_WordsInverse.j2, wQuote_f a (by omega) (k + 1) (by omega)]
  simp only [Option.bind_some]
  rw [wUnquote_f (quoteS a) (by omega) (k + 1) (by omega), wUnquote_f a (by omega) (k + 1) (by omega), inv_UQ a]
  simp only [Option.bind_some, if_true]
  by_cases h : (unquoteS a).2 = 0
  · rw [if_pos h, wQuote_f _ (by omega) (k + 1) (by omega), inv_QU a h]
    simp only [Option.bind_some, bne_self_eq_false]
    exact hj
  · rw [if_neg h]; exact hj
theorem inv_j1g (a : ByteArray) (l : List S47) (r : ByteArray × Int) (xs : List Int) (n : Int) (k : Nat) (hj : mummerlaw01_WordsInverse.j2 k a xs n = some true) (hr : words_Join.f k l = some r) (hs : r.2 = 0 → words_Split.f r.1 = some (l, 0)) (hm : r.2 = 0 → mummerref01_Same.f k l l = some true) : mummerlaw01_WordsInverse.j1 (k + 1) a l xs n = some true := by
  rw [mummerlaw01_WordsInverse.j1, hr]
  obtain ⟨t, e⟩ := r
  simp only [Option.bind_some]
  by_cases h : e = 0
  · rw [if_pos h]
    have h1 := hs h
    have h2 := hm h
    simp only at h1
    rw [h1]
    simp only [Option.bind_some, if_true]
    rw [h2]
    simp only [Option.bind_some, if_true]
    exact hj
  · rw [if_neg h]
    exact hj
theorem inv_j1 (a : ByteArray) (l : List S47) (hs : a.size ≤ 3000) (hsm : small l) (xs : List Int) (n : Int) (h0 : -9223372036854775808 ≤ n) (h1 : n ≤ 9223372036854775807) (k : Nat) (hk : 300006 ≤ k) : mummerlaw01_WordsInverse.j1 (k + 1) a l xs n = some true := by
  obtain ⟨k, rfl⟩ : ∃ k', k = k' + 1 := ⟨k - 1, by omega⟩
  have hj := inv_j2 a hs xs n h0 h1 k (by omega)
  have hw := wJoin_f l hsm (k + 1) (by omega)
  have hi := inv_JS l
  have hk' := @joinS_ok l
  generalize joinS l = r at hw hi hk'
  exact inv_j1g a l r xs n (k + 1) hj hw hi (fun h => same_f l (by have := (hk'.1 h).1; omega) (k + 1) (by have := (hk'.1 h).1; omega))
theorem split_some (a : ByteArray) (hs : a.size ≤ 3000) : ∃ r, words_Split.f a = some r := by
  unfold words_Split.f
  split
  · exact ⟨_, rfl⟩
  · split
    · exact ⟨_, rfl⟩
    · have : ∀ (g : Nat) (b : ByteArray), b.size < g → b.size ≤ a.size → ∃ rs, Wd.fieldsP (a.size + 10) g b = some rs := by
        intro g
        induction g with
        | zero => intro b h; omega
        | succ g ih =>
          intro b hb hba
          rw [Wd.fieldsP, fieldOf_f _ b (by omega) (by omega)]
          have key : ∀ (f : S47) (n : Nat), (piece f).data.toList.length = n → b.data.toList = (piece f).data.toList ++ b.data.toList.drop n → ∃ rs, Wd.afterG (Wd.fieldsP (a.size + 10) g) b f (n : Int) = some rs := by
            intro f n hn hd
            rw [afterG_f _ b f n _ hn hd]
            split
            · exact ⟨_, rfl⟩
            · rename_i hne
              split
              · have hl : b.size = b.data.toList.length := Lib.size_eq b
                obtain ⟨rs, hrs⟩ := ih (mkB (b.data.toList.drop (n + 1))) (by
                  rw [mkB_size, List.length_drop]
                  have : 0 < (b.data.toList.drop n).length := List.length_pos_iff.2 hne
                  rw [List.length_drop] at this
                  omega) (by rw [mkB_size, List.length_drop]; omega)
                rw [hrs]; exact ⟨_, rfl⟩
              · exact ⟨_, rfl⟩
          by_cases hu : (unq b).2 = 0
          · rw [if_neg (fun e => e hu)]
            by_cases hbr : bareS (Wd.ahead b 32) = true
            · rw [if_pos hbr]
              simp only [Option.bind_some]
              rw [ahead_size]
              exact key ⟨Wd.ahead b 32, false⟩ (mlen b) (by
                show (Wd.ahead b 32).data.toList.length = _
                rw [← Lib.size_eq, ahead_size]) (ahead_list b)
            · rw [if_neg hbr]; exact ⟨_, rfl⟩
          · rw [if_pos hu]
            simp only [Option.bind_some]
            obtain ⟨u1, u2, u3⟩ := unq_list b hu
            rw [u1]
            exact key ⟨(unq b).1, true⟩ (quoteS (unq b).1).size (Lib.size_eq _).symm u3
      obtain ⟨rs, hrs⟩ := this (a.size + 10) a (by omega) (Nat.le_refl _)
      rw [hrs]; exact ⟨_, rfl⟩
theorem law_inverse (a : ByteArray) (l : List S47) (xs : List Int) (n : Int) (h0 : -9223372036854775808 ≤ n) (h1 : n ≤ 9223372036854775807) : ∃ k, mummerlaw01_WordsInverse.f k a l xs n = some true := by
  refine ⟨400002, ?_⟩
  have easy : mummerlaw01_WordsInverse.j0 400002 a l true xs n = some true := by
    rw [mummerlaw01_WordsInverse.j0, if_pos rfl, shown_f 400001 (by omega)]; rfl
  unfold mummerlaw01_WordsInverse.f
  by_cases hs : (a.size : Int) > 3000
  · rw [if_pos hs]; exact easy
  · rw [if_neg hs]
    obtain ⟨b, hb, hb2⟩ := far_f l 400002 (by omega)
    rw [hb]
    simp only [Option.bind_some]
    cases b with
    | true => rw [if_pos rfl]; exact easy
    | false =>
      obtain ⟨hsm, _⟩ := hb2 rfl
      rw [if_neg Bool.false_ne_true]
      by_cases hx : (xs.length : Int) > 510
      · rw [decide_eq_true hx]; exact easy
      · rw [decide_eq_false hx, mummerlaw01_WordsInverse.j0, if_neg Bool.false_ne_true]
        have hj := inv_j1 a l (by omega) hsm xs n h0 h1 400000 (by omega)
        obtain ⟨r, hr⟩ := split_some a (by omega)
        rw [hr]
        simp only [Option.bind_some]
        by_cases he : r.2 = 0
        · obtain ⟨j1, j2⟩ := inv_SJ a r (by omega) hr he
          rw [if_pos he, wJoin_f r.1 j2 400001 (by omega), j1]
          simp only [Option.bind_some, if_true]
          exact hj
        · rw [if_neg he]
          exact hj
end Go.Proofs.YtciaocdpojnmcaaGreatDoor.P
