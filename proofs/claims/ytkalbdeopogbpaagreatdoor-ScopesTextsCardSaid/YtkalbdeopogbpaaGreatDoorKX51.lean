import Derived.Test.YtkalbdeopogbpaaGreatDoorKX38
import Derived.Test.YtkalbdeopogbpaaGreatDoorKX32
import Derived.Test.YtkalbdeopogbpaaGreatDoorKX35
import Derived.Test.YtkalbdeopogbpaaGreatDoorKX33
import Derived.Test.YtkalbdeopogbpaaGreatDoorKX34
import Derived.Test.YtkalbdeopogbpaaGreatDoorKX50
import Derived.Test.YtkalbdeopogbpaaGreatDoorKX39
namespace Go.Proofs.YtkalbdeopogbpaaGreatDoor.P.Wq
open Go.RowKit Go.Proofs.YtkalbdeopogbpaaGreatDoorW.PrintWords Go.Proofs.YtkalbdeopogbpaaGreatDoorW.PrintLast
set_option linter.unusedVariables false
set_option linter.unusedSimpArgs false
set_option maxRecDepth 20000
def gl (l : List Int) (j : Nat) : Int := l.getD j 0
theorem rd_gl (l : List Int) (j : Nat) : rd l (j : Int) = gl l j := by unfold rd gl; rw [Int.toNat_natCast]
def inR (l : List Int) : Prop := ∀ j, j < l.length → 0 ≤ gl l j ∧ gl l j ≤ 1000000000
theorem any_out (l : List Int) : l.any Wd.outB = false ↔ inR l := by
  rw [List.any_eq_false]
  constructor
  · intro h j hj
    have hg : gl l j = l[j] := by unfold gl; rw [List.getD_eq_getElem?_getD, List.getElem?_eq_getElem hj]; rfl
    have := h l[j] (List.getElem_mem hj)
    unfold Wd.outB at this
    simp at this
    rw [hg]; omega
  · intro h x hx
    obtain ⟨j, hj, rfl⟩ := List.getElem_of_mem hx
    have hg : gl l j = l[j] := by unfold gl; rw [List.getD_eq_getElem?_getD, List.getElem?_eq_getElem hj]; rfl
    have := h j hj
    rw [hg] at this
    unfold Wd.outB
    simp
    omega
theorem rList_l0 (l : List Int) (hl : l.length ≤ 500) : ∀ (g j k : Nat), j + g = l.length → g + 1 ≤ k → (∀ i, i < j → 0 ≤ gl l i ∧ gl l i ≤ 1000000000) → mummerref01_List.l0 k l (j : Int) = if l.any Wd.outB = true then some (⟨#[]⟩, 7) else mummerref01_List.l1 (k - g - 1) l 1 := by
  intro g
  induction g with
  | zero =>
    intro j k hj hk hin
    obtain ⟨k, rfl⟩ : ∃ k', k = k' + 1 := ⟨k - 1, by omega⟩
    rw [mummerref01_List.l0, if_neg (by omega), (any_out l).2 (fun i hi => hin i (by omega)), if_neg Bool.false_ne_true]; rfl
  | succ g ih =>
    intro j k hj hk hin
    obtain ⟨k, rfl⟩ : ∃ k', k = k' + 1 := ⟨k - 1, by omega⟩
    rw [mummerref01_List.l0, if_pos (by omega), if_pos (by omega), rd_gl]
    have hbad : ¬ (0 ≤ gl l j ∧ gl l j ≤ 1000000000) → l.any Wd.outB = true := by
      intro hn
      cases ha : l.any Wd.outB with
      | true => rfl
      | false => exact absurd ((any_out l).1 ha j (by omega)) hn
    by_cases h1 : gl l j < 0
    · rw [if_pos h1, hbad (by omega), if_pos rfl]
    · rw [if_neg h1]
      by_cases h2 : gl l j > 1000000000
      · rw [if_pos h2, hbad (by omega), if_pos rfl]
      · rw [if_neg h2, w64 (by omega) (by omega), show (j : Int) + 1 = ((j + 1 : Nat) : Int) by omega, ih (j + 1) k (by omega) (by omega) (fun i hi => by
          by_cases he : i = j
          · rw [he]; omega
          · exact hin i (by omega)), show k + 1 - (g + 1) - 1 = k - g - 1 by omega]
theorem rList_l1 (l : List Int) (hl : l.length ≤ 500) (h0 : 1 ≤ l.length) : ∀ (g j k : Nat), j + g = l.length → 1 ≤ j → g + 1 ≤ k → (∀ i, i + 1 < j → gl l i < gl l (i + 1)) → mummerref01_List.l1 k l (j : Int) = if Wd.formK l l.length ≠ 0 then some (⟨#[]⟩, Wd.formK l l.length) else mummerref01_List.l2 (k - g - 1) l (⟨#[]⟩ : ByteArray) 0 := by
  intro g
  induction g with
  | zero =>
    intro j k hj h1 hk hin
    obtain ⟨k, rfl⟩ : ∃ k', k = k' + 1 := ⟨k - 1, by omega⟩
    have hz : Wd.formK l l.length = 0 := formK_of l _ (fun i hi => hin i (by omega))
    rw [mummerref01_List.l1, if_neg (by omega), if_neg (by omega), if_neg (fun h => h hz)]; rfl
  | succ g ih =>
    intro j k hj h1 hk hin
    obtain ⟨k, rfl⟩ : ∃ k', k = k' + 1 := ⟨k - 1, by omega⟩
    rw [mummerref01_List.l1, if_pos (by omega), if_pos (by omega), w64 (n := (j : Int) - 1) (by omega) (by omega), if_pos (by omega), if_pos (by omega), rd_gl, show (j : Int) - 1 = ((j - 1 : Nat) : Int) by omega, rd_gl]
    by_cases h2 : gl l j ≤ gl l (j - 1)
    · have hn : Wd.formK l l.length ≠ 0 := fun e => by
        have := formK_lt l _ e (j - 1) (by omega)
        rw [show j - 1 + 1 = j by omega] at this
        have h3 : gl l (j - 1) < gl l j := this
        omega
      rw [if_pos h2, if_pos hn]
      rcases Wd.formK_val l l.length with e | e
      · exact absurd e hn
      · rw [e]
    · rw [if_neg h2, w64 (by omega) (by omega), show (j : Int) + 1 = ((j + 1 : Nat) : Int) by omega, ih (j + 1) k (by omega) (by omega) (by omega) (fun i hi => by
        by_cases he : i + 1 = j
        · rw [show i = j - 1 by omega, show j - 1 + 1 = j by omega]; omega
        · exact hin i (by omega)), show k + 1 - (g + 1) - 1 = k - g - 1 by omega]
theorem rList_l3 (l : List Int) (hl : l.length ≤ 500) (hin : inR l) (out : ByteArray) (i : Nat) : ∀ (g j k : Nat), j + g + 1 = l.length → g + 1 ≤ k → ∃ r, Wd.runLen (gl l j) (l.drop (j + 1)) = r ∧ r ≤ g ∧ gl l (j + r) = gl l j + r ∧ mummerref01_List.l3 k l out (i : Int) (j : Int) = mummerref01_List.j4 (k - r - 1) l out (i : Int) ((j + r : Nat) : Int) := by
  intro g
  induction g with
  | zero =>
    intro j k hj hk
    obtain ⟨k, rfl⟩ : ∃ k', k = k' + 1 := ⟨k - 1, by omega⟩
    refine ⟨0, Wd.runLen_stop l j (by omega), Nat.le_refl _, by simp, ?_⟩
    rw [mummerref01_List.l3, w64 (by omega) (by omega), if_neg (by omega)]; rfl
  | succ g ih =>
    intro j k hj hk
    obtain ⟨k, rfl⟩ : ∃ k', k = k' + 1 := ⟨k - 1, by omega⟩
    have hn := Wd.runLen_next l j (by omega)
    have hb := hin j (by omega)
    rw [mummerref01_List.l3, w64 (n := (j : Int) + 1) (by omega) (by omega), if_pos (by omega), if_pos (by omega), if_pos (by omega), if_pos (by omega), show (j : Int) + 1 = ((j + 1 : Nat) : Int) by omega, rd_gl, rd_gl, w64 (by omega) (by omega)]
    have hg : ∀ j, l.getD j 0 = gl l j := fun j => rfl
    rw [hg, hg] at hn
    by_cases h : gl l (j + 1) = gl l j + 1
    · rw [if_pos h] at hn ⊢
      obtain ⟨r, r1, r2, r3, r4⟩ := ih (j + 1) k (by omega) (by omega)
      refine ⟨r + 1, by rw [hn, r1], by omega, by rw [show j + (r + 1) = j + 1 + r by omega, r3, h]; omega, ?_⟩
      rw [r4, show j + (r + 1) = j + 1 + r by omega, show k + 1 - (r + 1) - 1 = k - r - 1 by omega]
    · rw [if_neg h] at hn ⊢
      exact ⟨0, hn, by omega, by simp, rfl⟩
theorem rList_l2 (l : List Int) (hl : l.length ≤ 500) (hin : inR l) : ∀ (f i k : Nat) (out : List UInt8), l.length - i ≤ f → i ≤ l.length → 4 * (l.length - i) + 100 ≤ k → out.length ≤ 44 * i → mummerref01_List.l2 k l (mkB out) (i : Int) = some (mkB (Wd.listGo f (l.drop i) out), 0) := by
  intro f
  induction f with
  | zero =>
    intro i k out hf hi hk ho
    obtain ⟨k, rfl⟩ : ∃ k', k = k' + 1 := ⟨k - 1, by omega⟩
    rw [mummerref01_List.l2, if_neg (by omega)]
    cases l.drop i <;> rfl
  | succ f ih =>
    intro i k out hf hi hk ho
    obtain ⟨k, rfl⟩ : ∃ k', k = k' + 1 := ⟨k - 1, by omega⟩
    rw [mummerref01_List.l2]
    by_cases he : i = l.length
    · rw [if_neg (by omega), List.drop_eq_nil_of_le (by omega)]; rfl
    · rw [if_pos (by omega)]
      obtain ⟨r, r1, r2, r3, r4⟩ := rList_l3 l hl hin (mkB out) i (l.length - i - 1) i k (by omega) (by omega)
      have hb := hin i (by omega)
      have hb2 := hin (i + r) (by omega)
      have hgo := Wd.listGo_step l i (i + r) f out (by omega) (by omega) (by rw [Nat.add_sub_cancel_left]; exact r1)
      have hsl := Wd.seg_len out (gl l i) r hb.1 (by omega)
      rw [hgo, r4]
      obtain ⟨k', hk'⟩ : ∃ k', k - r - 1 = k' + 1 + 1 := ⟨k - r - 1 - 2, by omega⟩
      have n1 := Wd.itoa_le (gl l i) hb.1 hb.2
      have n2 := Wd.itoa_le (gl l i + r) (by omega) (by omega)
      have nd1 := nd_nine (gl l i).natAbs (by omega)
      have nd2 := nd_nine (gl l i + r).natAbs (by omega)
      -- behind the comma
      have tail : ∀ out2 : List UInt8, out2.length ≤ out.length + 1 → mummerref01_List.j5 (k' + 1) l (mkB out2) (i : Int) ((i + r : Nat) : Int) = mummerref01_List.l2 k' l (mkB (out2 ++ (Lib.itoa (gl l i) ++ (if r = 0 then [] else 45 :: Lib.itoa (gl l i + (r : Int)))))) (((i + r + 1 : Nat)) : Int) := by
        intro out2 ho2
        rw [mummerref01_List.j5, if_pos (by omega), if_pos (by omega), rd_gl, rDig_f (gl l i) (by omega) (by omega) k' (by omega)]
        simp only [Option.bind_some]
        rw [show (⟨(Lib.itoa (gl l i)).toArray⟩ : ByteArray) = mkB (Lib.itoa (gl l i)) from rfl, mkB_size, mkB_size, if_pos (by omega), mkB_app, w64 (by omega) (by omega)]
        by_cases h0 : r = 0
        · rw [if_neg (by omega), if_pos h0, List.append_nil]
          congr 1
        · rw [if_pos (by omega), if_pos (by rw [mkB_size, List.length_append]; omega), if_pos (by omega), if_pos (by omega), rd_gl, r3, rDig_f (gl l i + r) (by omega) (by omega) k' (by omega)]
          simp only [Option.bind_some]
          rw [show (⟨(Lib.itoa (gl l i + r)).toArray⟩ : ByteArray) = mkB (Lib.itoa (gl l i + r)) from rfl, show (⟨#[45]⟩ : ByteArray) = mkB [45] from rfl, mkB_app, mkB_size, mkB_size, if_pos (by simp; omega), mkB_app, if_neg h0]
          have e : out2 ++ Lib.itoa (gl l i) ++ [45] ++ Lib.itoa (gl l i + r) = out2 ++ (Lib.itoa (gl l i) ++ 45 :: Lib.itoa (gl l i + (r : Int))) := by simp
          rw [e]
          congr 1
      rw [hk', mummerref01_List.j4]
      have hseg : Wd.seg out (l.getD i 0) (i + r - i) = out ++ (if out = [] then [] else [44]) ++ (Lib.itoa (gl l i) ++ (if r = 0 then [] else 45 :: Lib.itoa (gl l i + (r : Int)))) := by
        rw [Nat.add_sub_cancel_left]
        unfold Wd.seg
        rw [List.append_assoc (out ++ _)]; rfl
      have hlen : (Wd.seg out (l.getD i 0) (i + r - i)).length ≤ 44 * (i + r + 1) := by
        rw [Nat.add_sub_cancel_left]
        have : (Wd.seg out (l.getD i 0) r).length ≤ out.length + 44 := hsl
        omega
      rw [← ih (i + r + 1) k' _ (by omega) (by omega) (by omega) hlen, hseg]
      by_cases h0 : out = []
      · rw [if_pos (by rw [h0, tl_eq]; rfl), tail out (by omega), if_pos h0, List.append_nil]
      · have : ¬ (mkB out).toList = [] := by rw [tl_eq, mkB_data]; exact h0
        rw [if_neg this, if_pos (by rw [mkB_size]; omega), show (⟨#[44]⟩ : ByteArray) = mkB [44] from rfl, mkB_app, tail (out ++ [44]) (by simp), if_neg h0]
theorem rList_f (l : List Int) (k : Nat) (hk : 4000 ≤ k) : mummerref01_List.f k l = some (Wd.listS l) := by
  unfold mummerref01_List.f Wd.listS
  by_cases h5 : 500 < l.length
  · rw [if_pos (by omega), if_pos h5]
  · rw [if_neg (by omega), if_neg h5]
    have e0 := rList_l0 l (by omega) l.length 0 k (by omega) (by omega) (fun i hi => by omega)
    rw [show ((0 : Nat) : Int) = 0 from rfl] at e0
    rw [e0]
    by_cases h1 : l.any Wd.outB = true
    · rw [if_pos h1, if_pos h1]
    · rw [if_neg h1, if_neg h1]
      by_cases h0 : l = []
      · subst h0
        obtain ⟨k', hk'⟩ : ∃ k', k - ([] : List Int).length - 1 = k' + 1 := ⟨k - 2, by simp; omega⟩
        rw [hk', mummerref01_List.l1, if_neg (by simp), if_pos rfl]; rfl
      · have hp := List.length_pos_iff.2 h0
        have e1 := rList_l1 l (by omega) hp (l.length - 1) 1 (k - l.length - 1) (by omega) (by omega) (by omega) (fun i hi => by omega)
        rw [show ((1 : Nat) : Int) = 1 from rfl] at e1
        rw [e1]
        by_cases h2 : Wd.formK l l.length ≠ 0
        · rw [if_pos h2, if_pos h2]
        · rw [if_neg h2, if_neg h2, if_neg h0]
          have := rList_l2 l (by omega) ((any_out l).1 (by simpa using h1)) l.length 0 (k - l.length - 1 - (l.length - 1) - 1) [] (by omega) (by omega) (by omega) (by simp)
          rw [List.drop_zero] at this
          exact this
theorem expand_len : ∀ (ps : List (Nat × Nat)) (acc : List Int), acc.length ≤ 500 → (expand ps acc).1.length ≤ 500 := by
  intro ps
  induction ps with
  | nil => intro acc h; exact h
  | cons p ps ih =>
    intro acc h
    rw [expand]
    split
    · simp
    · exact ih _ (by rw [List.length_append, rangeL_len]; omega)
theorem parse_len (a : ByteArray) : (parseS a).1.length ≤ 500 := by
  unfold parseS
  split
  · simp
  · split
    · simp
    · split
      · simp
      · exact expand_len _ _ (by simp)
end Go.Proofs.YtkalbdeopogbpaaGreatDoor.P.Wq
