import Derived.Test.YtkalbdeopogbpaaGreatDoorKX43
import Derived.Test.YtkalbdeopogbpaaGreatDoorKX51
import Derived.Test.YtkalbdeopogbpaaGreatDoorKX38
import Derived.Test.YtkalbdeopogbpaaGreatDoorKX39
import Derived.Test.YtkalbdeopogbpaaGreatDoorKX40
import Derived.Test.YtkalbdeopogbpaaGreatDoorKX41
namespace Go.Proofs.YtkalbdeopogbpaaGreatDoor.P
open Go.RowKit Go.Proofs.YtkalbdeopogbpaaGreatDoorW.PrintWords Go.Proofs.YtkalbdeopogbpaaGreatDoorW.PrintLast Go.Proofs.YtkalbdeopogbpaaGreatDoorW.PrintMore Go.Proofs.YtkalbdeopogbpaaGreatDoor.P.Sc
set_option linter.unusedVariables false
set_option linter.unusedSimpArgs false
set_option maxRecDepth 20000
def printT (s : ByteArray) : ByteArray × Int := if chk s = 0 then Wd.listS (P s) else (⟨#[]⟩, chk s)
def parseT (a : ByteArray) : ByteArray × Int := if (Wq.parseS a).2 = 0 then ofS (Wq.parseS a).1 else (⟨#[]⟩, (Wq.parseS a).2)
theorem asc_pair : ∀ (l : List Int), Wq.asc l → Asc l := by
  intro l
  induction l with
  | nil => intro _; exact List.Pairwise.nil
  | cons x r ih =>
    intro h
    have hr := ih h.2
    refine List.Pairwise.cons (fun z hz => ?_) hr
    cases r with
    | nil => cases hz
    | cons y s =>
      have h1 := h.1 y s rfl
      rcases List.mem_cons.1 hz with e | e
      · rw [e]; exact h1
      · have h2 : y < z := (List.pairwise_cons.1 hr).1 z e
        omega
theorem listS_asc {l : List Int} (h : (Wd.listS l).2 = 0) : Wq.asc l := by
  unfold Wd.listS at h
  split at h
  · exact absurd h (by decide)
  · split at h
    · exact absurd h (by decide)
    · split at h
      · rename_i h3; exact absurd h h3
      · rename_i h3; exact (Wq.formK_asc l).1 (by simpa using h3)
theorem inv_print {s a : ByteArray} (h : printT s = (a, 0)) : parseT a = (s, 0) := by
  unfold printT at h
  by_cases hc : chk s = 0
  · rw [if_pos hc] at h
    have h0 : (Wd.listS (P s)).2 = 0 := by rw [h]
    have h1 := Wq.inv_LP (P s) h0
    rw [h] at h1
    unfold parseT
    rw [h1, if_pos rfl, ofS_asc (P_InS s) (chk_asc hc), ← ofP_P hc]
    exact setSpec_le (chk_size hc)
  · rw [if_neg hc] at h
    exact absurd (congrArg Prod.snd h) hc
theorem ofS_in {l : List Int} {x : ByteArray} (h : ofS l = (x, 0)) : InS l := by
  unfold ofS at h
  split at h
  · rename_i ha
    intro y hy
    have := List.all_eq_true.1 ha y hy
    have := of_decide_eq_true this
    omega
  · exact absurd (congrArg Prod.snd h) (show ¬ (7 : Int) = 0 by decide)
theorem inv_parse {a x : ByteArray} (h : parseT a = (x, 0)) : printT x = (a, 0) := by
  unfold parseT at h
  by_cases hc : (Wq.parseS a).2 = 0
  · rw [if_pos hc] at h
    have h1 := Wq.inv_PL a hc
    have ha := asc_pair _ (listS_asc (l := (Wq.parseS a).1) (by rw [h1]))
    have hi := ofS_in h
    rw [ofS_asc hi ha] at h
    obtain ⟨e1, e2⟩ := setSpec_ok h
    rw [ofP_size] at e2
    have g := good_ofP hi ha (by omega)
    unfold printT
    rw [e1, if_pos g.ok, g.pl, h1]
  · rw [if_neg hc] at h
    exact absurd (congrArg Prod.snd h) hc
theorem listGo_len : ∀ (g : Nat) (l : List Int) (acc : List UInt8), (∀ x ∈ l, 0 ≤ x ∧ x ≤ 1000000000) → l.length ≤ 500 → (Wd.listGo g l acc).length ≤ acc.length + 44 * g := by
  intro g
  induction g with
  | zero => intro l acc _ _; cases l <;> (rw [Wd.listGo]; omega)
  | succ g ih =>
    intro l acc hl h5
    cases l with
    | nil => rw [Wd.listGo]; omega
    | cons x r =>
      have h0 := hl x (by simp)
      have hr := Wd.runLen_le r x
      rw [List.length_cons] at h5
      have a1 : (Lib.itoa x).length ≤ 21 := Lib.itoa_length_le x (by omega) (by omega)
      have a2 : (Lib.itoa (x + (Wd.runLen x r : Int))).length ≤ 21 := Lib.itoa_length_le _ (by omega) (by omega)
      rw [Wd.listGo]
      have := ih (r.drop (Wd.runLen x r)) (acc ++ (if acc = [] then [] else [44]) ++ Lib.itoa x ++ (if Wd.runLen x r = 0 then [] else 45 :: Lib.itoa (x + (Wd.runLen x r : Int)))) (fun y hy => hl y (by simp [List.mem_of_mem_drop hy])) (by rw [List.length_drop]; omega)
      have hb : (acc ++ (if acc = [] then [] else [44]) ++ Lib.itoa x ++ (if Wd.runLen x r = 0 then [] else 45 :: Lib.itoa (x + (Wd.runLen x r : Int)))).length ≤ acc.length + 44 := by
        by_cases c1 : acc = [] <;> by_cases c2 : Wd.runLen x r = 0 <;> simp [c1, c2] <;> omega
      omega
theorem listS_size (l : List Int) : (Wd.listS l).1.size ≤ 30000 := by
  unfold Wd.listS
  split
  · exact Nat.zero_le _
  · rename_i h1
    split
    · exact Nat.zero_le _
    · rename_i h2
      split
      · exact Nat.zero_le _
      · split
        · exact Nat.le_of_lt (by decide)
        · have := listGo_len l.length l [] (Wq.outB_not (by simpa using h2)) (by omega)
          have e : (⟨(Wd.listGo l.length l []).toArray⟩ : ByteArray).size = (Wd.listGo l.length l []).length := Wq.mkB_size _
          rw [e]
          simp at this
          omega
theorem sPrint (s : ByteArray) (h : s.size ≤ 2000000) : scopes_Print.f s = some (printT s) := by
  unfold scopes_Print.f printT
  rw [sIds s h]
  simp only [Option.bind_some]
  by_cases c : chk s = 0
  · rw [ids_good c, if_pos c]; rfl
  · rw [ids_bad c, if_neg c]
    simp only
    rw [if_neg c]
theorem rPrint (s : ByteArray) (h : s.size ≤ 2000000) (k : Nat) (hk : 2000000 < k) : mummerref09_Print.f k s = some (printT s) := by
  unfold mummerref09_Print.f printT
  rw [rIds s h k hk]
  simp only [Option.bind_some]
  by_cases c : chk s = 0
  · rw [ids_good c, if_pos c]
    simp only [if_true]
    rw [Wq.rList_f (P s) k (by omega)]; rfl
  · rw [ids_bad c, if_neg c]
    simp only
    rw [if_neg c]
theorem sParse (a : ByteArray) (h : a.size ≤ 30000) (k : Nat) (hk : 2000000 < k) : scopes_Parse.f k a = some (parseT a) := by
  unfold scopes_Parse.f parseT
  rw [Wq.wParse_f a h k (by omega)]
  simp only [Option.bind_some]
  by_cases c : (Wq.parseS a).2 = 0
  · rw [if_pos c, if_pos c, sOf _ (by have := Wq.parse_len a; omega)]; rfl
  · rw [if_neg c, if_neg c]
theorem rParse (a : ByteArray) (h : a.size ≤ 30000) (k : Nat) (hk : 2000000 < k) : mummerref09_Parse.f k a = some (parseT a) := by
  unfold mummerref09_Parse.f parseT
  rw [Wq.rParse_f a h k (by omega)]
  simp only [Option.bind_some]
  have hl := Wq.parse_len a
  by_cases c : (Wq.parseS a).2 = 0
  · rw [if_pos c, if_pos c, of_f _ (by omega) k (by omega), ← ofS_eq]; rfl
  · rw [if_neg c, if_neg c]
theorem printT_size (s : ByteArray) : (printT s).1.size ≤ 30000 := by
  unfold printT
  split
  · exact listS_size _
  · exact Nat.zero_le _
theorem parseT_size {a x : ByteArray} (h : parseT a = (x, 0)) : x.size ≤ 2000000 := by
  unfold parseT at h
  split at h
  · unfold ofS at h
    split at h
    · have := (setSpec_ok h).2
      have e := (setSpec_ok h).1
      rw [e]; omega
    · exact absurd (congrArg Prod.snd h) (show ¬ (7 : Int) = 0 by decide)
  · rename_i c
    exact absurd (congrArg Prod.snd h) c
theorem dec1 : Lib.itoa 1 = [49] := by simp [Lib.itoa, Lib.decDigits]
theorem dec5 : Lib.itoa 5 = [53] := by simp [Lib.itoa, Lib.decDigits]
theorem dec6 : Lib.itoa 6 = [54] := by simp [Lib.itoa, Lib.decDigits]
theorem dec258 : Lib.itoa 258 = [50, 53, 56] := by simp [Lib.itoa, Lib.decDigits]
theorem ex_print : printT (ofP [1, 5, 6, 258]) = ((⟨#[49, 44, 53, 45, 54, 44, 50, 53, 56]⟩ : ByteArray), 0) := by
  have g := g_of [1, 5, 6, 258] (by decide) (by decide) (by decide)
  unfold printT
  rw [if_pos g.ok, g.pl]
  unfold Wd.listS
  rw [if_neg (by decide), if_neg (by decide), if_neg (by decide), if_neg (by decide)]
  simp [Wd.listGo, Wd.runLen, dec1, dec5, dec6, dec258]
theorem awake_f (k : Nat) (hk : 6000000 < k) : mummerlaw09_awake.f k = some true := by
  unfold mummerlaw09_awake.f
  have g0 := g_of [1, 5, 258] (by decide) (by decide) (by decide)
  have g1 := g_of [1] (by decide) (by decide) (by decide)
  have z0 : (ofP [1, 5, 258]).size ≤ 2000000 := by rw [ofP_size]; decide
  rw [sOf _ (by decide), Option.bind_some, ex_of]
  dsimp only
  rw [sDrop _ _ z0, Option.bind_some, sFlip _ _ z0, Option.bind_some]
  have e1 : dropS (ofP [1, 5, 258]) 5 = (ofP [1, 258], 0) := by
    unfold dropS
    rw [if_pos g0.ok, if_pos (by decide), g0.pl]
    exact setSpec_le (by rw [ofP_size]; decide)
  have e2 : flipS (ofP [1, 5, 258]) 6 = (ofP [1, 5, 6, 258], 0) := by
    rw [flipS_ok _ _ g0.ok (by decide), g0.pl]
    exact setSpec_le (by rw [ofP_size]; decide)
  have e3 : addS (ofP [1, 5, 258]) 65536 = ((⟨#[]⟩ : ByteArray), 7) := by
    unfold addS
    rw [if_pos g0.ok, if_neg (by decide)]
  have e4 : relS (⟨#[0, 1]⟩ : ByteArray) (ofP [1, 5, 258]) = (1, 0) := by
    have h1 : (⟨#[0, 1]⟩ : ByteArray) = ofP [1] := rfl
    rw [h1]
    unfold relS
    rw [if_pos g1.ok, if_pos g0.ok, g1.pl, g0.pl]
    decide
  rw [e1, e2]
  dsimp only
  have e5 : scopes_Print.f (ofP [1, 5, 6, 258]) = some (printT (ofP [1, 5, 6, 258])) := sPrint _ (by rw [ofP_size]; decide)
  rw [e5, ex_print, Option.bind_some, sRel _ _ (by decide) z0 k (by omega), Option.bind_some, sAdd _ _ z0, Option.bind_some, e3, e4]
  dsimp only
  rw [if_pos (by rw [ofP_toList]; rfl), if_pos rfl, if_pos (by rw [ofP_toList]; rfl), if_pos rfl, if_pos rfl, if_pos (by rw [ByteArray.toList_eq]), if_pos rfl, if_pos rfl, if_pos rfl]
  rfl
theorem texts_j1 (a x : ByteArray) (e : Int) (h : parseT a = (x, e)) (k : Nat) (hk : 6000001 < k) : mummerlaw09_ScopesTexts.j1 k a x e = some true := by
  obtain ⟨k, rfl⟩ : ∃ k', k = k' + 1 := ⟨k - 1, by omega⟩
  rw [mummerlaw09_ScopesTexts.j1]
  by_cases c : e = 0
  · subst c
    rw [if_pos rfl, sPrint x (parseT_size h), inv_parse h]
    simp only [Option.bind_some, if_true]
    rw [awake_f k (by omega)]; rfl
  · rw [if_neg c, awake_f k (by omega)]; rfl
theorem texts_j0 (s a : ByteArray) (p q : ByteArray × Int) (hs : s.size ≤ 1200) (ha : a.size ≤ 1000) (hp : printT s = p) (hq : parseT a = q) (k : Nat) (hk : 6000003 < k) : mummerlaw09_ScopesTexts.j0 k s a false = some true := by
  obtain ⟨k, rfl⟩ : ∃ k', k = k' + 1 := ⟨k - 1, by omega⟩
  have h1 := sPrint s (by omega)
  have h2 := rPrint s (by omega) k (by omega)
  have h3 := sParse a (by omega) k (by omega)
  have h4 := rParse a (by omega) k (by omega)
  have hz := printT_size s
  rw [hp] at h1 h2 hz
  rw [hq] at h3 h4
  rw [mummerlaw09_ScopesTexts.j0, if_neg Bool.false_ne_true, h1, h2, h3, h4]
  have hj := texts_j1 a q.1 q.2 hq k (by omega)
  simp only [Option.bind_some, if_true]
  by_cases c : p.2 = 0
  · have hi := inv_print (s := s) (a := p.1) (by rw [hp, ← c])
    rw [if_pos c, sParse p.1 hz k (by omega), hi]
    simp only [Option.bind_some, if_true]
    exact hj
  · rw [if_neg c]
    exact hj
theorem law_texts (s a : ByteArray) : ∃ k, mummerlaw09_ScopesTexts.f k s a = some true := by
  refine ⟨6000005, ?_⟩
  have easy : mummerlaw09_ScopesTexts.j0 6000005 s a true = some true := by
    rw [mummerlaw09_ScopesTexts.j0, if_pos rfl, awake_f 6000004 (by omega)]; rfl
  unfold mummerlaw09_ScopesTexts.f
  by_cases hs : (s.size : Int) > 1200
  · rw [if_pos hs]; exact easy
  · rw [if_neg hs]
    by_cases ha : (a.size : Int) > 1000
    · rw [decide_eq_true ha]; exact easy
    · rw [decide_eq_false ha]
      exact texts_j0 s a _ _ (by omega) (by omega) rfl rfl 6000005 (by omega)
end Go.Proofs.YtkalbdeopogbpaaGreatDoor.P
