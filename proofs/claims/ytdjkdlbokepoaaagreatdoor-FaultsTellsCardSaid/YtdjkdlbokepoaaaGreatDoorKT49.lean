import Derived.Test.YtdjkdlbokepoaaaGreatDoorKT48
import Derived.Test.YtdjkdlbokepoaaaGreatDoorKT36
import Derived.Test.YtdjkdlbokepoaaaGreatDoorKT37
import Derived.Test.YtdjkdlbokepoaaaGreatDoorKT38
namespace Go.Proofs.YtdjkdlbokepoaaaGreatDoor.P
open Go.RowKit Go.Proofs.YtdjkdlbokepoaaaGreatDoorW.PrintWords Go.Proofs.YtdjkdlbokepoaaaGreatDoorW.PrintLast Go.Proofs.YtdjkdlbokepoaaaGreatDoorW.PrintMore Sc
set_option linter.unusedVariables false
set_option linter.unusedSimpArgs false
set_option maxRecDepth 20000
theorem okName_nl (s : ByteArray) (h : okName s = true) : NoNl s := by
 unfold okName at h
 rw [Bool.and_eq_true] at h
 have h2 := of_decide_eq_true h.2
 intro x hx e
 subst e
 obtain ⟨i, hi, hx⟩ := List.mem_iff_getElem.1 hx
 have hi' : i < s.size := by simpa using hi
 have := h2 i hi'
 unfold bt at this
 rw [dif_pos (show ((i : Nat) : Int).toNat < s.size from hi')] at this
 have e : s[i]'hi' = 10 := hx
 have e' : (s[((i : Nat) : Int).toNat]'hi') = 10 := e
 rw [e'] at this
 exact absurd this (by decide)
theorem dig_all (n : Int) (h0 : 0 ≤ n) (h1 : n < 100000) : ∃ s, strconv_Itoa_54.f n = some s ∧ (∀ k, 100 ≤ k → mummerref01_Digits.f k n = some s) ∧ s.size ≤ 6 ∧ NoNl s := by
 obtain ⟨s, a, _, c, d⟩ := dig_same n h0 h1 100 (Nat.le_refl _)
 refine ⟨s, a, fun k hk => ?_, c, d⟩
 obtain ⟨s', a', b', _⟩ := dig_same n h0 h1 k hk
 rw [a] at a'
 cases a'
 exact b'
theorem word_all (n : Int) : ∃ s e, faults_Word.f n = some (s, e) ∧ (∀ k, 200 ≤ k → mummerref08_Word.f k n = some (s, e)) ∧ s.size ≤ 100 ∧ NoNl s := by
 obtain ⟨s, e, a, _, c, d⟩ := word_same n 200 (Nat.le_refl _)
 refine ⟨s, e, a, fun k hk => ?_, c, d⟩
 obtain ⟨s', e', a', b', _⟩ := word_same n k hk
 rw [a] at a'
 cases a'
 exact b'
theorem chk_one (n : Int) (y : S41) : chkV n [y] = (0, errF n y 0) := by
 unfold chkV
 rw [if_neg (by simp), ckL, ckL]
 by_cases c : errF n y ((0 : Nat) : Int) = 0
 ·rw [if_pos c]
  have c' : errF n y 0 = 0 := c
  rw [c']
 ·rw [if_neg c]; rfl
theorem errF_of {n : Int} {x : S41} {i : Int} (h1 : 1 ≤ x.f0 ∧ x.f0 ≤ 999 ∧ 1 ≤ x.f1 ∧ x.f1 ≤ 8 ∧ 0 ≤ x.f2.f0 ∧ x.f2.f0 ≤ x.f2.f1 ∧ x.f2.f1 ≤ n) (h2 : x.f3.size ≤ 60) (h3 : okName x.f3 = true) (h4 : -1 ≤ x.f4 ∧ x.f4 < i) : errF n x i = 0 := by
 unfold errF
 rw [if_neg (by omega), if_neg (by omega), if_neg (by rw [h3]; decide), if_neg (by omega)]
theorem colV_range {l : List Int} (hI : Sc.InB l = true) {rs : List (Nat × Nat)} (hr : GR l 0 rs) (a : Nat) (ha : a ≤ l.length) : 1 ≤ colV l a ∧ colV l a ≤ (l.length : Int) + 1 := by
 obtain ⟨st, z, m, rf, p⟩ := plc hI hr a ha
 have h1 := p.mle
 have h2 := p.gr.len
 rw [← p.col]
 omega
theorem rplace_v {l : List Int} (hI : Sc.InB l = true) (hl : l.length ≤ 8000) {rs : List (Nat × Nat)} (hr : GR l 0 rs) (a : Nat) (ha : a ≤ l.length) (k : Nat) (hk : 200000 ≤ k) : mummerref08_Place.f k l a = some ((cntN l a : Int) + 1, colV l a, 0) := by
 obtain ⟨st, z, m, rf, p⟩ := plc hI hr a ha
 rw [rplace_f hI hl hr p k hk, p.col]
/-- The fault without a cause. -/
def noCause (x : S41) : S41 := ⟨x.f0, x.f1, ⟨x.f2.f0, x.f2.f1⟩, x.f3, -1⟩
theorem msg_same {l : List Int} (hI : Sc.InB l = true) (hl : l.length ≤ 8000) {rs : List (Nat × Nat)} (hr : GR l 0 rs) (x : S41) :
  ∃ s e, (∀ k, 300000 ≤ k → faults_Message.f k l x.f0 x.f1 x.f2.f0 x.f2.f1 x.f3 x.f4 = some (s, e)) ∧ (∀ k, 300000 ≤ k → mummerref08_Message.f k l x.f0 x.f1 x.f2.f0 x.f2.f1 x.f3 x.f4 = some (s, e)) ∧ s.size ≤ 400 ∧ NoNl s ∧ (∀ i, errF l.length x i = 0 → e = 0) := by
 have p0 := fun k hk => place_v hI hl hr 0 (Nat.zero_le _) k hk
 rw [show ((0 : Nat) : Int) = 0 from rfl] at p0
 have e1 : ∀ k, 300000 ≤ k → faults_Check.f k (l.length : Int) [noCause x] = some (0, errF l.length (noCause x) 0) := fun k hk => by rw [check_f _ _ _ (by omega), chk_one]
 have e2 : ∀ k, 300000 ≤ k → mummerref08_Check.f k (l.length : Int) [noCause x] = some (0, errF l.length (noCause x) 0) := fun k hk => by rw [rcheck_f _ _ _ (by omega), chk_one]
 unfold noCause at e1 e2
 by_cases c : errF l.length (noCause x) 0 = 0
 ·have ok := errF_ok c
  unfold noCause at ok c
  dsimp only at ok
  rw [c] at e1 e2
  obtain ⟨F, hF⟩ : ∃ F : Nat, x.f2.f0 = (F : Int) := ⟨x.f2.f0.toNat, by omega⟩
  have pF := fun k hk => place_v hI hl hr F (by omega) k hk
  have rF := fun k hk => rplace_v hI hl hr F (by omega) k hk
  have hc := cntN_le l F
  have hcol := colV_range hI hr F (by omega)
  obtain ⟨t1, a1, a2, a3, a4⟩ := dig_all ((cntN l F : Int) + 1) (by omega) (by omega)
  obtain ⟨t2, b1, b2, b3, b4⟩ := dig_all (colV l F) (by omega) (by omega)
  obtain ⟨ps, pe, q1, q2, q3, q4⟩ := pass_same x.f1
  obtain ⟨ws, we, w1, w2, w3, w4⟩ := word_all x.f0
  have c1 : (⟨#[58]⟩ : ByteArray).size = 1 := rfl
  have c2 : (⟨#[58, 32]⟩ : ByteArray).size = 2 := rfl
  have c3 : (⟨#[32]⟩ : ByteArray).size = 1 := rfl
  have n1 : NoNl (⟨#[58]⟩ : ByteArray) := by decide
  have n2 : NoNl (⟨#[58, 32]⟩ : ByteArray) := by decide
  have n3 : NoNl (⟨#[32]⟩ : ByteArray) := by decide
  have nm := okName_nl _ ok.2.2.1
  have ns := ok.2.1
  by_cases d : x.f3.toList = ([] : List UInt8)
  ·refine ⟨((((((t1 ++ (⟨#[58]⟩ : ByteArray)) ++ t2) ++ (⟨#[58, 32]⟩ : ByteArray)) ++ ps) ++ (⟨#[58, 32]⟩ : ByteArray)) ++ ws), 0, fun k hk => ?_, fun k hk => ?_, ?_, ?_, fun _ _ => rfl⟩
   ·unfold faults_Message.f
    rw [p0 k (by omega), Option.bind_some]
    dsimp only
    rw [if_pos rfl, e1 k hk, Option.bind_some]
    dsimp only
    rw [if_pos rfl, hF, pF k (by omega), Option.bind_some]
    dsimp only
    rw [q1, Option.bind_some, w1, Option.bind_some, a1, Option.bind_some, if_pos (by omega), b1, Option.bind_some]
    rw [if_pos (by simp only [ByteArray.size_append, c1, c2, c3]; omega), if_pos (by simp only [ByteArray.size_append, c1, c2, c3]; omega), if_pos (by simp only [ByteArray.size_append, c1, c2, c3]; omega), if_pos (by simp only [ByteArray.size_append, c1, c2, c3]; omega), if_pos (by simp only [ByteArray.size_append, c1, c2, c3]; omega), if_pos d]
   ·unfold mummerref08_Message.f
    rw [hr.check hI hl _ (by omega), Option.bind_some]
    dsimp only
    rw [if_pos rfl, e2 k hk, Option.bind_some]
    dsimp only
    rw [if_pos rfl, hF, rF k (by omega), Option.bind_some]
    dsimp only
    rw [q2, Option.bind_some, w2 k (by omega), Option.bind_some, a2 k (by omega), Option.bind_some, if_pos (by omega), b2 k (by omega), Option.bind_some]
    rw [if_pos (by simp only [ByteArray.size_append, c1, c2, c3]; omega), if_pos (by simp only [ByteArray.size_append, c1, c2, c3]; omega), if_pos (by simp only [ByteArray.size_append, c1, c2, c3]; omega), if_pos (by simp only [ByteArray.size_append, c1, c2, c3]; omega), if_pos (by simp only [ByteArray.size_append, c1, c2, c3]; omega), if_pos d]
   ·simp only [ByteArray.size_append, c1, c2, c3]; omega
   ·exact (((((a4.app n1).app b4).app n2).app q4).app n2).app w4
  ·refine ⟨((((((t1 ++ (⟨#[58]⟩ : ByteArray)) ++ t2) ++ (⟨#[58, 32]⟩ : ByteArray)) ++ ps) ++ (⟨#[58, 32]⟩ : ByteArray)) ++ ws) ++ ((⟨#[32]⟩ : ByteArray) ++ x.f3), 0, fun k hk => ?_, fun k hk => ?_, ?_, ?_, fun _ _ => rfl⟩
   ·unfold faults_Message.f
    rw [p0 k (by omega), Option.bind_some]
    dsimp only
    rw [if_pos rfl, e1 k hk, Option.bind_some]
    dsimp only
    rw [if_pos rfl, hF, pF k (by omega), Option.bind_some]
    dsimp only
    rw [q1, Option.bind_some, w1, Option.bind_some, a1, Option.bind_some, if_pos (by omega), b1, Option.bind_some]
    rw [if_pos (by simp only [ByteArray.size_append, c1, c2, c3]; omega), if_pos (by simp only [ByteArray.size_append, c1, c2, c3]; omega), if_pos (by simp only [ByteArray.size_append, c1, c2, c3]; omega), if_pos (by simp only [ByteArray.size_append, c1, c2, c3]; omega), if_pos (by simp only [ByteArray.size_append, c1, c2, c3]; omega), if_neg d, if_pos (by omega), if_pos (by simp only [ByteArray.size_append, c1, c2, c3]; omega)]
   ·unfold mummerref08_Message.f
    rw [hr.check hI hl _ (by omega), Option.bind_some]
    dsimp only
    rw [if_pos rfl, e2 k hk, Option.bind_some]
    dsimp only
    rw [if_pos rfl, hF, rF k (by omega), Option.bind_some]
    dsimp only
    rw [q2, Option.bind_some, w2 k (by omega), Option.bind_some, a2 k (by omega), Option.bind_some, if_pos (by omega), b2 k (by omega), Option.bind_some]
    rw [if_pos (by simp only [ByteArray.size_append, c1, c2, c3]; omega), if_pos (by simp only [ByteArray.size_append, c1, c2, c3]; omega), if_pos (by simp only [ByteArray.size_append, c1, c2, c3]; omega), if_pos (by simp only [ByteArray.size_append, c1, c2, c3]; omega), if_pos (by simp only [ByteArray.size_append, c1, c2, c3]; omega), if_neg d, if_pos (by simp only [ByteArray.size_append, c1, c2, c3]; omega), if_pos (by simp only [ByteArray.size_append, c1, c2, c3]; omega)]
    rw [ByteArray.append_assoc (b := (⟨#[32]⟩ : ByteArray)) (c := x.f3)]
   ·simp only [ByteArray.size_append, c1, c2, c3]; omega
   ·exact ((((((a4.app n1).app b4).app n2).app q4).app n2).app w4).app (n3.app nm)
 ·unfold noCause at c
  refine ⟨⟨#[]⟩, errF l.length ⟨x.f0, x.f1, ⟨x.f2.f0, x.f2.f1⟩, x.f3, -1⟩ 0, fun k hk => ?_, fun k hk => ?_, by decide, by decide, fun i hi => ?_⟩
  ·unfold faults_Message.f
   rw [p0 k (by omega), Option.bind_some]
   dsimp only
   rw [if_pos rfl, e1 k hk, Option.bind_some]
   dsimp only
   rw [if_neg c]
  ·unfold mummerref08_Message.f
   rw [hr.check hI hl _ (by omega), Option.bind_some]
   dsimp only
   rw [if_pos rfl, e2 k hk, Option.bind_some]
   dsimp only
   rw [if_neg c]
  ·have := errF_ok hi
   exact absurd (errF_of (x := ⟨x.f0, x.f1, ⟨x.f2.f0, x.f2.f1⟩, x.f3, -1⟩) this.1 this.2.1 this.2.2.1 ⟨by show (-1 : Int) ≤ -1; omega, by show (-1 : Int) < 0; omega⟩) c
theorem msg_bad (l : List Int) {q e : Int} (e0 : e ≠ 0) (e1 : Sc.checkL l = some (q, e)) (e2 : ∀ k, 9000 ≤ k → mummerref02_Check.f k l = some (q, e)) (x : S41) (k : Nat) (hk : 300000 ≤ k) :
  faults_Message.f k l x.f0 x.f1 x.f2.f0 x.f2.f1 x.f3 x.f4 = some (⟨#[]⟩, e) ∧ mummerref08_Message.f k l x.f0 x.f1 x.f2.f0 x.f2.f1 x.f3 x.f4 = some (⟨#[]⟩, e) := by
 refine ⟨?_, ?_⟩
 ·have : faults_Place.f k l 0 = some (0, 0, e) := by
   unfold faults_Place.f
   show (Sc.checkL _).bind _ = _
   rw [e1, Option.bind_some, if_neg e0]
  unfold faults_Message.f
  rw [this, Option.bind_some]
  dsimp only
  rw [if_neg e0]
 ·unfold mummerref08_Message.f
  rw [e2 k (by omega), Option.bind_some]
  dsimp only
  rw [if_neg e0]
end Go.Proofs.YtdjkdlbokepoaaaGreatDoor.P
