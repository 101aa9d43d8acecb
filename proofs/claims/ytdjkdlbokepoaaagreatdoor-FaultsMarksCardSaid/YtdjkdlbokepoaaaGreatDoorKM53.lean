import Derived.Test.YtdjkdlbokepoaaaGreatDoorKM49
import Derived.Test.YtdjkdlbokepoaaaGreatDoorKM36
import Derived.Test.YtdjkdlbokepoaaaGreatDoorKM48
import Derived.Test.YtdjkdlbokepoaaaGreatDoorKM37
namespace Go.Proofs.YtdjkdlbokepoaaaGreatDoor.P
open Go.RowKit Go.Proofs.YtdjkdlbokepoaaaGreatDoorW.PrintWords Go.Proofs.YtdjkdlbokepoaaaGreatDoorW.PrintLast Go.Proofs.YtdjkdlbokepoaaaGreatDoorW.PrintMore Sc
set_option linter.unusedVariables false
set_option linter.unusedSimpArgs false
set_option maxRecDepth 20000
/-- Each cause stands before. -/
def Dn (l : List S41) : Prop := ∀ i : Nat, i < l.length → -1 ≤ (rd_T41 l (i : Int)).f4 ∧ (rd_T41 l (i : Int)).f4 < (i : Int)
theorem chk_dn {n : Int} {l : List S41} (h : (chkV n l).2 = 0) : Dn l := fun i hi => (errF_ok ((chk_ok n l h).2 i hi)).2.2.2
theorem chainG_mem {l : List S41} (hd : Dn l) : ∀ (n : Nat) (i : Int), i < (l.length : Int) → ∀ x ∈ chainG l n i, 0 ≤ x ∧ x < (l.length : Int)
  | 0, i, _, x, hx => by rw [chainG] at hx; cases hx
  | n + 1, i, hi, x, hx => by
    rw [chainG] at hx
    by_cases c : i < 0
    · rw [if_pos c] at hx; cases hx
    · rw [if_neg c] at hx
      obtain ⟨j, rfl⟩ : ∃ j : Nat, i = (j : Int) := ⟨i.toNat, by omega⟩
      have := hd j (by omega)
      rcases List.mem_cons.1 hx with rfl | hx
      · exact ⟨by omega, hi⟩
      · exact chainG_mem hd n _ (by omega) x hx
theorem chainG_lenL (l : List S41) : ∀ (n : Nat) (i : Int), (chainG l n i).length ≤ n
  | 0, i => by rw [chainG]; exact Nat.le_refl _
  | n + 1, i => by
    rw [chainG]
    split
    · simp
    · rw [List.length_cons]; have := chainG_lenL l n (rd_T41 l i).f4; omega
def pv (l : List Int) (x : S41) : ByteArray := (paintF 300000 l x).getD ⟨#[]⟩
theorem picT_size (m : ByteArray) (line : List Int) (col : Int) (w : Nat) : (picT m line col w).size = m.size + 3 + line.length + 3 + (col - 1).toNat + max w 1 + 1 := by
  unfold picT
  have c1 : sp3.size = 3 := rfl
  have c2 : (⟨#[10]⟩ : ByteArray).size = 1 := rfl
  simp only [ByteArray.size_append, rep_size, strOfNums_size, c1, c2]
theorem pv_f {l : List Int} (hI : Sc.InB l = true) (hl : l.length ≤ 8000) {rs : List (Nat × Nat)} (hr : GR l 0 rs) (x : S41) (i : Int) (hx : errF l.length x i = 0) :
    (∀ k, 300000 ≤ k → paintF k l x = some (pv l x)) ∧ (∀ k, 300000 ≤ k → mummerref08_picture.f k l x.f0 x.f1 x.f2.f0 x.f2.f1 x.f3 x.f4 = some (pv l x)) ∧ (pv l x).size ≤ 3 * l.length + 410 := by
  obtain ⟨msg, F, te, h1, h2, h3, h4, h5, h6, h7, h8, h9⟩ := pic_same hI hl hr x i hx
  have e : pv l x = picT msg ((l.take te).drop (begN l F)) (colV l F) (cwN l (mkC F x.f2.f1) te) := by unfold pv; rw [h8 _ (Nat.le_refl _)]; rfl
  rw [e]
  refine ⟨h8, h9, ?_⟩
  have hcol := colV_range hI hr F (by omega)
  have hw := cwN_le l (mkC F x.f2.f1) te
  rw [picT_size, List.length_drop, List.length_take]
  omega
def catP (l : List Int) (l1 : List S41) : List Int → ByteArray → ByteArray
  | [], acc => acc
  | i :: r, acc => catP l l1 r (acc ++ pv l (rd_T41 l1 i))
theorem picG_f {l : List Int} (hI : Sc.InB l = true) (hl : l.length ≤ 600) {rs : List (Nat × Nat)} (hr : GR l 0 rs) {l1 : List S41} (hc : (chkV l.length l1).2 = 0) (k : Nat) (hk : 300000 ≤ k) :
    ∀ (n : Nat) (i : Int) (acc : ByteArray), -1 ≤ i → i < (n : Int) → i < (l1.length : Int) → acc.size + 3000 * n ≤ 400000 → picG k l l1 n i acc = some (catP l l1 (chainG l1 n i) acc) := by
  have hd := chk_dn hc
  intro n
  induction n with
  | zero =>
    intro i acc h1 h2 h3 ha
    rw [picG, if_pos (by omega), chainG, catP]
  | succ n ih =>
    intro i acc h1 h2 h3 ha
    by_cases c : i < 0
    · rw [picG, if_pos c, chainG, if_pos c, catP]
    · obtain ⟨j, rfl⟩ : ∃ j : Nat, i = (j : Int) := ⟨i.toNat, by omega⟩
      have hj := hd j (by omega)
      obtain ⟨p1, _, p3⟩ := pv_f hI (by omega) hr (rd_T41 l1 (j : Int)) (j : Int) ((chk_ok _ _ hc).2 j (by omega))
      rw [picG, if_neg c, p1 k hk, Option.bind_some, if_pos (by omega), ih _ _ hj.1 (by omega) (by omega) (by rw [ByteArray.size_append]; omega), chainG, if_neg c, catP]
/-- What Picture answers. -/
def picV (l : List Int) (l1 : List S41) (a : Int) : ByteArray × Int := if (chkV l.length l1).2 = 0 then (if a < 0 ∨ (l1.length : Int) ≤ a then (⟨#[]⟩, 4) else (catP l l1 (chainG l1 l1.length a) ⟨#[]⟩, 0)) else (⟨#[]⟩, (chkV l.length l1).2)
theorem picture_f {l : List Int} (hI : Sc.InB l = true) (hl : l.length ≤ 600) {rs : List (Nat × Nat)} (hr : GR l 0 rs) (l1 : List S41) (a : Int) (k : Nat) (hk : 400000 ≤ k) : faults_Picture.f k l l1 a = some (picV l l1 a) := by
  have ck : runes_Check.f l = some ((l.length : Int), 0) := Sc.checkL_good (hr.good hI (by omega))
  unfold faults_Picture.f picV
  rw [ck, Option.bind_some, if_pos rfl, check_f _ _ _ (by omega), Option.bind_some]
  by_cases c : (chkV l.length l1).2 = 0
  · rw [if_pos c, if_pos c]
    by_cases d : a < 0 ∨ (l1.length : Int) ≤ a
    · rw [if_pos d, if_pos d]
    · have hn := (chk_ok _ _ c).1
      rw [if_neg d, if_neg d, if_pos (chk_downs c), picG_f hI hl hr c k (by omega) l1.length a ⟨#[]⟩ (by omega) (by omega) (by omega) (by show 0 + _ ≤ _; omega)]
      rfl
  · rw [if_neg c, if_neg c]
end Go.Proofs.YtdjkdlbokepoaaaGreatDoor.P
