import Derived.Test.YtdjkdlbokepoaaaGreatDoorKT50
import Derived.Test.YtdjkdlbokepoaaaGreatDoorKT36
import Derived.Test.YtdjkdlbokepoaaaGreatDoorKT39
import Derived.Test.YtdjkdlbokepoaaaGreatDoorKT38
namespace Go.Proofs.YtdjkdlbokepoaaaGreatDoor.P
open Go.RowKit Go.Proofs.YtdjkdlbokepoaaaGreatDoorW.PrintWords Go.Proofs.YtdjkdlbokepoaaaGreatDoorW.PrintLast Go.Proofs.YtdjkdlbokepoaaaGreatDoorW.PrintMore Sc
set_option linter.unusedVariables false
set_option linter.unusedSimpArgs false
set_option maxRecDepth 20000
/-- Each cause stands before. -/
def Dn (l : List S41) : Prop := ∀ i : Nat, i < l.length → -1 ≤ (rd_T41 l (i : Int)).f4 ∧ (rd_T41 l (i : Int)).f4 < (i : Int)
theorem chk_dn {n : Int} {l : List S41} (h : (chkV n l).2 = 0) : Dn l := fun i hi => (errF_ok ((chk_ok n l h).2 i hi)).2.2.2
theorem chainG_mem {l : List S41} (hd : Dn l) : ∀ (n : Nat) (i : Int), i < (l.length : Int) → ∀ x ∈ chainG l n i, 0 ≤ x ∧ x < (l.length : Int)
 | 0, i, _, x, hx => by rw [chainG] at hx; cases hx
 | n + 1, i, hi, x, hx => by
  rw [chainG] at hx
  by_cases c : i < 0
  ·rw [if_pos c] at hx; cases hx
  ·rw [if_neg c] at hx
   obtain ⟨j, rfl⟩ : ∃ j : Nat, i = (j : Int) := ⟨i.toNat, by omega⟩
   have := hd j (by omega)
   rcases List.mem_cons.1 hx with rfl | hx
   ·exact ⟨by omega, hi⟩
   ·exact chainG_mem hd n _ (by omega) x hx
theorem chainG_lenL (l : List S41) : ∀ (n : Nat) (i : Int), (chainG l n i).length ≤ n
 | 0, i => by rw [chainG]; exact Nat.le_refl _
 | n + 1, i => by
  rw [chainG]
  split
  ·simp
  ·rw [List.length_cons]; have := chainG_lenL l n (rd_T41 l i).f4; omega
theorem rchain_l0 {l : List S41} (hd : Dn l) : ∀ (n : Nat) (i : Int) (out : List Int), -1 ≤ i → i < (n : Int) → i < (l.length : Int) → out.length + n ≤ 100000 → ∀ k, n < k → mummerref08_chain.l0 k l i out = some (out ++ chainG l n i) := by
 intro n
 induction n with
 | zero =>
  intro i out h1 h2 h3 ho k hk
  obtain ⟨k, rfl⟩ : ∃ K, k = K + 1 := ⟨k - 1, by omega⟩
  rw [mummerref08_chain.l0, if_neg (by omega), chainG, List.append_nil]
 | succ n ih =>
  intro i out h1 h2 h3 ho k hk
  obtain ⟨k, rfl⟩ : ∃ K, k = K + 1 := ⟨k - 1, by omega⟩
  by_cases c : i < 0
  ·rw [mummerref08_chain.l0, if_neg (by omega), chainG, if_pos c, List.append_nil]
  ·obtain ⟨j, rfl⟩ : ∃ j : Nat, i = (j : Int) := ⟨i.toNat, by omega⟩
   have := hd j (by omega)
   rw [mummerref08_chain.l0, if_pos (by omega), if_pos (by omega), if_pos (by omega), if_pos h3, ih _ _ this.1 (by omega) (by omega) (by simp; omega) k (by omega), chainG, if_neg c]
   simp
def pv (l : List Int) (x : S41) : ByteArray := (paintF 300000 l x).getD ⟨#[]⟩
theorem picT_size (m : ByteArray) (line : List Int) (col : Int) (w : Nat) : (picT m line col w).size = m.size + 3 + line.length + 3 + (col - 1).toNat + max w 1 + 1 := by
 unfold picT
 have c1 : sp3.size = 3 := rfl
 have c2 : (⟨#[10]⟩ : ByteArray).size = 1 := rfl
 simp only [ByteArray.size_append, rep_size, strOfNums_size, c1, c2]
theorem pv_f {l : List Int} (hI : Sc.InB l = true) (hl : l.length ≤ 8000) {rs : List (Nat × Nat)} (hr : GR l 0 rs) (x : S41) (i : Int) (hx : errF l.length x i = 0) :
  (∀ k, 300000 ≤ k → paintF k l x = some (pv l x)) ∧ (∀ k, 300000 ≤ k → mummerref08_picture.f k l x.f0 x.f1 x.f2.f0 x.f2.f1 x.f3 x.f4 = some (pv l x)) ∧ (pv l x).size ≤ 3 * l.length + 410 := by
 obtain ⟨msg, F, te, h1, h2, h3, h4, h5, h6, h7, h8, h9⟩ := pic_same hI hl hr x i hx
 have e : pv l x = picT msg ((l.take te).drop (begN l F)) (colV l F) (cwN l (mkC F x.f2.f1) te) := by unfold pv; rw [h8 _ (Nat.le_refl _)]; rfl
 rw [e]
 refine ⟨h8, h9, ?_⟩
 have hcol := colV_range hI hr F (by omega)
 have hw := cwN_le l (mkC F x.f2.f1) te
 rw [picT_size, List.length_drop, List.length_take]
 omega
def catP (l : List Int) (l1 : List S41) : List Int → ByteArray → ByteArray
 | [], acc => acc
 | i :: r, acc => catP l l1 r (acc ++ pv l (rd_T41 l1 i))
theorem picG_f {l : List Int} (hI : Sc.InB l = true) (hl : l.length ≤ 600) {rs : List (Nat × Nat)} (hr : GR l 0 rs) {l1 : List S41} (hc : (chkV l.length l1).2 = 0) (k : Nat) (hk : 300000 ≤ k) :
  ∀ (n : Nat) (i : Int) (acc : ByteArray), -1 ≤ i → i < (n : Int) → i < (l1.length : Int) → acc.size + 3000 * n ≤ 400000 → picG k l l1 n i acc = some (catP l l1 (chainG l1 n i) acc) := by
 have hd := chk_dn hc
 intro n
 induction n with
 | zero =>
  intro i acc h1 h2 h3 ha
  rw [picG, if_pos (by omega), chainG, catP]
 | succ n ih =>
  intro i acc h1 h2 h3 ha
  by_cases c : i < 0
  ·rw [picG, if_pos c, chainG, if_pos c, catP]
  ·obtain ⟨j, rfl⟩ : ∃ j : Nat, i = (j : Int) := ⟨i.toNat, by omega⟩
   have hj := hd j (by omega)
   obtain ⟨p1, _, p3⟩ := pv_f hI (by omega) hr (rd_T41 l1 (j : Int)) (j : Int) ((chk_ok _ _ hc).2 j (by omega))
   rw [picG, if_neg c, p1 k hk, Option.bind_some, if_pos (by omega), ih _ _ hj.1 (by omega) (by omega) (by rw [ByteArray.size_append]; omega), chainG, if_neg c, catP]
theorem rpics_l0 {l : List Int} (hI : Sc.InB l = true) (hl : l.length ≤ 600) {rs : List (Nat × Nat)} (hr : GR l 0 rs) {l1 : List S41} (hc : (chkV l.length l1).2 = 0) (c : List Int) (hcm : ∀ x ∈ c, 0 ≤ x ∧ x < (l1.length : Int)) (hcl : c.length ≤ 100) :
  ∀ (r : List Int) (j : Nat) (acc : ByteArray), c.drop j = r → acc.size + 3000 * r.length ≤ 400000 → ∀ k, 300000 + r.length < k → mummerref08_Picture.l0 k l l1 acc c (j : Int) = some (catP l l1 r acc, 0)
 | [], j, acc, h, ha, k, hk => by
  obtain ⟨k, rfl⟩ : ∃ K, k = K + 1 := ⟨k - 1, by omega⟩
  have : c.length ≤ j := by
   have := congrArg List.length h
   rw [List.length_drop, List.length_nil] at this
   omega
  rw [mummerref08_Picture.l0, if_neg (by omega), catP]
 | x :: r, j, acc, h, ha, k, hk => by
  rw [List.length_cons] at hk ha
  obtain ⟨k, rfl⟩ : ∃ K, k = K + 1 := ⟨k - 1, by omega⟩
  have hlt : j < c.length := by
   have := congrArg List.length h
   rw [List.length_drop, List.length_cons] at this
   omega
  have hx : rd c (j : Int) = x := by
   have := congrArg (fun y => y[0]?) h
   simp only [List.getElem?_drop, Nat.add_zero, List.getElem?_cons_zero] at this
   show c.getD j 0 = x
   rw [List.getD_eq_getElem?_getD, this]; rfl
  have hd : c.drop (j + 1) = r := by
   have := congrArg (List.drop 1) h
   rw [List.drop_drop] at this
   simpa using this
  have hm := hcm x (by
   have : x ∈ c.drop j := by rw [h]; exact List.mem_cons_self
   exact List.mem_of_mem_drop this)
  obtain ⟨i, rfl⟩ : ∃ i : Nat, x = (i : Int) := ⟨x.toNat, by omega⟩
  obtain ⟨_, p2, p3⟩ := pv_f hI (by omega) hr (rd_T41 l1 (i : Int)) (i : Int) ((chk_ok _ _ hc).2 i (by omega))
  have ih := rpics_l0 hI hl hr hc c hcm hcl r (j + 1) (acc ++ pv l (rd_T41 l1 (i : Int))) hd (by rw [ByteArray.size_append]; omega) k (by omega)
  rw [mummerref08_Picture.l0, if_pos (by omega), if_pos (by omega), hx, if_pos hm.1, if_pos hm.2, p2 k (by omega), Option.bind_some, if_pos (by omega), w64 (by omega) (by omega), show (j : Int) + 1 = ((j + 1 : Nat) : Int) by omega, ih, catP]
/-- What Picture answers. -/
def picV (l : List Int) (l1 : List S41) (a : Int) : ByteArray × Int := if (chkV l.length l1).2 = 0 then (if a < 0 ∨ (l1.length : Int) ≤ a then (⟨#[]⟩, 4) else (catP l l1 (chainG l1 l1.length a) ⟨#[]⟩, 0)) else (⟨#[]⟩, (chkV l.length l1).2)
theorem picture_f {l : List Int} (hI : Sc.InB l = true) (hl : l.length ≤ 600) {rs : List (Nat × Nat)} (hr : GR l 0 rs) (l1 : List S41) (a : Int) (k : Nat) (hk : 400000 ≤ k) : faults_Picture.f k l l1 a = some (picV l l1 a) := by
 have ck : runes_Check.f l = some ((l.length : Int), 0) := Sc.checkL_good (hr.good hI (by omega))
 unfold faults_Picture.f picV
 rw [ck, Option.bind_some, if_pos rfl, check_f _ _ _ (by omega), Option.bind_some]
 by_cases c : (chkV l.length l1).2 = 0
 ·rw [if_pos c, if_pos c]
  by_cases d : a < 0 ∨ (l1.length : Int) ≤ a
  ·rw [if_pos d, if_pos d]
  ·have hn := (chk_ok _ _ c).1
   rw [if_neg d, if_neg d, if_pos (chk_downs c), picG_f hI hl hr c k (by omega) l1.length a ⟨#[]⟩ (by omega) (by omega) (by omega) (by show 0 + _ ≤ _; omega)]
   rfl
 ·rw [if_neg c, if_neg c]
theorem rpicture_f {l : List Int} (hI : Sc.InB l = true) (hl : l.length ≤ 600) {rs : List (Nat × Nat)} (hr : GR l 0 rs) (l1 : List S41) (a : Int) (k : Nat) (hk : 400000 ≤ k) : mummerref08_Picture.f k l l1 a = some (picV l l1 a) := by
 obtain ⟨k, rfl⟩ : ∃ K, k = K + 1 + 1 + 1 := ⟨k - 3, by omega⟩
 unfold mummerref08_Picture.f picV
 rw [hr.check hI (by omega) _ (by omega), Option.bind_some]
 dsimp only
 rw [if_pos rfl, rcheck_f _ _ _ (by omega), Option.bind_some, mummerref08_Picture.j0]
 by_cases c : (chkV l.length l1).2 = 0
 ·rw [if_pos c, if_pos c]
  have hn := (chk_ok _ _ c).1
  have hd := chk_dn c
  by_cases d : a < 0 ∨ (l1.length : Int) ≤ a
  ·rw [if_pos d]
   by_cases e : a < 0
   ·rw [if_pos e, mummerref08_Picture.j1, if_pos rfl, mummerref08_Picture.j2, if_neg (by decide)]
   ·rw [if_neg e, decide_eq_true (by omega), mummerref08_Picture.j1, if_pos rfl, mummerref08_Picture.j2, if_neg (by decide)]
  ·have hcl := chainG_lenL l1 l1.length a
   have e := rchain_l0 hd l1.length a [] (by omega) (by omega) (by omega) (by simp; omega) k (by omega)
   have p := rpics_l0 hI hl hr c (chainG l1 l1.length a) (chainG_mem hd _ _ (by omega)) (by omega) (chainG l1 l1.length a) 0 ⟨#[]⟩ rfl (by show 0 + _ ≤ _; omega) k (by omega)
   rw [if_neg d, if_neg (by omega), decide_eq_false (by omega), mummerref08_Picture.j1, if_neg (by decide), mummerref08_Picture.j2, c, if_pos rfl]
   unfold mummerref08_chain.f
   rw [e, Option.bind_some, List.nil_append]
   exact p
 ·rw [if_neg c, if_neg c, mummerref08_Picture.j1, if_neg (by decide), mummerref08_Picture.j2, if_neg c]
theorem tells_l0 (l : List Int) (l1 : List S41) (hn : l1.length ≤ 60) (hm : ∀ x : S41, ∃ s e, (∀ k, 300000 ≤ k → faults_Message.f k l x.f0 x.f1 x.f2.f0 x.f2.f1 x.f3 x.f4 = some (s, e)) ∧ (∀ k, 300000 ≤ k → mummerref08_Message.f k l x.f0 x.f1 x.f2.f0 x.f2.f1 x.f3 x.f4 = some (s, e))) :
  ∀ (d i : Nat), i + d = l1.length → ∀ k, 300000 + d < k → mummerlaw08_FaultsTells.l0 k l l1 (i : Int) = some true := by
 intro d
 induction d with
 | zero =>
  intro i hi k hk
  obtain ⟨k, rfl⟩ : ∃ K, k = K + 1 := ⟨k - 1, by omega⟩
  rw [mummerlaw08_FaultsTells.l0, if_neg (by omega)]; rfl
 | succ d ih =>
  intro i hi k hk
  obtain ⟨k, rfl⟩ : ∃ K, k = K + 1 := ⟨k - 1, by omega⟩
  obtain ⟨s, e, h1, h2⟩ := hm (rd_T41 l1 (i : Int))
  rw [mummerlaw08_FaultsTells.l0, if_pos (by omega), if_pos (by omega), h1 k (by omega), Option.bind_some, h2 k (by omega), Option.bind_some, if_pos rfl, if_pos rfl, w64 (by omega) (by omega), show (i : Int) + 1 = ((i + 1 : Nat) : Int) by omega]
  exact ih (i + 1) (by omega) k (by omega)
theorem law_tells (l0 : List Int) (l1 : List S41) (a2 : Int) (hI : Sc.InB l0 = true) : ∃ k, mummerlaw08_FaultsTells.f k l0 l1 a2 = some true := by
 refine ⟨500001, ?_⟩
 have yes : mummerlaw08_FaultsTells.j0 (500000 + 1) l0 l1 a2 true = some true := by rw [mummerlaw08_FaultsTells.j0, if_pos rfl]; rfl
 unfold mummerlaw08_FaultsTells.f
 by_cases c : (l0.length : Int) > 600
 ·rw [if_pos c]; exact yes
 ·rw [if_neg c]
  obtain ⟨b, e, hb⟩ := far_f l1 500001 (by omega)
  rw [e, Option.bind_some]
  cases b with
  | true => exact yes
  | false =>
   have hn := hb rfl
   rw [mummerlaw08_FaultsTells.j0, if_neg (by decide)]
   rcases check_both l0 hI with ⟨rs, hl, hr⟩ | ⟨q, e, e0, e1, e2⟩
   ·rw [picture_f hI (by omega) hr _ _ _ (by omega), Option.bind_some, rpicture_f hI (by omega) hr _ _ _ (by omega), Option.bind_some, if_pos rfl, if_pos rfl]
    exact tells_l0 l0 l1 hn (fun x => by
     obtain ⟨s, e, h1, h2, _⟩ := msg_same hI hl hr x
     exact ⟨s, e, h1, h2⟩) l1.length 0 (by omega) 500000 (by omega)
   ·have p1 : faults_Picture.f 500000 l0 l1 a2 = some (⟨#[]⟩, e) := by
     unfold faults_Picture.f
     show (Sc.checkL _).bind _ = _
     rw [e1, Option.bind_some, if_neg e0]
    have p2 : mummerref08_Picture.f 500000 l0 l1 a2 = some (⟨#[]⟩, e) := by
     unfold mummerref08_Picture.f
     rw [e2 _ (by omega), Option.bind_some]
     dsimp only
     rw [if_neg e0, show (500000 : Nat) = 499997 + 1 + 1 + 1 from rfl, mummerref08_Picture.j0, if_neg e0, mummerref08_Picture.j1, if_neg (by decide), mummerref08_Picture.j2, if_neg e0]
    rw [p1, Option.bind_some, p2, Option.bind_some, if_pos rfl, if_pos rfl]
    exact tells_l0 l0 l1 hn (fun x => ⟨⟨#[]⟩, e, fun k hk => (msg_bad l0 e0 e1 e2 x k hk).1, fun k hk => (msg_bad l0 e0 e1 e2 x k hk).2⟩) l1.length 0 (by omega) 500000 (by omega)
end Go.Proofs.YtdjkdlbokepoaaaGreatDoor.P
