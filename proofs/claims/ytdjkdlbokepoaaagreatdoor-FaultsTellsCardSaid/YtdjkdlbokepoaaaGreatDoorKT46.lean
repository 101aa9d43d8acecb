import Derived.Test.YtdjkdlbokepoaaaGreatDoorKT44
import Derived.Test.YtdjkdlbokepoaaaGreatDoorKT36
import Derived.Test.YtdjkdlbokepoaaaGreatDoorKT37
import Derived.Test.YtdjkdlbokepoaaaGreatDoorKT38
namespace Go.Proofs.YtdjkdlbokepoaaaGreatDoor.P
open Go.RowKit Go.Proofs.YtdjkdlbokepoaaaGreatDoorW.PrintWords Go.Proofs.YtdjkdlbokepoaaaGreatDoorW.PrintLast Go.Proofs.YtdjkdlbokepoaaaGreatDoorW.PrintMore Sc
set_option linter.unusedVariables false
set_option linter.unusedSimpArgs false
set_option maxRecDepth 20000
def begN (l : List Int) : Nat → Nat
 | 0 => 0
 | a + 1 => if lb l a = 10 then a + 1 else begN l a
def bckN (l : List Int) : Nat → Nat
 | 0 => 0
 | a + 1 => if Sp l (a + 1) then a + 1 else bckN l a
def cntN (l : List Int) : Nat → Nat
 | 0 => 0
 | a + 1 => if lb l a = 10 then cntN l a + 1 else cntN l a
theorem begN_le (l : List Int) : ∀ a, begN l a ≤ a
 | 0 => Nat.le_refl _
 | a + 1 => by
  rw [begN]
  split
  ·exact Nat.le_refl _
  ·have := begN_le l a; omega
theorem begN_nl (l : List Int) : ∀ a, begN l a = 0 ∨ (0 < begN l a ∧ lb l (begN l a - 1) = 10)
 | 0 => .inl rfl
 | a + 1 => by
  rw [begN]
  by_cases c : lb l a = 10
  ·rw [if_pos c]
   exact .inr ⟨by omega, c⟩
  ·rw [if_neg c]
   exact begN_nl l a
theorem begN_no (l : List Int) : ∀ a i, begN l a ≤ i → i < a → lb l i ≠ 10
 | 0, i, h1, h2 => by omega
 | a + 1, i, h1, h2 => by
  rw [begN] at h1
  by_cases c : lb l a = 10
  ·rw [if_pos c] at h1; omega
  ·rw [if_neg c] at h1
   by_cases e : i = a
   ·subst e; exact c
   ·exact begN_no l a i h1 (by omega)
theorem begN_eq (l : List Int) (s : Nat) : ∀ d, (∀ i, s ≤ i → i < s + d → lb l i ≠ 10) → begN l (s + d) = begN l s
 | 0, _ => rfl
 | d + 1, h => by
  rw [show s + (d + 1) = (s + d) + 1 by omega, begN, if_neg (h (s + d) (by omega) (by omega))]
  exact begN_eq l s d fun i a b => h i a (by omega)
theorem cntN_eq (l : List Int) (s : Nat) : ∀ d, (∀ i, s ≤ i → i < s + d → lb l i ≠ 10) → cntN l (s + d) = cntN l s
 | 0, _ => rfl
 | d + 1, h => by
  rw [show s + (d + 1) = (s + d) + 1 by omega, cntN, if_neg (h (s + d) (by omega) (by omega))]
  exact cntN_eq l s d fun i a b => h i a (by omega)
theorem cntN_le (l : List Int) : ∀ a, cntN l a ≤ a
 | 0 => Nat.le_refl _
 | a + 1 => by
  rw [cntN]
  have := cntN_le l a
  split <;> omega
theorem bckN_le (l : List Int) : ∀ a, bckN l a ≤ a
 | 0 => Nat.le_refl _
 | a + 1 => by
  rw [bckN]
  split
  ·exact Nat.le_refl _
  ·have := bckN_le l a; omega
theorem bckN_sp (l : List Int) (h0 : Sp l 0) : ∀ a, Sp l (bckN l a)
 | 0 => h0
 | a + 1 => by
  rw [bckN]
  by_cases c : Sp l (a + 1)
  ·rw [if_pos c]; exact c
  ·rw [if_neg c]; exact bckN_sp l h0 a
theorem bckN_no (l : List Int) : ∀ a q, bckN l a < q → q ≤ a → ¬ Sp l q
 | 0, q, h1, h2 => by omega
 | a + 1, q, h1, h2 => by
  rw [bckN] at h1
  by_cases c : Sp l (a + 1)
  ·rw [if_pos c] at h1; omega
  ·rw [if_neg c] at h1
   by_cases e : q = a + 1
   ·subst e; exact c
   ·exact bckN_no l a q h1 (by omega)
theorem lb_take (l : List Int) (q i : Nat) (h : i < q) : lb (l.take q) i = lb l i := by
 unfold lb
 rw [List.getD_eq_getElem?_getD, List.getD_eq_getElem?_getD, List.getElem?_take, if_pos h]
theorem begN_take (l : List Int) (q : Nat) : ∀ a, a ≤ q → begN (l.take q) a = begN l a
 | 0, _ => rfl
 | a + 1, h => by
  rw [begN, begN, lb_take l q a (by omega), begN_take l q a (by omega)]
theorem rbegin_f (l : List Int) (hl : l.length ≤ 100000) : ∀ a, a ≤ l.length → ∀ k, a < k → mummerref08_begin.f k l (a : Int) = some ((begN l a : Nat) : Int) := by
 unfold mummerref08_begin.f
 intro a
 induction a with
 | zero =>
  intro _ k hk
  obtain ⟨k, rfl⟩ : ∃ K, k = K + 1 := ⟨k - 1, by omega⟩
  rw [mummerref08_begin.l0, if_neg (by omega)]; rfl
 | succ a ih =>
  intro ha k hk
  obtain ⟨k, rfl⟩ : ∃ K, k = K + 1 := ⟨k - 1, by omega⟩
  rw [mummerref08_begin.l0, if_pos (by omega), w64 (by omega) (by omega), show ((a + 1 : Nat) : Int) - 1 = (a : Int) by omega, if_pos (by omega), if_pos (by omega), rd_bt, ih (by omega) k (by omega), begN]
  split <;> rfl
theorem lastix_f (l : List Int) (hl : l.length ≤ 100000) : ∀ a, a ≤ l.length → ∀ k, a < k → bytealg_LastIndexByte.l0 k l 10 ((a : Int) - 1) = some (((begN l a : Nat) : Int) - 1) := by
 intro a
 induction a with
 | zero =>
  intro _ k hk
  obtain ⟨k, rfl⟩ : ∃ K, k = K + 1 := ⟨k - 1, by omega⟩
  rw [bytealg_LastIndexByte.l0, if_neg (by omega)]; rfl
 | succ a ih =>
  intro ha k hk
  obtain ⟨k, rfl⟩ : ∃ K, k = K + 1 := ⟨k - 1, by omega⟩
  rw [bytealg_LastIndexByte.l0, show ((a + 1 : Nat) : Int) - 1 = (a : Int) by omega, if_pos (by omega), if_pos (by omega), if_pos (by omega), rd_bt, w64 (by omega) (by omega), ih (by omega) k (by omega), begN]
  split
  ·rw [show ((a + 1 : Nat) : Int) - 1 = (a : Int) by omega]
  ·rfl
theorem lastix_take (l : List Int) (hl : l.length ≤ 100000) (q : Nat) (hq : q ≤ l.length) (k : Nat) (hk : 100001 < k) : bytes_LastIndexByte.f k (l.take q) 10 = some (((begN l q : Nat) : Int) - 1) := by
 unfold bytes_LastIndexByte.f bytealg_LastIndexByte.f
 have h1 : (l.take q).length = q := by rw [List.length_take]; omega
 have := lastix_f (l.take q) (by omega) q (by omega) k (by omega)
 rw [h1, w64 (by omega) (by omega), this, begN_take l q q (Nat.le_refl _)]; rfl
theorem lb_get (l : List Int) (i : Nat) (h : i < l.length) : lb l i = l[i] := by
 unfold lb
 rw [List.getD_eq_getElem?_getD, List.getElem?_eq_getElem h]; rfl
theorem count_take (l : List Int) (hI : Sc.InB l = true) : ∀ q, q ≤ l.length → Lib.countByte (Lib.bytesOf (l.take q)) 10 = cntN l q
 | 0, _ => rfl
 | q + 1, h => by
  have hb := lb_in hI (i := q) (by omega)
  have ih := count_take l hI q (by omega)
  rw [cntN, ← ih, List.take_succ_eq_append_getElem (by omega)]
  unfold Lib.countByte Lib.bytesOf
  rw [List.map_append, List.count_append, List.map_cons, List.map_nil, List.count_cons, List.count_nil, ← lb_get l q (by omega)]
  by_cases c : lb l q = 10
  ·rw [if_pos c, c]; rfl
  ·rw [if_neg c, if_neg (fun e => c (by
    have e1 := congrArg UInt8.toNat (eq_of_beq e)
    rw [UInt8.toNat_ofNat'] at e1
    have : (10 : UInt8).toNat = 10 := rfl
    omega))]
   rfl
theorem back_bckN {l : List Int} (hI : Sc.InB l = true) (hl : l.length ≤ 8000) : ∀ (x k : Nat), x ≤ l.length → x + 1 < k → runes_Back.l0 k l x = some ((bckN l x : Int), 0) := by
 intro x
 induction x with
 | zero =>
  intro k hx hk
  obtain ⟨k, rfl⟩ : ∃ K, k = K + 1 := ⟨k - 1, by omega⟩
  simp only [runes_Back.l0]
  split
  ·rw [if_neg (by decide)]; rfl
  ·rfl
 | succ x ih =>
  intro k hx hk
  obtain ⟨k, rfl⟩ : ∃ K, k = K + 1 := ⟨k - 1, by omega⟩
  simp only [runes_Back.l0]
  by_cases c : ((x + 1 : Nat) : Int) < (l.length : Int)
  ·rw [if_pos c, if_pos (by omega), if_pos (by omega), rd_bt]
   have hb := lb_in hI (i := x + 1) (by omega)
   unfold utf8_RuneStart.f
   rw [if_pos hb, Option.bind_some, bckN]
   by_cases d : RS (lb l (x + 1))
   ·rw [if_pos (rs_f d), if_pos (c := Sp l (x + 1)) (.inr d)]
   ·have hf : Lib.runeStart (lb l (x + 1)) = false := by unfold RS at d; unfold Lib.runeStart; simp; omega
    rw [hf, if_neg (by decide), w64 (n := ((x + 1 : Nat) : Int) - 1) (by omega) (by omega), show ((x + 1 : Nat) : Int) - 1 = (x : Int) by omega, if_neg (c := Sp l (x + 1)) (fun h => by
     rcases h with h | h
     ·omega
     ·exact d h)]
    exact ih k (by omega) (by omega)
  ·rw [if_neg c, bckN, if_pos (c := Sp l (x + 1)) (.inl (by omega))]
theorem rback_f {l : List Int} (hI : Sc.InB l = true) (hl : l.length ≤ 8000) {rs : List (Nat × Nat)} (hr : GR l 0 rs) (x : Nat) (hx : x ≤ l.length) (k : Nat) (hk : 20000 ≤ k) : mummerref02_Back.f k l x = some ((bckN l x : Int), 0) := by
 obtain ⟨k, rfl⟩ : ∃ K, k = K + 1 + 1 := ⟨k - 2, by omega⟩
 have hrl := hr.len
 unfold mummerref02_Back.f
 rw [hr.starts hI hl _ (by omega), Option.bind_some, if_pos rfl, if_neg (by omega), decide_eq_false (by omega)]
 simp only [mummerref02_Back.j0]
 rw [if_neg (by decide)]
 simp only [mummerref02_Back.j1]
 rw [if_pos trivial]
 obtain ⟨b, e1, e2⟩ := rback_l0 l rs x (by omega) hr.asc (rs.length + 1) 0 0 k (by omega) (by omega)
 rw [show ((0 : Nat) : Int) = 0 from rfl] at e1
 rw [e1]
 congr 3
 have hb1 := bckN_le l x
 have hb2 := bckN_sp l hr.head x
 have hb3 := bckN_no l x
 obtain ⟨m', n1, n2, _⟩ := hr.at_ (bckN l x) (Nat.zero_le _) (by omega) hb2
 rcases e2 with ⟨rfl, h⟩ | ⟨m, _, m2, m3, m4, m5⟩
 ·have := h 0 (Nat.le_refl _) (Nat.zero_le _)
  rw [hr.first] at this
  omega
 ·have q1 : ¬ bckN l x < b := fun h => hb3 b h m4 (by rw [m3]; exact hr.sp m m2)
  have q2 : ¬ b < bckN l x := fun h => by
   have : ¬ m < m' := fun hm => by have := m5 m' hm n1; omega
   have : ¬ m' < m := fun hm => by have := hr.asc m' m hm m2; omega
   obtain rfl : m = m' := by omega
   omega
  omega
theorem GR.rrunes {l : List Int} (hI : Sc.InB l = true) (hl : l.length ≤ 8000) {p : Nat} {rs : List (Nat × Nat)} (h : GR l p rs) :
  ∀ k (out : List Int), 100 + (l.length - p) ≤ k → out.length + (l.length - p) ≤ 100000 → ∃ o : List Int, o.length = out.length + rs.length ∧ mummerref02_Runes.l0 k l out p = some (o, 0) := by
 induction h with
 | stop =>
  intro k out hk ho
  obtain ⟨k, rfl⟩ : ∃ K, k = K + 1 := ⟨k - 1, by omega⟩
  rw [mummerref02_Runes.l0, if_neg (by omega)]
  exact ⟨out, by simp, rfl⟩
 | @step p j rest j1 j4 jl g r1 ih =>
  intro k out hk ho
  obtain ⟨k, rfl⟩ : ∃ K, k = K + 1 := ⟨k - 1, by omega⟩
  have up := g.dec hI (by omega) j1 j4 jl k (by omega)
  rw [mummerref02_Runes.l0, if_pos (by omega), up, Option.bind_some, if_pos (by omega)]
  dsimp only
  rw [w64 (n := (p : Int) + j) (by omega) (by omega)]
  obtain ⟨o, o1, o2⟩ := ih k (out ++ [val l p j]) (by omega) (by simp; omega)
  rw [show ((p + j : Nat) : Int) = (p : Int) + j by omega] at o2
  exact ⟨o, by rw [o1]; simp; omega, o2⟩
theorem rcount_f {l : List Int} (hI : Sc.InB l = true) (hl : l.length ≤ 8000) {rs : List (Nat × Nat)} (h : GR l 0 rs) (k : Nat) (hk : 9000 ≤ k) : mummerref02_Count.f k l = some ((rs.length : Int), 0) := by
 unfold mummerref02_Count.f mummerref02_Runes.f
 rw [h.check hI hl k hk, Option.bind_some, if_pos rfl]
 obtain ⟨o, o1, o2⟩ := h.rrunes hI hl k [] (by omega) (by simp; omega)
 rw [show ((0 : Nat) : Int) = 0 from rfl] at o2
 rw [o2, Option.bind_some]
 dsimp only
 rw [o1]; simp
/-- What Place answers of a place: the start st of the rune in which it lies, the beginning z of its line, m runes between. -/
structure Plc (l : List Int) (a st z m : Nat) (rf : List (Nat × Nat)) : Prop where
 le1 : z ≤ st
 le2 : st ≤ a
 le3 : a ≤ l.length
 gr : GR l z rf
 mle : m ≤ rf.length
 pp : PP l rf m = st
 sp : Sp l st
 no : ∀ q, st < q → q ≤ a → ¬ Sp l q
 nl : z = 0 ∨ (0 < z ∧ lb l (z - 1) = 10)
 no10 : ∀ i, z ≤ i → i < a → lb l i ≠ 10
 beg : z = begN l a
 bck : st = bckN l a
 no10s : ∀ i, st ≤ i → i < a → lb l i ≠ 10
theorem plc {l : List Int} (hI : Sc.InB l = true) {rs : List (Nat × Nat)} (hr : GR l 0 rs) (a : Nat) (ha : a ≤ l.length) : ∃ st z m rf, Plc l a st z m rf := by
 have b1 := begN_le l a
 have b2 := bckN_le l a
 have b3 := bckN_sp l hr.head a
 have b4 := bckN_no l a
 have b5 := begN_nl l a
 have b6 : Sp l (begN l a) := by
  rcases b5 with h | ⟨h1, h2⟩
  ·rw [h]; exact hr.head
  ·have := next10 hr (begN l a - 1) (by omega) h2
   rwa [show begN l a - 1 + 1 = begN l a by omega] at this
 have b7 : begN l a ≤ bckN l a := Nat.le_of_not_lt fun h => b4 _ h b1 b6
 obtain ⟨m1, _, _, g⟩ := hr.at_ (begN l a) (Nat.zero_le _) (by omega) b6
 obtain ⟨m, m2, m3, _⟩ := g.at_ (bckN l a) b7 (by omega) b3
 refine ⟨bckN l a, begN l a, m, _, b7, b2, ha, g, m2, m3, b3, b4, b5, begN_no l a, rfl, rfl, fun i i1 i2 h => ?_⟩
 have := next10 hr i (by omega) h
 exact b4 (i + 1) (by omega) (by omega) this
theorem place_f {l : List Int} (hI : Sc.InB l = true) (hl : l.length ≤ 8000) {rs : List (Nat × Nat)} (hr : GR l 0 rs) {a st z m : Nat} {rf : List (Nat × Nat)} (P : Plc l a st z m rf) (k : Nat) (hk : 200000 ≤ k) :
  faults_Place.f k l a = some ((cntN l a : Int) + 1, (m : Int) + 1, 0) := by
 obtain ⟨k, rfl⟩ : ∃ K, k = K + 1 := ⟨k - 1, by omega⟩
 have hg := hr.good hI hl
 have ck : runes_Check.f l = some ((l.length : Int), 0) := Sc.checkL_good hg
 have h1 := P.le1
 have h2 := P.le2
 have h3 := P.le3
 have hb : ∀ k, 100000 ≤ k → runes_Back.f k l a = some ((st : Int), 0) := fun k hk => by
  obtain ⟨k, rfl⟩ : ∃ K, k = K + 1 := ⟨k - 1, by omega⟩
  unfold runes_Back.f
  rw [ck, Option.bind_some, if_pos rfl, if_neg (by omega), decide_eq_false (by omega)]
  simp only [runes_Back.j0]
  rw [if_neg (by decide), back_bckN hI hl a k (by omega) (by omega), ← P.bck]
 have ha : a = st + (a - st) := by omega
 have hbeg : begN l st = z := by
  have := begN_eq l st (a - st) (fun i i1 i2 => P.no10s i i1 (by omega))
  rw [← ha] at this
  rw [P.beg, this]
 have hcnt : cntN l st = cntN l a := by
  have := cntN_eq l st (a - st) (fun i i1 i2 => P.no10s i i1 (by omega))
  rw [← ha] at this
  exact this.symm
 have hc := cntN_le l a
 have hln := P.gr.len
 have hm := P.mle
 have cs := count_sub hI hl P.gr m P.mle
 rw [P.pp] at cs
 unfold faults_Place.f
 rw [ck, Option.bind_some, if_pos rfl, if_neg (by omega), decide_eq_false (by omega)]
 rw [faults_Place.j0, if_neg (by decide), hb k (by omega), Option.bind_some]
 dsimp only
 rw [if_pos rfl, if_pos (by omega), if_pos (by omega), show ((st : Nat) : Int).toNat = st from rfl, lastix_take l (by omega) st (by omega) k (by omega), Option.bind_some, hbeg, show (z : Int) - 1 + 1 = (z : Int) by omega, w64 (by omega) (by omega), if_pos (by omega), if_pos (by rw [List.length_take]; omega), show ((z : Nat) : Int).toNat = z from rfl, cs, Option.bind_some]
 have e : bytes_Count.f (l.take st) [10] = some ((cntN l a : Nat) : Int) := by
  unfold bytes_Count.f
  rw [if_pos ⟨InB_take hI st, rfl, by rw [List.length_take]; omega⟩, count_take l hI st (by omega), hcnt]
 rw [e, Option.bind_some]
 dsimp only
 rw [w64 (by omega) (by omega), w64 (by omega) (by omega)]
theorem rplace_l0 {l : List Int} (hI : Sc.InB l = true) (hl : l.length ≤ 8000) {rs : List (Nat × Nat)} (hr : GR l 0 rs) {a st z m : Nat} {rf : List (Nat × Nat)} (P : Plc l a st z m rf) :
  ∀ (d i : Nat), i + d = a → ∀ k, 100000 + d ≤ k → mummerref08_Place.l0 k l a ((cntN l i : Int) + 1) i = some ((cntN l a : Int) + 1, (m : Int) + 1, 0) := by
 have h1 := P.le1
 have h2 := P.le2
 have h3 := P.le3
 have hln := P.gr.len
 have hm := P.mle
 intro d
 induction d with
 | zero =>
  intro i hi k hk
  obtain rfl : i = a := by omega
  obtain ⟨k, rfl⟩ : ∃ K, k = K + 1 := ⟨k - 1, by omega⟩
  have hs := P.gr.sub z m (Nat.le_refl _) P.mle
  rw [Nat.sub_self, P.pp] at hs
  have hc := rcount_f (inB_drop (InB_take hI _) _) (by rw [List.length_drop, List.length_take]; omega) hs k (by omega)
  rw [List.length_map, List.length_take, Nat.min_eq_left P.mle] at hc
  rw [mummerref08_Place.l0, if_neg (by omega), rback_f hI hl hr i (by omega) k (by omega), Option.bind_some, rbegin_f l (by omega) i (by omega) k (by omega), Option.bind_some, ← P.beg, ← P.bck]
  dsimp only
  rw [if_pos (by omega), if_pos (by omega), if_pos (by omega), show ((st : Nat) : Int).toNat = st from rfl, show ((z : Nat) : Int).toNat = z from rfl, hc, Option.bind_some]
  dsimp only
  rw [w64 (by omega) (by omega)]
 | succ d ih =>
  intro i hi k hk
  obtain ⟨k, rfl⟩ : ∃ K, k = K + 1 := ⟨k - 1, by omega⟩
  have hc := cntN_le l i
  have ih' := ih (i + 1) (by omega) k (by omega)
  rw [cntN, show ((i + 1 : Nat) : Int) = (i : Int) + 1 by omega] at ih'
  rw [mummerref08_Place.l0, if_pos (by omega), if_pos (by omega), if_pos (by omega), rd_bt, w64 (n := (i : Int) + 1) (by omega) (by omega), w64 (n := (cntN l i : Int) + 1 + 1) (by omega) (by omega)]
  by_cases c : lb l i = 10
  ·rw [if_pos c]
   rw [if_pos c, show ((cntN l i + 1 : Nat) : Int) = (cntN l i : Int) + 1 by omega] at ih'
   exact ih'
  ·rw [if_neg c]
   rw [if_neg c] at ih'
   exact ih'
theorem rplace_f {l : List Int} (hI : Sc.InB l = true) (hl : l.length ≤ 8000) {rs : List (Nat × Nat)} (hr : GR l 0 rs) {a st z m : Nat} {rf : List (Nat × Nat)} (P : Plc l a st z m rf) (k : Nat) (hk : 200000 ≤ k) :
  mummerref08_Place.f k l a = some ((cntN l a : Int) + 1, (m : Int) + 1, 0) := by
 obtain ⟨k, rfl⟩ : ∃ K, k = K + 1 + 1 := ⟨k - 2, by omega⟩
 have h3 := P.le3
 have := rplace_l0 hI hl hr P a 0 (by omega) k (by omega)
 unfold mummerref08_Place.f
 rw [hr.check hI hl _ (by omega), Option.bind_some, if_pos rfl, if_neg (by omega), decide_eq_false (by omega)]
 rw [mummerref08_Place.j0, if_neg (by decide), mummerref08_Place.j1, if_pos rfl]
 exact this
theorem InB_of' {l : List Int} (h : ∀ z ∈ l, (0 ≤ z ∧ z ≤ 255)) : Sc.InB l = true := InB_of fun x hx => by have := h x hx; omega
end Go.Proofs.YtdjkdlbokepoaaaGreatDoor.P
