import Derived.Test.YtdjkdlbokepoaaaGreatDoorKT49
import Derived.Test.YtdjkdlbokepoaaaGreatDoorKT36
import Derived.Test.YtdjkdlbokepoaaaGreatDoorKT39
namespace Go.Proofs.YtdjkdlbokepoaaaGreatDoor.P
open Go.RowKit Go.Proofs.YtdjkdlbokepoaaaGreatDoorW.PrintWords Go.Proofs.YtdjkdlbokepoaaaGreatDoorW.PrintLast Go.Proofs.YtdjkdlbokepoaaaGreatDoorW.PrintMore Sc
set_option linter.unusedVariables false
set_option linter.unusedSimpArgs false
set_option maxRecDepth 20000
def cwN (l : List Int) (C : Nat → Bool) : Nat → Nat
 | 0 => 0
 | a + 1 => if RS (lb l a) ∧ C a = true then cwN l C a + 1 else cwN l C a
theorem cwN_le (l : List Int) (C : Nat → Bool) : ∀ a, cwN l C a ≤ a
 | 0 => Nat.le_refl _
 | a + 1 => by
  rw [cwN]
  have := cwN_le l C a
  split <;> omega
theorem cwN_no (l : List Int) (C : Nat → Bool) (s : Nat) : ∀ d, (∀ i, s ≤ i → i < s + d → ¬ (RS (lb l i) ∧ C i = true)) → cwN l C (s + d) = cwN l C s
 | 0, _ => rfl
 | d + 1, h => by
  rw [show s + (d + 1) = (s + d) + 1 by omega, cwN, if_neg (h (s + d) (by omega) (by omega))]
  exact cwN_no l C s d fun i a b => h i a (by omega)
theorem Gd.stepC {l : List Int} (C : Nat → Bool) {p j : Nat} (h1 : 1 ≤ j) (h4 : j ≤ 4) (g : Gd l p j) : cwN l C (p + j) = if C p = true then cwN l C p + 1 else cwN l C p := by
 obtain ⟨s1, _, s3⟩ := g.start h1 h4
 have := cwN_no l C (p + 1) (j - 1) (fun i a b => by
  have := s3 (i - p) (by omega) (by omega)
  rw [show p + (i - p) = i by omega] at this
  exact fun h => this h.1)
 rw [show p + 1 + (j - 1) = p + j by omega] at this
 rw [this, cwN]
 by_cases c : C p = true
 ·rw [if_pos c, if_pos ⟨s1, c⟩]
 ·rw [if_neg c, if_neg (fun h => c h.2)]
theorem cwN_congr (l : List Int) (C C' : Nat → Bool) : ∀ n, (∀ i, i < n → C i = C' i) → cwN l C n = cwN l C' n
 | 0, _ => rfl
 | n + 1, h => by rw [cwN, cwN, h n (by omega), cwN_congr l C C' n fun i a => h i (by omega)]
theorem cwN_sub (l l' : List Int) (C C' : Nat → Bool) (z : Nat) : ∀ n, (∀ i, i < n → lb l' i = lb l (z + i) ∧ C' i = C (z + i)) → cwN l' C' n + cwN l C z = cwN l C (z + n)
 | 0, _ => by rw [cwN]; simp
 | n + 1, h => by
  have ih := cwN_sub l l' C C' z n fun i a => h i (by omega)
  obtain ⟨h1, h2⟩ := h n (by omega)
  rw [show z + (n + 1) = (z + n) + 1 by omega, cwN, cwN, h1, h2]
  split <;> omega
theorem marks_gr {l : List Int} (hI : Sc.InB l = true) (fr F T : Int) (C : Nat → Bool) (hC : ∀ i : Nat, C i = decide (F ≤ (i : Int) + fr ∧ (i : Int) + fr < T)) {p : Nat} {rs : List (Nat × Nat)} (h : GR l p rs) :
  ∀ k, l.length - p ≤ k → ∀ c : Int, marksG (strOfNums l) fr F T k p c = c + (cwN l C l.length : Int) - (cwN l C p : Int) := by
 induction h with
 | stop =>
  intro k hk c
  cases k with
  | zero => rw [marksG]; omega
  | succ k => rw [marksG, if_neg (by rw [strOfNums_size]; omega)]; omega
 | @step p j rest j1 j4 jl g r1 ih =>
  intro k hk c
  obtain ⟨k, rfl⟩ : ∃ K, k = K + 1 := ⟨k - 1, by omega⟩
  obtain ⟨z1, _, _⟩ := gd_decode l hI p j j1 j4 jl g
  rw [marksG, if_pos (by rw [strOfNums_size]; omega), z1]
  dsimp only
  rw [ih k (by omega), g.stepC C j1 j4, hC p]
  by_cases d : F ≤ (p : Int) + fr ∧ (p : Int) + fr < T
  ·rw [if_pos d, if_pos (decide_eq_true d)]; omega
  ·rw [if_neg d, if_neg (by rw [decide_eq_false d]; decide)]
theorem lineL_props (l : List Int) : ∀ (r : List Int) (a : Nat), l.drop a = r → a ≤ l.length → a + (lineL r).length ≤ l.length ∧ (∀ i, a ≤ i → i < a + (lineL r).length → lb l i ≠ 10) ∧ (a + (lineL r).length = l.length ∨ lb l (a + (lineL r).length) = 10)
 | [], a, h, ha => by
  have hp' : l.length = a := by
   have := congrArg List.length h
   rw [List.length_drop, List.length_nil] at this
   omega
  refine ⟨by rw [lineL]; simpa using ha, fun i h1 h2 => by rw [lineL] at h2; simp at h2; omega, .inl (by rw [lineL]; simp; omega)⟩
 | x :: r, a, h, ha => by
  have hlt : a < l.length := by
   have := congrArg List.length h
   rw [List.length_drop, List.length_cons] at this
   omega
  have hd : l.drop (a + 1) = r := by
   have := congrArg (List.drop 1) h
   rw [List.drop_drop] at this
   simpa using this
  have hx : lb l a = x := by
   have := congrArg (fun y => y[0]?) h
   simp only [List.getElem?_drop, Nat.add_zero, List.getElem?_cons_zero] at this
   unfold lb
   rw [List.getD_eq_getElem?_getD, this]; rfl
  rw [lineL]
  by_cases c : x = 10
  ·rw [if_pos c]
   exact ⟨ha, fun i h1 h2 => by simp at h2; omega, .inr (by rw [List.length_nil, Nat.add_zero, hx, c])⟩
  ·rw [if_neg c]
   obtain ⟨i1, i2, i3⟩ := lineL_props l r (a + 1) hd hlt
   rw [List.length_cons, show a + ((lineL r).length + 1) = a + 1 + (lineL r).length by omega]
   refine ⟨i1, fun i h1 h2 => ?_, i3⟩
   by_cases e : i = a
   ·subst e; rw [hx]; exact c
   ·exact i2 i (by omega) h2
theorem lineL_char (l : List Int) (te : Nat) (h1 : te ≤ l.length) (h2 : te = l.length ∨ lb l te = 10) : ∀ (d z : Nat), z + d = te → (∀ i, z ≤ i → i < te → lb l i ≠ 10) → lineL (l.drop z) = (l.take te).drop z
 | 0, z, hz, _ => by
  obtain rfl : z = te := by omega
  have e : (l.take z).drop z = [] := List.drop_eq_nil_of_le (by rw [List.length_take]; omega)
  rw [e]
  rcases h2 with h2 | h2
  ·rw [h2, List.drop_length, lineL]
  ·by_cases c : z = l.length
   ·rw [c, List.drop_length, lineL]
   ·rw [List.drop_eq_getElem_cons (by omega), lineL, if_pos (by rw [← lb_get l z (by omega)]; exact h2)]
 | d + 1, z, hz, hn => by
  have ih := lineL_char l te h1 h2 d (z + 1) (by omega) fun i a b => hn i (by omega) b
  have hlt : z < l.length := by omega
  have hlt' : z < (l.take te).length := by rw [List.length_take]; omega
  rw [List.drop_eq_getElem_cons hlt, List.drop_eq_getElem_cons hlt', lineL, if_neg (by rw [← lb_get l z hlt]; exact hn z (Nat.le_refl _) (by omega)), ih, List.getElem_take]
def rep (c : UInt8) (n : Nat) : ByteArray := ⟨(List.replicate n c).toArray⟩
theorem rep_size (c : UInt8) (n : Nat) : (rep c n).size = n := by unfold rep; rw [sizeMk, List.length_replicate]
theorem repL (c : UInt8) : ∀ n : Nat, Lib.repeatL [c] n = List.replicate n c
 | 0 => rfl
 | n + 1 => by rw [Lib.repeatL, repL c n, List.replicate_succ]; rfl
theorem many_l0 (c : UInt8) (n : Int) (hn : n ≤ 100000) : ∀ (d i : Nat) (acc : ByteArray), (i : Int) + d = n → acc.size + d ≤ 200000 → ∀ k, d < k → mummerref08_many.l0 k ⟨#[c]⟩ n acc i = some (acc ++ rep c d) := by
 intro d
 induction d with
 | zero =>
  intro i acc hi ha k hk
  obtain ⟨k, rfl⟩ : ∃ K, k = K + 1 := ⟨k - 1, by omega⟩
  rw [mummerref08_many.l0, if_neg (by omega)]
  have e : rep c 0 = ByteArray.empty := rfl
  rw [e, ByteArray.append_empty]
 | succ d ih =>
  intro i acc hi ha k hk
  obtain ⟨k, rfl⟩ : ∃ K, k = K + 1 := ⟨k - 1, by omega⟩
  have s1 : (⟨#[c]⟩ : ByteArray).size = 1 := rfl
  have ih' := ih (i + 1) (acc ++ ⟨#[c]⟩) (by omega) (by rw [ByteArray.size_append]; omega) k (by omega)
  rw [mummerref08_many.l0, if_pos (by omega), if_pos (by omega), w64 (by omega) (by omega), show (i : Int) + 1 = ((i + 1 : Nat) : Int) by omega, ih', ByteArray.append_assoc]
  congr 2
theorem many_f (c : UInt8) (n : Int) (h0 : 0 ≤ n) (hn : n ≤ 100000) (k : Nat) (hk : 100001 ≤ k) : mummerref08_many.f k ⟨#[c]⟩ n = some (rep c n.toNat) := by
 unfold mummerref08_many.f
 have := many_l0 c n hn n.toNat 0 ⟨#[]⟩ (by omega) (by show 0 + _ ≤ _; omega) k (by omega)
 rw [show ((0 : Nat) : Int) = 0 from rfl] at this
 rw [this]
 congr 1
def picT (m : ByteArray) (line : List Int) (col : Int) (w : Nat) : ByteArray := ((((((m ++ sp3) ++ strOfNums line) ++ sp3) ++ rep 32 (col - 1).toNat) ++ rep 94 (max w 1)) ++ ⟨#[10]⟩)
/-- The places that are marked. -/
def mkC (F : Nat) (T : Int) (a : Nat) : Bool := decide (F ≤ a ∧ (a : Int) < T)
theorem rpic_tail (l : List Int) (hl : l.length ≤ 8000) (m : ByteArray) (hm : m.size ≤ 100000) (z te : Nat) (hz : z ≤ te) (ht : te ≤ l.length) (col : Int) (hc : 1 ≤ col ∧ col ≤ 9000) (st : List Int) (w : Nat) (hw : w ≤ 9000) (i : Int) (hi : (st.length : Int) ≤ i) (u0 u1 u2 u3 : Int) (u4 : ByteArray) (u5 : Int) (k : Nat) (hk : 200000 ≤ k) :
  mummerref08_picture.l1 k l m z te col st w i u0 u1 u2 u3 u4 u5 = some (picT m ((l.take te).drop z) col w) := by
 obtain ⟨k, rfl⟩ : ∃ K, k = K + 1 := ⟨k - 1, by omega⟩
 have c1 : (⟨#[10, 32, 32]⟩ : ByteArray).size = 3 := rfl
 have hS : (strOfNums ((l.take te).drop z)).size ≤ 8000 := by rw [strOfNums_size, List.length_drop, List.length_take]; omega
 have s1 := rep_size 32 (col - 1).toNat
 have s2 := rep_size 94 (max w 1)
 have mw : mx (w : Int) 1 = ((max w 1 : Nat) : Int) := by unfold mx; split <;> omega
 rw [mummerref08_picture.l1, if_neg (by omega), if_pos (by omega), if_pos (by omega), if_pos (by omega), if_pos (by omega), show ((te : Nat) : Int).toNat = te from rfl, show ((z : Nat) : Int).toNat = z from rfl]
 rw [if_pos (by simp only [ByteArray.size_append, c1]; omega), if_pos (by simp only [ByteArray.size_append, c1]; omega), w64 (by omega) (by omega), many_f 32 (col - 1) (by omega) (by omega) k (by omega), Option.bind_some]
 rw [if_pos (by simp only [ByteArray.size_append, c1]; omega), mw, many_f 94 _ (by omega) (by omega) k (by omega), Option.bind_some, Int.toNat_natCast]
 rw [if_pos (by simp only [ByteArray.size_append, c1]; omega), if_pos (by simp only [ByteArray.size_append, c1]; omega)]
 rfl
theorem rpic_l1 {l : List Int} (hl : l.length ≤ 8000) {rs : List (Nat × Nat)} (hr : GR l 0 rs) (m : ByteArray) (hm : m.size ≤ 100000) (z te : Nat) (hz : z ≤ te) (ht : te ≤ l.length) (col : Int) (hc : 1 ≤ col ∧ col ≤ 9000) (F : Nat) (T : Int) (u0 u1 : Int) (u4 : ByteArray) (u5 : Int) (C : Nat → Bool) (hC : ∀ a : Nat, C a = decide ((F ≤ a ∧ (a : Int) < T) ∧ a < te)) :
  ∀ (d i : Nat), i + d = rs.length → ∀ k, 200002 + d ≤ k → mummerref08_picture.l1 k l m z te col (SL l rs) (cwN l C (PP l rs i)) i u0 u1 F T u4 u5 = some (picT m ((l.take te).drop z) col (cwN l C l.length)) := by
 have hrl := hr.len
 intro d
 induction d with
 | zero =>
  intro i hi k hk
  obtain ⟨k, rfl⟩ : ∃ K, k = K + 1 := ⟨k - 1, by omega⟩
  have hp : PP l rs i = l.length := by
   unfold PP
   rw [List.getD_eq_getElem?_getD, List.getElem?_append_right (by simp; omega)]
   simp
   rw [show i - rs.length = 0 by omega]; rfl
  have hle := cwN_le l C l.length
  have tl := rpic_tail l hl m hm z te hz ht col hc (SL l rs) (cwN l C l.length) (by omega) ((i : Int) + 1) (by rw [SL_len]; omega) u0 u1 F T u4 u5 k (by omega)
  rw [mummerref08_picture.l1, if_pos (by rw [SL_len]; omega), if_pos (by omega), SL_rd l rs i (by omega), hp, w64 (n := (i : Int) + 1) (by omega) (by omega)]
  split
  ·split
   ·rw [if_neg (by omega)]
    exact tl
   ·exact tl
  ·exact tl
 | succ d ih =>
  intro i hi k hk
  obtain ⟨k, rfl⟩ : ∃ K, k = K + 1 := ⟨k - 1, by omega⟩
  obtain ⟨j, j1, j4, jl, g, e⟩ := hr.stepAt i (by omega)
  have ih' := ih (i + 1) (by omega) k (by omega)
  rw [e, g.stepC C j1 j4, hC, show ((i + 1 : Nat) : Int) = (i : Int) + 1 by omega] at ih'
  have hle := cwN_le l C (PP l rs i)
  rw [mummerref08_picture.l1, if_pos (by rw [SL_len]; omega), if_pos (by omega), SL_rd l rs i (by omega), w64 (n := (i : Int) + 1) (by omega) (by omega), w64 (n := (cwN l C (PP l rs i) : Int) + 1) (by omega) (by omega)]
  by_cases c1 : ((PP l rs i : Nat) : Int) ≥ (F : Int)
  ·rw [if_pos c1]
   by_cases c2 : ((PP l rs i : Nat) : Int) < T
   ·rw [if_pos c2]
    by_cases c3 : ((PP l rs i : Nat) : Int) < (te : Int)
    ·rw [if_pos c3]
     rw [if_pos (decide_eq_true (by omega))] at ih'
     exact ih'
    ·rw [if_neg c3]
     rw [if_neg (by rw [decide_eq_false (by omega)]; decide)] at ih'
     exact ih'
   ·rw [if_neg c2]
    rw [if_neg (by rw [decide_eq_false (by omega)]; decide)] at ih'
    exact ih'
  ·rw [if_neg c1]
   rw [if_neg (by rw [decide_eq_false (by omega)]; decide)] at ih'
   exact ih'
theorem rpic_l0 {l : List Int} (hl : l.length ≤ 8000) (m : ByteArray) (z : Int) (te : Nat) (ht : te ≤ l.length) (h2 : te = l.length ∨ lb l te = 10) (u0 u1 u2 u3 : Int) (u4 : ByteArray) (u5 : Int) (r : Option ByteArray) (hj : ∀ k, 250000 ≤ k → mummerref08_picture.j1 k l m z te u0 u1 u2 u3 u4 u5 = r) :
  ∀ (d a : Nat), a + d = te → (∀ i, a ≤ i → i < te → lb l i ≠ 10) → ∀ k, 250001 + d ≤ k → mummerref08_picture.l0 k l m z a u0 u1 u2 u3 u4 u5 = r := by
 intro d
 induction d with
 | zero =>
  intro a ha hn k hk
  obtain rfl : a = te := by omega
  obtain ⟨k, rfl⟩ : ∃ K, k = K + 1 := ⟨k - 1, by omega⟩
  rw [mummerref08_picture.l0, rd_bt]
  by_cases c : (a : Int) < (l.length : Int)
  ·rw [if_pos c, if_pos (by omega), if_pos (by rcases h2 with h | h; omega; exact h)]
   exact hj k (by omega)
  ·rw [if_neg c]
   exact hj k (by omega)
 | succ d ih =>
  intro a ha hn k hk
  obtain ⟨k, rfl⟩ : ∃ K, k = K + 1 := ⟨k - 1, by omega⟩
  rw [mummerref08_picture.l0, rd_bt, if_pos (by omega), if_pos (by omega), if_neg (hn a (Nat.le_refl _) (by omega)), w64 (by omega) (by omega), show (a : Int) + 1 = ((a + 1 : Nat) : Int) by omega]
  exact ih (a + 1) (by omega) (fun i h1 h2 => hn i (by omega) h2) k (by omega)
/-- The picture of a fault that is right. -/
theorem pic_same {l : List Int} (hI : Sc.InB l = true) (hl : l.length ≤ 8000) {rs : List (Nat × Nat)} (hr : GR l 0 rs) (x : S41) (i : Int) (hx : errF l.length x i = 0) :
  ∃ (msg : ByteArray) (F te : Nat), x.f2.f0 = (F : Int) ∧ F ≤ te ∧ te ≤ l.length ∧ (te = l.length ∨ lb l te = 10) ∧ (∀ i, begN l F ≤ i → i < te → lb l i ≠ 10) ∧ msg.size ≤ 400 ∧ NoNl msg ∧
   (∀ k, 300000 ≤ k → paintF k l x = some (picT msg ((l.take te).drop (begN l F)) (colV l F) (cwN l (mkC F x.f2.f1) te))) ∧
   (∀ k, 300000 ≤ k → mummerref08_picture.f k l x.f0 x.f1 x.f2.f0 x.f2.f1 x.f3 x.f4 = some (picT msg ((l.take te).drop (begN l F)) (colV l F) (cwN l (mkC F x.f2.f1) te))) := by
 obtain ⟨msg, e, m1, m2, m3, m4, m5⟩ := msg_same hI hl hr x
 obtain rfl : e = 0 := m5 i hx
 have ok := (errF_ok hx).1
 obtain ⟨F, hF⟩ : ∃ F : Nat, x.f2.f0 = (F : Int) := ⟨x.f2.f0.toNat, by omega⟩
 obtain ⟨t1, t2, t3⟩ := lineL_props l _ F rfl (by omega)
 generalize hto : F + (lineL (l.drop F)).length = te at t1 t2 t3
 have hFt : F ≤ te := by omega
 have b1 := begN_le l F
 have b2 := begN_no l F
 have no : ∀ i, begN l F ≤ i → i < te → lb l i ≠ 10 := fun i h1 h2 => by
  by_cases c : i < F
  ·exact b2 i h1 c
  ·exact t2 i (by omega) h2
 have hline := lineL_char l te t1 t3 (te - begN l F) (begN l F) (by omega) no
 have hcol := colV_range hI hr F (by omega)
 have hm1 : m1 = m1 := rfl
 refine ⟨msg, F, te, hF, hFt, t1, t3, no, m3, m4, fun k hk => ?_, fun k hk => ?_⟩
 ·have q := lastix_take l (by omega) F (by omega) k (by omega)
  unfold paintF
  rw [m1 k hk, Option.bind_some, hF, place_v hI hl hr F (by omega) k (by omega), Option.bind_some]
  dsimp only
  rw [if_pos ⟨by omega, by omega, hl, hcol.1, by omega, by omega, hI⟩, show ((F : Nat) : Int).toNat = F from rfl, q, Option.bind_some, if_pos ⟨by omega, by omega⟩, show ((begN l F : Nat) : Int) - 1 + 1 = ((begN l F : Nat) : Int) by omega, show ((begN l F : Nat) : Int).toNat = begN l F from rfl, hline]
  -- the marks
  have bsp : Sp l (begN l F) := by
   rcases begN_nl l F with h | ⟨h1, h2⟩
   ·rw [h]; exact hr.head
   ·have := next10 hr (begN l F - 1) (by omega) h2
    rwa [show begN l F - 1 + 1 = begN l F by omega] at this
  have tsp : Sp l te := by
   rcases t3 with h | h
   ·exact .inl h
   ·exact .inr (by unfold RS; omega)
  obtain ⟨_, _, _, gz⟩ := hr.at_ (begN l F) (Nat.zero_le _) (by omega) bsp
  obtain ⟨mt, mt1, mt2, _⟩ := gz.at_ te (by omega) t1 tsp
  have gs := gz.sub (begN l F) mt (Nat.le_refl _) mt1
  rw [Nat.sub_self, mt2] at gs
  have hln : ((l.take te).drop (begN l F)).length = te - begN l F := by rw [List.length_drop, List.length_take]; omega
  have hmk := marks_gr (inB_drop (InB_take hI te) (begN l F)) ((begN l F : Nat) : Int) (F : Int) x.f2.f1 (fun i => decide ((F : Int) ≤ (i : Int) + ((begN l F : Nat) : Int) ∧ (i : Int) + ((begN l F : Nat) : Int) < x.f2.f1)) (fun _ => rfl) gs ((l.take te).drop (begN l F)).length (by omega) 0
  have hcw := cwN_sub l ((l.take te).drop (begN l F)) (mkC F x.f2.f1) (fun i => decide ((F : Int) ≤ (i : Int) + ((begN l F : Nat) : Int) ∧ (i : Int) + ((begN l F : Nat) : Int) < x.f2.f1)) (begN l F) (te - begN l F) (fun i hi => ⟨lb_sub l (begN l F) te i (by omega) t1, by
   unfold mkC
   exact decide_eq_decide.2 (by omega)⟩)
  have hz0 : cwN l (mkC F x.f2.f1) (begN l F) = 0 := by
   have := cwN_no l (mkC F x.f2.f1) 0 (begN l F) (fun i _ h2 h => by
    have := of_decide_eq_true h.2
    omega)
   rw [Nat.zero_add] at this
   rw [this]; rfl
  rw [hz0, show begN l F + (te - begN l F) = te by omega, Nat.add_zero] at hcw
  have h00 : cwN ((l.take te).drop (begN l F)) (fun i => decide ((F : Int) ≤ (i : Int) + ((begN l F : Nat) : Int) ∧ (i : Int) + ((begN l F : Nat) : Int) < x.f2.f1)) 0 = 0 := rfl
  rw [h00, hln, hcw] at hmk
  rw [hln, hmk]
  unfold picT rep
  rw [repL, repL]
  rw [show (max ((0 : Int) + ((cwN l (mkC F x.f2.f1) te : Nat) : Int) - ((0 : Nat) : Int)) 1).toNat = max (cwN l (mkC F x.f2.f1) te) 1 by omega]
 ·have C' : ∀ a : Nat, decide ((F ≤ a ∧ (a : Int) < x.f2.f1) ∧ a < te) = decide ((F ≤ a ∧ (a : Int) < x.f2.f1) ∧ a < te) := fun _ => rfl
  have e1 : cwN l (fun a => decide ((F ≤ a ∧ (a : Int) < x.f2.f1) ∧ a < te)) l.length = cwN l (mkC F x.f2.f1) te := by
   have h1 := cwN_no l (fun a => decide ((F ≤ a ∧ (a : Int) < x.f2.f1) ∧ a < te)) te (l.length - te) (fun i a b h => by
    have := of_decide_eq_true h.2
    omega)
   rw [show te + (l.length - te) = l.length by omega] at h1
   rw [h1]
   exact cwN_congr l _ _ te fun i hi => decide_eq_decide.2 (by omega)
  have hj : ∀ k, 250000 ≤ k → mummerref08_picture.j1 k l msg ((begN l F : Nat) : Int) te x.f0 x.f1 F x.f2.f1 x.f3 x.f4 = some (picT msg ((l.take te).drop (begN l F)) (colV l F) (cwN l (mkC F x.f2.f1) te)) := fun k hk => by
   obtain ⟨k, rfl⟩ : ∃ K, k = K + 1 := ⟨k - 1, by omega⟩
   have hrl := hr.len
   have h1 := rpic_l1 hl hr msg (by omega) (begN l F) te (by omega) t1 (colV l F) (by omega) F x.f2.f1 x.f0 x.f1 x.f3 x.f4 _ (fun _ => rfl) rs.length 0 (by omega) k (by omega)
   rw [hr.first, e1] at h1
   rw [mummerref08_picture.j1, rplace_v hI hl hr F (by omega) k (by omega), Option.bind_some, hr.starts hI hl k (by omega), Option.bind_some]
   exact h1
  have h0 := rpic_l0 hl msg ((begN l F : Nat) : Int) te t1 t3 x.f0 x.f1 F x.f2.f1 x.f3 x.f4 _ hj (te - F) F (by omega) (fun i h1 h2 => t2 i h1 h2) k (by omega)
  unfold mummerref08_picture.f
  rw [m2 k hk, Option.bind_some, hF, rbegin_f l (by omega) F (by omega) k (by omega), Option.bind_some]
  exact h0
end Go.Proofs.YtdjkdlbokepoaaaGreatDoor.P
