import Derived.Test.YtdjkdlbokepoaaaGreatDoorKT42
import Derived.Test.YtdjkdlbokepoaaaGreatDoorKT36
import Derived.Test.YtdjkdlbokepoaaaGreatDoorKT37
import Derived.Test.YtdjkdlbokepoaaaGreatDoorKT38
namespace Go.Proofs.YtdjkdlbokepoaaaGreatDoor.P
open Go.RowKit Go.Proofs.YtdjkdlbokepoaaaGreatDoorW.PrintWords Go.Proofs.YtdjkdlbokepoaaaGreatDoorW.PrintLast Go.Proofs.YtdjkdlbokepoaaaGreatDoorW.PrintMore Sc
set_option linter.unusedVariables false
set_option linter.unusedSimpArgs false
set_option maxRecDepth 20000
theorem sizeMk (l : List UInt8) : (⟨l.toArray⟩ : ByteArray).size = l.length := by simp [ByteArray.size]
theorem dec_step (m : Nat) (h : ¬ m < 10) : Lib.decDigits m = Lib.decDigits (m / 10) ++ [UInt8.ofNat (48 + m % 10)] := by rw [Lib.decDigits, dif_neg h]
theorem nd_step (m : Nat) (h : ¬ m < 10) : Lib.nDigits m = Lib.nDigits (m / 10) + 1 := by rw [Lib.nDigits, dif_neg h]
theorem mk_app (x y : List UInt8) : (⟨x.toArray⟩ : ByteArray) ++ (⟨y.toArray⟩ : ByteArray) = ⟨(x ++ y).toArray⟩ := by
 apply ByteArray.ext
 simp
theorem nd_le (m : Nat) : Lib.nDigits m ≤ m + 1 := by
 induction m using Nat.strongRecOn with
 | _ m ih =>
  by_cases h : m < 10
  ·rw [Lib.nDigits, dif_pos h]; omega
  ·rw [nd_step m h]; have := ih (m / 10) (by omega); omega
theorem rDig_pos : ∀ (m : Nat), m ≤ 9223372036854775807 → ∀ (k : Nat), 3 * Lib.nDigits m ≤ k → mummerref01_Digits.f k (m : Int) = some ⟨(Lib.decDigits m).toArray⟩ := by
 intro m
 induction m using Nat.strongRecOn with
 | _ m ih =>
  intro hm k hk
  by_cases h : m < 10
  ·rw [Lib.nDigits, dif_pos h] at hk
   obtain ⟨k, rfl⟩ : ∃ k', k = k' + 2 := ⟨k - 2, by omega⟩
   rw [mummerref01_Digits.f, if_neg (by omega), mummerref01_Digits.j0, decide_eq_false (by omega), if_neg (by decide), if_neg (by omega), w64 (by omega) (by omega), show (48 + (m : Int)) % 256 = 48 + m by omega, Lib.decDigits, dif_pos h]
   unfold strOfNums
   simp only [List.map_cons, List.map_nil]
   rw [show (48 + (m : Int)).toNat = 48 + m by omega]
  ·rw [nd_step m h] at hk
   obtain ⟨k, rfl⟩ : ∃ k', k = k' + 3 := ⟨k - 3, by omega⟩
   have hlen : (Lib.decDigits (m / 10)).length ≤ m / 10 + 1 := by rw [Lib.decDigits_length]; exact nd_le _
   have ht : Int.tmod (m : Int) 10 = ((m % 10 : Nat) : Int) := by rw [Int.tmod_eq_emod_of_nonneg (by omega)]; omega
   have hq : wrap64 (Int.tdiv (m : Int) 10) = ((m / 10 : Nat) : Int) := by rw [Int.tdiv_eq_ediv_of_nonneg (by omega), w64 (by omega) (by omega)]; omega
   rw [mummerref01_Digits.f, if_pos (by omega), mummerref01_Digits.j0, if_pos rfl, ht, if_neg (by omega), mummerref01_Digits.j1, hq, ih (m / 10) (by omega) (by omega) k (by omega)]
   simp only [Option.bind_some]
   rw [strOfNums_size, sizeMk, w64 (by omega) (by omega), show (48 + ((m % 10 : Nat) : Int)) % 256 = ((48 + m % 10 : Nat) : Int) by omega, if_pos (by simp; omega), dec_step m h]
   unfold strOfNums
   simp only [List.map_cons, List.map_nil, Int.toNat_natCast]
   rw [mk_app]
/-- No byte 10. -/
def NoNl (s : ByteArray) : Prop := ∀ x ∈ s.data.toList, x ≠ 10
instance (s : ByteArray) : Decidable (NoNl s) := by unfold NoNl; infer_instance
theorem appData (a b : ByteArray) : (a ++ b).data.toList = a.data.toList ++ b.data.toList := by rw [ByteArray.data_append, Array.toList_append]
theorem NoNl.app {a b : ByteArray} (h : NoNl a) (h' : NoNl b) : NoNl (a ++ b) := by
 intro x hx
 rw [appData, List.mem_append] at hx
 rcases hx with hx | hx
 ·exact h x hx
 ·exact h' x hx
theorem dd_ge : ∀ (n : Nat), ∀ b ∈ Lib.decDigits n, 48 ≤ b.toNat := by
 intro n
 induction n using Nat.strongRecOn with
 | _ n ih =>
  intro b hb
  by_cases h : n < 10
  ·rw [Lib.decDigits, dif_pos h] at hb
   simp at hb
   subst hb
   simp
   omega
  ·rw [dec_step n h, List.mem_append] at hb
   rcases hb with hb | hb
   ·exact ih (n / 10) (by omega) b hb
   ·simp at hb
    subst hb
    simp
    omega
theorem dd_nonl (n : Nat) : NoNl ⟨(Lib.decDigits n).toArray⟩ := by
 intro x hx
 have := dd_ge n x (by simpa using hx)
 intro h
 subst h
 exact absurd this (by decide)
theorem nd_small (n : Nat) (h : n < 100000) : Lib.nDigits n ≤ 6 := by
 have s : ∀ m, Lib.nDigits m = if m < 10 then 1 else Lib.nDigits (m / 10) + 1 := fun m => by
  by_cases c : m < 10
  ·rw [if_pos c, Lib.nDigits, dif_pos c]
  ·rw [if_neg c, nd_step m c]
 by_cases c1 : n < 10
 ·rw [s, if_pos c1]; omega
 ·rw [s, if_neg c1]
  by_cases c2 : n / 10 < 10
  ·rw [s, if_pos c2]; omega
  ·rw [s, if_neg c2]
   by_cases c3 : n / 10 / 10 < 10
   ·rw [s, if_pos c3]; omega
   ·rw [s, if_neg c3]
    by_cases c4 : n / 10 / 10 / 10 < 10
    ·rw [s, if_pos c4]; omega
    ·rw [s, if_neg c4, s, if_pos (by omega)]; omega
/-- Both write a number from 0 on in the same way. -/
theorem dig_same (n : Int) (h0 : 0 ≤ n) (h1 : n < 100000) (k : Nat) (hk : 100 ≤ k) : ∃ s, strconv_Itoa_54.f n = some s ∧ mummerref01_Digits.f k n = some s ∧ s.size ≤ 6 ∧ NoNl s := by
 refine ⟨⟨(Lib.decDigits n.toNat).toArray⟩, ?_, ?_, ?_, dd_nonl _⟩
 ·unfold strconv_Itoa_54.f Lib.itoa
  rw [if_pos ⟨h0, by omega⟩, if_neg (by omega)]
 ·have := rDig_pos n.toNat (by omega) k (by have := nd_small n.toNat (by omega); omega)
  rwa [show ((n.toNat : Nat) : Int) = n by omega] at this
 ·rw [sizeMk, Lib.decDigits_length]
  exact nd_small _ (by omega)
theorem word_same (c : Int) (k : Nat) (hk : 200 ≤ k) : ∃ s e, faults_Word.f c = some (s, e) ∧ mummerref08_Word.f k c = some (s, e) ∧ s.size ≤ 100 ∧ NoNl s := by
 obtain ⟨k, rfl⟩ : ∃ K, k = K + 1 := ⟨k - 1, by omega⟩
 by_cases c1 : c < 1
 ·refine ⟨⟨#[]⟩, 2, ?_, ?_, ?_, ?_⟩
  ·unfold faults_Word.f; rw [if_pos (.inl c1)]
  ·unfold mummerref08_Word.f; rw [if_pos c1, mummerref08_Word.j0, if_pos rfl]
  ·decide
  ·decide
 ·by_cases c2 : 999 < c
  ·refine ⟨⟨#[]⟩, 2, ?_, ?_, ?_, ?_⟩
   ·unfold faults_Word.f; rw [if_pos (.inr c2)]
   ·unfold mummerref08_Word.f; rw [if_neg c1, decide_eq_true (by omega), mummerref08_Word.j0, if_pos rfl]
   ·decide
   ·decide
  ·by_cases c3 : c < 22
   ·rcases (show c = 1 ∨ c = 2 ∨ c = 3 ∨ c = 4 ∨ c = 5 ∨ c = 6 ∨ c = 7 ∨ c = 8 ∨ c = 9 ∨ c = 10 ∨ c = 11 ∨ c = 12 ∨ c = 13 ∨ c = 14 ∨ c = 15 ∨ c = 16 ∨ c = 17 ∨ c = 18 ∨ c = 19 ∨ c = 20 ∨ c = 21 by omega) with rfl | rfl | rfl | rfl | rfl | rfl | rfl | rfl | rfl | rfl | rfl | rfl | rfl | rfl | rfl | rfl | rfl | rfl | rfl | rfl | rfl
    all_goals exact ⟨_, _, rfl, rfl, by decide, by decide⟩
   ·obtain ⟨s, e1, e2, e3, e4⟩ := dig_same c (by omega) (by omega) k (by omega)
    refine ⟨errPre ++ s, 0, ?_, ?_, ?_, ?_⟩
    ·unfold faults_Word.f
     rw [if_neg (by omega), if_neg c3, e1, Option.bind_some, if_pos (by omega)]
    ·unfold mummerref08_Word.f
     rw [if_neg c1, decide_eq_false (by omega), mummerref08_Word.j0, if_neg (by decide), Option.bind_some, if_neg (by simp; omega), e2, Option.bind_some, if_pos (by omega)]
     rfl
    ·rw [ByteArray.size_append, show errPre.size = 6 from rfl]; omega
    ·exact NoNl.app (by decide) e4
theorem pass_same (c : Int) : ∃ s e, faults_Pass.f c = some (s, e) ∧ mummerref08_Pass.f c = some (s, e) ∧ s.size ≤ 100 ∧ NoNl s := by
 by_cases c1 : c < 1
 ·refine ⟨⟨#[]⟩, 2, ?_, ?_, ?_, ?_⟩
  ·unfold faults_Pass.f; rw [if_pos (.inl c1)]
  ·unfold mummerref08_Pass.f; rw [if_pos c1]
  ·decide
  ·decide
 ·by_cases c2 : 8 < c
  ·refine ⟨⟨#[]⟩, 2, ?_, ?_, ?_, ?_⟩
   ·unfold faults_Pass.f; rw [if_pos (.inr (by omega))]
   ·unfold mummerref08_Pass.f; rw [if_neg c1, if_pos (by omega)]
   ·decide
   ·decide
  ·rcases (show c = 1 ∨ c = 2 ∨ c = 3 ∨ c = 4 ∨ c = 5 ∨ c = 6 ∨ c = 7 ∨ c = 8 by omega) with rfl | rfl | rfl | rfl | rfl | rfl | rfl | rfl
   all_goals exact ⟨_, _, rfl, rfl, by decide, by decide⟩
theorem nums_InB (s : ByteArray) : Sc.InB (Ft.nums s) = true := by
 refine InB_of fun x hx => ?_
 unfold Ft.nums at hx
 rw [List.mem_map] at hx
 obtain ⟨b, _, rfl⟩ := hx
 have := b.toNat_lt
 omega
theorem str_nums (s : ByteArray) : strOfNums (Ft.nums s) = s := by
 apply ByteArray.ext
 apply Array.toList_inj.1
 show ((Ft.nums s).map fun n => UInt8.ofNat n.toNat).toArray.toList = s.data.toList
 unfold Ft.nums
 rw [List.map_map]
 have e : ((fun n : Int => UInt8.ofNat n.toNat) ∘ fun b : UInt8 => (b.toNat : Int)) = id := by
  funext b
  show UInt8.ofNat ((b.toNat : Int)).toNat = b
  rw [Int.toNat_natCast]
  exact UInt8.ofNat_toNat
 rw [e, List.map_id]
theorem nums_lb (s : ByteArray) (i : Nat) (h : i < s.size) : lb (Ft.nums s) i = bt s (i : Int) := by
 unfold lb Ft.nums bt
 rw [List.getD_eq_getElem?_getD, List.getElem?_map, List.getElem?_eq_getElem (by simpa using h), dif_pos (by simpa using h)]
 rfl
theorem idx_gr {l : List Int} (hI : Sc.InB l = true) {p : Nat} {rs : List (Nat × Nat)} (h : GR l p rs) : ∀ f, l.length - p ≤ f → (0 ≤ Lib.idxFuncFrom (fun r => decide (r < 32)) true (strOfNums l) f p ↔ ∃ i, p ≤ i ∧ i < l.length ∧ lb l i < 32) := by
 induction h with
 | stop =>
  intro f hf
  rw [Lib.idxFuncFrom_end _ _ _ _ _ (by rw [strOfNums_size]; omega)]
  exact ⟨fun h => by omega, fun ⟨i, a, b, _⟩ => by omega⟩
 | @step p j rest h1 h2 h3 h4 h5 ih =>
  intro f hf
  obtain ⟨f, rfl⟩ : ∃ F, f = F + 1 := ⟨f - 1, by omega⟩
  obtain ⟨z1, _, _⟩ := gd_decode l hI p j h1 h2 h3 h4
  have hst := h4.start h1 h2
  have hb := lb_in hI (i := p) (by omega)
  have hv : (val l p j).toNat < 32 ↔ lb l p < 32 := by
   rcases (show j = 1 ∨ j = 2 ∨ j = 3 ∨ j = 4 by omega) with rfl | rfl | rfl | rfl
   ·show (lb l p).toNat < 32 ↔ _
    omega
   ·have g : G2 _ _ := h4
    unfold G2 at g
    show (64 * (lb l p - 192) + lb l (p + 1) - 128).toNat < 32 ↔ _
    omega
   ·have g : G3 _ _ _ := h4
    unfold G3 at g
    obtain ⟨g0, _, _, _, _, _, g7, _⟩ := g
    show (64 * (64 * (lb l p - 224) + lb l (p + 1) - 128) + lb l (p + 2) - 128).toNat < 32 ↔ _
    omega
   ·have g : G4 _ _ _ _ := h4
    unfold G4 at g
    show (64 * (64 * (64 * (lb l p - 240) + lb l (p + 1) - 128) + lb l (p + 2) - 128) + lb l (p + 3) - 128).toNat < 32 ↔ _
    omega
  rw [Lib.idxFuncFrom, if_pos (by rw [strOfNums_size]; omega), z1]
  dsimp only
  by_cases c : lb l p < 32
  ·rw [if_pos (decide_eq_true (hv.2 c))]
   exact ⟨fun _ => ⟨p, Nat.le_refl _, by omega, c⟩, fun _ => by omega⟩
  ·rw [if_neg (by simp; omega), ih f (by omega)]
   refine ⟨fun ⟨i, a, b, d⟩ => ⟨i, by omega, b, d⟩, fun ⟨i, a, b, d⟩ => ⟨i, ?_, b, d⟩⟩
   refine Nat.le_of_not_lt fun hlt => ?_
   by_cases e : i = p
   ·subst e; exact c d
   ·have := hst.2.2 (i - p) (by omega) (by omega)
    rw [show p + (i - p) = i by omega] at this
    exact this (by unfold RS; omega)
/-- A name that a fault may have, apart from its length. -/
def okName (s : ByteArray) : Bool := (match Sc.checkL (Ft.nums s) with | some (_, e) => decide (e = 0) | none => false) && decide (∀ i < s.size, 32 ≤ bt s (i : Int))
theorem plain_f (s : ByteArray) (hs : s.size ≤ 60) : faults_plain.f s = some (okName s) ∧ ∃ q e, (∀ k, 9000 ≤ k → mummerref02_Check.f k (Ft.nums s) = some (q, e)) ∧ (e = 0 ∧ (∀ i < s.size, 32 ≤ bt s (i : Int)) ↔ okName s = true) := by
 have hI := nums_InB s
 have hl := Ft.nums_length s
 have hc : conv9to29.f s = some (Ft.nums s) := by unfold conv9to29.f Ft.convF; rw [if_pos (by omega)]
 rcases check_both (Ft.nums s) hI with ⟨rs, _, hr⟩ | ⟨q, e, e0, e1, e2⟩
 ·have hg := hr.good hI (by omega)
  have ck : Sc.checkL (Ft.nums s) = some (((Ft.nums s).length : Int), 0) := Sc.checkL_good hg
  have ix := idx_gr hI hr s.size (by omega)
  rw [str_nums] at ix
  have eq : okName s = decide (∀ i < s.size, 32 ≤ bt s (i : Int)) := by unfold okName; rw [ck]; simp
  have hd : (0 ≤ Lib.idxFunc (fun r => decide (r < 32)) true s) ↔ ¬ ∀ i < s.size, 32 ≤ bt s (i : Int) := by
   unfold Lib.idxFunc
   rw [ix]
   refine ⟨fun ⟨i, _, b, c⟩ h => ?_, fun h => ?_⟩
   ·have := h i (by omega)
    rw [nums_lb s i (by omega)] at c
    omega
   ·refine Classical.byContradiction fun hn => h fun i hi => ?_
    refine Classical.byContradiction fun hlt => hn ⟨i, by omega, by omega, ?_⟩
    rw [nums_lb s i hi]
    omega
  refine ⟨?_, _, 0, fun k hk => hr.check hI (by omega) k hk, ?_⟩
  ·unfold faults_plain.f
   rw [hc, Option.bind_some]
   show (Sc.checkL _).bind _ = _
   rw [ck, Option.bind_some, if_pos rfl]
   unfold strings_ContainsFunc.f
   rw [Option.bind_some, eq]
   congr 1
   by_cases d : ∀ i < s.size, 32 ≤ bt s (i : Int)
   ·rw [decide_eq_true d, decide_eq_false (fun h => (hd.1 h) d)]; rfl
   ·rw [decide_eq_false d, decide_eq_true (hd.2 d)]; rfl
  ·rw [eq, decide_eq_true_eq]
   exact ⟨fun h => h.2, fun h => ⟨rfl, h⟩⟩
 ·have eq : okName s = false := by unfold okName; rw [e1]; simp [e0]
  refine ⟨?_, q, e, e2, ?_⟩
  ·unfold faults_plain.f
   rw [hc, Option.bind_some]
   show (Sc.checkL _).bind _ = _
   rw [e1, Option.bind_some, if_neg e0, eq]
  ·rw [eq]
   exact ⟨fun h => absurd h.1 e0, fun h => by cases h⟩
def errF (n : Int) (x : S41) (i : Int) : Int := if x.f0 < 1 ∨ x.f0 > 999 ∨ x.f1 < 1 ∨ x.f1 > 8 ∨ x.f2.f0 < 0 ∨ x.f2.f0 > x.f2.f1 ∨ x.f2.f1 > n then 7 else if 60 < x.f3.size then 3 else if okName x.f3 = false then 6 else if x.f4 < -1 ∨ i ≤ x.f4 then 4 else 0
def ckL (n : Int) : List S41 → Nat → Int × Int
 | [], _ => (0, 0)
 | x :: r, i => if errF n x i = 0 then ckL n r (i + 1) else ((i : Int), errF n x i)
def chkV (n : Int) (l : List S41) : Int × Int := if l.length > 50 then (0, 3) else ckL n l 0
theorem rdT_drop (l : List S41) (i : Nat) (x : S41) (r : List S41) (h : l.drop i = x :: r) : rd_T41 l (i : Int) = x ∧ l.drop (i + 1) = r ∧ i < l.length := by
 have h1 := congrArg (fun y => y[0]?) h
 simp only [List.getElem?_drop, Nat.add_zero, List.getElem?_cons_zero] at h1
 have h2 := congrArg (List.drop 1) h
 rw [List.drop_drop] at h2
 refine ⟨?_, by simpa using h2, ?_⟩
 ·show l.getD i z41 = x
  rw [List.getD_eq_getElem?_getD, h1]; rfl
 ·rcases Nat.lt_or_ge i l.length with h3 | h3
  ·exact h3
  ·rw [List.getElem?_eq_none h3] at h1; cases h1
theorem ckj1 (n : Int) (l : List S41) (i : Nat) (hi : i ≤ 1000) (x : S41) (b : Bool) (hb : b = true ↔ x.f0 < 1 ∨ x.f0 > 999 ∨ x.f1 < 1 ∨ x.f1 > 8 ∨ x.f2.f0 < 0 ∨ x.f2.f0 > x.f2.f1 ∨ x.f2.f1 > n) (k : Nat) :
  faults_Check.j1 (k + 1) n i l l.length i b x.f0 x.f1 x.f2.f0 x.f2.f1 x.f3 x.f4 = if errF n x i = 0 then faults_Check.l0 k n l l.length ((i + 1 : Nat) : Int) else some ((i : Int), errF n x i) := by
 rw [faults_Check.j1]
 unfold errF
 cases b with
 | true => rw [if_pos rfl, if_pos (c := x.f0 < 1 ∨ _) (hb.1 rfl), if_neg (by decide)]
 | false =>
  rw [if_neg (by decide), if_neg (c := x.f0 < 1 ∨ _) (fun h => by have := hb.2 h; cases this)]
  by_cases c : 60 < x.f3.size
  ·rw [if_pos (by omega), if_pos c, if_neg (by decide)]
  ·rw [if_neg (by omega), if_neg c, (plain_f x.f3 (by omega)).1, Option.bind_some]
   cases okName x.f3 with
   | false => rw [if_neg (by decide), if_pos rfl, if_neg (by decide)]
   | true =>
    rw [if_pos rfl, if_neg (c := true = false) (by decide)]
    by_cases d : x.f4 < -1
    ·rw [if_pos d, if_pos (c := x.f4 < -1 ∨ (i : Int) ≤ x.f4) (.inl d), if_neg (by decide)]
    ·rw [if_neg d]
     by_cases e : x.f4 ≥ (i : Int)
     ·rw [if_pos e, if_pos (c := x.f4 < -1 ∨ (i : Int) ≤ x.f4) (.inr e), if_neg (by decide)]
     ·rw [if_neg e, if_neg (c := x.f4 < -1 ∨ (i : Int) ≤ x.f4) (by omega), if_pos rfl, w64 (by omega) (by omega), show (i : Int) + 1 = ((i + 1 : Nat) : Int) by omega]
theorem ck_l0 (n : Int) (l : List S41) (hl : l.length ≤ 50) : ∀ (r : List S41) (i : Nat), l.drop i = r → ∀ k, 2 * r.length + 3 ≤ k → faults_Check.l0 k n l l.length (i : Int) = some (ckL n r i)
 | [], i, h, k, hk => by
  obtain ⟨k, rfl⟩ : ∃ K, k = K + 1 := ⟨k - 1, by omega⟩
  have : l.length ≤ i := by
   have := congrArg List.length h
   rw [List.length_drop, List.length_nil] at this
   omega
  rw [faults_Check.l0, if_neg (by omega), ckL]
 | x :: r, i, h, k, hk => by
  rw [List.length_cons] at hk
  obtain ⟨k, rfl⟩ : ∃ K, k = K + 1 + 1 := ⟨k - 2, by omega⟩
  obtain ⟨h1, h2, h3⟩ := rdT_drop l i x r h
  have ih := ck_l0 n l hl r (i + 1) h2 k (by omega)
  have g : ∀ b, (b = true ↔ x.f0 < 1 ∨ x.f0 > 999 ∨ x.f1 < 1 ∨ x.f1 > 8 ∨ x.f2.f0 < 0 ∨ x.f2.f0 > x.f2.f1 ∨ x.f2.f1 > n) → faults_Check.j1 (k + 1) n i l l.length i b x.f0 x.f1 x.f2.f0 x.f2.f1 x.f3 x.f4 = some (ckL n (x :: r) i) := fun b hb => by
   rw [ckj1 n l i (by omega) x b hb k, ih, ckL]
   split <;> rfl
  rw [faults_Check.l0, if_pos (by omega), if_pos (by omega), if_pos (by omega), h1]
  split
  ·exact g _ (by simp; omega)
  ·split
   ·exact g _ (by simp; omega)
   ·split
    ·exact g _ (by simp; omega)
    ·split
     ·exact g _ (by simp; omega)
     ·split
      ·exact g _ (by simp; omega)
      ·split
       ·exact g _ (by simp; omega)
       ·exact g _ (by rw [decide_eq_true_eq]; omega)
theorem check_f (n : Int) (l : List S41) (k : Nat) (hk : 200 ≤ k) : faults_Check.f k n l = some (chkV n l) := by
 unfold faults_Check.f chkV
 by_cases c : l.length > 50
 ·rw [if_pos (by omega), if_pos c]
 ·rw [if_neg (by omega), if_neg c]
  exact ck_l0 n l (by omega) l 0 rfl k (by omega)
theorem one_l0 (x : S41) (i : Int) (hs : x.f3.size ≤ 60) : ∀ (d p : Nat), p + d = x.f3.size → ∀ k, d < k → mummerref08_one.l0 k i (p : Int) x.f0 x.f1 x.f2.f0 x.f2.f1 x.f3 x.f4 = some (if ∀ j < x.f3.size, p ≤ j → 32 ≤ bt x.f3 (j : Int) then (if x.f4 < -1 ∨ i ≤ x.f4 then 4 else 0) else 6) := by
 intro d
 induction d with
 | zero =>
  intro p hp k hk
  obtain ⟨k, rfl⟩ : ∃ K, k = K + 1 := ⟨k - 1, by omega⟩
  rw [mummerref08_one.l0, if_neg (by omega), if_pos (c := ∀ j < x.f3.size, p ≤ j → _) (fun j a b => by omega)]
  by_cases c : x.f4 < -1
  ·rw [if_pos c, if_pos (c := x.f4 < -1 ∨ _) (.inl c)]
  ·rw [if_neg c]
   by_cases e : x.f4 ≥ i
   ·rw [if_pos e, if_pos (c := x.f4 < -1 ∨ _) (.inr e)]
   ·rw [if_neg e, if_neg (c := x.f4 < -1 ∨ _) (by omega)]
 | succ d ih =>
  intro p hp k hk
  obtain ⟨k, rfl⟩ : ∃ K, k = K + 1 := ⟨k - 1, by omega⟩
  rw [mummerref08_one.l0, if_pos (by omega), if_pos (by omega)]
  by_cases c : bt x.f3 (p : Int) < 32
  ·rw [if_pos c, if_neg (c := ∀ j < x.f3.size, p ≤ j → _) (fun h => by have := h p (by omega) (Nat.le_refl _); omega)]
  ·have ih' := ih (p + 1) (by omega) k (by omega)
   rw [if_neg c, w64 (by omega) (by omega), show (p : Int) + 1 = ((p + 1 : Nat) : Int) by omega, ih']
   by_cases q : ∀ j < x.f3.size, p + 1 ≤ j → 32 ≤ bt x.f3 (j : Int)
   ·rw [if_pos q, if_pos (c := ∀ j < x.f3.size, p ≤ j → _) (fun j a b => by
     by_cases e : j = p
     ·subst e; omega
     ·exact q j a (by omega))]
   ·rw [if_neg q, if_neg (c := ∀ j < x.f3.size, p ≤ j → _) (fun h => q fun j a b => h j a (by omega))]
theorem one_f (n : Int) (x : S41) (i : Int) (k : Nat) (hk : 10000 ≤ k) : mummerref08_one.f k n x.f0 x.f1 x.f2.f0 x.f2.f1 x.f3 x.f4 i = some (errF n x i) := by
 have g : ∀ b, (b = true ↔ x.f0 < 1 ∨ x.f0 > 999 ∨ x.f1 < 1 ∨ x.f1 > 8 ∨ x.f2.f0 < 0 ∨ x.f2.f0 > x.f2.f1 ∨ x.f2.f1 > n) → mummerref08_one.j0 k i b x.f0 x.f1 x.f2.f0 x.f2.f1 x.f3 x.f4 = some (errF n x i) := fun b hb => by
  obtain ⟨k, rfl⟩ : ∃ K, k = K + 1 := ⟨k - 1, by omega⟩
  rw [mummerref08_one.j0]
  unfold errF
  cases b with
  | true => rw [if_pos rfl, if_pos (c := x.f0 < 1 ∨ _) (hb.1 rfl)]
  | false =>
   rw [if_neg (by decide), if_neg (c := x.f0 < 1 ∨ _) (fun h => by have := hb.2 h; cases this)]
   by_cases c : 60 < x.f3.size
   ·rw [if_pos (by omega), if_pos c]
   ·obtain ⟨_, q, e, h1, h2⟩ := plain_f x.f3 (by omega)
    have hc : conv9to29.f x.f3 = some (Ft.nums x.f3) := by unfold conv9to29.f Ft.convF; rw [if_pos (by omega)]
    rw [if_neg (by omega), if_neg c, hc, Option.bind_some, h1 k (by omega), Option.bind_some]
    have o := one_l0 x i (by omega) x.f3.size 0 (by omega) k (by omega)
    rw [show ((0 : Nat) : Int) = 0 from rfl] at o
    rw [o]
    dsimp only
    by_cases d : okName x.f3 = true
    ·have h3 := h2.2 d
     rw [if_pos h3.1, if_pos (c := ∀ j < x.f3.size, 0 ≤ j → _) (fun j b _ => h3.2 j b), if_neg (c := okName x.f3 = false) (by rw [d]; decide)]
    ·rw [if_pos (c := okName x.f3 = false) (by simpa using d)]
     by_cases e0 : e = 0
     ·rw [if_pos e0, if_neg (c := ∀ j < x.f3.size, 0 ≤ j → _) (fun h => d (h2.1 ⟨e0, fun j b => h j b (Nat.zero_le _)⟩))]
     ·rw [if_neg e0]
 unfold mummerref08_one.f
 split
 ·exact g _ (by simp; omega)
 ·split
  ·exact g _ (by simp; omega)
  ·split
   ·exact g _ (by simp; omega)
   ·split
    ·exact g _ (by simp; omega)
    ·split
     ·exact g _ (by simp; omega)
     ·split
      ·exact g _ (by simp; omega)
      ·exact g _ (by rw [decide_eq_true_eq]; omega)
theorem rck_l0 (n : Int) (l : List S41) (hl : l.length ≤ 50) : ∀ (r : List S41) (i : Nat), l.drop i = r → ∀ k, 10000 + r.length < k → mummerref08_Check.l0 k n l (i : Int) = some (ckL n r i)
 | [], i, h, k, hk => by
  obtain ⟨k, rfl⟩ : ∃ K, k = K + 1 := ⟨k - 1, by omega⟩
  have : l.length ≤ i := by
   have := congrArg List.length h
   rw [List.length_drop, List.length_nil] at this
   omega
  rw [mummerref08_Check.l0, if_neg (by omega), ckL]
 | x :: r, i, h, k, hk => by
  rw [List.length_cons] at hk
  obtain ⟨k, rfl⟩ : ∃ K, k = K + 1 := ⟨k - 1, by omega⟩
  obtain ⟨h1, h2, h3⟩ := rdT_drop l i x r h
  have ih := rck_l0 n l hl r (i + 1) h2 k (by omega)
  rw [mummerref08_Check.l0, if_pos (by omega), if_pos (by omega), h1, one_f n x i k (by omega), Option.bind_some, w64 (by omega) (by omega), show (i : Int) + 1 = ((i + 1 : Nat) : Int) by omega, ih, ckL]
  split <;> rfl
theorem rcheck_f (n : Int) (l : List S41) (k : Nat) (hk : 11000 ≤ k) : mummerref08_Check.f k n l = some (chkV n l) := by
 unfold mummerref08_Check.f chkV
 by_cases c : l.length > 50
 ·rw [if_pos (by omega), if_pos c]
 ·rw [if_neg (by omega), if_neg c]
  exact rck_l0 n l (by omega) l 0 rfl k (by omega)
/-- What a list that is right says of each of its faults. -/
theorem ckL_ok (n : Int) : ∀ (r : List S41) (i : Nat), (ckL n r i).2 = 0 → ∀ (j : Nat) (x : S41), r[j]? = some x → errF n x ((i + j : Nat) : Int) = 0
 | [], i, h, j, x, hj => by simp at hj
 | y :: r, i, h, j, x, hj => by
  rw [ckL] at h
  by_cases c : errF n y i = 0
  ·rw [if_pos c] at h
   cases j with
   | zero =>
    have : y = x := by simpa using hj
    subst this
    exact c
   | succ j =>
    have := ckL_ok n r (i + 1) h j x (by simpa using hj)
    rwa [show i + 1 + j = i + (j + 1) by omega] at this
  ·rw [if_neg c] at h
   exact absurd h c
theorem chk_ok (n : Int) (l : List S41) (h : (chkV n l).2 = 0) : l.length ≤ 50 ∧ ∀ i : Nat, i < l.length → errF n (rd_T41 l (i : Int)) (i : Int) = 0 := by
 unfold chkV at h
 by_cases c : l.length > 50
 ·rw [if_pos c] at h; cases h
 ·rw [if_neg c] at h
  refine ⟨by omega, fun i hi => ?_⟩
  have := ckL_ok n l 0 h i (l[i]) (List.getElem?_eq_getElem hi)
  rw [Nat.zero_add] at this
  have e : rd_T41 l (i : Int) = l[i] := by
   show l.getD i z41 = _
   rw [List.getD_eq_getElem?_getD, List.getElem?_eq_getElem hi]; rfl
  rw [e]; exact this
theorem errF_ok {n : Int} {x : S41} {i : Int} (h : errF n x i = 0) : (1 ≤ x.f0 ∧ x.f0 ≤ 999 ∧ 1 ≤ x.f1 ∧ x.f1 ≤ 8 ∧ 0 ≤ x.f2.f0 ∧ x.f2.f0 ≤ x.f2.f1 ∧ x.f2.f1 ≤ n) ∧ x.f3.size ≤ 60 ∧ okName x.f3 = true ∧ -1 ≤ x.f4 ∧ x.f4 < i := by
 unfold errF at h
 by_cases c1 : x.f0 < 1 ∨ x.f0 > 999 ∨ x.f1 < 1 ∨ x.f1 > 8 ∨ x.f2.f0 < 0 ∨ x.f2.f0 > x.f2.f1 ∨ x.f2.f1 > n
 ·rw [if_pos c1] at h; cases h
 ·rw [if_neg c1] at h
  by_cases c2 : 60 < x.f3.size
  ·rw [if_pos c2] at h; cases h
  ·rw [if_neg c2] at h
   by_cases c3 : okName x.f3 = false
   ·rw [if_pos c3] at h; cases h
   ·rw [if_neg c3] at h
    by_cases c4 : x.f4 < -1 ∨ i ≤ x.f4
    ·rw [if_pos c4] at h; cases h
    ·exact ⟨by omega, by omega, by simpa using c3, by omega⟩
theorem chk_downs {n : Int} {l : List S41} (h : (chkV n l).2 = 0) : downsB l = true := by
 unfold downsB
 rw [List.all_eq_true]
 intro i hi
 have := errF_ok ((chk_ok n l h).2 i (List.mem_range.1 hi))
 exact decide_eq_true ⟨this.2.2.2.1, this.2.2.2.2⟩
theorem far_l0 (l : List S41) (hl : l.length ≤ 60) : ∀ (d i : Nat), i + d = l.length → ∀ k, d < k → ∃ b, mummerlaw08_far.l0 k l (i : Int) = some b := by
 intro d
 induction d with
 | zero =>
  intro i hi k hk
  obtain ⟨k, rfl⟩ : ∃ K, k = K + 1 := ⟨k - 1, by omega⟩
  rw [mummerlaw08_far.l0, if_neg (by omega)]
  exact ⟨_, rfl⟩
 | succ d ih =>
  intro i hi k hk
  obtain ⟨k, rfl⟩ : ∃ K, k = K + 1 := ⟨k - 1, by omega⟩
  rw [mummerlaw08_far.l0, if_pos (by omega), if_pos (by omega)]
  split
  ·exact ⟨_, rfl⟩
  ·rw [w64 (by omega) (by omega), show (i : Int) + 1 = ((i + 1 : Nat) : Int) by omega]
   exact ih (i + 1) (by omega) k (by omega)
theorem far_f (l : List S41) (k : Nat) (hk : 100 ≤ k) : ∃ b, mummerlaw08_far.f k l = some b ∧ (b = false → l.length ≤ 60) := by
 unfold mummerlaw08_far.f
 by_cases c : l.length > 60
 ·rw [if_pos (by omega)]
  exact ⟨true, rfl, fun h => by cases h⟩
 ·rw [if_neg (by omega)]
  obtain ⟨b, e⟩ := far_l0 l (by omega) l.length 0 (by omega) k (by omega)
  exact ⟨b, e, fun _ => by omega⟩
end Go.Proofs.YtdjkdlbokepoaaaGreatDoor.P
