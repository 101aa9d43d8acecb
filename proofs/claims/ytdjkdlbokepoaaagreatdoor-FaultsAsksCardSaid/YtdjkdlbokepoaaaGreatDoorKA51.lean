import Derived.Test.YtdjkdlbokepoaaaGreatDoorKA46
import Derived.Test.YtdjkdlbokepoaaaGreatDoorKA36
import Derived.Test.YtdjkdlbokepoaaaGreatDoorKA41
import Derived.Test.YtdjkdlbokepoaaaGreatDoorKA37
namespace Go.Proofs.YtdjkdlbokepoaaaGreatDoor.P
open Go.RowKit YtdjkdlbokepoaaaGreatDoorW.PrintWords YtdjkdlbokepoaaaGreatDoorW.PrintLast YtdjkdlbokepoaaaGreatDoorW.PrintMore Sc
set_option linter.unusedVariables false
set_option linter.unusedSimpArgs false
set_option maxRecDepth 20000
def NoNl (s : ByteArray) : Prop := ∀ x ∈ s.data.toList, x ≠ 10
instance (s : ByteArray) : Decidable (NoNl s) := by unfold NoNl; infer_instance
theorem nums_InB (s : ByteArray) : Sc.InB (Ft.nums s) = true := by
 refine InB_of fun x hx => ?_
 unfold Ft.nums at hx
 rw [List.mem_map] at hx
 obtain ⟨b, _, rfl⟩ := hx
 have := b.toNat_lt
 omega
theorem str_nums (s : ByteArray) : strOfNums (Ft.nums s) = s := by
 apply ByteArray.ext
 apply Array.toList_inj.1
 show ((Ft.nums s).map fun n => UInt8.ofNat n.toNat).toArray.toList = s.data.toList
 unfold Ft.nums
 rw [List.map_map]
 have e : ((fun n : Int => UInt8.ofNat n.toNat) ∘ fun b : UInt8 => (b.toNat : Int)) = id := by
  funext b
  show UInt8.ofNat ((b.toNat : Int)).toNat = b
  rw [Int.toNat_natCast]
  exact UInt8.ofNat_toNat
 rw [e, List.map_id]
theorem nums_lb (s : ByteArray) (i : Nat) (h : i < s.size) : lb (Ft.nums s) i = bt s (i : Int) := by
 unfold lb Ft.nums bt
 rw [List.getD_eq_getElem?_getD, List.getElem?_map, List.getElem?_eq_getElem (by simpa using h), dif_pos (by simpa using h)]
 rfl
theorem idx_gr {l : List Int} (hI : Sc.InB l = true) {p : Nat} {rs : List (Nat × Nat)} (h : GR l p rs) : ∀ f, l.length - p ≤ f → (0 ≤ Lib.idxFuncFrom (fun r => decide (r < 32)) true (strOfNums l) f p ↔ ∃ i, p ≤ i ∧ i < l.length ∧ lb l i < 32) := by
 induction h with
 | stop =>
  intro f hf
  rw [Lib.idxFuncFrom_end _ _ _ _ _ (by rw [strOfNums_size]; omega)]
  exact ⟨fun h => by omega, fun ⟨i, a, b, _⟩ => by omega⟩
 | @step p j rest h1 h2 h3 h4 h5 ih =>
  intro f hf
  obtain ⟨f, rfl⟩ : ∃ F, f = F + 1 := ⟨f - 1, by omega⟩
  obtain ⟨z1, _, _⟩ := gd_decode l hI p j h1 h2 h3 h4
  have hst := h4.start h1 h2
  have hb := lb_in hI (i := p) (by omega)
  have hv : (val l p j).toNat < 32 ↔ lb l p < 32 := by
   rcases (show j = 1 ∨ j = 2 ∨ j = 3 ∨ j = 4 by omega) with rfl | rfl | rfl | rfl
   ·show (lb l p).toNat < 32 ↔ _
    omega
   ·have g : G2 _ _ := h4
    unfold G2 at g
    show (64 * (lb l p - 192) + lb l (p + 1) - 128).toNat < 32 ↔ _
    omega
   ·have g : G3 _ _ _ := h4
    unfold G3 at g
    obtain ⟨g0, _, _, _, _, _, g7, _⟩ := g
    show (64 * (64 * (lb l p - 224) + lb l (p + 1) - 128) + lb l (p + 2) - 128).toNat < 32 ↔ _
    omega
   ·have g : G4 _ _ _ _ := h4
    unfold G4 at g
    show (64 * (64 * (64 * (lb l p - 240) + lb l (p + 1) - 128) + lb l (p + 2) - 128) + lb l (p + 3) - 128).toNat < 32 ↔ _
    omega
  rw [Lib.idxFuncFrom, if_pos (by rw [strOfNums_size]; omega), z1]
  dsimp only
  by_cases c : lb l p < 32
  ·rw [if_pos (decide_eq_true (hv.2 c))]
   exact ⟨fun _ => ⟨p, Nat.le_refl _, by omega, c⟩, fun _ => by omega⟩
  ·rw [if_neg (by simp; omega), ih f (by omega)]
   refine ⟨fun ⟨i, a, b, d⟩ => ⟨i, by omega, b, d⟩, fun ⟨i, a, b, d⟩ => ⟨i, ?_, b, d⟩⟩
   refine Nat.le_of_not_lt fun hlt => ?_
   by_cases e : i = p
   ·subst e; exact c d
   ·have := hst.2.2 (i - p) (by omega) (by omega)
    rw [show p + (i - p) = i by omega] at this
    exact this (by unfold RS; omega)
def okName (s : ByteArray) : Bool := (match Sc.checkL (Ft.nums s) with | some (_, e) => decide (e = 0) | none => false) && decide (∀ i < s.size, 32 ≤ bt s (i : Int))
theorem plain_f (s : ByteArray) (hs : s.size ≤ 60) : faults_plain.f s = some (okName s) ∧ ∃ q e, (∀ k, 9000 ≤ k → mummerref02_Check.f k (Ft.nums s) = some (q, e)) ∧ (e = 0 ∧ (∀ i < s.size, 32 ≤ bt s (i : Int)) ↔ okName s = true) := by
 have hI := nums_InB s
 have hl := Ft.nums_length s
 have hc : conv9to29.f s = some (Ft.nums s) := by unfold conv9to29.f Ft.convF; rw [if_pos (by omega)]
 rcases check_both (Ft.nums s) hI with ⟨rs, _, hr⟩ | ⟨q, e, e0, e1, e2⟩
 ·have hg := hr.good hI (by omega)
  have ck : Sc.checkL (Ft.nums s) = some (((Ft.nums s).length : Int), 0) := Sc.checkL_good hg
  have ix := idx_gr hI hr s.size (by omega)
  rw [str_nums] at ix
  have eq : okName s = decide (∀ i < s.size, 32 ≤ bt s (i : Int)) := by unfold okName; rw [ck]; simp
  have hd : (0 ≤ Lib.idxFunc (fun r => decide (r < 32)) true s) ↔ ¬ ∀ i < s.size, 32 ≤ bt s (i : Int) := by
   unfold Lib.idxFunc
   rw [ix]
   refine ⟨fun ⟨i, _, b, c⟩ h => ?_, fun h => ?_⟩
   ·have := h i (by omega)
    rw [nums_lb s i (by omega)] at c
    omega
   ·refine Classical.byContradiction fun hn => h fun i hi => ?_
    refine Classical.byContradiction fun hlt => hn ⟨i, by omega, by omega, ?_⟩
    rw [nums_lb s i hi]
    omega
  refine ⟨?_, _, 0, fun k hk => hr.check hI (by omega) k hk, ?_⟩
  ·unfold faults_plain.f
   rw [hc, Option.bind_some]
   show (Sc.checkL _).bind _ = _
   rw [ck, Option.bind_some, if_pos rfl]
   unfold strings_ContainsFunc.f
   rw [Option.bind_some, eq]
   congr 1
   by_cases d : ∀ i < s.size, 32 ≤ bt s (i : Int)
   ·rw [decide_eq_true d, decide_eq_false (fun h => (hd.1 h) d)]; rfl
   ·rw [decide_eq_false d, decide_eq_true (hd.2 d)]; rfl
  ·rw [eq, decide_eq_true_eq]
   exact ⟨fun h => h.2, fun h => ⟨rfl, h⟩⟩
 ·have eq : okName s = false := by unfold okName; rw [e1]; simp [e0]
  refine ⟨?_, q, e, e2, ?_⟩
  ·unfold faults_plain.f
   rw [hc, Option.bind_some]
   show (Sc.checkL _).bind _ = _
   rw [e1, Option.bind_some, if_neg e0, eq]
  ·rw [eq]
   exact ⟨fun h => absurd h.1 e0, fun h => by cases h⟩
def errF (n : Int) (x : S41) (i : Int) : Int := if x.f0 < 1 ∨ x.f0 > 999 ∨ x.f1 < 1 ∨ x.f1 > 8 ∨ x.f2.f0 < 0 ∨ x.f2.f0 > x.f2.f1 ∨ x.f2.f1 > n then 7 else if 60 < x.f3.size then 3 else if okName x.f3 = false then 6 else if x.f4 < -1 ∨ i ≤ x.f4 then 4 else 0
def ckL (n : Int) : List S41 → Nat → Int × Int
 | [], _ => (0, 0)
 | x :: r, i => if errF n x i = 0 then ckL n r (i + 1) else ((i : Int), errF n x i)
def chkV (n : Int) (l : List S41) : Int × Int := if l.length > 50 then (0, 3) else ckL n l 0
theorem rdT_drop (l : List S41) (i : Nat) (x : S41) (r : List S41) (h : l.drop i = x :: r) : rd_T41 l (i : Int) = x ∧ l.drop (i + 1) = r ∧ i < l.length := by
 have h1 := congrArg (fun y => y[0]?) h
 simp only [List.getElem?_drop, Nat.add_zero, List.getElem?_cons_zero] at h1
 have h2 := congrArg (List.drop 1) h
 rw [List.drop_drop] at h2
 refine ⟨?_, by simpa using h2, ?_⟩
 ·show l.getD i z41 = x
  rw [List.getD_eq_getElem?_getD, h1]; rfl
 ·rcases Nat.lt_or_ge i l.length with h3 | h3
  ·exact h3
  ·rw [List.getElem?_eq_none h3] at h1; cases h1
theorem ckj1 (n : Int) (l : List S41) (i : Nat) (hi : i ≤ 1000) (x : S41) (b : Bool) (hb : b = true ↔ x.f0 < 1 ∨ x.f0 > 999 ∨ x.f1 < 1 ∨ x.f1 > 8 ∨ x.f2.f0 < 0 ∨ x.f2.f0 > x.f2.f1 ∨ x.f2.f1 > n) (k : Nat) :
  faults_Check.j1 (k + 1) n i l l.length i b x.f0 x.f1 x.f2.f0 x.f2.f1 x.f3 x.f4 = if errF n x i = 0 then faults_Check.l0 k n l l.length ((i + 1 : Nat) : Int) else some ((i : Int), errF n x i) := by
 rw [faults_Check.j1]
 unfold errF
 cases b with
 | true => rw [if_pos rfl, if_pos (c := x.f0 < 1 ∨ _) (hb.1 rfl), if_neg (by decide)]
 | false =>
  rw [if_neg (by decide), if_neg (c := x.f0 < 1 ∨ _) (fun h => by have := hb.2 h; cases this)]
  by_cases c : 60 < x.f3.size
  ·rw [if_pos (by omega), if_pos c, if_neg (by decide)]
  ·rw [if_neg (by omega), if_neg c, (plain_f x.f3 (by omega)).1, Option.bind_some]
   cases okName x.f3 with
   | false => rw [if_neg (by decide), if_pos rfl, if_neg (by decide)]
   | true =>
    rw [if_pos rfl, if_neg (c := true = false) (by decide)]
    by_cases d : x.f4 < -1
    ·rw [if_pos d, if_pos (c := x.f4 < -1 ∨ (i : Int) ≤ x.f4) (.inl d), if_neg (by decide)]
    ·rw [if_neg d]
     by_cases e : x.f4 ≥ (i : Int)
     ·rw [if_pos e, if_pos (c := x.f4 < -1 ∨ (i : Int) ≤ x.f4) (.inr e), if_neg (by decide)]
     ·rw [if_neg e, if_neg (c := x.f4 < -1 ∨ (i : Int) ≤ x.f4) (by omega), if_pos rfl, w64 (by omega) (by omega), show (i : Int) + 1 = ((i + 1 : Nat) : Int) by omega]
theorem ck_l0 (n : Int) (l : List S41) (hl : l.length ≤ 50) : ∀ (r : List S41) (i : Nat), l.drop i = r → ∀ k, 2 * r.length + 3 ≤ k → faults_Check.l0 k n l l.length (i : Int) = some (ckL n r i)
 | [], i, h, k, hk => by
  obtain ⟨k, rfl⟩ : ∃ K, k = K + 1 := ⟨k - 1, by omega⟩
  have : l.length ≤ i := by
   have := congrArg List.length h
   rw [List.length_drop, List.length_nil] at this
   omega
  rw [faults_Check.l0, if_neg (by omega), ckL]
 | x :: r, i, h, k, hk => by
  rw [List.length_cons] at hk
  obtain ⟨k, rfl⟩ : ∃ K, k = K + 1 + 1 := ⟨k - 2, by omega⟩
  obtain ⟨h1, h2, h3⟩ := rdT_drop l i x r h
  have ih := ck_l0 n l hl r (i + 1) h2 k (by omega)
  have g : ∀ b, (b = true ↔ x.f0 < 1 ∨ x.f0 > 999 ∨ x.f1 < 1 ∨ x.f1 > 8 ∨ x.f2.f0 < 0 ∨ x.f2.f0 > x.f2.f1 ∨ x.f2.f1 > n) → faults_Check.j1 (k + 1) n i l l.length i b x.f0 x.f1 x.f2.f0 x.f2.f1 x.f3 x.f4 = some (ckL n (x :: r) i) := fun b hb => by
   rw [ckj1 n l i (by omega) x b hb k, ih, ckL]
   split <;> rfl
  rw [faults_Check.l0, if_pos (by omega), if_pos (by omega), if_pos (by omega), h1]
  split
  ·exact g _ (by simp; omega)
  ·split
   ·exact g _ (by simp; omega)
   ·split
    ·exact g _ (by simp; omega)
    ·split
     ·exact g _ (by simp; omega)
     ·split
      ·exact g _ (by simp; omega)
      ·split
       ·exact g _ (by simp; omega)
       ·exact g _ (by rw [decide_eq_true_eq]; omega)
theorem check_f (n : Int) (l : List S41) (k : Nat) (hk : 200 ≤ k) : faults_Check.f k n l = some (chkV n l) := by
 unfold faults_Check.f chkV
 by_cases c : l.length > 50
 ·rw [if_pos (by omega), if_pos c]
 ·rw [if_neg (by omega), if_neg c]
  exact ck_l0 n l (by omega) l 0 rfl k (by omega)
theorem one_l0 (x : S41) (i : Int) (hs : x.f3.size ≤ 60) : ∀ (d p : Nat), p + d = x.f3.size → ∀ k, d < k → mummerref08_one.l0 k i (p : Int) x.f0 x.f1 x.f2.f0 x.f2.f1 x.f3 x.f4 = some (if ∀ j < x.f3.size, p ≤ j → 32 ≤ bt x.f3 (j : Int) then (if x.f4 < -1 ∨ i ≤ x.f4 then 4 else 0) else 6) := by
 intro d
 induction d with
 | zero =>
  intro p hp k hk
  obtain ⟨k, rfl⟩ : ∃ K, k = K + 1 := ⟨k - 1, by omega⟩
  rw [mummerref08_one.l0, if_neg (by omega), if_pos (c := ∀ j < x.f3.size, p ≤ j → _) (fun j a b => by omega)]
  by_cases c : x.f4 < -1
  ·rw [if_pos c, if_pos (c := x.f4 < -1 ∨ _) (.inl c)]
  ·rw [if_neg c]
   by_cases e : x.f4 ≥ i
   ·rw [if_pos e, if_pos (c := x.f4 < -1 ∨ _) (.inr e)]
   ·rw [if_neg e, if_neg (c := x.f4 < -1 ∨ _) (by omega)]
 | succ d ih =>
  intro p hp k hk
  obtain ⟨k, rfl⟩ : ∃ K, k = K + 1 := ⟨k - 1, by omega⟩
  rw [mummerref08_one.l0, if_pos (by omega), if_pos (by omega)]
  by_cases c : bt x.f3 (p : Int) < 32
  ·rw [if_pos c, if_neg (c := ∀ j < x.f3.size, p ≤ j → _) (fun h => by have := h p (by omega) (Nat.le_refl _); omega)]
  ·have ih' := ih (p + 1) (by omega) k (by omega)
   rw [if_neg c, w64 (by omega) (by omega), show (p : Int) + 1 = ((p + 1 : Nat) : Int) by omega, ih']
   by_cases q : ∀ j < x.f3.size, p + 1 ≤ j → 32 ≤ bt x.f3 (j : Int)
   ·rw [if_pos q, if_pos (c := ∀ j < x.f3.size, p ≤ j → _) (fun j a b => by
     by_cases e : j = p
     ·subst e; omega
     ·exact q j a (by omega))]
   ·rw [if_neg q, if_neg (c := ∀ j < x.f3.size, p ≤ j → _) (fun h => q fun j a b => h j a (by omega))]
theorem one_f (n : Int) (x : S41) (i : Int) (k : Nat) (hk : 10000 ≤ k) : mummerref08_one.f k n x.f0 x.f1 x.f2.f0 x.f2.f1 x.f3 x.f4 i = some (errF n x i) := by
 have g : ∀ b, (b = true ↔ x.f0 < 1 ∨ x.f0 > 999 ∨ x.f1 < 1 ∨ x.f1 > 8 ∨ x.f2.f0 < 0 ∨ x.f2.f0 > x.f2.f1 ∨ x.f2.f1 > n) → mummerref08_one.j0 k i b x.f0 x.f1 x.f2.f0 x.f2.f1 x.f3 x.f4 = some (errF n x i) := fun b hb => by
  obtain ⟨k, rfl⟩ : ∃ K, k = K + 1 := ⟨k - 1, by omega⟩
  rw [mummerref08_one.j0]
  unfold errF
  cases b with
  | true => rw [if_pos rfl, if_pos (c := x.f0 < 1 ∨ _) (hb.1 rfl)]
  | false =>
   rw [if_neg (by decide), if_neg (c := x.f0 < 1 ∨ _) (fun h => by have := hb.2 h; cases this)]
   by_cases c : 60 < x.f3.size
   ·rw [if_pos (by omega), if_pos c]
   ·obtain ⟨_, q, e, h1, h2⟩ := plain_f x.f3 (by omega)
    have hc : conv9to29.f x.f3 = some (Ft.nums x.f3) := by unfold conv9to29.f Ft.convF; rw [if_pos (by omega)]
    rw [if_neg (by omega), if_neg c, hc, Option.bind_some, h1 k (by omega), Option.bind_some]
    have o := one_l0 x i (by omega) x.f3.size 0 (by omega) k (by omega)
    rw [show ((0 : Nat) : Int) = 0 from rfl] at o
    rw [o]
    dsimp only
    by_cases d : okName x.f3 = true
    ·have h3 := h2.2 d
     rw [if_pos h3.1, if_pos (c := ∀ j < x.f3.size, 0 ≤ j → _) (fun j b _ => h3.2 j b), if_neg (c := okName x.f3 = false) (by rw [d]; decide)]
    ·rw [if_pos (c := okName x.f3 = false) (by simpa using d)]
     by_cases e0 : e = 0
     ·rw [if_pos e0, if_neg (c := ∀ j < x.f3.size, 0 ≤ j → _) (fun h => d (h2.1 ⟨e0, fun j b => h j b (Nat.zero_le _)⟩))]
     ·rw [if_neg e0]
 unfold mummerref08_one.f
 split
 ·exact g _ (by simp; omega)
 ·split
  ·exact g _ (by simp; omega)
  ·split
   ·exact g _ (by simp; omega)
   ·split
    ·exact g _ (by simp; omega)
    ·split
     ·exact g _ (by simp; omega)
     ·split
      ·exact g _ (by simp; omega)
      ·exact g _ (by rw [decide_eq_true_eq]; omega)
theorem rck_l0 (n : Int) (l : List S41) (hl : l.length ≤ 50) : ∀ (r : List S41) (i : Nat), l.drop i = r → ∀ k, 10000 + r.length < k → mummerref08_Check.l0 k n l (i : Int) = some (ckL n r i)
 | [], i, h, k, hk => by
  obtain ⟨k, rfl⟩ : ∃ K, k = K + 1 := ⟨k - 1, by omega⟩
  have : l.length ≤ i := by
   have := congrArg List.length h
   rw [List.length_drop, List.length_nil] at this
   omega
  rw [mummerref08_Check.l0, if_neg (by omega), ckL]
 | x :: r, i, h, k, hk => by
  rw [List.length_cons] at hk
  obtain ⟨k, rfl⟩ : ∃ K, k = K + 1 := ⟨k - 1, by omega⟩
  obtain ⟨h1, h2, h3⟩ := rdT_drop l i x r h
  have ih := rck_l0 n l hl r (i + 1) h2 k (by omega)
  rw [mummerref08_Check.l0, if_pos (by omega), if_pos (by omega), h1, one_f n x i k (by omega), Option.bind_some, w64 (by omega) (by omega), show (i : Int) + 1 = ((i + 1 : Nat) : Int) by omega, ih, ckL]
  split <;> rfl
theorem rcheck_f (n : Int) (l : List S41) (k : Nat) (hk : 11000 ≤ k) : mummerref08_Check.f k n l = some (chkV n l) := by
 unfold mummerref08_Check.f chkV
 by_cases c : l.length > 50
 ·rw [if_pos (by omega), if_pos c]
 ·rw [if_neg (by omega), if_neg c]
  exact rck_l0 n l (by omega) l 0 rfl k (by omega)
theorem ckL_ok (n : Int) : ∀ (r : List S41) (i : Nat), (ckL n r i).2 = 0 → ∀ (j : Nat) (x : S41), r[j]? = some x → errF n x ((i + j : Nat) : Int) = 0
 | [], i, h, j, x, hj => by simp at hj
 | y :: r, i, h, j, x, hj => by
  rw [ckL] at h
  by_cases c : errF n y i = 0
  ·rw [if_pos c] at h
   cases j with
   | zero =>
    have : y = x := by simpa using hj
    subst this
    exact c
   | succ j =>
    have := ckL_ok n r (i + 1) h j x (by simpa using hj)
    rwa [show i + 1 + j = i + (j + 1) by omega] at this
  ·rw [if_neg c] at h
   exact absurd h c
theorem chk_ok (n : Int) (l : List S41) (h : (chkV n l).2 = 0) : l.length ≤ 50 ∧ ∀ i : Nat, i < l.length → errF n (rd_T41 l (i : Int)) (i : Int) = 0 := by
 unfold chkV at h
 by_cases c : l.length > 50
 ·rw [if_pos c] at h; cases h
 ·rw [if_neg c] at h
  refine ⟨by omega, fun i hi => ?_⟩
  have := ckL_ok n l 0 h i (l[i]) (List.getElem?_eq_getElem hi)
  rw [Nat.zero_add] at this
  have e : rd_T41 l (i : Int) = l[i] := by
   show l.getD i z41 = _
   rw [List.getD_eq_getElem?_getD, List.getElem?_eq_getElem hi]; rfl
  rw [e]; exact this
theorem errF_ok {n : Int} {x : S41} {i : Int} (h : errF n x i = 0) : (1 ≤ x.f0 ∧ x.f0 ≤ 999 ∧ 1 ≤ x.f1 ∧ x.f1 ≤ 8 ∧ 0 ≤ x.f2.f0 ∧ x.f2.f0 ≤ x.f2.f1 ∧ x.f2.f1 ≤ n) ∧ x.f3.size ≤ 60 ∧ okName x.f3 = true ∧ -1 ≤ x.f4 ∧ x.f4 < i := by
 unfold errF at h
 by_cases c1 : x.f0 < 1 ∨ x.f0 > 999 ∨ x.f1 < 1 ∨ x.f1 > 8 ∨ x.f2.f0 < 0 ∨ x.f2.f0 > x.f2.f1 ∨ x.f2.f1 > n
 ·rw [if_pos c1] at h; cases h
 ·rw [if_neg c1] at h
  by_cases c2 : 60 < x.f3.size
  ·rw [if_pos c2] at h; cases h
  ·rw [if_neg c2] at h
   by_cases c3 : okName x.f3 = false
   ·rw [if_pos c3] at h; cases h
   ·rw [if_neg c3] at h
    by_cases c4 : x.f4 < -1 ∨ i ≤ x.f4
    ·rw [if_pos c4] at h; cases h
    ·exact ⟨by omega, by omega, by simpa using c3, by omega⟩
theorem chk_downs {n : Int} {l : List S41} (h : (chkV n l).2 = 0) : downsB l = true := by
 unfold downsB
 rw [List.all_eq_true]
 intro i hi
 have := errF_ok ((chk_ok n l h).2 i (List.mem_range.1 hi))
 exact decide_eq_true ⟨this.2.2.2.1, this.2.2.2.2⟩
theorem far_l0 (l : List S41) (hl : l.length ≤ 60) : ∀ (d i : Nat), i + d = l.length → ∀ k, d < k → ∃ b, mummerlaw08_far.l0 k l (i : Int) = some b := by
 intro d
 induction d with
 | zero =>
  intro i hi k hk
  obtain ⟨k, rfl⟩ : ∃ K, k = K + 1 := ⟨k - 1, by omega⟩
  rw [mummerlaw08_far.l0, if_neg (by omega)]
  exact ⟨_, rfl⟩
 | succ d ih =>
  intro i hi k hk
  obtain ⟨k, rfl⟩ : ∃ K, k = K + 1 := ⟨k - 1, by omega⟩
  rw [mummerlaw08_far.l0, if_pos (by omega), if_pos (by omega)]
  split
  ·exact ⟨_, rfl⟩
  ·rw [w64 (by omega) (by omega), show (i : Int) + 1 = ((i + 1 : Nat) : Int) by omega]
   exact ih (i + 1) (by omega) k (by omega)
theorem far_f (l : List S41) (k : Nat) (hk : 100 ≤ k) : ∃ b, mummerlaw08_far.f k l = some b ∧ (b = false → l.length ≤ 60) := by
 unfold mummerlaw08_far.f
 by_cases c : l.length > 60
 ·rw [if_pos (by omega)]
  exact ⟨true, rfl, fun h => by cases h⟩
 ·rw [if_neg (by omega)]
  obtain ⟨b, e⟩ := far_l0 l (by omega) l.length 0 (by omega) k (by omega)
  exact ⟨b, e, fun _ => by omega⟩
end Go.Proofs.YtdjkdlbokepoaaaGreatDoor.P
