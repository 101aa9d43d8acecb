import Derived.Test.YtciaocdpojnmcaaDoorKS36
import Derived.Test.YtciaocdpojnmcaaDoorKS33
import Derived.Test.YtciaocdpojnmcaaDoorKS34
namespace Go.Proofs.YtciaocdpojnmcaaDoor.P
open Go.RowKit Go.Proofs.YtciaocdpojnmcaaDoorW.PrintWords Go.Proofs.YtciaocdpojnmcaaDoorW.PrintLast
set_option linter.unusedVariables false
set_option linter.unusedSimpArgs false
set_option maxRecDepth 20000
theorem bt_byte (s : ByteArray) (j : Nat) (h : j < s.size) (c : UInt8) : s.data.toList[j]? = some c ↔ bt s j = (c.toNat : Int) := by
  have hl : j < s.data.toList.length := by rw [← Lib.size_eq]; exact h
  rw [List.getElem?_eq_getElem hl, ← bt_get s j h]
  have : s.data.toList[j] = s[j] := rfl
  rw [this]
  constructor
  · intro e; rw [Option.some.inj e]
  · intro e
    have : (s[j]).toNat = c.toNat := by exact_mod_cast e
    rw [UInt8.toNat_inj.1 this]
/-- How many bytes stand ahead of the first space. -/
def mlen (s : ByteArray) : Nat := if 0 ≤ Lib.indexByte s.data.toList 32 then (Lib.indexByte s.data.toList 32).toNat else s.size
theorem mlen_facts (s : ByteArray) : mlen s ≤ s.size ∧ (∀ j, j < mlen s → bt s j ≠ 32) ∧ (mlen s < s.size → bt s (mlen s) = 32) := by
  unfold mlen
  split
  · rename_i h
    have hl := Wd.ib_lt s 32 h
    obtain ⟨o, ho⟩ : ∃ o : Nat, Lib.indexByte s.data.toList 32 = (o : Int) := ⟨_, (Int.toNat_of_nonneg h).symm⟩
    obtain ⟨h1, h2⟩ := Lib.indexByte_some ho
    rw [ho] at hl ⊢
    simp only [Int.toNat_natCast]
    refine ⟨by omega, fun j hj e => h2 j hj ((bt_byte s j (by omega) 32).2 e), fun _ => (bt_byte s o (by omega) 32).1 h1⟩
  · rename_i h
    have hn : Lib.indexByte s.data.toList 32 = -1 := by have := Lib.indexByte_ge s.data.toList 32; omega
    exact ⟨Nat.le_refl _, fun j hj e => Lib.indexByte_none hn j ((bt_byte s j hj 32).2 e), fun h => absurd h (Nat.lt_irrefl _)⟩
theorem ext_all (s : ByteArray) : s.extract 0 s.size = s := by
  apply ByteArray.ext
  simp
theorem ahead_f (s : ByteArray) : Wd.ahead s 32 = s.extract 0 (mlen s) := by
  unfold Wd.ahead mlen
  split
  · rfl
  · rw [ext_all]
theorem ahead_size (s : ByteArray) : (Wd.ahead s 32).size = mlen s := by
  have := (mlen_facts s).1
  rw [ahead_f, ByteArray.size_extract]; omega
/-- Whether a text is bare, from p on. -/
def bareL (s : ByteArray) : Nat → Nat → Bool
  | 0, _ => decide (s.size ≠ 0)
  | g + 1, p => if isP (bt s p) = true then (if bt s p = 32 then false else bareL s g (p + 1)) else false
theorem wBare_l (s : ByteArray) (hs : s.size ≤ 1000000) : ∀ (g p k : Nat), p + g = s.size → g < k → words_isBare.l0 k s (s.size : Int) (p : Int) = some (bareL s g p) := by
  intro g
  induction g with
  | zero =>
    intro p k hp hk
    obtain ⟨k, rfl⟩ : ∃ k', k = k' + 1 := ⟨k - 1, by omega⟩
    rw [words_isBare.l0, if_neg (by omega), bareL]
    congr 1
    by_cases h : s.size = 0
    · rw [(toList_nil s).2 h]; simp [h]
    · have h2 : s.toList ≠ [] := fun e => h ((toList_nil s).1 e)
      simp [h, h2]
  | succ g ih =>
    intro p k hp hk
    obtain ⟨k, rfl⟩ : ∃ k', k = k' + 1 := ⟨k - 1, by omega⟩
    have w1 : wrap64 ((p : Int) + 1) = ((p + 1 : Nat) : Int) := by rw [w64 (by omega) (by omega)]; omega
    rw [words_isBare.l0, if_pos (by omega), if_pos (by omega), if_pos (by omega), isPlain_f, bareL]
    simp only [Option.bind_some]
    rw [w1, ih (p + 1) k (by omega) (by omega)]
    split
    · split <;> rfl
    · rfl
theorem rBare_l (s : ByteArray) (hs : s.size ≤ 1000000) : ∀ (g p k : Nat), p + g = s.size → g < k → mummerref01_bare.l0 k s (p : Int) = some (bareL s g p) := by
  intro g
  induction g with
  | zero =>
    intro p k hp hk
    obtain ⟨k, rfl⟩ : ∃ k', k = k' + 1 := ⟨k - 1, by omega⟩
    rw [mummerref01_bare.l0, if_neg (by omega), bareL]
    congr 1
    exact decide_eq_decide.2 (by omega)
  | succ g ih =>
    intro p k hp hk
    obtain ⟨k, rfl⟩ : ∃ k', k = k' + 1 := ⟨k - 1, by omega⟩
    have w1 : wrap64 ((p : Int) + 1) = ((p + 1 : Nat) : Int) := by rw [w64 (by omega) (by omega)]; omega
    rw [mummerref01_bare.l0, if_pos (by omega), if_pos (by omega), plain_f, bareL]
    simp only [Option.bind_some]
    rw [w1, ih (p + 1) k (by omega) (by omega)]
    split
    · split <;> rfl
    · rfl
def bareS (s : ByteArray) : Bool := bareL s s.size 0
theorem isBare_f (s : ByteArray) (hs : s.size ≤ 1000000) (k : Nat) (hk : s.size < k) : words_isBare.f k s = some (bareS s) := wBare_l s hs s.size 0 k (by omega) hk
theorem bare_f (s : ByteArray) (hs : s.size ≤ 1000000) (k : Nat) (hk : s.size < k) : mummerref01_bare.f k s = some (bareS s) := rBare_l s hs s.size 0 k (by omega) hk
theorem bareS_pos {s : ByteArray} (h : bareS s = true) : 1 ≤ s.size := by
  unfold bareS at h
  cases hs : s.size with
  | zero => rw [hs] at h; simp [bareL, hs] at h
  | succ n => omega
/-- What the reference answers if what follows has the fields rs. -/
def finS (acc : List S43) (long : Bool) (rs : List (S43 × Bool)) : List S43 × Int := if rs.all (fun x => x.2) = true then (if (long || rs.any (fun x => decide (2000 < x.1.f0.size))) = true ∨ 64 < (acc ++ rs.map (fun x => x.1)).length then ([], 3) else (acc ++ rs.map (fun x => x.1), 0)) else ([], 6)
theorem finS_cons (acc : List S43) (long : Bool) (f : S43) (rs : List (S43 × Bool)) : finS (acc ++ [f]) (long || decide (2000 < f.f0.size)) rs = finS acc long ((f, true) :: rs) := by
  unfold finS
  simp only [List.all_cons, Bool.true_and, List.any_cons, List.map_cons, Bool.or_assoc, List.append_assoc, List.singleton_append]
theorem finS_bad (acc : List S43) (long : Bool) : finS acc long [(z43, false)] = ([], 6) := rfl
theorem finS_one (acc : List S43) (long : Bool) (f : S43) : finS acc long [(f, true)] = if (long || decide (2000 < f.f0.size)) = true then ([], 3) else (if 64 < (acc ++ [f]).length then ([], 3) else (acc ++ [f], 0)) := by
  unfold finS
  rw [if_pos (show ([(f, true)] : List (S43 × Bool)).all (fun x => x.2) = true from rfl)]
  simp only [List.any_cons, List.any_nil, Bool.or_false, List.map_cons, List.map_nil]
  by_cases hl : (long || decide (2000 < f.f0.size)) = true
  · rw [if_pos hl, if_pos (.inl hl)]
  · rw [if_neg hl]
    by_cases h64 : 64 < (acc ++ [f]).length
    · rw [if_pos h64, if_pos (.inr h64)]
    · rw [if_neg h64, if_neg (fun h => h.elim hl h64)]
theorem split_j3 (a : ByteArray) (hs : a.size ≤ 9000) (p n k : Nat) (acc : List S43) (l : Bool) (hn : p + n ≤ a.size) : mummerref01_Split.j3 (k + 1) a acc l (p : Int) (n : Int) = if (p : Int) + n = (a.size : Int) then (if l = true then some ([], 3) else (if ((acc.length : Nat) : Int) > 64 then some ([], 3) else some (acc, 0))) else (if bt a ((p + n : Nat) : Int) = 32 then mummerref01_Split.l0 k a acc l ((p + n + 1 : Nat) : Int) else some ([], 6)) := by
  rw [mummerref01_Split.j3, w64 (n := (p : Int) + n) (by omega) (by omega)]
  by_cases he : (p : Int) + n = (a.size : Int)
  · rw [if_pos he, if_pos he]
  · rw [if_neg he, if_neg he, if_pos (by omega), if_pos (by omega), w64 (n := (p : Int) + n + 1) (by omega) (by omega)]
    rw [show (p : Int) + n = ((p + n : Nat) : Int) by omega, show ((p + n : Nat) : Int) + 1 = ((p + n + 1 : Nat) : Int) by omega]
theorem split_jj (a : ByteArray) (p n : Int) (k : Nat) (acc : List S43) (long : Bool) (s : ByteArray) (q : Bool) (hacc : acc.length ≤ 9000) : mummerref01_Split.j2 (k + 1) a acc long p n s q = mummerref01_Split.j3 k a (acc ++ [(⟨s, q⟩ : S43)]) (long || decide (2000 < s.size)) p n := by
  have hd : decide ((s.size : Int) > 2000) = decide (2000 < s.size) := decide_eq_decide.2 (by omega)
  rw [mummerref01_Split.j2, if_pos (show acc.length < 5864062014805 by omega), Option.bind_some, hd]
  cases long with
  | true => rw [if_pos rfl, Bool.true_or]
  | false => rw [if_neg Bool.false_ne_true, Bool.false_or]
theorem split_j2 (a : ByteArray) (hs : a.size ≤ 9000) (G : ByteArray → Option (List (S43 × Bool))) (p n k : Nat) (acc : List S43) (long : Bool) (s : ByteArray) (q : Bool) (hn : p + n ≤ a.size) (hacc : acc.length ≤ p)
    (hG : ∀ (k' : Nat) (acc' : List S43) (long' : Bool), k' + 2 = k → acc'.length ≤ p + 1 → p + n + 1 ≤ a.size → ∃ rs, G (a.extract (p + n + 1) a.size) = some rs ∧ mummerref01_Split.l0 k' a acc' long' ((p + n + 1 : Nat) : Int) = some (finS acc' long' rs)) (hk : 2 ≤ k) :
    ∃ rs, Wd.afterG G (a.extract p a.size) ⟨s, q⟩ (n : Int) = some rs ∧ mummerref01_Split.j2 k a acc long (p : Int) (n : Int) s q = some (finS acc long rs) := by
  obtain ⟨k, rfl⟩ : ∃ k', k = k' + 2 := ⟨k - 2, by omega⟩
  have hR : (a.extract p a.size).size = a.size - p := by rw [ByteArray.size_extract]; omega
  have hr : (a.extract p a.size).extract n (a.extract p a.size).size = a.extract (p + n) a.size := by
    rw [ByteArray.extract_extract, hR]; congr 1; omega
  have hr1 : (a.extract (p + n) a.size).extract 1 (a.extract (p + n) a.size).size = a.extract (p + n + 1) a.size := by
    rw [ByteArray.extract_extract, ByteArray.size_extract]; congr 1; omega
  have hb0 : bt (a.extract (p + n) a.size) 0 = bt a ((p + n : Nat) : Int) := bt_tail a (p + n) 0
  have hz : (a.extract (p + n) a.size).toList = [] ↔ p + n = a.size := by rw [toList_nil, ByteArray.size_extract]; omega
  unfold Wd.afterG
  rw [if_pos ⟨by omega, by rw [hR]; omega⟩, Int.toNat_natCast, hr, hr1, hb0]
  rw [split_jj a p n (k + 1) acc long s q (by omega), split_j3 a hs p n k _ _ hn]
  by_cases he : p + n = a.size
  · rw [if_pos (hz.2 he), if_pos (show (p : Int) + n = (a.size : Int) by omega)]
    refine ⟨_, rfl, ?_⟩
    rw [finS_one]
    by_cases hl : (long || decide (2000 < s.size)) = true
    · rw [if_pos hl, if_pos hl]
    · rw [if_neg hl, if_neg hl]
      by_cases h64 : 64 < (acc ++ [(⟨s, q⟩ : S43)]).length
      · rw [if_pos (show (((acc ++ [(⟨s, q⟩ : S43)]).length : Nat) : Int) > 64 by omega), if_pos h64]
      · rw [if_neg (show ¬ (((acc ++ [(⟨s, q⟩ : S43)]).length : Nat) : Int) > 64 by omega), if_neg h64]
  · rw [if_neg (fun h => he (hz.1 h)), if_neg (show ¬ ((p : Int) + n = (a.size : Int)) by omega)]
    by_cases h32 : bt a ((p + n : Nat) : Int) = 32
    · rw [if_pos h32, if_pos h32]
      obtain ⟨rs, h1, h2⟩ := hG k (acc ++ [(⟨s, q⟩ : S43)]) (long || decide (2000 < s.size)) rfl (by simp; omega) (by omega)
      rw [h1, h2]
      exact ⟨_, rfl, by rw [finS_cons acc long ⟨s, q⟩ rs]⟩
    · rw [if_neg h32, if_neg h32]
      exact ⟨_, rfl, by rw [finS_bad]⟩
theorem split_l1 (a : ByteArray) (hs : a.size ≤ 9000) (p : Nat) (hp : p ≤ a.size) (acc : List S43) (long : Bool) : ∀ (d x k : Nat), x + d = mlen (a.extract p a.size) → a.size + 2 ≤ k - d → d < k →
    mummerref01_Split.l1 k a acc long (p : Int) (x : Int) = if bareS (Wd.ahead (a.extract p a.size) 32) = true then mummerref01_Split.j2 (k - d - 1) a acc long (p : Int) ((mlen (a.extract p a.size) : Nat) : Int) (Wd.ahead (a.extract p a.size) 32) false else some ([], 6) := by
  have hR : (a.extract p a.size).size = a.size - p := by rw [ByteArray.size_extract]; omega
  obtain ⟨m1, m2, m3⟩ := mlen_facts (a.extract p a.size)
  have hah : Wd.ahead (a.extract p a.size) 32 = a.extract p (p + mlen (a.extract p a.size)) := by
    rw [ahead_f, ByteArray.extract_extract]
    congr 1
    omega
  intro d
  induction d with
  | zero =>
    intro x k hx hk hd
    obtain ⟨k, rfl⟩ : ∃ k', k = k' + 1 := ⟨k - 1, by omega⟩
    have hxm : x = mlen (a.extract p a.size) := by omega
    subst hxm
    have hsz : (Wd.ahead (a.extract p a.size) 32).size ≤ a.size := by rw [ahead_size]; omega
    rw [mummerref01_Split.l1, w64 (n := (p : Int) + _) (by omega) (by omega)]
    have hex : a.extract ((p : Int)).toNat ((p : Int) + ((mlen (a.extract p a.size) : Nat) : Int)).toNat = Wd.ahead (a.extract p a.size) 32 := by
      rw [hah, Int.toNat_natCast]; congr 1
    rw [hex, bare_f _ (by omega) k (by omega)]
    simp only [Option.bind_some]
    by_cases hlt : (p : Int) + ((mlen (a.extract p a.size) : Nat) : Int) < (a.size : Int)
    · have hb := m3 (by omega)
      rw [bt_tail] at hb
      rw [if_pos hlt, if_pos (by omega), if_pos (by rw [← hb]; congr 1), if_pos (by omega), if_pos (by omega), if_pos (by omega)]
      rfl
    · rw [if_neg hlt, if_pos (by omega), if_pos (by omega), if_pos (by omega)]
      rfl
  | succ d ih =>
    intro x k hx hk hd
    obtain ⟨k, rfl⟩ : ∃ k', k = k' + 1 := ⟨k - 1, by omega⟩
    have hb := m2 x (by omega)
    rw [bt_tail] at hb
    have w1 : wrap64 ((x : Int) + 1) = ((x + 1 : Nat) : Int) := by rw [w64 (by omega) (by omega)]; omega
    rw [mummerref01_Split.l1, w64 (n := (p : Int) + _) (by omega) (by omega), if_pos (by omega), if_pos (by omega), if_neg (by rw [show (p : Int) + x = ((p + x : Nat) : Int) by omega]; exact hb), w1, ih (x + 1) k (by omega) (by omega) (by omega)]
    rw [show k + 1 - (d + 1) - 1 = k - d - 1 by omega]
theorem split_ref (a : ByteArray) (hs : a.size ≤ 9000) : ∀ (g p k : Nat) (acc : List S43) (long : Bool), a.size - p < g → 600 * (a.size + 2) + 8 * g + (a.size - p) ≤ k → p ≤ a.size → acc.length ≤ p →
    ∃ rs, Wd.fieldsP (a.size + 10) g (a.extract p a.size) = some rs ∧ mummerref01_Split.l0 k a acc long (p : Int) = some (finS acc long rs) := by
  intro g
  induction g with
  | zero => intro p k acc long h; omega
  | succ g ih =>
    intro p k acc long hg hk hp hacc
    obtain ⟨k, rfl⟩ : ∃ k', k = k' + 1 := ⟨k - 1, by omega⟩
    have hR : (a.extract p a.size).size = a.size - p := by rw [ByteArray.size_extract]; omega
    have hu := unq_le (a.extract p a.size)
    rw [mummerref01_Split.l0, if_pos (by omega), if_pos (by omega), Int.toNat_natCast, quoted_f _ (by omega) k (by omega)]
    simp only [Option.bind_some]
    rw [Wd.fieldsP]
    unfold Wd.fieldOf
    rw [unquote_f _ (by omega) _ (by omega)]
    simp only [Option.bind_some]
    by_cases h0 : (unq (a.extract p a.size)).2 = 0
    · rw [if_pos h0, if_neg (by omega), if_pos (by omega), isBare_f _ (by rw [ahead_size]; have := (mlen_facts (a.extract p a.size)).1; omega) _ (by rw [ahead_size]; have := (mlen_facts (a.extract p a.size)).1; omega)]
      simp only [Option.bind_some]
      have hm := (mlen_facts (a.extract p a.size)).1
      rw [h0, show (0 : Int) = ((0 : Nat) : Int) from rfl, split_l1 a hs p hp acc long (mlen (a.extract p a.size)) 0 k (by omega) (by omega) (by omega)]
      by_cases hb : bareS (Wd.ahead (a.extract p a.size) 32) = true
      · rw [if_pos hb, if_pos hb]
        simp only [Option.bind_some]
        have h1 := bareS_pos hb
        rw [ahead_size] at h1 ⊢
        refine split_j2 a hs (Wd.fieldsP (a.size + 10) g) p (mlen (a.extract p a.size)) _ acc long (Wd.ahead (a.extract p a.size) 32) false (by omega) hacc (fun k' acc' long' hk' hacc' hle => ?_) (by omega)
        exact ih (p + mlen (a.extract p a.size) + 1) k' acc' long' (by omega) (by omega) hle (by omega)
      · rw [if_neg hb, if_neg hb]
        exact ⟨_, rfl, by rw [finS_bad]⟩
    · rw [if_neg h0, if_pos (by omega)]
      simp only [Option.bind_some]
      obtain ⟨n, hn⟩ : ∃ n : Nat, (unq (a.extract p a.size)).2 = (n : Int) := ⟨_, (Int.toNat_of_nonneg hu.1).symm⟩
      rw [hn] at hu ⊢
      refine split_j2 a hs (Wd.fieldsP (a.size + 10) g) p n k acc long (unq (a.extract p a.size)).1 true (by omega) hacc (fun k' acc' long' hk' hacc' hle => ?_) (by omega)
      exact ih (p + n + 1) k' acc' long' (by omega) (by omega) hle (by omega)
theorem splitR_fin (rs : List (S43 × Bool)) : Wd.splitR rs = finS [] false rs := by
  unfold Wd.splitR finS
  simp only [Bool.false_or, List.nil_append, List.length_map]
theorem splits_same (a : ByteArray) (hs : a.size ≤ 3000 ∨ 8192 < a.size ∧ a.size ≤ 9000) (k : Nat) (hk : 600 * (a.size + 2) + 8 * (a.size + 10) + a.size ≤ k) : ∃ r, words_Split.f a = some r ∧ mummerref01_Split.f k a = some r := by
  unfold words_Split.f mummerref01_Split.f
  by_cases h1 : 8192 < a.size
  · rw [if_pos h1, if_pos (show (a.size : Int) > 8192 by omega)]; exact ⟨_, rfl, rfl⟩
  · rw [if_neg h1, if_neg (show ¬ (a.size : Int) > 8192 by omega)]
    by_cases h2 : a.toList = []
    · rw [if_pos h2, if_pos h2]; exact ⟨_, rfl, rfl⟩
    · rw [if_neg h2, if_neg h2]
      obtain ⟨rs, e1, e2⟩ := split_ref a (by omega) (a.size + 10) 0 k [] false (by omega) (by omega) (by omega) (Nat.zero_le _)
      rw [ext_all] at e1
      rw [e1]
      exact ⟨_, rfl, by rw [show (0 : Int) = ((0 : Nat) : Int) from rfl, e2, splitR_fin]⟩
theorem same_l (l : List S43) (hl : l.length ≤ 1000000) : ∀ (g p k : Nat), p + g = l.length → g < k → mummerref01_Same.l0 k l l (p : Int) = some true := by
  intro g
  induction g with
  | zero =>
    intro p k hp hk
    obtain ⟨k, rfl⟩ : ∃ k', k = k' + 1 := ⟨k - 1, by omega⟩
    rw [mummerref01_Same.l0, if_neg (by omega)]
  | succ g ih =>
    intro p k hp hk
    obtain ⟨k, rfl⟩ : ∃ k', k = k' + 1 := ⟨k - 1, by omega⟩
    have w1 : wrap64 ((p : Int) + 1) = ((p + 1 : Nat) : Int) := by rw [w64 (by omega) (by omega)]; omega
    rw [mummerref01_Same.l0, if_pos (by omega), if_pos (by omega), if_pos (by omega), if_neg (by simp), w1]
    exact ih (p + 1) k (by omega) (by omega)
theorem same_f (l : List S43) (hl : l.length ≤ 1000000) (k : Nat) (hk : l.length < k) : mummerref01_Same.f k l l = some true := by
  unfold mummerref01_Same.f
  rw [if_pos rfl]
  exact same_l l hl l.length 0 k (by omega) hk
theorem finS_len (acc : List S43) (long : Bool) (rs : List (S43 × Bool)) : (finS acc long rs).1.length ≤ 64 := by
  unfold finS
  split
  · split
    · simp
    · rename_i h
      exact Nat.not_lt.1 (fun h2 => h (.inr h2))
  · simp
theorem split_len {a : ByteArray} {r : List S43 × Int} (h : words_Split.f a = some r) : r.1.length ≤ 64 := by
  unfold words_Split.f at h
  split at h
  · cases h; simp
  · split at h
    · cases h; simp
    · obtain ⟨rs, _, rfl⟩ := Option.map_eq_some_iff.1 h
      rw [splitR_fin]
      exact finS_len _ _ _
theorem law_splits (a0 : ByteArray) : ∃ k, mummerlaw01_WordsSplits.f k a0 = some true := by
  have easy : ∀ k, 60 ≤ k → mummerlaw01_WordsSplits.j0 (k + 1) a0 true = some true := by
    intro k hk
    rw [mummerlaw01_WordsSplits.j0, if_pos rfl, shown_f k hk]; rfl
  have main : (a0.size ≤ 3000 ∨ 8192 < a0.size ∧ a0.size ≤ 9000) → ∃ k, mummerlaw01_WordsSplits.j0 k a0 false = some true := by
    intro h
    obtain ⟨r, h1, h2⟩ := splits_same a0 h (600 * (a0.size + 2) + 8 * (a0.size + 10) + a0.size) (Nat.le_refl _)
    refine ⟨600 * (a0.size + 2) + 8 * (a0.size + 10) + a0.size + 1, ?_⟩
    have hl := split_len h1
    rw [mummerlaw01_WordsSplits.j0, if_neg (by decide), h1]
    simp only [Option.bind_some]
    rw [h2]
    simp only [Option.bind_some]
    rw [same_f _ (by omega) _ (by omega)]
    simp only [Option.bind_some]
    rw [if_pos trivial, if_pos trivial, shown_f _ (by omega)]; rfl
  by_cases h1 : a0.size ≤ 3000
  · obtain ⟨k, hk⟩ := main (.inl h1)
    refine ⟨k, ?_⟩
    unfold mummerlaw01_WordsSplits.f
    rw [if_neg (by omega), decide_eq_false (by omega)]
    exact hk
  · by_cases h2 : a0.size ≤ 8192
    · refine ⟨61, ?_⟩
      unfold mummerlaw01_WordsSplits.f
      rw [if_pos (by omega), if_pos (by omega)]
      exact easy 60 (Nat.le_refl _)
    · by_cases h3 : a0.size ≤ 9000
      · obtain ⟨k, hk⟩ := main (.inr ⟨by omega, h3⟩)
        refine ⟨k, ?_⟩
        unfold mummerlaw01_WordsSplits.f
        rw [if_pos (by omega), if_neg (by omega), decide_eq_false (by omega)]
        exact hk
      · refine ⟨61, ?_⟩
        unfold mummerlaw01_WordsSplits.f
        rw [if_pos (by omega), if_neg (by omega), decide_eq_true (by omega)]
        exact easy 60 (Nat.le_refl _)
end Go.Proofs.YtciaocdpojnmcaaDoor.P
