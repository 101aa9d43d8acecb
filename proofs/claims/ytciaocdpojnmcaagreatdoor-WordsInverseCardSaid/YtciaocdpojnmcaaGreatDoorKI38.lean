import Derived.Test.YtciaocdpojnmcaaGreatDoorKI34
namespace Go.Proofs.YtciaocdpojnmcaaGreatDoor.P
open Go.RowKit Go.Proofs.YtciaocdpojnmcaaGreatDoorW.PrintWords Go.Proofs.YtciaocdpojnmcaaGreatDoorW.PrintLast
set_option linter.unusedVariables false
set_option linter.unusedSimpArgs false
set_option maxRecDepth 20000
theorem shown60 : mummerlaw01_shown.f 60 = some true := by decide +kernel
theorem shown_f (k : Nat) (h : 60 ≤ k) : mummerlaw01_shown.f k = some true := by
  induction h with
  | refl => exact shown60
  | step _ ih => exact mummerlaw01_shown.mono _ _ ih
theorem w64 {n : Int} (h : -9223372036854775808 ≤ n) (h' : n ≤ 9223372036854775807) : wrap64 n = n := by unfold wrap64; omega
/-- A digit of base 16. -/
def hx (n : Int) : Int := if n < 10 then 48 + n else 87 + n
/-- A byte's form between quotes. -/
def E (c : Int) : List Int := if 32 ≤ c ∧ c ≤ 126 ∧ c ≠ 34 ∧ c ≠ 92 then [c] else if c = 34 then [92, 34] else if c = 92 then [92, 92] else if c = 10 then [92, 110] else if c = 13 then [92, 114] else if c = 9 then [92, 116] else [92, 120, hx (c / 16), hx (c % 16)]
theorem all256 {p : Nat → Bool} (h : (List.range 256).all p = true) (c : Int) (h0 : 0 ≤ c) (h1 : c < 256) : p c.toNat = true := List.all_eq_true.1 h c.toNat (List.mem_range.2 (by omega))
def isP (c : Int) : Bool := decide (32 ≤ c ∧ c ≤ 126 ∧ c ≠ 34 ∧ c ≠ 92)
theorem isPlain_f (c : Int) : words_isPlain.f c = some (isP c) := by
  unfold words_isPlain.f isP
  by_cases h1 : c ≥ 32
  · rw [if_pos h1]
    by_cases h2 : c ≤ 126
    · rw [if_pos h2]
      by_cases h3 : c = 34
      · rw [if_pos h3, decide_eq_false (by omega)]
      · rw [if_neg h3]
        by_cases h4 : c = 92
        · rw [decide_eq_false (by omega), h4]; rfl
        · rw [decide_eq_true (by omega)]; simp [h4]
    · rw [if_neg h2, decide_eq_false (by omega)]
  · rw [if_neg h1, decide_eq_false (by omega)]
def hxV (c : Int) : Int := if 48 ≤ c ∧ c ≤ 57 then c - 48 else if 97 ≤ c ∧ c ≤ 102 then c - 87 else -1
theorem hexV_all : (List.range 256).all (fun n => decide (Wd.hexV (UInt8.ofNat n) = hxV n)) = true := by decide +kernel
theorem hexV_f (b : UInt8) : Wd.hexV b = hxV (b.toNat : Int) := by
  have h : b.toNat < 256 := UInt8.toNat_lt b
  have := of_decide_eq_true (List.all_eq_true.1 hexV_all b.toNat (List.mem_range.2 h))
  rwa [UInt8.ofNat_toNat] at this
theorem hexC_all : (List.range 16).all (fun h => (List.range 16).all (fun l => decide (Wd.hexC h l = h * 16 + l))) = true := by decide +kernel
theorem hexC_f (h l : Int) (h0 : 0 ≤ h) (h1 : h < 16) (l0 : 0 ≤ l) (l1 : l < 16) : Wd.hexC h l = h * 16 + l := by
  have := of_decide_eq_true (List.all_eq_true.1 (List.all_eq_true.1 hexC_all h.toNat (List.mem_range.2 (by omega))) l.toNat (List.mem_range.2 (by omega)))
  rwa [Int.toNat_of_nonneg h0, Int.toNat_of_nonneg l0] at this
/-- words.unescape by the length and the first three bytes. -/
def unI (n : Nat) (c0 c1 c2 : Int) : Int × Int :=
  if 0 < n then (if c0 = 34 then (34, 1) else if c0 = 92 then (92, 1) else if c0 = 110 then (10, 1) else if c0 = 114 then (13, 1) else if c0 = 116 then (9, 1)
    else if c0 = 120 then (if 3 ≤ n then Wd.hexR (hxV c1) (hxV c2) else (0, 0)) else (0, 0)) else (0, 0)
theorem bt_get (s : ByteArray) (i : Nat) (h : i < s.size) : ((s[i]'h).toNat : Int) = bt s i := bt_at s i h
theorem unescP_f (s : ByteArray) : Wd.unescP s = unI s.size (bt s 0) (bt s 1) (bt s 2) := by
  unfold Wd.unescP unI
  by_cases h : 0 < s.size
  · rw [dif_pos h, if_pos h]
    have e0 := bt_get s 0 h
    simp only [Int.natCast_zero] at e0
    have q : ∀ n : Nat, ((s[0]'h).toNat = n) = (bt s 0 = (n : Int)) := fun n => by rw [← e0]; exact propext ⟨fun h => by rw [h], fun h => by exact_mod_cast h⟩
    simp only [q]
    by_cases h3 : 3 ≤ s.size
    · rw [dif_pos h3, if_pos h3, hexV_f, hexV_f, bt_get s 1 (by omega), bt_get s 2 (by omega)]; rfl
    · rw [dif_neg h3, if_neg h3]; rfl
  · rw [dif_neg h, if_neg h]
/-- One step of words.unquote: the byte, and how many bytes stand for it; m: how many bytes there are. -/
def stepI (m : Nat) (c0 c1 c2 c3 : Int) : Option (Int × Nat) :=
  if c0 = 92 then (if (unI (m - 1) c1 c2 c3).2 = 0 then none else some ((unI (m - 1) c1 c2 c3).1, (unI (m - 1) c1 c2 c3).2.toNat + 1)) else if isP c0 = true then some (c0, 1) else none
theorem hx_V (n : Int) (h0 : 0 ≤ n) (h1 : n < 16) : hxV (hx n) = n := by
  unfold hx hxV
  split
  · rw [if_pos (by omega)]; omega
  · rw [if_neg (by omega), if_pos (by omega)]; omega
theorem hxV_x (c : Int) (h : 0 ≤ hxV c) : hxV c < 16 ∧ hx (hxV c) = c := by
  unfold hxV at h ⊢
  split
  · unfold hx; rw [if_pos (by omega)]; omega
  · rename_i h1
    rw [if_neg h1] at h
    split
    · unfold hx; rw [if_neg (by omega)]; omega
    · rename_i h2; rw [if_neg h2] at h; omega
theorem E_plain {c : Int} (h : isP c = true) : E c = [c] := by unfold E; rw [if_pos (of_decide_eq_true h)]
theorem E_hex {c : Int} (h : isP c = false) (hl : Wd.letterP c = 0) : E c = [92, 120, hx (c / 16), hx (c % 16)] := by
  unfold E
  rw [if_neg (of_decide_eq_false h)]
  unfold Wd.letterP at hl
  split at hl
  · cases hl
  · rename_i h1; rw [if_neg h1]
    split at hl
    · cases hl
    · rename_i h1; rw [if_neg h1]
      split at hl
      · cases hl
      · rename_i h1; rw [if_neg h1]
        split at hl
        · cases hl
        · rename_i h1; rw [if_neg h1]
          split at hl
          · cases hl
          · rename_i h1; rw [if_neg h1]
theorem plainP_f (c : Int) : Wd.plainP c = isP c := by
  unfold Wd.plainP isP
  by_cases h1 : 32 ≤ c <;> by_cases h2 : c ≤ 126 <;> by_cases h3 : c = 34 <;> by_cases h4 : c = 92 <;> simp [h1, h2, h3, h4]
theorem step_to {m : Nat} {c0 c1 c2 c3 b : Int} {n : Nat} (hm : 1 ≤ m) (r0 : 0 ≤ c0 ∧ c0 ≤ 255) (h34 : c0 ≠ 34) (h : stepI m c0 c1 c2 c3 = some (b, n)) :
    0 ≤ b ∧ b < 256 ∧ n = (E b).length ∧ n ≤ m ∧ E b = [c0, c1, c2, c3].take n := by
  unfold stepI at h
  split at h
  · rename_i hc0
    subst hc0
    split at h
    · cases h
    · rename_i hne
      injection h with h
      injection h with h1 h2
      unfold unI at h1 h2 hne
      split at hne
      · rename_i hm1
        rw [if_pos hm1] at h1 h2
        split at hne
        · rename_i hc; subst hc; simp at h1 h2; subst h1; subst h2; refine ⟨by omega, by omega, rfl, by omega, rfl⟩
        · rename_i hc; rw [if_neg hc] at h1 h2
          split at hne
          · rename_i hc; subst hc; simp at h1 h2; subst h1; subst h2; refine ⟨by omega, by omega, rfl, by omega, rfl⟩
          · rename_i hc; rw [if_neg hc] at h1 h2
            split at hne
            · rename_i hc; subst hc; simp at h1 h2; subst h1; subst h2; refine ⟨by omega, by omega, rfl, by omega, rfl⟩
            · rename_i hc; rw [if_neg hc] at h1 h2
              split at hne
              · rename_i hc; subst hc; simp at h1 h2; subst h1; subst h2; refine ⟨by omega, by omega, rfl, by omega, rfl⟩
              · rename_i hc; rw [if_neg hc] at h1 h2
                split at hne
                · rename_i hc; subst hc; simp at h1 h2; subst h1; subst h2; refine ⟨by omega, by omega, rfl, by omega, rfl⟩
                · rename_i hc; rw [if_neg hc] at h1 h2
                  split at hne
                  · rename_i hc
                    subst hc
                    rw [if_pos rfl] at h1 h2
                    split at hne
                    · rename_i h3
                      rw [if_pos h3] at h1 h2
                      unfold Wd.hexR at h1 h2 hne
                      split at hne
                      · exact absurd rfl hne
                      · rename_i hV
                        rw [if_neg hV] at h1 h2
                        have v2 := hxV_x c2 (by omega)
                        have v3 := hxV_x c3 (by omega)
                        have hC := hexC_f (hxV c2) (hxV c3) (by omega) v2.1 (by omega) v3.1
                        rw [hC] at h1 h2 hne
                        split at hne
                        · exact absurd rfl hne
                        · rename_i hP
                          rw [if_neg hP] at h1 h2
                          simp only [Int.reduceToNat] at h1 h2
                          have hb : isP b = false := by
                            cases hq : isP b with
                            | false => rfl
                            | true => exact absurd (.inl (by rw [plainP_f, h1]; exact hq)) hP
                          have hl : Wd.letterP b = 0 := by
                            by_cases hq : Wd.letterP b = 0
                            · exact hq
                            · exact absurd (.inr (by rw [h1]; exact hq)) hP
                          have hE := E_hex hb hl
                          rw [hE]
                          have q1 : b / 16 = hxV c2 := by omega
                          have q2 : b % 16 = hxV c3 := by omega
                          rw [q1, q2, v2.2, v3.2]
                          subst h2
                          exact ⟨by omega, by omega, rfl, by omega, rfl⟩
                    · exact absurd rfl hne
                  · exact absurd rfl hne
      · exact absurd rfl hne
  · split at h
    · rename_i hp
      injection h with h
      injection h with h1 h2
      subst h1; subst h2
      rw [E_plain hp]
      exact ⟨r0.1, by omega, rfl, hm, rfl⟩
    · cases h
theorem step_of {m : Nat} {c0 c1 c2 c3 b : Int} (b0 : 0 ≤ b) (b1 : b < 256) (h34 : c0 ≠ 34) (hm : (E b).length ≤ m) (hE : E b = [c0, c1, c2, c3].take (E b).length) : stepI m c0 c1 c2 c3 = some (b, (E b).length) := by
  by_cases hp : isP b = true
  · rw [E_plain hp] at hE ⊢
    simp at hE
    subst hE
    unfold stepI
    have : b ≠ 92 := (of_decide_eq_true hp).2.2.2
    rw [if_neg this, if_pos hp]
    rfl
  · have hp' : isP b = false := by simpa using hp
    by_cases hl : Wd.letterP b = 0
    · rw [E_hex hp' hl] at hE hm ⊢
      simp at hE hm
      obtain ⟨e0, e1, e2, e3⟩ := hE
      subst e0; subst e1; subst e2; subst e3
      have hu : unI (m - 1) 120 (hx (b / 16)) (hx (b % 16)) = (b, 3) := by
        unfold unI
        rw [if_pos (by omega), if_neg (by decide), if_neg (by decide), if_neg (by decide), if_neg (by decide), if_neg (by decide), if_pos rfl, if_pos (by omega)]
        unfold Wd.hexR
        rw [hx_V _ (by omega) (by omega), hx_V _ (by omega) (by omega), hexC_f _ _ (by omega) (by omega) (by omega) (by omega), if_neg (by omega), show b / 16 * 16 + b % 16 = b by omega, if_neg (by rw [plainP_f, hp', hl]; simp)]
      unfold stepI
      rw [if_pos rfl, hu, if_neg (show ¬ (3 : Int) = 0 by decide)]
      rfl
    · have hb : b = 34 ∨ b = 92 ∨ b = 10 ∨ b = 13 ∨ b = 9 := by
        by_cases a1 : b = 34
        · omega
        by_cases a2 : b = 92
        · omega
        by_cases a3 : b = 10
        · omega
        by_cases a4 : b = 13
        · omega
        by_cases a5 : b = 9
        · omega
        exact absurd (by unfold Wd.letterP; rw [if_neg a1, if_neg a2, if_neg a3, if_neg a4, if_neg a5]) hl
      have key : ∀ l : Int, E b = [92, l] → (unI (m - 1) l c2 c3) = (b, 1) → stepI m c0 c1 c2 c3 = some (b, (E b).length) := by
        intro l hl2 hu
        rw [hl2] at hE
        simp at hE
        obtain ⟨e0, e1⟩ := hE
        subst e0; subst e1
        unfold stepI
        rw [if_pos rfl, hu, if_neg (show ¬ (1 : Int) = 0 by decide), hl2]
        rfl
      have hm2 : 0 < m - 1 := by
        have : (E b).length = 2 := by rcases hb with rfl | rfl | rfl | rfl | rfl <;> rfl
        omega
      rcases hb with rfl | rfl | rfl | rfl | rfl
      · exact key 34 rfl (by unfold unI; rw [if_pos hm2]; rfl)
      · exact key 92 rfl (by unfold unI; rw [if_pos hm2]; rfl)
      · exact key 110 rfl (by unfold unI; rw [if_pos hm2]; rfl)
      · exact key 114 rfl (by unfold unI; rw [if_pos hm2]; rfl)
      · exact key 116 rfl (by unfold unI; rw [if_pos hm2]; rfl)
theorem bt_ext (a : ByteArray) (i j t : Nat) (hij : i + t < j) (hj : j ≤ a.size) : bt (a.extract i j) t = bt a ((i + t : Nat) : Int) := by
  have h1 : t < (a.extract i j).size := by rw [ByteArray.size_extract]; omega
  have h2 : i + t < a.size := by omega
  rw [← bt_get _ t h1, ← bt_get a (i + t) h2]
  congr 2
  exact ByteArray.getElem_extract ..
theorem bt_out (a : ByteArray) (t : Int) (h : (a.size : Int) ≤ t) : bt a t = 0 := by unfold bt; rw [dif_neg (by omega)]
theorem bt_tail (a : ByteArray) (i t : Nat) : bt (a.extract i a.size) t = bt a ((i + t : Nat) : Int) := by
  by_cases h : i + t < a.size
  · exact bt_ext a i a.size t h (Nat.le_refl _)
  · rw [bt_out a _ (by omega), bt_out]
    rw [ByteArray.size_extract]
    omega
/-- The step at p. -/
def st (a : ByteArray) (p : Nat) : Option (Int × Nat) := stepI (a.size - p) (bt a p) (bt a ((p + 1 : Nat) : Int)) (bt a ((p + 2 : Nat) : Int)) (bt a ((p + 3 : Nat) : Int))
/-- What stands behind the quote at the beginning, from p on; 0: no quoted form. -/
def uq (a : ByteArray) : Nat → Nat → List Int → ByteArray × Int
  | 0, _, _ => (⟨#[]⟩, 0)
  | g + 1, p, acc => if p < a.size then (if bt a p = 34 then (strOfNums acc, (p : Int) + 1) else match st a p with
      | none => (⟨#[]⟩, 0)
      | some (b, n) => uq a g (p + n) (acc ++ [b])) else (⟨#[]⟩, 0)
theorem un_ext (a : ByteArray) (p : Nat) : Wd.unescP (a.extract (p + 1) a.size) = unI (a.size - p - 1) (bt a ((p + 1 : Nat) : Int)) (bt a ((p + 2 : Nat) : Int)) (bt a ((p + 3 : Nat) : Int)) := by
  rw [unescP_f, ByteArray.size_extract]
  have e0 := bt_tail a (p + 1) 0
  have e1 := bt_tail a (p + 1) 1
  have e2 := bt_tail a (p + 1) 2
  simp only [Int.natCast_zero, Int.natCast_one] at e0 e1 e2
  rw [e0, e1, show ((2 : Int)) = ((2 : Nat) : Int) from rfl, e2]
  rw [show min a.size a.size - (p + 1) = a.size - p - 1 by omega]
theorem st_fits {a : ByteArray} {p : Nat} {b : Int} {n : Nat} (hp : p < a.size) (h34 : bt a p ≠ 34) (h : st a p = some (b, n)) : 1 ≤ n ∧ p + n ≤ a.size ∧ 0 ≤ b ∧ b < 256 := by
  obtain ⟨h1, h2, h3, h4, h5⟩ := step_to (by omega) (bt_range a p) h34 h
  refine ⟨?_, by omega, h1, h2⟩
  cases n with
  | zero =>
    simp at h5
    unfold E at h5
    repeat' split at h5
    all_goals simp at h5
  | succ n => omega
theorem unquote_l (a : ByteArray) (hs : a.size ≤ 1000000) : ∀ (g p k : Nat) (acc : List Int), a.size - p < g → g ≤ k → p ≤ a.size → acc.length ≤ p → words_unquote.l0 k a acc (p : Int) = some (uq a g p acc) := by
  intro g
  induction g with
  | zero => intro p k acc h; omega
  | succ g ih =>
    intro p k acc hg hk hp hacc
    obtain ⟨k, rfl⟩ : ∃ k', k = k' + 1 := ⟨k - 1, by omega⟩
    unfold words_unquote.l0 uq
    by_cases hlt : p < a.size
    · rw [if_pos hlt, if_pos (by omega), if_pos (by omega)]
      by_cases h34 : bt a (p : Int) = 34
      · rw [if_pos h34, if_pos h34, w64 (by omega) (by omega)]
      · rw [if_neg h34, if_neg h34]
        have w1 : wrap64 ((p : Int) + 1) = ((p + 1 : Nat) : Int) := by rw [w64 (by omega) (by omega)]; omega
        rw [w1]
        cases hst : st a p with
        | none =>
          unfold st stepI at hst
          by_cases h92 : bt a (p : Int) = 92
          · rw [if_pos h92] at hst
            rw [if_pos h92, if_pos (by omega), if_pos (by omega)]
            unfold words_unescape.f
            simp only [Option.bind_some, Int.toNat_natCast]
            rw [un_ext]
            split at hst
            · rename_i h0; rw [if_pos h0]
            · cases hst
          · rw [if_neg h92] at hst
            rw [if_neg h92, isPlain_f]
            simp only [Option.bind_some]
            split at hst
            · cases hst
            · rename_i h0; rw [if_neg h0]
        | some q =>
          obtain ⟨b, n⟩ := q
          have hf := st_fits hlt h34 hst
          have hrec := ih (p + n) k (acc ++ [b]) (by omega) (by omega) hf.2.1 (by simp; omega)
          unfold st stepI at hst
          by_cases h92 : bt a (p : Int) = 92
          · rw [if_pos h92] at hst
            rw [if_pos h92, if_pos (by omega), if_pos (by omega)]
            unfold words_unescape.f
            simp only [Option.bind_some, Int.toNat_natCast]
            rw [un_ext]
            split at hst
            · cases hst
            · rename_i h0
              rw [if_neg h0, if_pos (by omega)]
              injection hst with hst
              injection hst with hb hn
              rw [hb]
              rw [← hrec]
              congr 1
              have hu : 0 ≤ (unI (a.size - p - 1) (bt a ((p + 1 : Nat) : Int)) (bt a ((p + 2 : Nat) : Int)) (bt a ((p + 3 : Nat) : Int))).2 ∧ (unI (a.size - p - 1) (bt a ((p + 1 : Nat) : Int)) (bt a ((p + 2 : Nat) : Int)) (bt a ((p + 3 : Nat) : Int))).2 ≤ 3 := by
                unfold unI Wd.hexR
                repeat' split
                all_goals simp
              rw [w64 (n := (p : Int) + _) (by omega) (by omega), w64 (by omega) (by omega)]
              omega
          · rw [if_neg h92] at hst
            rw [if_neg h92, isPlain_f]
            simp only [Option.bind_some]
            split at hst
            · rename_i h0
              rw [if_pos h0, if_pos (by omega)]
              injection hst with hst
              injection hst with hb hn
              subst hb; subst hn
              exact hrec
            · cases hst
    · rw [if_neg hlt, if_neg (by omega)]
/-- words.unquote. -/
def unq (a : ByteArray) : ByteArray × Int := if a.size = 0 ∨ bt a 0 ≠ 34 then (⟨#[]⟩, 0) else uq a (a.size + 1) 1 []
theorem toList_nil (a : ByteArray) : (a.toList = ([] : List UInt8)) ↔ a.size = 0 := by
  rw [Lib.toList_data, Lib.size_eq]; exact List.length_eq_zero_iff.symm
theorem unquote_f (a : ByteArray) (hs : a.size ≤ 1000000) (k : Nat) (hk : a.size + 2 ≤ k) : words_unquote.f k a = some (unq a) := by
  obtain ⟨k, rfl⟩ : ∃ k', k = k' + 1 := ⟨k - 1, by omega⟩
  unfold words_unquote.f unq
  by_cases h0 : a.size = 0
  · rw [if_pos ((toList_nil a).2 h0), if_pos (.inl h0)]; rfl
  · rw [if_neg (fun h => h0 ((toList_nil a).1 h)), if_pos (by omega)]
    by_cases h34 : bt a 0 = 34
    · rw [show (bt a 0 != 34) = false by rw [h34]; rfl, if_neg (by simp [h0, h34])]
      exact unquote_l a hs (a.size + 1) 1 k [] (by omega) (by omega) (by omega) (Nat.zero_le _)
    · rw [show (bt a 0 != 34) = true from bne_iff_ne.2 h34, if_pos (.inr h34)]; rfl
theorem uint8_inj {x y : List UInt8} (h : x.map (fun b => (b.toNat : Int)) = y.map (fun b => (b.toNat : Int))) : x = y :=
  List.map_inj_right (f := fun b : UInt8 => (b.toNat : Int)) (fun a b h => by
    have : a.toNat = b.toNat := by exact_mod_cast h
    exact UInt8.toNat_inj.1 this) |>.1 h
def inB (l : List Int) : Bool := l.all (fun x => decide (0 ≤ x) && decide (x ≤ 255))
theorem map_back : ∀ (l : List Int), inB l = true → (l.map fun n => UInt8.ofNat n.toNat).map (fun b => (b.toNat : Int)) = l
  | [], _ => rfl
  | x :: l, h => by
    unfold inB at h
    rw [List.all_cons, Bool.and_eq_true] at h
    have hx : 0 ≤ x ∧ x ≤ 255 := by simpa using h.1
    simp only [List.map_cons]
    rw [map_back l h.2]
    congr 1
    rw [UInt8.toNat_ofNat']
    omega
theorem bytesOf_str (l : List Int) (h : inB l = true) : bytesOf (strOfNums l) = l := map_back l h
theorem bytesOf_get (s : ByteArray) (i : Nat) (h : i < s.size) : (bytesOf s)[i]? = some (bt s i) := by
  unfold bytesOf
  have hl : i < s.data.toList.length := by rw [← Lib.size_eq]; exact h
  rw [List.getElem?_map, List.getElem?_eq_getElem hl, Option.map_some, ← bt_get s i h]
  rfl
theorem bytesOf_len (s : ByteArray) : (bytesOf s).length = s.size := by unfold bytesOf; rw [List.length_map, ← Lib.size_eq]
theorem bytesOf_ext (a : ByteArray) (p q : Nat) (hpq : p ≤ q) (hq : q ≤ a.size) : bytesOf (a.extract p q) = (List.range (q - p)).map (fun i => bt a ((p + i : Nat) : Int)) := by
  apply List.ext_getElem?
  intro i
  by_cases hi : i < q - p
  · rw [bytesOf_get _ _ (by rw [ByteArray.size_extract]; omega), bt_ext a p q i (by omega) hq, List.getElem?_map, List.getElem?_range hi]; rfl
  · rw [List.getElem?_eq_none (by rw [bytesOf_len, ByteArray.size_extract]; omega), List.getElem?_eq_none (by simp; omega)]
theorem E_all : (List.range 256).all (fun n => inB (E n) && (decide ((E n).length = 1) || decide ((E n).length = 2) || decide ((E n).length = 4))) = true := by decide +kernel
theorem E_in (c : Int) (h0 : 0 ≤ c) (h1 : c < 256) : inB (E c) = true ∧ ((E c).length = 1 ∨ (E c).length = 2 ∨ (E c).length = 4) := by
  have := all256 E_all c h0 h1
  rw [show ((c.toNat : Nat) : Int) = c from Int.toNat_of_nonneg h0] at this
  simpa [or_assoc] using this
theorem str_size (l : List Int) : (strOfNums l).size = l.length := by unfold strOfNums; rw [Lib.size_mk, List.length_map]
theorem uq_le (a : ByteArray) : ∀ (g p : Nat) (acc : List Int), 0 ≤ (uq a g p acc).2 ∧ (uq a g p acc).2 ≤ (a.size : Int)
  | 0, _, _ => by simp [uq]
  | g + 1, p, acc => by
    unfold uq
    split
    · split
      · simp; omega
      · split
        · simp
        · exact uq_le a g _ _
    · simp
theorem unq_le (a : ByteArray) : 0 ≤ (unq a).2 ∧ (unq a).2 ≤ (a.size : Int) := by
  unfold unq
  split
  · simp
  · exact uq_le a _ _ _
end Go.Proofs.YtciaocdpojnmcaaGreatDoor.P
