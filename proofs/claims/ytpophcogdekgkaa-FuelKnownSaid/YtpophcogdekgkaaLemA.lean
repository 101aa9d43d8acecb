/- What the functions of the package fuel compute: accounts, steps, runs. Plain lemmas over numbers and lists. -/
import Derived.Test.YtpophcogdekgkaaPx12
namespace Go.Proofs.Ytpophcogdekgkaa.L
open Go.RowKit Go.Proofs.Ytpophcogdekgkaa.P Go.Proofs.YtpophcogdekgkaaW.PrintWords Go.Proofs.YtpophcogdekgkaaW.PrintLast Go.Proofs.YtpophcogdekgkaaW.PrintMore

theorem w64 {x : Int} (h : -9223372036854775808 ≤ x) (h' : x ≤ 9223372036854775807) : wrap64 x = x := by
  unfold wrap64; omega
theorem rd_nat (l : List Int) (i : Nat) : rd l (i : Int) = l.getD i 0 := by simp [rd]
theorem rd_lt (l : List Int) (i : Nat) (h : i < l.length) : rd l (i : Int) = l[i] := by simp [rd, List.getD_eq_getElem?_getD, h]
theorem rdT (l : List S46) (i : Nat) (h : i < l.length) : rd_T46 l (i : Int) = l[i] := by simp [rd_T46, List.getD_eq_getElem?_getD, h]

/-! ### accounts -/
def chain (u : Int) : Int → List Int → Bool
  | _, [] => true
  | hi, n :: r => decide (u ≤ n) && decide (n ≤ hi) && chain u n r
def chk (u : Int) (l : List Int) : Int := if l.length > 200 then 3 else if l.length = 0 ∨ u < 0 then 6 else if chain u 1000000000 l = true then 0 else 6

theorem drop_cons (l : List Int) (i : Nat) (h : i < l.length) : l.drop i = l[i] :: l.drop (i + 1) := List.drop_eq_getElem_cons h

theorem check_loop (u : Int) (l : List Int) (hl : l.length ≤ 200) : ∀ (d k i : Nat) (hi : Int), i + d = l.length → d < k →
    fuel_Check.l0 k hi l (l.length : Int) (i : Int) u l = some (if chain u hi (l.drop i) = true then 0 else 6) := by
  intro d
  induction d with
  | zero =>
    intro k i hi he hk
    obtain ⟨k, rfl⟩ : ∃ m, k = m + 1 := ⟨k - 1, by omega⟩
    simp only [fuel_Check.l0]
    rw [if_neg (by omega), List.drop_of_length_le (by omega)]
    simp [chain]
  | succ d ih =>
    intro k i hi he hk
    obtain ⟨k, rfl⟩ : ∃ m, k = m + 1 := ⟨k - 1, by omega⟩
    have hlt : i < l.length := by omega
    simp only [fuel_Check.l0]
    rw [if_pos (by omega), if_pos (by omega), if_pos (by omega), rd_lt l i hlt, drop_cons l i hlt]
    unfold fuel_within_int64.f
    by_cases h1 : u ≤ l[i]
    · rw [if_pos h1]
      simp only [Option.bind_some]
      by_cases h2 : l[i] ≤ hi
      · rw [if_pos (by simpa using h2), w64 (by omega) (by omega)]
        have := ih k (i + 1) l[i] (by omega) (by omega)
        rw [show ((i + 1 : Nat) : Int) = (i : Int) + 1 from by omega] at this
        rw [this]
        simp [chain, h1, h2]
      · rw [if_neg (by simpa using h2)]
        simp [chain, h2]
    · rw [if_neg h1]
      simp [chain, h1]

theorem Check_prog (u : Int) (l : List Int) (k : Nat) (hk : 201 < k) : fuel_Check.f k u l = some (chk u l) := by
  unfold fuel_Check.f chk
  by_cases h1 : l.length > 200
  · rw [if_pos (by omega), if_pos h1]
  rw [if_neg (by omega), if_neg h1]
  unfold fuel_within_int.f
  by_cases h2 : l.length = 0
  · rw [if_neg (by omega), if_pos (show l.length = 0 ∨ u < 0 from .inl h2)]; rfl
  rw [if_pos (by omega)]
  simp only [Option.bind_some]
  rw [if_pos (by simp; omega)]
  by_cases h3 : u < 0
  · rw [if_pos h3, if_pos (show l.length = 0 ∨ u < 0 from .inr h3)]
  · rw [if_neg h3, if_neg (by omega)]
    have := check_loop u l (by omega) l.length k 0 1000000000 (by omega) (by omega)
    simpa using this

/-- An account. -/
structure Valid (u : Int) (l : List Int) : Prop where
  len : l.length ≤ 200
  pos : 0 < l.length
  u0 : 0 ≤ u
  ch : chain u 1000000000 l = true
theorem valid_iff (u : Int) (l : List Int) : chk u l = 0 ↔ Valid u l := by
  unfold chk
  constructor
  · intro h
    split at h
    · simp at h
    · split at h
      · simp at h
      · split at h
        · exact ⟨by omega, by omega, by omega, by assumption⟩
        · simp at h
  · intro ⟨a, b, c, d⟩
    rw [if_neg (by omega), if_neg (by omega), if_pos d]

def last (l : List Int) : Int := l.getD (l.length - 1) 0
theorem last_append (l : List Int) (x : Int) : last (l ++ [x]) = x := by simp [last]
theorem last_cons (x y : Int) (l : List Int) : last (x :: y :: l) = last (y :: l) := by simp [last]

theorem chain_last (u : Int) : ∀ (l : List Int) (hi : Int), chain u hi l = true → 0 < l.length → u ≤ last l ∧ last l ≤ hi ∧ ∀ x ∈ l, last l ≤ x
  | [], _, _, h => by simp at h
  | [x], hi, h, _ => by simp [chain] at h; simp [last]; omega
  | x :: y :: l, hi, h, _ => by
    simp only [chain, Bool.and_eq_true, decide_eq_true_eq] at h
    obtain ⟨⟨h1, h2⟩, ⟨h3, h4⟩, h5⟩ := h
    have := chain_last u (y :: l) x (by simp only [chain, Bool.and_eq_true, decide_eq_true_eq]; exact ⟨⟨h3, h4⟩, h5⟩) (by simp)
    rw [last_cons]
    refine ⟨this.1, by omega, fun z hz => ?_⟩
    rcases List.mem_cons.1 hz with rfl | hz
    · exact this.2.1
    · exact this.2.2 z hz
theorem chain_raise (u u' : Int) : ∀ (l : List Int) (hi : Int), chain u hi l = true → (∀ x ∈ l, u' ≤ x) → chain u' hi l = true
  | [], _, _, _ => rfl
  | x :: l, hi, h, hx => by
    simp only [chain, Bool.and_eq_true, decide_eq_true_eq] at h ⊢
    exact ⟨⟨hx x (by simp), h.1.2⟩, chain_raise u u' l x h.2 (fun z hz => hx z (by simp [hz]))⟩
theorem chain_snoc (u n : Int) : ∀ (l : List Int) (hi : Int), chain u hi l = true → u ≤ n → n ≤ (if l.length = 0 then hi else last l) → chain u hi (l ++ [n]) = true
  | [], hi, _, h1, h2 => by simp at h2; simp [chain, h1, h2]
  | [x], hi, h, h1, h2 => by
    simp only [chain, Bool.and_eq_true, decide_eq_true_eq] at h
    simp [last] at h2
    simp [chain, h.1.1, h.1.2, h1, h2]
  | x :: y :: l, hi, h, h1, h2 => by
    simp only [chain, Bool.and_eq_true, decide_eq_true_eq] at h
    have := chain_snoc u n (y :: l) x (by simp only [chain, Bool.and_eq_true, decide_eq_true_eq]; exact h.2) h1 (by simpa [last_cons] using h2)
    simp only [List.cons_append] at this ⊢
    simp only [chain, Bool.and_eq_true, decide_eq_true_eq] at this ⊢
    exact ⟨h.1, this⟩
theorem chain_dropLast (u : Int) : ∀ (l : List Int) (hi : Int), chain u hi l = true → chain u hi l.dropLast = true
  | [], _, _ => rfl
  | [x], _, _ => rfl
  | x :: y :: l, hi, h => by
    have h' : chain u hi (x :: y :: l) = true := h
    simp only [chain, Bool.and_eq_true, decide_eq_true_eq] at h
    have := chain_dropLast u (y :: l) x (by simp only [chain, Bool.and_eq_true, decide_eq_true_eq]; exact h.2)
    rw [List.dropLast_cons_cons]
    simp only [chain, Bool.and_eq_true, decide_eq_true_eq]
    exact ⟨h.1, this⟩
theorem Valid.lst {u : Int} {l : List Int} (h : Valid u l) : u ≤ last l ∧ last l ≤ 1000000000 ∧ ∀ x ∈ l, last l ≤ x := chain_last u l _ h.ch h.pos
theorem Valid.spend {u n : Int} {l : List Int} (h : Valid u l) (h0 : 0 ≤ n) (h1 : n ≤ last l - u) : Valid (u + n) l :=
  ⟨h.len, h.pos, by have := h.u0; omega, chain_raise u _ l _ h.ch (fun x hx => by have := h.lst.2.2 x hx; omega)⟩
theorem Valid.opened {u n : Int} {l : List Int} (h : Valid u l) (hl : l.length ≠ 200) (h0 : u ≤ n) (h1 : n ≤ last l) : Valid u (l ++ [n]) :=
  ⟨by have := h.len; simp; omega, by simp, h.u0, chain_snoc u n l _ h.ch h0 (by have := h.pos; rw [if_neg (by omega)]; exact h1)⟩
theorem Valid.closed {u : Int} {l : List Int} (h : Valid u l) (hl : l.length ≠ 1) : Valid u l.dropLast :=
  ⟨by have := h.len; simp; omega, by have := h.pos; simp; omega, h.u0, chain_dropLast u l _ h.ch⟩

/-! ### steps -/
def stp (u : Int) (l : List Int) (kd n : Int) : Int × List Int × Int :=
  if kd = 1 then (if n < 0 ∨ n > 1000000000 then (u, l, 7) else if n > last l - u then (u, l, 5) else (u + n, l, 0))
  else if kd = 2 then (if n < 0 ∨ n > 1000000000 then (u, l, 7) else if l.length = 200 then (u, l, 3) else (u, l ++ [u + min n (last l - u)], 0))
  else if kd = 3 then (if n ≠ 0 then (u, l, 2) else if l.length = 1 then (u, l, 9) else (u, l.dropLast, 0))
  else (u, l, 2)

theorem left_prog {u : Int} {l : List Int} (h : Valid u l) : fuel_account_left.f u l = some (last l - u) := by
  have h1 := h.pos; have h2 := h.len; have h3 := h.u0; have h4 := h.lst
  unfold fuel_account_left.f
  rw [w64 (x := (l.length : Int) - 1) (by omega) (by omega), if_pos (by omega), if_pos (by omega), show ((l.length : Int) - 1) = ((l.length - 1 : Nat) : Int) from by omega, rd_nat]
  rw [show l.getD (l.length - 1) 0 = last l from rfl, w64 (by omega) (by omega)]
theorem clone_prog {l : List Int} (h : l.length ≤ 200) : slices_Clone_int64_int64.f l = some l := by
  unfold slices_Clone_int64_int64.f
  rw [if_pos (by omega)]
theorem mn_min (a b : Int) : mn a b = min a b := by unfold mn; omega
theorem take_dropLast (l : List Int) : l.take (l.length - 1) = l.dropLast := by rw [List.dropLast_eq_take]

theorem step_prog {u : Int} {l : List Int} (h : Valid u l) (kd n : Int) : fuel_account_step.f u l kd n = some (stp u l kd n) := by
  have h1 := h.pos; have h2 := h.len; have h3 := h.u0; have h4 := h.lst
  unfold fuel_account_step.f stp
  by_cases k1 : kd = 1
  · rw [if_pos k1, if_pos k1]
    unfold fuel_account_spend.f fuel_within_int64.f
    by_cases n1 : 0 ≤ n
    · rw [if_pos n1]
      simp only [Option.bind_some]
      by_cases n2 : n ≤ 1000000000
      · rw [if_pos (by simpa using n2), left_prog h, if_neg (show ¬ (n < 0 ∨ n > 1000000000) by omega)]
        simp only [Option.bind_some]
        by_cases n3 : n > last l - u
        · rw [if_pos n3, if_pos n3]; rfl
        · rw [if_neg n3, if_neg n3, clone_prog h2]
          simp only [Option.bind_some]
          rw [w64 (by omega) (by omega)]
      · rw [if_neg (by simpa using n2), if_pos (show n < 0 ∨ n > 1000000000 by omega)]; rfl
    · rw [if_neg n1, if_pos (show n < 0 ∨ n > 1000000000 by omega)]; rfl
  rw [if_neg k1, if_neg k1]
  by_cases k2 : kd = 2
  · rw [if_pos k2, if_pos k2]
    unfold fuel_account_open.f fuel_within_int64.f
    by_cases n1 : 0 ≤ n
    · rw [if_pos n1]
      simp only [Option.bind_some]
      by_cases n2 : n ≤ 1000000000
      · rw [if_pos (by simpa using n2), if_neg (show ¬ (n < 0 ∨ n > 1000000000) by omega)]
        by_cases n3 : l.length = 200
        · rw [if_pos (by omega), if_pos n3]; rfl
        · rw [if_neg (by omega), if_neg n3, clone_prog h2]
          simp only [Option.bind_some]
          rw [left_prog h]
          simp only [Option.bind_some]
          rw [if_pos (by omega), mn_min]
          simp only [Option.bind_some]
          rw [w64 (by omega) (by omega)]
      · rw [if_neg (by simpa using n2), if_pos (show n < 0 ∨ n > 1000000000 by omega)]; rfl
    · rw [if_neg n1, if_pos (show n < 0 ∨ n > 1000000000 by omega)]; rfl
  rw [if_neg k2, if_neg k2]
  by_cases k3 : kd = 3
  · rw [if_pos k3, if_pos k3]
    unfold fuel_account_end.f
    by_cases n1 : n = 0
    · rw [if_pos n1, if_neg (show ¬ n ≠ 0 by omega), w64 (x := (l.length : Int) - 1) (by omega) (by omega)]
      by_cases n2 : l.length = 1
      · rw [if_pos (by omega), if_pos n2]; rfl
      · rw [if_neg (by omega), if_neg n2, if_pos (by omega), if_pos (by omega), show ((l.length : Int) - 1).toNat = l.length - 1 from by omega, take_dropLast, clone_prog (by simp; omega)]
        rfl
    · rw [if_neg n1, if_pos n1]; rfl
  · rw [if_neg k3, if_neg k3]

theorem stp_valid {u : Int} {l : List Int} (h : Valid u l) (kd n : Int) : Valid (stp u l kd n).1 (stp u l kd n).2.1 := by
  have h1 := h.pos; have h2 := h.len; have h3 := h.u0; have h4 := h.lst
  unfold stp
  repeat' split
  all_goals first | exact h | exact h.spend (by omega) (by omega) | exact h.opened (by assumption) (by omega) (by omega) | exact h.closed (by assumption)
theorem stp_err {u : Int} {l : List Int} (kd n : Int) (h : (stp u l kd n).2.2 ≠ 0) : (stp u l kd n).1 = u ∧ (stp u l kd n).2.1 = l := by
  unfold stp at *
  by_cases k1 : kd = 1
  · simp only [if_pos k1] at *
    by_cases n1 : n < 0 ∨ n > 1000000000
    · simp only [if_pos n1] at *; exact ⟨trivial, trivial⟩
    · simp only [if_neg n1] at *
      split <;> simp_all
  simp only [if_neg k1] at *
  by_cases k2 : kd = 2
  · simp only [if_pos k2] at *
    by_cases n1 : n < 0 ∨ n > 1000000000
    · simp only [if_pos n1] at *; exact ⟨trivial, trivial⟩
    · simp only [if_neg n1] at *
      split <;> simp_all
  simp only [if_neg k2] at *
  by_cases k3 : kd = 3
  · simp only [if_pos k3] at *
    split
    · exact ⟨rfl, rfl⟩
    · split <;> simp_all
  · simp only [if_neg k3] at *; exact ⟨trivial, trivial⟩

/-! ### runs -/
def run (u : Int) (l : List Int) : List S46 → Nat → Int × List Int × Int × Int
  | [], i => (u, l, (i : Int), 0)
  | x :: r, i => if (stp u l x.f0 x.f1).2.2 = 0 then run (stp u l x.f0 x.f1).1 (stp u l x.f0 x.f1).2.1 r (i + 1) else (u, l, (i : Int), (stp u l x.f0 x.f1).2.2)

theorem run_prog (l1 : List S46) (hl : l1.length ≤ 9223372036854775807) : ∀ (d k i : Nat) (u : Int) (l : List Int), Valid u l → i + d = l1.length → d < k →
    fuel_Run.l0 k l1 l1 (l1.length : Int) (i : Int) u l = some (run u l (l1.drop i) i) := by
  intro d
  induction d with
  | zero =>
    intro k i u l hv he hk
    obtain ⟨k, rfl⟩ : ∃ m, k = m + 1 := ⟨k - 1, by omega⟩
    simp only [fuel_Run.l0]
    rw [if_neg (by omega), List.drop_of_length_le (by omega), run, show i = l1.length from by omega]
  | succ d ih =>
    intro k i u l hv he hk
    obtain ⟨k, rfl⟩ : ∃ m, k = m + 1 := ⟨k - 1, by omega⟩
    have hlt : i < l1.length := by omega
    simp only [fuel_Run.l0]
    rw [if_pos (by omega), if_pos (by omega), if_pos (by omega), rdT l1 i hlt, step_prog hv, List.drop_eq_getElem_cons hlt, run]
    simp only [Option.bind_some]
    by_cases e : (stp u l l1[i].f0 l1[i].f1).2.2 = 0
    · rw [if_pos e, if_pos e, w64 (by omega) (by omega)]
      have := ih k (i + 1) _ _ (stp_valid hv l1[i].f0 l1[i].f1) (by omega) (by omega)
      rw [show ((i + 1 : Nat) : Int) = (i : Int) + 1 from by omega] at this
      exact this
    · rw [if_neg e, if_neg e, (stp_err _ _ e).1, (stp_err _ _ e).2]
def Rn (u : Int) (l : List Int) (l1 : List S46) : Int × List Int × Int × Int := if chk u l = 0 then run u l l1 0 else (u, l, 0, chk u l)
theorem Run_prog (u : Int) (l : List Int) (l1 : List S46) (hl : l1.length ≤ 9223372036854775807) (k : Nat) (hk : l1.length + 210 < k) : fuel_Run.f k u l l1 = some (Rn u l l1) := by
  unfold fuel_Run.f Rn
  rw [Check_prog u l k (by omega)]
  simp only [Option.bind_some]
  by_cases e : chk u l = 0
  · rw [if_pos e, if_pos e]
    have := run_prog l1 hl l1.length k 0 u l ((valid_iff u l).1 e) (by omega) (by omega)
    simpa using this
  · rw [if_neg e, if_neg e]
theorem valid_new {n : Int} (h0 : 0 ≤ n) (h1 : n ≤ 1000000000) : Valid 0 [n] := ⟨by simp, by simp, by simp, by simp [chain, h0, h1]⟩
theorem New_prog (n : Int) : fuel_New.f n = some (if 0 ≤ n ∧ n ≤ 1000000000 then (0, [n], 0) else (0, [], 7)) := by
  unfold fuel_New.f fuel_within_int64.f
  by_cases h1 : 0 ≤ n
  · rw [if_pos h1]
    simp only [Option.bind_some]
    by_cases h2 : n ≤ 1000000000
    · rw [if_pos (by simpa using h2), if_pos ⟨h1, h2⟩]
    · rw [if_neg (by simpa using h2), if_neg (by omega)]
  · rw [if_neg h1, if_neg (by omega)]; rfl
/-! ### more is enough -/
theorem last_map (n : Int) (l : List Int) (h : 0 < l.length) : last (l.map (min n)) = min n (last l) := by
  simp only [last, List.length_map, List.getD_eq_getElem?_getD, List.getElem?_map, List.getElem?_eq_getElem (show l.length - 1 < l.length by omega)]
  simp
theorem stp_used {u : Int} {l : List Int} (kd n : Int) : u ≤ (stp u l kd n).1 := by
  unfold stp
  repeat' split
  all_goals (simp only; omega)
theorem run_used : ∀ (l1 : List S46) (u : Int) (l : List Int) (i : Nat), u ≤ (run u l l1 i).1
  | [], u, l, i => Int.le_refl _
  | x :: r, u, l, i => by
    rw [run]
    split
    · exact Int.le_trans (stp_used x.f0 x.f1) (run_used r _ _ _)
    · exact Int.le_refl _
theorem run_done : ∀ (l1 : List S46) (u : Int) (l : List Int) (i : Nat), (i : Int) ≤ (run u l l1 i).2.2.1 ∧ (run u l l1 i).2.2.1 ≤ i + l1.length ∧ ((run u l l1 i).2.2.2 = 0 → (run u l l1 i).2.2.1 = i + l1.length)
  | [], u, l, i => by simp [run]
  | x :: r, u, l, i => by
    rw [run]
    split
    · have := run_done r (stp u l x.f0 x.f1).1 (stp u l x.f0 x.f1).2.1 (i + 1)
      simp only [List.length_cons]
      refine ⟨by omega, by omega, fun h => ?_⟩
      have := this.2.2 h
      omega
    · rename_i h
      simp only [List.length_cons]
      exact ⟨by omega, by omega, fun h' => absurd h' h⟩
/-- One step with less fuel. -/
theorem stp_less {u : Int} {l : List Int} (hv : Valid u l) (n : Int) (hn : u ≤ n) (kd m : Int) :
    (stp u (l.map (min n)) kd m = ((stp u l kd m).1, (stp u l kd m).2.1.map (min n), (stp u l kd m).2.2) ∧ (stp u l kd m).1 ≤ n) ∨
    ((stp u (l.map (min n)) kd m).2.2 = 5 ∧ (stp u l kd m).2.2 = 0 ∧ n < (stp u l kd m).1) := by
  have h1 := hv.pos; have h2 := hv.len; have h3 := hv.u0; have h4 := hv.lst
  have hm := last_map n l h1
  unfold stp
  rw [hm, List.length_map]
  by_cases k1 : kd = 1
  · simp only [if_pos k1]
    by_cases n1 : m < 0 ∨ m > 1000000000
    · simp only [if_pos n1]; left; exact ⟨by first | rfl | trivial, hn⟩
    simp only [if_neg n1]
    by_cases n2 : m > last l - u
    · rw [if_pos n2, if_pos (show m > min n (last l) - u by omega)]; left; exact ⟨by first | rfl | trivial, hn⟩
    · rw [if_neg n2]
      by_cases n3 : m > min n (last l) - u
      · rw [if_pos n3]; right; exact ⟨by first | rfl | trivial, by first | rfl | trivial, by simp only; omega⟩
      · rw [if_neg n3]; left; exact ⟨by first | rfl | trivial, by simp only; omega⟩
  simp only [if_neg k1]
  by_cases k2 : kd = 2
  · simp only [if_pos k2]
    by_cases n1 : m < 0 ∨ m > 1000000000
    · simp only [if_pos n1]; left; exact ⟨by first | rfl | trivial, hn⟩
    simp only [if_neg n1]
    by_cases n2 : l.length = 200
    · simp only [if_pos n2]; left; exact ⟨by first | rfl | trivial, hn⟩
    · simp only [if_neg n2]
      left
      refine ⟨?_, hn⟩
      simp only [List.map_append, List.map_cons, List.map_nil]
      rw [show u + min m (min n (last l) - u) = min n (u + min m (last l - u)) from by omega]
  simp only [if_neg k2]
  by_cases k3 : kd = 3
  · simp only [if_pos k3]
    by_cases n1 : m ≠ 0
    · simp only [if_pos n1]; left; exact ⟨by first | rfl | trivial, hn⟩
    simp only [if_neg n1]
    by_cases n2 : l.length = 1
    · simp only [if_pos n2]; left; exact ⟨by first | rfl | trivial, hn⟩
    · simp only [if_neg n2]; left; exact ⟨by rw [List.map_dropLast], hn⟩
  · simp only [if_neg k3]; left; exact ⟨by first | rfl | trivial, hn⟩
/-- A run with less fuel. -/
theorem run_less (n : Int) : ∀ (l1 : List S46) (u : Int) (l : List Int) (i : Nat), Valid u l → u ≤ n →
    ((run u (l.map (min n)) l1 i).1 = (run u l l1 i).1 ∧ (run u (l.map (min n)) l1 i).2.2 = (run u l l1 i).2.2 ∧ (run u l l1 i).1 ≤ n) ∨
    ((run u (l.map (min n)) l1 i).2.2.2 = 5 ∧ (run u (l.map (min n)) l1 i).2.2.1 ≤ (run u l l1 i).2.2.1 ∧ (run u (l.map (min n)) l1 i).1 ≤ (run u l l1 i).1 ∧ n < (run u l l1 i).1)
  | [], u, l, i, _, hn => by left; exact ⟨by first | rfl | trivial, by first | rfl | trivial, hn⟩
  | x :: r, u, l, i, hv, hn => by
    rw [run, run]
    rcases stp_less hv n hn x.f0 x.f1 with ⟨h1, h2⟩ | ⟨h1, h2, h3⟩
    · rw [h1]
      by_cases e : (stp u l x.f0 x.f1).2.2 = 0
      · simp only [if_pos e]
        exact run_less n r _ _ _ (stp_valid hv _ _) h2
      · simp only [if_neg e]
        left
        exact ⟨by first | rfl | trivial, by first | rfl | trivial, hn⟩
    · rw [if_neg (by rw [h1]; decide), if_pos h2]
      right
      have h5 := run_used r (stp u l x.f0 x.f1).1 (stp u l x.f0 x.f1).2.1 (i + 1)
      have h6 := run_done r (stp u l x.f0 x.f1).1 (stp u l x.f0 x.f1).2.1 (i + 1)
      refine ⟨h1, by simp only; omega, by simp only; omega, by omega⟩
/-- Two accounts of New. -/
theorem new_less {n m : Int} (h0 : 0 ≤ n) (h1 : n ≤ m) (h2 : m ≤ 1000000000) (l1 : List S46) :
    ((run 0 [n] l1 0).1 = (run 0 [m] l1 0).1 ∧ (run 0 [n] l1 0).2.2 = (run 0 [m] l1 0).2.2 ∧ (run 0 [m] l1 0).1 ≤ n) ∨
    ((run 0 [n] l1 0).2.2.2 = 5 ∧ (run 0 [n] l1 0).2.2.1 ≤ (run 0 [m] l1 0).2.2.1 ∧ (run 0 [n] l1 0).1 ≤ (run 0 [m] l1 0).1 ∧ n < (run 0 [m] l1 0).1) := by
  have := run_less n l1 0 [m] 0 (valid_new (by omega) h2) h0
  simp only [List.map_cons, List.map_nil] at this
  rw [show min n m = n from by omega] at this
  exact this
theorem Rn_new {n : Int} (h0 : 0 ≤ n) (h1 : n ≤ 1000000000) (l1 : List S46) : Rn 0 [n] l1 = run 0 [n] l1 0 := by
  unfold Rn
  rw [if_pos ((valid_iff _ _).2 (valid_new h0 h1))]
theorem run_most_used (l1 : List S46) : ∀ (u : Int) (l : List Int) (i : Nat), Valid u l → (run u l l1 i).1 ≤ 1000000000 := by
  induction l1 with
  | nil => intro u l i hv; have := hv.lst; simp only [run]; omega
  | cons x r ih =>
    intro u l i hv
    rw [run]
    split
    · exact ih _ _ _ (stp_valid hv _ _)
    · have := hv.lst; simp only; omega

theorem run_len (l1 : List S46) : ∀ (u : Int) (l : List Int) (i : Nat), Valid u l → (run u l l1 i).2.1.length ≤ 200 := by
  induction l1 with
  | nil => intro u l i hv; exact hv.len
  | cons x r ih =>
    intro u l i hv
    rw [run]
    split
    · exact ih _ _ _ (stp_valid hv _ _)
    · exact hv.len

/-! ### Least -/
def Lst (l1 : List S46) : Int × Int × Int := if (run 0 [1000000000] l1 0).2.2.2 = 0 then ((run 0 [1000000000] l1 0).1, (run 0 [1000000000] l1 0).2.2.1, 0) else (0, (run 0 [1000000000] l1 0).2.2.1, (run 0 [1000000000] l1 0).2.2.2)
theorem Least_prog (l1 : List S46) (hl : l1.length ≤ 9223372036854775807) (k : Nat) (hk : l1.length + 210 < k) : fuel_Least.f k l1 = some (Lst l1) := by
  unfold fuel_Least.f Lst
  rw [New_prog]
  simp only [Option.bind_some, if_pos (show (0 : Int) ≤ 1000000000 ∧ (1000000000 : Int) ≤ 1000000000 by omega)]
  rw [Run_prog _ _ _ hl k hk, Rn_new (by omega) (by omega)]
  simp only [Option.bind_some]
  split <;> rfl
theorem half (a b : Int) (h0 : 0 ≤ a) (h : a < b) (h1 : b ≤ 1000000000) : wrap64 (Int.tdiv (wrap64 (a + b)) 2) = (a + b) / 2 := by
  rw [w64 (x := a + b) (by omega) (by omega), Int.tdiv_eq_ediv_of_nonneg (by omega), w64 (by omega) (by omega)]
/-! ### Same, Spend, Open, Close, Left, awake -/
def one (u : Int) (l : List Int) (kd n : Int) : Int × List Int × Int := if chk u l = 0 then stp u l kd n else (u, l, chk u l)
theorem one_prog (u : Int) (l : List Int) (kd n : Int) (k : Nat) (hk : 201 < k) : fuel_one.f k u l kd n = some (one u l kd n) := by
  unfold fuel_one.f one
  rw [Check_prog u l k hk]
  simp only [Option.bind_some]
  by_cases e : chk u l = 0
  · rw [if_pos e, if_pos e, step_prog ((valid_iff u l).1 e)]; rfl
  · rw [if_neg e, if_neg e]
theorem Spend_prog (u : Int) (l : List Int) (n : Int) (k : Nat) (hk : 201 < k) : fuel_Spend.f k u l n = some (one u l 1 n) := by
  unfold fuel_Spend.f; rw [one_prog u l 1 n k hk]; rfl
theorem Open_prog (u : Int) (l : List Int) (n : Int) (k : Nat) (hk : 201 < k) : fuel_Open.f k u l n = some (one u l 2 n) := by
  unfold fuel_Open.f; rw [one_prog u l 2 n k hk]; rfl
theorem Left_prog (u : Int) (l : List Int) (k : Nat) (hk : 201 < k) : fuel_Left.f k u l = some (if chk u l = 0 then (last l - u, 0) else (0, chk u l)) := by
  unfold fuel_Left.f
  rw [Check_prog u l k hk]
  simp only [Option.bind_some]
  by_cases e : chk u l = 0
  · rw [if_pos e, if_pos e, left_prog ((valid_iff u l).1 e)]; rfl
  · rw [if_neg e, if_neg e]
theorem one_valid {u : Int} {l : List Int} (h : Valid u l) (kd n : Int) : one u l kd n = stp u l kd n := by
  unfold one; rw [if_pos ((valid_iff u l).2 h)]
set_option maxRecDepth 100000 in
theorem awake_300 : mummerlaw16_awake.f 300 = some true := by decide +kernel
theorem awake_ok (k : Nat) (hk : 300 ≤ k) : mummerlaw16_awake.f k = some true := at_rounds mummerlaw16_awake.mono hk awake_300
end Go.Proofs.Ytpophcogdekgkaa.L
