/- What the functions of the reference of fuel compute. Plain lemmas over numbers and lists. -/
import Derived.Test.YtpophcogdekgkaaLemS
import Derived.Test.YtpophcogdekgkaaPx21
namespace Go.Proofs.Ytpophcogdekgkaa.L
open Go.RowKit Go.Proofs.Ytpophcogdekgkaa.P Go.Proofs.YtpophcogdekgkaaW.PrintWords Go.Proofs.YtpophcogdekgkaaW.PrintLast Go.Proofs.YtpophcogdekgkaaW.PrintMore

theorem check_ref (u : Int) (l : List Int) (hl : l.length ≤ 200) : ∀ (d k i : Nat) (hi : Int), i + d = l.length → d < k → (i = 0 → hi = 1000000000) → (0 < i → hi ≤ 1000000000 ∧ hi = l.getD (i - 1) 0) →
    mummerref16_Check.l0 k (i : Int) u l = some (if chain u hi (l.drop i) = true then 0 else 6) := by
  intro d
  induction d with
  | zero =>
    intro k i hi he hk h0 h1
    obtain ⟨k, rfl⟩ : ∃ m, k = m + 1 := ⟨k - 1, by omega⟩
    simp only [mummerref16_Check.l0]
    rw [if_neg (by omega), List.drop_of_length_le (by omega)]
    simp [chain]
  | succ d ih =>
    intro k i hi he hk h0 h1
    obtain ⟨k, rfl⟩ : ∃ m, k = m + 1 := ⟨k - 1, by omega⟩
    have hlt : i < l.length := by omega
    simp only [mummerref16_Check.l0]
    rw [if_pos (by omega), if_pos (by omega), rd_lt l i hlt, drop_cons l i hlt]
    have hgo := ih k (i + 1) l[i] (by omega) (by omega) (by omega)
    by_cases a1 : l[i] < u
    · rw [if_pos a1]
      have : ¬ u ≤ l[i] := by omega
      simp [chain, this]
    rw [if_neg a1]
    by_cases a2 : l[i] > 1000000000
    · rw [if_pos a2]
      have : ¬ l[i] ≤ hi := by
        by_cases e : i = 0
        · have := h0 e; omega
        · have := (h1 (by omega)).1; omega
      simp [chain, this]
    rw [if_neg a2]
    have hgo' := hgo (fun _ => ⟨by omega, by simp [List.getD_eq_getElem?_getD, hlt]⟩)
    rw [show ((i + 1 : Nat) : Int) = (i : Int) + 1 from by omega] at hgo'
    have hu : u ≤ l[i] := by omega
    by_cases e : i = 0
    · rw [if_neg (by omega), w64 (by omega) (by omega), hgo']
      have : l[i] ≤ hi := by have := h0 e; omega
      simp [chain, hu, this]
    · rw [if_pos (by omega), w64 (x := (i : Int) - 1) (by omega) (by omega), if_pos (by omega), if_pos (by omega)]
      rw [show ((i : Int) - 1) = ((i - 1 : Nat) : Int) from by omega, rd_nat]
      obtain ⟨_, h2⟩ := h1 (by omega)
      rw [← h2]
      by_cases a3 : l[i] > hi
      · rw [if_pos a3]
        have : ¬ l[i] ≤ hi := by omega
        simp [chain, this]
      · rw [if_neg a3, w64 (by omega) (by omega), hgo']
        have : l[i] ≤ hi := by omega
        simp [chain, hu, this]

theorem Check_ref (u : Int) (l : List Int) (k : Nat) (hk : 202 < k) : mummerref16_Check.f k u l = some (chk u l) := by
  unfold mummerref16_Check.f chk
  by_cases h1 : l.length > 200
  · rw [if_pos (by omega), if_pos h1]
  rw [if_neg (by omega), if_neg h1]
  obtain ⟨k, rfl⟩ : ∃ m, k = m + 1 := ⟨k - 1, by omega⟩
  simp only [mummerref16_Check.j0]
  by_cases h2 : l.length = 0
  · rw [if_pos (by omega), if_pos (show l.length = 0 ∨ u < 0 from .inl h2)]; rfl
  rw [if_neg (by omega)]
  by_cases h3 : u < 0
  · rw [if_pos (by simpa using h3), if_pos (show l.length = 0 ∨ u < 0 from .inr h3)]
  · rw [if_neg (by simpa using h3), if_neg (by omega)]
    have := check_ref u l (by omega) l.length k 0 1000000000 (by omega) (by omega) (fun _ => rfl) (fun h => by omega)
    simpa using this

theorem left_ref {u : Int} {l : List Int} (h : Valid u l) : mummerref16_left.f u l = some (last l - u) := by
  have h1 := h.pos; have h2 := h.len; have h3 := h.u0; have h4 := h.lst
  unfold mummerref16_left.f
  rw [w64 (x := (l.length : Int) - 1) (by omega) (by omega), if_pos (by omega), if_pos (by omega), show ((l.length : Int) - 1) = ((l.length - 1 : Nat) : Int) from by omega, rd_nat]
  rw [show l.getD (l.length - 1) 0 = last l from rfl, w64 (by omega) (by omega)]
theorem number_ref (n : Int) : mummerref16_number.f n = some (decide (0 ≤ n ∧ n ≤ 1000000000)) := by
  unfold mummerref16_number.f
  by_cases h : n ≥ 0
  · rw [if_pos h]; simp; omega
  · rw [if_neg h]; simp; omega

theorem Spend_ref {u : Int} {l : List Int} (h : Valid u l) (n : Int) (k : Nat) (hk : 202 < k) : mummerref16_Spend.f k u l n = some (stp u l 1 n) := by
  have h1 := h.pos; have h2 := h.len; have h3 := h.u0; have h4 := h.lst
  obtain ⟨j, rfl⟩ : ∃ m, k = m + 3 := ⟨k - 3, by omega⟩
  unfold mummerref16_Spend.f stp
  rw [Check_ref u l _ hk, (valid_iff u l).2 h]
  simp only [Option.bind_some, if_true, mummerref16_Spend.j0, mummerref16_Spend.j1, mummerref16_Spend.j2, number_ref]
  by_cases n1 : n < 0 ∨ n > 1000000000
  · rw [if_pos n1, if_pos (by simp; omega)]
    simp
  · rw [if_neg n1, if_neg (by simp; omega), left_ref h]
    simp only [Option.bind_some]
    by_cases n3 : n > last l - u
    · rw [if_pos (by simpa using n3), if_pos n3]; simp
    · rw [if_neg (by simpa using n3), if_neg n3]
      simp only [List.length_nil, List.nil_append]
      rw [if_pos (by omega), w64 (by omega) (by omega)]
theorem Open_ref {u : Int} {l : List Int} (h : Valid u l) (n : Int) (k : Nat) (hk : 202 < k) : mummerref16_Open.f k u l n = some (stp u l 2 n) := by
  have h1 := h.pos; have h2 := h.len; have h3 := h.u0; have h4 := h.lst
  obtain ⟨j, rfl⟩ : ∃ m, k = m + 3 := ⟨k - 3, by omega⟩
  unfold mummerref16_Open.f stp
  rw [Check_ref u l _ hk, (valid_iff u l).2 h]
  simp only [Option.bind_some, if_true, mummerref16_Open.j0, mummerref16_Open.j1, mummerref16_Open.j2, number_ref]
  rw [if_neg (show ¬ (2 : Int) = 1 by decide)]
  by_cases n1 : n < 0 ∨ n > 1000000000
  · rw [if_pos n1, if_pos (by simp; omega)]
    simp
  · rw [if_neg n1, if_neg (by simp; omega)]
    by_cases n3 : l.length = 200
    · rw [if_pos (by simp; omega), if_pos n3]; simp
    · rw [if_neg (by simp; omega), if_neg n3]
      simp only [List.length_nil, List.nil_append]
      rw [if_pos (by omega), left_ref h]
      simp only [Option.bind_some]
      rw [if_pos (by omega), mn_min, w64 (by omega) (by omega)]
theorem Close_ref {u : Int} {l : List Int} (h : Valid u l) (k : Nat) (hk : 202 < k) : mummerref16_Close.f k u l = some (stp u l 3 0) := by
  have h1 := h.pos; have h2 := h.len; have h3 := h.u0; have h4 := h.lst
  obtain ⟨j, rfl⟩ : ∃ m, k = m + 3 := ⟨k - 3, by omega⟩
  unfold mummerref16_Close.f stp
  rw [Check_ref u l _ hk, (valid_iff u l).2 h]
  simp only [Option.bind_some, if_true, mummerref16_Close.j0]
  rw [if_neg (show ¬ (3 : Int) = 1 by decide), if_neg (show ¬ (3 : Int) = 2 by decide), if_neg (show ¬ (0 : Int) ≠ 0 by decide)]
  by_cases n3 : l.length = 1
  · rw [if_pos (by simp; omega), if_pos n3]; simp
  · rw [if_neg (by simp; omega), if_neg n3, w64 (x := (l.length : Int) - 1) (by omega) (by omega), if_pos (by omega), if_pos (by omega), show ((l.length : Int) - 1).toNat = l.length - 1 from by omega, take_dropLast]
    simp only [List.length_nil, List.nil_append]
    rw [if_pos (by simp; omega)]
theorem Step_ref {u : Int} {l : List Int} (h : Valid u l) (kd n : Int) (k : Nat) (hk : 202 < k) : mummerref16_Step.f k u l kd n = some (stp u l kd n) := by
  unfold mummerref16_Step.f
  by_cases k1 : kd = 1
  · subst k1; rw [if_pos rfl, Spend_ref h n k hk]; rfl
  rw [if_neg k1]
  by_cases k2 : kd = 2
  · subst k2; rw [if_pos rfl, Open_ref h n k hk]; rfl
  rw [if_neg k2]
  by_cases k3 : kd = 3
  · subst k3
    rw [if_pos rfl]
    by_cases n1 : n = 0
    · subst n1; rw [if_pos rfl, Close_ref h k hk]; rfl
    · rw [if_neg n1]; simp [stp, n1]
  · rw [if_neg k3]; simp [stp, k1, k2, k3]

theorem run_ref (l1 : List S46) (hl : l1.length ≤ 9223372036854775807) : ∀ (d k i : Nat) (u : Int) (l : List Int), Valid u l → i + d = l1.length → d + 203 < k →
    mummerref16_Run.l0 k l1 (i : Int) u l = some (run u l (l1.drop i) i) := by
  intro d
  induction d with
  | zero =>
    intro k i u l hv he hk
    obtain ⟨k, rfl⟩ : ∃ m, k = m + 1 := ⟨k - 1, by omega⟩
    simp only [mummerref16_Run.l0]
    rw [if_neg (by omega), List.drop_of_length_le (by omega), run, show i = l1.length from by omega]
  | succ d ih =>
    intro k i u l hv he hk
    obtain ⟨k, rfl⟩ : ∃ m, k = m + 1 := ⟨k - 1, by omega⟩
    have hlt : i < l1.length := by omega
    simp only [mummerref16_Run.l0]
    rw [if_pos (by omega), if_pos (by omega), rdT l1 i hlt, Step_ref hv _ _ _ (by omega), List.drop_eq_getElem_cons hlt, run]
    simp only [Option.bind_some]
    by_cases e : (stp u l l1[i].f0 l1[i].f1).2.2 = 0
    · rw [if_pos e, if_pos e, w64 (by omega) (by omega)]
      have := ih k (i + 1) _ _ (stp_valid hv l1[i].f0 l1[i].f1) (by omega) (by omega)
      rw [show ((i + 1 : Nat) : Int) = (i : Int) + 1 from by omega] at this
      exact this
    · rw [if_neg e, if_neg e]

theorem Run_ref (u : Int) (l : List Int) (l1 : List S46) (hl : l1.length ≤ 9223372036854775807) (k : Nat) (hk : l1.length + 210 < k) : mummerref16_Run.f k u l l1 = some (Rn u l l1) := by
  unfold mummerref16_Run.f Rn
  rw [Check_ref u l k (by omega)]
  simp only [Option.bind_some]
  by_cases e : chk u l = 0
  · rw [if_pos e, if_pos e]
    have := run_ref l1 hl l1.length k 0 u l ((valid_iff u l).1 e) (by omega) (by omega)
    simpa using this
  · rw [if_neg e, if_neg e]

theorem New_ref (n : Int) : mummerref16_New.f n = some (if 0 ≤ n ∧ n ≤ 1000000000 then (0, [n], 0) else (0, [], 7)) := by
  unfold mummerref16_New.f
  rw [number_ref]
  simp only [Option.bind_some]
  by_cases h : 0 ≤ n ∧ n ≤ 1000000000
  · rw [if_pos (by simpa using h), if_pos h]
  · rw [if_neg (by simpa using h), if_neg h]

theorem search (l1 : List S46) (hl : l1.length ≤ 9223372036854775807) (he : (run 0 [1000000000] l1 0).2.2.2 = 0) : ∀ (d k : Nat) (a b : Int), 0 ≤ a → a ≤ (run 0 [1000000000] l1 0).1 → (run 0 [1000000000] l1 0).1 ≤ b → b ≤ 1000000000 → b - a < 2 ^ d → l1.length + 210 + d < k →
    mummerref16_Least.l0 k l1 a b = some ((run 0 [1000000000] l1 0).1, (l1.length : Int), 0) := by
  intro d
  induction d with
  | zero =>
    intro k a b h0 h1 h2 h3 h4 hk
    obtain ⟨k, rfl⟩ : ∃ m, k = m + 1 := ⟨k - 1, by omega⟩
    simp only [mummerref16_Least.l0]
    simp at h4
    rw [if_neg (by omega), show a = (run 0 [1000000000] l1 0).1 from by omega]
  | succ d ih =>
    intro k a b h0 h1 h2 h3 h4 hk
    obtain ⟨k, rfl⟩ : ∃ m, k = m + 1 := ⟨k - 1, by omega⟩
    simp only [mummerref16_Least.l0]
    have hp : (2 : Int) ^ (d + 1) = 2 * 2 ^ d := by rw [Int.pow_succ]; omega
    rw [hp] at h4
    by_cases hlt : a < b
    · rw [if_pos hlt, half a b h0 hlt h3, New_ref, if_pos (by omega)]
      simp only [Option.bind_some]
      rw [Run_ref _ _ _ hl k (by omega), Rn_new (by omega) (by omega)]
      simp only [Option.bind_some]
      rcases new_less (n := (a + b) / 2) (m := 1000000000) (by omega) (by omega) (by omega) l1 with ⟨e1, e2, e3⟩ | ⟨e1, _, _, e4⟩
      · rw [if_pos (by rw [e2]; exact he)]
        exact ih k a _ h0 h1 e3 (by omega) (by omega) (by omega)
      · rw [if_neg (by rw [e1]; decide), w64 (by omega) (by omega)]
        exact ih k _ b (by omega) (by omega) h2 h3 (by omega) (by omega)
    · rw [if_neg hlt, show a = (run 0 [1000000000] l1 0).1 from by omega]
theorem Least_ref (l1 : List S46) (hl : l1.length ≤ 9223372036854775807) (k : Nat) (hk : l1.length + 250 < k) : mummerref16_Least.f k l1 = some (Lst l1) := by
  unfold mummerref16_Least.f Lst
  rw [New_ref]
  simp only [Option.bind_some, if_pos (show (0 : Int) ≤ 1000000000 ∧ (1000000000 : Int) ≤ 1000000000 by omega)]
  rw [Run_ref _ _ _ hl k (by omega), Rn_new (by omega) (by omega)]
  simp only [Option.bind_some]
  by_cases e : (run 0 [1000000000] l1 0).2.2.2 = 0
  · rw [if_pos e, if_pos e, search l1 hl e 30 k 0 1000000000 (by omega) (run_used l1 0 _ _) (run_most_used l1 0 _ _ (valid_new (by omega) (by omega))) (by omega) (by decide) (by omega)]
    have := (run_done l1 0 [1000000000] 0).2.2 e
    rw [this]
    simp
  · rw [if_neg e, if_neg e]
end Go.Proofs.Ytpophcogdekgkaa.L
