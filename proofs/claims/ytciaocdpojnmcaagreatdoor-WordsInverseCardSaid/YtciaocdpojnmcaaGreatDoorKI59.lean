import Derived.Test.YtciaocdpojnmcaaGreatDoorKI56
import Derived.Test.YtciaocdpojnmcaaGreatDoorKI58
import Derived.Test.YtciaocdpojnmcaaGreatDoorKI43
import Derived.Test.YtciaocdpojnmcaaGreatDoorKI34
import Derived.Test.YtciaocdpojnmcaaGreatDoorKI35
namespace Go.Proofs.YtciaocdpojnmcaaGreatDoor.P
open Go.RowKit Go.Proofs.YtciaocdpojnmcaaGreatDoorW.PrintWords Go.Proofs.YtciaocdpojnmcaaGreatDoorW.PrintLast
set_option linter.unusedVariables false
set_option linter.unusedSimpArgs false
set_option maxRecDepth 20000
def piece (f : S47) : ByteArray := if f.f1 = true then quoteS f.f0 else f.f0
def okF (f : S47) : Bool := f.f1 || bareS f.f0
def bigF (f : S47) : Bool := decide (2000 < f.f0.size)
/-- The pieces with a space between them. -/
def joinB (l : List S47) : ByteArray := ⟨(Lib.join ((l.map piece).map (fun x => x.data.toList)) [32]).toArray⟩
def joinS (l : List S47) : ByteArray × Int :=
  if 64 < l.length then (⟨#[]⟩, 3) else if l.any bigF = true then (⟨#[]⟩, 3) else if l.all okF = false then (⟨#[]⟩, 6) else if 8192 < (joinB l).size then (⟨#[]⟩, 3) else (joinB l, 0)
theorem rd_mid (pre : List S47) (x : S47) (r : List S47) : rd_T47 (pre ++ x :: r) (pre.length : Int) = x := by
  unfold rd_T47
  simp [List.getD_eq_getElem?_getD]
theorem qq_len (a : ByteArray) : ∀ (g p : Nat), (qq a g p).length ≤ 4 * g
  | 0, _ => Nat.le_refl _
  | g + 1, p => by
    have hr := bt_range a p
    have := (E_in (bt a p) hr.1 (by omega)).2
    have h2 := qq_len a g (p + 1)
    rw [qq, List.length_append]
    omega
theorem quoteS_size (a : ByteArray) : 2 ≤ (quoteS a).size ∧ (quoteS a).size ≤ 4 * a.size + 2 := by
  unfold quoteS
  rw [str_size]
  have := qq_len a a.size 0
  simp
  omega
theorem piece_size (f : S47) : (piece f).size ≤ 4 * f.f0.size + 2 := by
  unfold piece
  split
  · exact (quoteS_size f.f0).2
  · omega
theorem joinTail_len (n : Nat) : ∀ (r : List (List UInt8)), (∀ x ∈ r, x.length ≤ n) → (Lib.joinTail [32] r).length ≤ r.length * (n + 1)
  | [], _ => by simp [Lib.joinTail]
  | x :: r, h => by
    have h1 := joinTail_len n r (fun y hy => h y (List.mem_cons_of_mem _ hy))
    have h2 := h x List.mem_cons_self
    unfold Lib.joinTail at h1 ⊢
    simp only [List.map_cons, List.flatten_cons, List.length_append, List.length_cons, List.length_nil]
    rw [Nat.succ_mul]
    omega
theorem join_len (n : Nat) (r : List (List UInt8)) (h : ∀ x ∈ r, x.length ≤ n) : (Lib.join r [32]).length ≤ r.length * (n + 1) := by
  cases r with
  | nil => simp [Lib.join_nil]
  | cons x r =>
    rw [Lib.join_cons, List.length_append, List.length_cons, Nat.succ_mul]
    have h1 := joinTail_len n r (fun y hy => h y (List.mem_cons_of_mem _ hy))
    have h2 := h x List.mem_cons_self
    omega
/-- The sizes that far lets through. -/
def small (l : List S47) : Prop := ∀ x ∈ l, x.f0.size ≤ 2100
theorem joinB_size {l : List S47} (h : small l) : (joinB l).size ≤ l.length * 8403 := by
  unfold joinB
  rw [Lib.size_mk]
  have := join_len 8402 ((l.map piece).map (fun x => x.data.toList)) (fun x hx => by
    obtain ⟨y, hy, rfl⟩ := List.mem_map.1 hx
    obtain ⟨f, hf, rfl⟩ := List.mem_map.1 hy
    have h1 := piece_size f
    have h2 := h f hf
    rw [← Lib.size_eq]
    omega)
  simpa using this
theorem joinB_nil : joinB [] = ⟨#[]⟩ := rfl
theorem wJoin_l (l : List S47) (hl : l.length ≤ 64) (hs : small l) : ∀ (rest pre : List S47) (form : Int) (k : Nat), pre ++ rest = l → (form = 0 ∨ form = 6) → 3000 + rest.length ≤ k →
    words_Join.l0 k form (pre.map piece) l (l.length : Int) (pre.length : Int) = some (if rest.any bigF = true then (⟨#[]⟩, 3) else if (form ≠ 0 ∨ rest.all okF = false) then (⟨#[]⟩, 6) else if 8192 < (joinB l).size then (⟨#[]⟩, 3) else (joinB l, 0)) := by
  intro rest
  induction rest with
  | nil =>
    intro pre form k hp hform hk
    obtain ⟨k, rfl⟩ : ∃ k', k = k' + 1 := ⟨k - 1, by omega⟩
    rw [List.append_nil] at hp
    subst hp
    have hsz := joinB_size hs
    have hj : strings_Join.f (pre.map piece) (⟨#[32]⟩ : ByteArray) = some (joinB pre) := by
      unfold strings_Join.f
      rw [if_pos]
      · rfl
      · refine ⟨by rw [List.length_map]; omega, ?_⟩
        have : (joinB pre).size = (Lib.join ((pre.map piece).map (·.data.toList)) (⟨#[32]⟩ : ByteArray).data.toList).length := by unfold joinB; rw [Lib.size_mk]
        rw [← this]; omega
    rw [words_Join.l0, if_neg (show ¬ ((pre.length : Int) < (pre.length : Int)) by omega), hj]
    simp only [Option.bind_some, List.any_nil, List.all_nil, Bool.false_eq_true, if_false, Bool.true_eq_false, or_false]
    rcases hform with rfl | rfl
    · rw [if_pos rfl, if_neg (show ¬ ((0 : Int) ≠ 0) from fun h => h rfl)]
      by_cases h8 : 8192 < (joinB pre).size
      · rw [if_pos (show ((joinB pre).size : Int) > 8192 by omega), if_pos h8]
      · rw [if_neg (show ¬ ((joinB pre).size : Int) > 8192 by omega), if_neg h8]
    · rw [if_neg (show ¬ ((6 : Int) = 0) by decide), if_pos (show (6 : Int) ≠ 0 by decide)]
  | cons x rest ih =>
    intro pre form k hp hform hk
    obtain ⟨k, rfl⟩ : ∃ k', k = k' + 1 := ⟨k - 1, by omega⟩
    have hlen : l.length = pre.length + (rest.length + 1) := by rw [← hp]; simp
    have hx : rd_T47 l (pre.length : Int) = x := by rw [← hp]; exact rd_mid pre x rest
    have hxs : x.f0.size ≤ 2100 := hs x (by rw [← hp]; simp)
    have w1 : wrap64 ((pre.length : Int) + 1) = (((pre ++ [x]).length : Nat) : Int) := by rw [w64 (by omega) (by omega)]; simp
    have hpx : (pre ++ [x]) ++ rest = l := by rw [List.append_assoc]; exact hp
    rw [List.length_cons] at hk
    rw [words_Join.l0, if_pos (show (pre.length : Int) < (l.length : Int) by omega), if_pos (show (0 : Int) ≤ (pre.length : Int) by omega), if_pos (show (pre.length : Int) < (l.length : Int) by omega), hx, w1, List.any_cons, List.all_cons]
    by_cases hb : 2000 < x.f0.size
    · rw [if_pos (show (x.f0.size : Int) > 2000 by omega), if_pos (by unfold bigF; rw [decide_eq_true hb]; rfl)]
    · have hbf : bigF x = false := decide_eq_false hb
      rw [if_neg (show ¬ (x.f0.size : Int) > 2000 by omega), hbf, Bool.false_or]
      have step : ∀ (form' : Int), (form' = 0 ∨ form' = 6) → words_Join.l0 k form' (pre.map piece ++ [piece x]) l (l.length : Int) (((pre ++ [x]).length : Nat) : Int) = some (if rest.any bigF = true then (⟨#[]⟩, 3) else if (form' ≠ 0 ∨ rest.all okF = false) then (⟨#[]⟩, 6) else if 8192 < (joinB l).size then (⟨#[]⟩, 3) else (joinB l, 0)) := by
        intro form' hf'
        have := ih (pre ++ [x]) form' k hpx hf' (by omega)
        rw [List.map_append] at this
        exact this
      by_cases hq : x.f1 = true
      · have hpc : piece x = quoteS x.f0 := if_pos hq
        have hok : okF x = true := by unfold okF; rw [hq]; rfl
        rw [if_pos hq, wQuote_f x.f0 (by omega) k (by omega)]
        simp only [Option.bind_some]
        rw [if_pos (show (pre.map piece).length < 8796093022208 by rw [List.length_map]; omega), ← hpc, step form hform, hok, Bool.true_and]
      · have hpc : piece x = x.f0 := if_neg hq
        have hqf : x.f1 = false := by simpa using hq
        rw [if_neg hq, isBare_f x.f0 (by omega) k (by omega)]
        simp only [Option.bind_some]
        have hok : okF x = bareS x.f0 := by unfold okF; rw [hqf]; rfl
        rw [hok, ← hpc]
        cases hbr : bareS x.f0 with
        | true =>
          rw [hpc, hbr, if_pos rfl, if_pos (show (pre.map piece).length < 8796093022208 by rw [List.length_map]; omega), ← hpc, step form hform, Bool.true_and]
        | false =>
          rw [hpc, hbr, if_neg Bool.false_ne_true, if_pos (show (pre.map piece).length < 8796093022208 by rw [List.length_map]; omega), ← hpc, step 6 (.inr rfl), Bool.false_and]
          simp
theorem wJoin_f (l : List S47) (hs : small l) (k : Nat) (hk : 3100 ≤ k) : words_Join.f k l = some (joinS l) := by
  unfold words_Join.f joinS
  by_cases h : 64 < l.length
  · rw [if_pos (show (l.length : Int) > 64 by omega), if_pos h]
  · rw [if_neg (show ¬ (l.length : Int) > 64 by omega), if_neg h]
    have := wJoin_l l (by omega) hs l [] 0 k rfl (.inl rfl) (by omega)
    simp only [List.map_nil, List.length_nil, Int.natCast_zero] at this
    rw [this]
    simp
theorem far_l (l : List S47) (hl : l.length ≤ 70) : ∀ (rest pre : List S47) (k : Nat) (n : Int), pre ++ rest = l → rest.length + 1 ≤ k → ∃ b, mummerlaw01_far.l0 k l n (pre.length : Int) = some b ∧ (b = false → small rest) := by
  intro rest
  induction rest with
  | nil =>
    intro pre k n hp hk
    obtain ⟨k, rfl⟩ : ∃ k', k = k' + 1 := ⟨k - 1, by omega⟩
    rw [List.append_nil] at hp
    subst hp
    rw [mummerlaw01_far.l0, if_neg (show ¬ ((pre.length : Int) < (pre.length : Int)) by omega)]
    exact ⟨_, rfl, fun _ x hx => by cases hx⟩
  | cons x rest ih =>
    intro pre k n hp hk
    obtain ⟨k, rfl⟩ : ∃ k', k = k' + 1 := ⟨k - 1, by omega⟩
    have hlen : l.length = pre.length + (rest.length + 1) := by rw [← hp]; simp
    have hx : rd_T47 l (pre.length : Int) = x := by rw [← hp]; exact rd_mid pre x rest
    have w1 : wrap64 ((pre.length : Int) + 1) = (((pre ++ [x]).length : Nat) : Int) := by rw [w64 (by omega) (by omega)]; simp
    rw [List.length_cons] at hk
    rw [mummerlaw01_far.l0, if_pos (show (pre.length : Int) < (l.length : Int) by omega), if_pos (show (0 : Int) ≤ (pre.length : Int) by omega), hx, w1]
    by_cases hb : (x.f0.size : Int) > 2100
    · rw [if_pos hb]; exact ⟨true, rfl, fun h => by cases h⟩
    · rw [if_neg hb]
      obtain ⟨b, h1, h2⟩ := ih (pre ++ [x]) k (wrap64 (n + (x.f0.size : Int))) (by rw [List.append_assoc]; exact hp) (by omega)
      refine ⟨b, h1, fun h y hy => ?_⟩
      rcases List.mem_cons.1 hy with e | e
      · rw [e]; omega
      · exact h2 h y e
theorem far_f (l : List S47) (k : Nat) (hk : 100 ≤ k) : ∃ b, mummerlaw01_far.f k l = some b ∧ (b = false → small l ∧ l.length ≤ 70) := by
  unfold mummerlaw01_far.f
  by_cases h : 70 < l.length
  · rw [if_pos (show (l.length : Int) > 70 by omega)]; exact ⟨true, rfl, fun h => by cases h⟩
  · rw [if_neg (show ¬ (l.length : Int) > 70 by omega)]
    obtain ⟨b, h1, h2⟩ := far_l l (by omega) l [] k 0 rfl (by omega)
    exact ⟨b, h1, fun hb => ⟨h2 hb, by omega⟩⟩
theorem joinS_ok {l : List S47} : (joinS l).2 = 0 ↔ l.length ≤ 64 ∧ l.any bigF = false ∧ l.all okF = true ∧ (joinB l).size ≤ 8192 := by
  unfold joinS
  split
  · simp; omega
  · split
    · rename_i h; simp only [h]; simp
    · rename_i h
      split
      · rename_i h2; simp only [h2]; simp
      · rename_i h2
        split
        · simp; intros; omega
        · rename_i h3
          exact ⟨fun _ => ⟨by omega, by simpa using h, by simpa using h2, by omega⟩, fun _ => rfl⟩
theorem joinS_fst {l : List S47} (h : (joinS l).2 = 0) : (joinS l).1 = joinB l := by
  obtain ⟨h1, h2, h3, h4⟩ := joinS_ok.1 h
  unfold joinS
  rw [if_neg (show ¬ 64 < l.length by omega), if_neg (by rw [h2]; exact Bool.false_ne_true), if_neg (by rw [h3]; decide), if_neg (show ¬ 8192 < (joinB l).size by omega)]
end Go.Proofs.YtciaocdpojnmcaaGreatDoor.P
