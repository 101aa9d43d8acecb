import Derived.Test.YtciaocdpojnmcaaDoorKB43
import Derived.Test.YtciaocdpojnmcaaDoorKB47
import Derived.Test.YtciaocdpojnmcaaDoorKB56
import Derived.Test.YtciaocdpojnmcaaDoorKB33
import Derived.Test.YtciaocdpojnmcaaDoorKB34
namespace Go.Proofs.YtciaocdpojnmcaaDoor.P
open Go.RowKit Go.Proofs.YtciaocdpojnmcaaDoorW.PrintWords Go.Proofs.YtciaocdpojnmcaaDoorW.PrintLast
set_option linter.unusedVariables false
set_option linter.unusedSimpArgs false
set_option maxRecDepth 20000
def piece (f : S43) : ByteArray := if f.f1 = true then quoteS f.f0 else f.f0
def okF (f : S43) : Bool := f.f1 || bareS f.f0
def bigF (f : S43) : Bool := decide (2000 < f.f0.size)
/-- The pieces with a space between them. -/
def joinB (l : List S43) : ByteArray := ⟨(Lib.join ((l.map piece).map (fun x => x.data.toList)) [32]).toArray⟩
def joinS (l : List S43) : ByteArray × Int :=
  if 64 < l.length then (⟨#[]⟩, 3) else if l.any bigF = true then (⟨#[]⟩, 3) else if l.all okF = false then (⟨#[]⟩, 6) else if 8192 < (joinB l).size then (⟨#[]⟩, 3) else (joinB l, 0)
theorem rd_mid (pre : List S43) (x : S43) (r : List S43) : rd_T43 (pre ++ x :: r) (pre.length : Int) = x := by
  unfold rd_T43
  simp [List.getD_eq_getElem?_getD]
theorem qq_len (a : ByteArray) : ∀ (g p : Nat), (qq a g p).length ≤ 4 * g
  | 0, _ => Nat.le_refl _
  | g + 1, p => by
    have hr := bt_range a p
    have := (E_in (bt a p) hr.1 (by omega)).2
    have h2 := qq_len a g (p + 1)
    rw [qq, List.length_append]
    omega
theorem quoteS_size (a : ByteArray) : 2 ≤ (quoteS a).size ∧ (quoteS a).size ≤ 4 * a.size + 2 := by
  unfold quoteS
  rw [str_size]
  have := qq_len a a.size 0
  simp
  omega
theorem piece_size (f : S43) : (piece f).size ≤ 4 * f.f0.size + 2 := by
  unfold piece
  split
  · exact (quoteS_size f.f0).2
  · omega
theorem joinTail_len (n : Nat) : ∀ (r : List (List UInt8)), (∀ x ∈ r, x.length ≤ n) → (Lib.joinTail [32] r).length ≤ r.length * (n + 1)
  | [], _ => by simp [Lib.joinTail]
  | x :: r, h => by
    have h1 := joinTail_len n r (fun y hy => h y (List.mem_cons_of_mem _ hy))
    have h2 := h x List.mem_cons_self
    unfold Lib.joinTail at h1 ⊢
    simp only [List.map_cons, List.flatten_cons, List.length_append, List.length_cons, List.length_nil]
    rw [Nat.succ_mul]
    omega
theorem join_len (n : Nat) (r : List (List UInt8)) (h : ∀ x ∈ r, x.length ≤ n) : (Lib.join r [32]).length ≤ r.length * (n + 1) := by
  cases r with
  | nil => simp [Lib.join_nil]
  | cons x r =>
    rw [Lib.join_cons, List.length_append, List.length_cons, Nat.succ_mul]
    have h1 := joinTail_len n r (fun y hy => h y (List.mem_cons_of_mem _ hy))
    have h2 := h x List.mem_cons_self
    omega
/-- The sizes that far lets through. -/
def small (l : List S43) : Prop := ∀ x ∈ l, x.f0.size ≤ 2100
theorem joinB_size {l : List S43} (h : small l) : (joinB l).size ≤ l.length * 8403 := by
  unfold joinB
  rw [Lib.size_mk]
  have := join_len 8402 ((l.map piece).map (fun x => x.data.toList)) (fun x hx => by
    obtain ⟨y, hy, rfl⟩ := List.mem_map.1 hx
    obtain ⟨f, hf, rfl⟩ := List.mem_map.1 hy
    have h1 := piece_size f
    have h2 := h f hf
    rw [← Lib.size_eq]
    omega)
  simpa using this
theorem wJoin_l (l : List S43) (hl : l.length ≤ 64) (hs : small l) : ∀ (rest pre : List S43) (form : Int) (k : Nat), pre ++ rest = l → (form = 0 ∨ form = 6) → 3000 + rest.length ≤ k →
    words_Join.l0 k form (pre.map piece) l (l.length : Int) (pre.length : Int) = some (if rest.any bigF = true then (⟨#[]⟩, 3) else if (form ≠ 0 ∨ rest.all okF = false) then (⟨#[]⟩, 6) else if 8192 < (joinB l).size then (⟨#[]⟩, 3) else (joinB l, 0)) := by
  intro rest
  induction rest with
  | nil =>
    intro pre form k hp hform hk
    obtain ⟨k, rfl⟩ : ∃ k', k = k' + 1 := ⟨k - 1, by omega⟩
    rw [List.append_nil] at hp
    subst hp
    have hsz := joinB_size hs
    have hj : strings_Join.f (pre.map piece) (⟨#[32]⟩ : ByteArray) = some (joinB pre) := by
      unfold strings_Join.f
      rw [if_pos]
      · rfl
      · refine ⟨by rw [List.length_map]; omega, ?_⟩
        have : (joinB pre).size = (Lib.join ((pre.map piece).map (·.data.toList)) (⟨#[32]⟩ : ByteArray).data.toList).length := by unfold joinB; rw [Lib.size_mk]
        rw [← this]; omega
    rw [words_Join.l0, if_neg (show ¬ ((pre.length : Int) < (pre.length : Int)) by omega), hj]
    simp only [Option.bind_some, List.any_nil, List.all_nil, Bool.false_eq_true, if_false, Bool.true_eq_false, or_false]
    rcases hform with rfl | rfl
    · rw [if_pos rfl, if_neg (show ¬ ((0 : Int) ≠ 0) from fun h => h rfl)]
      by_cases h8 : 8192 < (joinB pre).size
      · rw [if_pos (show ((joinB pre).size : Int) > 8192 by omega), if_pos h8]
      · rw [if_neg (show ¬ ((joinB pre).size : Int) > 8192 by omega), if_neg h8]
    · rw [if_neg (show ¬ ((6 : Int) = 0) by decide), if_pos (show (6 : Int) ≠ 0 by decide)]
  | cons x rest ih =>
    intro pre form k hp hform hk
    obtain ⟨k, rfl⟩ : ∃ k', k = k' + 1 := ⟨k - 1, by omega⟩
    have hlen : l.length = pre.length + (rest.length + 1) := by rw [← hp]; simp
    have hx : rd_T43 l (pre.length : Int) = x := by rw [← hp]; exact rd_mid pre x rest
    have hxs : x.f0.size ≤ 2100 := hs x (by rw [← hp]; simp)
    have w1 : wrap64 ((pre.length : Int) + 1) = (((pre ++ [x]).length : Nat) : Int) := by rw [w64 (by omega) (by omega)]; simp
    have hpx : (pre ++ [x]) ++ rest = l := by rw [List.append_assoc]; exact hp
    rw [List.length_cons] at hk
    rw [words_Join.l0, if_pos (show (pre.length : Int) < (l.length : Int) by omega), if_pos (show (0 : Int) ≤ (pre.length : Int) by omega), if_pos (show (pre.length : Int) < (l.length : Int) by omega), hx, w1, List.any_cons, List.all_cons]
    by_cases hb : 2000 < x.f0.size
    · rw [if_pos (show (x.f0.size : Int) > 2000 by omega), if_pos (by unfold bigF; rw [decide_eq_true hb]; rfl)]
    · have hbf : bigF x = false := decide_eq_false hb
      rw [if_neg (show ¬ (x.f0.size : Int) > 2000 by omega), hbf, Bool.false_or]
      have step : ∀ (form' : Int), (form' = 0 ∨ form' = 6) → words_Join.l0 k form' (pre.map piece ++ [piece x]) l (l.length : Int) (((pre ++ [x]).length : Nat) : Int) = some (if rest.any bigF = true then (⟨#[]⟩, 3) else if (form' ≠ 0 ∨ rest.all okF = false) then (⟨#[]⟩, 6) else if 8192 < (joinB l).size then (⟨#[]⟩, 3) else (joinB l, 0)) := by
        intro form' hf'
        have := ih (pre ++ [x]) form' k hpx hf' (by omega)
        rw [List.map_append] at this
        exact this
      by_cases hq : x.f1 = true
      · have hpc : piece x = quoteS x.f0 := if_pos hq
        have hok : okF x = true := by unfold okF; rw [hq]; rfl
        rw [if_pos hq, wQuote_f x.f0 (by omega) k (by omega)]
        simp only [Option.bind_some]
        rw [if_pos (show (pre.map piece).length < 8796093022208 by rw [List.length_map]; omega), ← hpc, step form hform, hok, Bool.true_and]
      · have hpc : piece x = x.f0 := if_neg hq
        have hqf : x.f1 = false := by simpa using hq
        rw [if_neg hq, isBare_f x.f0 (by omega) k (by omega)]
        simp only [Option.bind_some]
        have hok : okF x = bareS x.f0 := by unfold okF; rw [hqf]; rfl
        rw [hok, ← hpc]
        cases hbr : bareS x.f0 with
        | true =>
          rw [hpc, hbr, if_pos rfl, if_pos (show (pre.map piece).length < 8796093022208 by rw [List.length_map]; omega), ← hpc, step form hform, Bool.true_and]
        | false =>
          rw [hpc, hbr, if_neg Bool.false_ne_true, if_pos (show (pre.map piece).length < 8796093022208 by rw [List.length_map]; omega), ← hpc, step 6 (.inr rfl), Bool.false_and]
          simp
theorem wJoin_f (l : List S43) (hs : small l) (k : Nat) (hk : 3100 ≤ k) : words_Join.f k l = some (joinS l) := by
  unfold words_Join.f joinS
  by_cases h : 64 < l.length
  · rw [if_pos (show (l.length : Int) > 64 by omega), if_pos h]
  · rw [if_neg (show ¬ (l.length : Int) > 64 by omega), if_neg h]
    have := wJoin_l l (by omega) hs l [] 0 k rfl (.inl rfl) (by omega)
    simp only [List.map_nil, List.length_nil, Int.natCast_zero] at this
    rw [this]
    simp
theorem far_l (l : List S43) (hl : l.length ≤ 70) : ∀ (rest pre : List S43) (k : Nat) (n : Int), pre ++ rest = l → rest.length + 1 ≤ k → ∃ b, mummerlaw01_far.l0 k l n (pre.length : Int) = some b ∧ (b = false → small rest) := by
  intro rest
  induction rest with
  | nil =>
    intro pre k n hp hk
    obtain ⟨k, rfl⟩ : ∃ k', k = k' + 1 := ⟨k - 1, by omega⟩
    rw [List.append_nil] at hp
    subst hp
    rw [mummerlaw01_far.l0, if_neg (show ¬ ((pre.length : Int) < (pre.length : Int)) by omega)]
    exact ⟨_, rfl, fun _ x hx => by cases hx⟩
  | cons x rest ih =>
    intro pre k n hp hk
    obtain ⟨k, rfl⟩ : ∃ k', k = k' + 1 := ⟨k - 1, by omega⟩
    have hlen : l.length = pre.length + (rest.length + 1) := by rw [← hp]; simp
    have hx : rd_T43 l (pre.length : Int) = x := by rw [← hp]; exact rd_mid pre x rest
    have w1 : wrap64 ((pre.length : Int) + 1) = (((pre ++ [x]).length : Nat) : Int) := by rw [w64 (by omega) (by omega)]; simp
    rw [List.length_cons] at hk
    rw [mummerlaw01_far.l0, if_pos (show (pre.length : Int) < (l.length : Int) by omega), if_pos (show (0 : Int) ≤ (pre.length : Int) by omega), hx, w1]
    by_cases hb : (x.f0.size : Int) > 2100
    · rw [if_pos hb]; exact ⟨true, rfl, fun h => by cases h⟩
    · rw [if_neg hb]
      obtain ⟨b, h1, h2⟩ := ih (pre ++ [x]) k (wrap64 (n + (x.f0.size : Int))) (by rw [List.append_assoc]; exact hp) (by omega)
      refine ⟨b, h1, fun h y hy => ?_⟩
      rcases List.mem_cons.1 hy with e | e
      · rw [e]; omega
      · exact h2 h y e
theorem far_f (l : List S43) (k : Nat) (hk : 100 ≤ k) : ∃ b, mummerlaw01_far.f k l = some b ∧ (b = false → small l ∧ l.length ≤ 70) := by
  unfold mummerlaw01_far.f
  by_cases h : 70 < l.length
  · rw [if_pos (show (l.length : Int) > 70 by omega)]; exact ⟨true, rfl, fun h => by cases h⟩
  · rw [if_neg (show ¬ (l.length : Int) > 70 by omega)]
    obtain ⟨b, h1, h2⟩ := far_l l (by omega) l [] k 0 rfl (by omega)
    exact ⟨b, h1, fun hb => ⟨h2 hb, by omega⟩⟩
theorem join_app (xs ys : List (List UInt8)) (hx : xs ≠ []) (hy : ys ≠ []) : Lib.join (xs ++ ys) [32] = Lib.join xs [32] ++ [32] ++ Lib.join ys [32] := by
  cases xs with
  | nil => exact absurd rfl hx
  | cons x xs =>
    cases ys with
    | nil => exact absurd rfl hy
    | cons y ys =>
      rw [List.cons_append, Lib.join_cons, Lib.join_cons, Lib.join_cons]
      unfold Lib.joinTail
      simp
theorem joinB_app (l m : List S43) (hl : l ≠ []) (hm : m ≠ []) : joinB (l ++ m) = joinB l ++ (⟨#[32]⟩ : ByteArray) ++ joinB m := by
  unfold joinB
  rw [List.map_append, List.map_append, join_app _ _ (by simpa using hl) (by simpa using hm), show (⟨#[32]⟩ : ByteArray) = ⟨([32] : List UInt8).toArray⟩ from rfl, mk_app, mk_app]
theorem joinS_ok {l : List S43} : (joinS l).2 = 0 ↔ l.length ≤ 64 ∧ l.any bigF = false ∧ l.all okF = true ∧ (joinB l).size ≤ 8192 := by
  unfold joinS
  split
  · simp; omega
  · split
    · rename_i h; simp only [h]; simp
    · rename_i h
      split
      · rename_i h2; simp only [h2]; simp
      · rename_i h2
        split
        · simp; intros; omega
        · rename_i h3
          exact ⟨fun _ => ⟨by omega, by simpa using h, by simpa using h2, by omega⟩, fun _ => rfl⟩
theorem joinS_fst {l : List S43} (h : (joinS l).2 = 0) : (joinS l).1 = joinB l := by
  obtain ⟨h1, h2, h3, h4⟩ := joinS_ok.1 h
  unfold joinS
  rw [if_neg (show ¬ 64 < l.length by omega), if_neg (by rw [h2]; exact Bool.false_ne_true), if_neg (by rw [h3]; decide), if_neg (show ¬ 8192 < (joinB l).size by omega)]
theorem joinS_long {l : List S43} (h2 : l.any bigF = false) (h3 : l.all okF = true) (h : 64 < l.length ∨ 8192 < (joinB l).size) : joinS l = (⟨#[]⟩, 3) := by
  unfold joinS
  by_cases h1 : 64 < l.length
  · rw [if_pos h1]
  · rw [if_neg h1, if_neg (by rw [h2]; exact Bool.false_ne_true), if_neg (by rw [h3]; decide), if_pos (h.resolve_left h1)]
theorem law_both (l m : List S43) : ∃ k, mummerlaw01_WordsBoth.f k l m = some true := by
  refine ⟨5000, ?_⟩
  have easy : ∀ k, 60 ≤ k → mummerlaw01_WordsBoth.j0 (k + 1) l m true = some true := by
    intro k hk
    rw [mummerlaw01_WordsBoth.j0, if_pos rfl, shown_f k hk]; rfl
  unfold mummerlaw01_WordsBoth.f
  obtain ⟨b, h1, h2⟩ := far_f l 5000 (by omega)
  obtain ⟨c, g1, g2⟩ := far_f m 5000 (by omega)
  rw [h1, g1]
  simp only [Option.bind_some]
  cases b with
  | true => rw [if_pos rfl]; exact easy 4999 (by omega)
  | false =>
  rw [if_neg Bool.false_ne_true]
  cases c with
  | true => rw [if_pos rfl]; exact easy 4999 (by omega)
  | false =>
  rw [if_neg Bool.false_ne_true]
  obtain ⟨sl, ll⟩ := h2 rfl
  obtain ⟨sm, lm⟩ := g2 rfl
  by_cases hl : l.length = 0
  · rw [if_pos (show (l.length : Int) = 0 by omega)]; exact easy 4999 (by omega)
  rw [if_neg (show ¬ (l.length : Int) = 0 by omega)]
  by_cases hm : m.length = 0
  · rw [show ((m.length : Int) == 0) = true from beq_iff_eq.2 (by omega)]; exact easy 4999 (by omega)
  rw [show ((m.length : Int) == 0) = false from beq_eq_false_iff_ne.2 (by omega)]
  have hl0 : l ≠ [] := fun e => hl (by rw [e]; rfl)
  have hm0 : m ≠ [] := fun e => hm (by rw [e]; rfl)
  have slm : small (l ++ m) := fun x hx => (List.mem_append.1 hx).elim (sl x) (sm x)
  have hj := joinB_app l m hl0 hm0
  have hsl := joinB_size sl
  have hsm := joinB_size sm
  have hsp : ((joinB l) ++ (⟨#[32]⟩ : ByteArray)).size = (joinB l).size + 1 := by rw [ByteArray.size_append]; rfl
  have hjs : (joinB (l ++ m)).size = (joinB l).size + 1 + (joinB m).size := by rw [hj, ByteArray.size_append, hsp]
  have hany : (l ++ m).any bigF = (l.any bigF || m.any bigF) := List.any_append
  have hall : (l ++ m).all okF = (l.all okF && m.all okF) := List.all_append
  rw [mummerlaw01_WordsBoth.j0, if_neg Bool.false_ne_true, wJoin_f l sl _ (by omega), wJoin_f m sm _ (by omega)]
  simp only [Option.bind_some, List.nil_append, List.length_nil]
  rw [if_pos (show 0 + l.length < 5864062014805 by omega), if_pos (show l.length + m.length < 5864062014805 by omega), wJoin_f (l ++ m) slm _ (by omega)]
  simp only [Option.bind_some]
  have bad : ((joinS l).2 ≠ 0 ∨ (joinS m).2 ≠ 0) → ¬ (joinS (l ++ m)).2 = 0 := by
    intro h h0
    obtain ⟨q1, q2, q3, q4⟩ := joinS_ok.1 h0
    rw [hany, Bool.or_eq_false_iff] at q2
    rw [hall, Bool.and_eq_true] at q3
    rw [List.length_append] at q1
    rcases h with h | h
    · exact h (joinS_ok.2 ⟨by omega, q2.1, q3.1, by omega⟩)
    · exact h (joinS_ok.2 ⟨by omega, q2.2, q3.2, by omega⟩)
  have fin1 : ((joinS l).2 ≠ 0 ∨ (joinS m).2 ≠ 0) → mummerlaw01_WordsBoth.j1 4999 l m (joinS l).1 (joinS m).1 (joinS (l ++ m)).1 (joinS (l ++ m)).2 true = some true := by
    intro h
    rw [mummerlaw01_WordsBoth.j1, if_pos rfl, if_neg (bad h), shown_f _ (by omega)]; rfl
  by_cases e0 : (joinS l).2 = 0
  · rw [if_pos e0]
    by_cases f0 : (joinS m).2 = 0
    · obtain ⟨p1, p2, p3, p4⟩ := joinS_ok.1 e0
      obtain ⟨q1, q2, q3, q4⟩ := joinS_ok.1 f0
      have n2 : (l ++ m).any bigF = false := by rw [hany, p2, q2]; rfl
      have n3 : (l ++ m).all okF = true := by rw [hall, p3, q3]; rfl
      rw [f0, show ((0 : Int) != 0) = false from rfl, mummerlaw01_WordsBoth.j1, if_neg Bool.false_ne_true, joinS_fst e0, joinS_fst f0]
      have w1 : wrap64 ((l.length : Int) + (m.length : Int)) = (l.length : Int) + m.length := w64 (by omega) (by omega)
      have w2 : wrap64 (wrap64 (((joinB l).size : Int) + 1) + ((joinB m).size : Int)) = ((joinB l).size : Int) + 1 + (joinB m).size := by rw [w64 (n := ((joinB l).size : Int) + 1) (by omega) (by omega), w64 (by omega) (by omega)]
      rw [w1, w2]
      have long : (64 < (l ++ m).length ∨ 8192 < (joinB (l ++ m)).size) → mummerlaw01_WordsBoth.j2 4998 (joinB l) (joinB m) (joinS (l ++ m)).1 (joinS (l ++ m)).2 true = some true := by
        intro h
        rw [joinS_long n2 n3 h, mummerlaw01_WordsBoth.j2, if_pos rfl, if_pos rfl, if_pos (show (⟨#[]⟩ : ByteArray).toList = [] from (toList_nil _).2 rfl), shown_f _ (by omega)]; rfl
      by_cases h64 : (l.length : Int) + m.length > 64
      · rw [if_pos h64]; exact long (.inl (by rw [List.length_append]; omega))
      · rw [if_neg h64]
        by_cases h8 : ((joinB l).size : Int) + 1 + (joinB m).size > 8192
        · rw [decide_eq_true h8]; exact long (.inr (by omega))
        · rw [decide_eq_false h8]
          have g0 : (joinS (l ++ m)).2 = 0 := joinS_ok.2 ⟨by rw [List.length_append]; omega, n2, n3, by omega⟩
          rw [g0, joinS_fst g0, mummerlaw01_WordsBoth.j2, if_neg Bool.false_ne_true, if_pos rfl, if_pos (show (joinB l).size + 1 ≤ 9223372036854775807 by omega), if_pos (show ((joinB l) ++ (⟨#[32]⟩ : ByteArray)).size + (joinB m).size ≤ 9223372036854775807 by rw [hsp]; omega), hj, if_pos rfl, shown_f _ (by omega)]; rfl
    · rw [show ((joinS m).2 != 0) = true from bne_iff_ne.2 f0]
      exact fin1 (.inr f0)
  · rw [if_neg e0]
    exact fin1 (.inl e0)
end Go.Proofs.YtciaocdpojnmcaaDoor.P
