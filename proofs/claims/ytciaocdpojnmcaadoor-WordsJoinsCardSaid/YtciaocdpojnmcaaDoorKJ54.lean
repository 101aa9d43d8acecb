import Derived.Test.YtciaocdpojnmcaaDoorKJ40
import Derived.Test.YtciaocdpojnmcaaDoorKJ43
import Derived.Test.YtciaocdpojnmcaaDoorKJ52
import Derived.Test.YtciaocdpojnmcaaDoorKJ33
import Derived.Test.YtciaocdpojnmcaaDoorKJ34
namespace Go.Proofs.YtciaocdpojnmcaaDoor.P
open Go.RowKit Go.Proofs.YtciaocdpojnmcaaDoorW.PrintWords Go.Proofs.YtciaocdpojnmcaaDoorW.PrintLast
set_option linter.unusedVariables false
set_option linter.unusedSimpArgs false
set_option maxRecDepth 20000
def piece (f : S43) : ByteArray := if f.f1 = true then quoteS f.f0 else f.f0
def okF (f : S43) : Bool := f.f1 || bareS f.f0
def bigF (f : S43) : Bool := decide (2000 < f.f0.size)
/-- The pieces with a space between them. -/
def joinB (l : List S43) : ByteArray := ⟨(Lib.join ((l.map piece).map (fun x => x.data.toList)) [32]).toArray⟩
def joinS (l : List S43) : ByteArray × Int :=
  if 64 < l.length then (⟨#[]⟩, 3) else if l.any bigF = true then (⟨#[]⟩, 3) else if l.all okF = false then (⟨#[]⟩, 6) else if 8192 < (joinB l).size then (⟨#[]⟩, 3) else (joinB l, 0)
theorem rd_mid (pre : List S43) (x : S43) (r : List S43) : rd_T43 (pre ++ x :: r) (pre.length : Int) = x := by
  unfold rd_T43
  simp [List.getD_eq_getElem?_getD]
theorem qq_len (a : ByteArray) : ∀ (g p : Nat), (qq a g p).length ≤ 4 * g
  | 0, _ => Nat.le_refl _
  | g + 1, p => by
    have hr := bt_range a p
    have := (E_in (bt a p) hr.1 (by omega)).2
    have h2 := qq_len a g (p + 1)
    rw [qq, List.length_append]
    omega
theorem quoteS_size (a : ByteArray) : 2 ≤ (quoteS a).size ∧ (quoteS a).size ≤ 4 * a.size + 2 := by
  unfold quoteS
  rw [str_size]
  have := qq_len a a.size 0
  simp
  omega
theorem piece_size (f : S43) : (piece f).size ≤ 4 * f.f0.size + 2 := by
  unfold piece
  split
  · exact (quoteS_size f.f0).2
  · omega
theorem joinTail_len (n : Nat) : ∀ (r : List (List UInt8)), (∀ x ∈ r, x.length ≤ n) → (Lib.joinTail [32] r).length ≤ r.length * (n + 1)
  | [], _ => by simp [Lib.joinTail]
  | x :: r, h => by
    have h1 := joinTail_len n r (fun y hy => h y (List.mem_cons_of_mem _ hy))
    have h2 := h x List.mem_cons_self
    unfold Lib.joinTail at h1 ⊢
    simp only [List.map_cons, List.flatten_cons, List.length_append, List.length_cons, List.length_nil]
    rw [Nat.succ_mul]
    omega
theorem join_len (n : Nat) (r : List (List UInt8)) (h : ∀ x ∈ r, x.length ≤ n) : (Lib.join r [32]).length ≤ r.length * (n + 1) := by
  cases r with
  | nil => simp [Lib.join_nil]
  | cons x r =>
    rw [Lib.join_cons, List.length_append, List.length_cons, Nat.succ_mul]
    have h1 := joinTail_len n r (fun y hy => h y (List.mem_cons_of_mem _ hy))
    have h2 := h x List.mem_cons_self
    omega
theorem join_snoc (xs : List (List UInt8)) (y : List UInt8) (hne : xs ≠ []) : Lib.join (xs ++ [y]) [32] = Lib.join xs [32] ++ [32] ++ y := by
  cases xs with
  | nil => exact absurd rfl hne
  | cons x xs =>
    rw [List.cons_append, Lib.join_cons, Lib.join_cons]
    unfold Lib.joinTail
    simp
/-- The sizes that far lets through. -/
def small (l : List S43) : Prop := ∀ x ∈ l, x.f0.size ≤ 2100
theorem joinB_size {l : List S43} (h : small l) : (joinB l).size ≤ l.length * 8403 := by
  unfold joinB
  rw [Lib.size_mk]
  have := join_len 8402 ((l.map piece).map (fun x => x.data.toList)) (fun x hx => by
    obtain ⟨y, hy, rfl⟩ := List.mem_map.1 hx
    obtain ⟨f, hf, rfl⟩ := List.mem_map.1 hy
    have h1 := piece_size f
    have h2 := h f hf
    rw [← Lib.size_eq]
    omega)
  simpa using this
theorem joinB_nil : joinB [] = ⟨#[]⟩ := rfl
theorem joinB_snoc (pre : List S43) (x : S43) (h : pre ≠ []) : joinB (pre ++ [x]) = joinB pre ++ (⟨#[32]⟩ : ByteArray) ++ piece x := by
  unfold joinB
  rw [List.map_append, List.map_append, show ((List.map piece [x]).map (fun x => x.data.toList)) = [(piece x).data.toList] from rfl, join_snoc _ _ (by simpa using h)]
  rw [show (⟨#[32]⟩ : ByteArray) = ⟨([32] : List UInt8).toArray⟩ from rfl, mk_app]
  conv => rhs; rw [← Lib.mk_data (piece x)]
  rw [mk_app]
theorem joinB_one (x : S43) : joinB [x] = piece x := by
  unfold joinB
  rw [show ((List.map piece [x]).map (fun x => x.data.toList)) = [(piece x).data.toList] from rfl, Lib.join_one, Lib.mk_data]
theorem wJoin_l (l : List S43) (hl : l.length ≤ 64) (hs : small l) : ∀ (rest pre : List S43) (form : Int) (k : Nat), pre ++ rest = l → (form = 0 ∨ form = 6) → 3000 + rest.length ≤ k →
    words_Join.l0 k form (pre.map piece) l (l.length : Int) (pre.length : Int) = some (if rest.any bigF = true then (⟨#[]⟩, 3) else if (form ≠ 0 ∨ rest.all okF = false) then (⟨#[]⟩, 6) else if 8192 < (joinB l).size then (⟨#[]⟩, 3) else (joinB l, 0)) := by
  intro rest
  induction rest with
  | nil =>
    intro pre form k hp hform hk
    obtain ⟨k, rfl⟩ : ∃ k', k = k' + 1 := ⟨k - 1, by omega⟩
    rw [List.append_nil] at hp
    subst hp
    have hsz := joinB_size hs
    have hj : strings_Join.f (pre.map piece) (⟨#[32]⟩ : ByteArray) = some (joinB pre) := by
      unfold strings_Join.f
      rw [if_pos]
      · rfl
      · refine ⟨by rw [List.length_map]; omega, ?_⟩
        have : (joinB pre).size = (Lib.join ((pre.map piece).map (·.data.toList)) (⟨#[32]⟩ : ByteArray).data.toList).length := by unfold joinB; rw [Lib.size_mk]
        rw [← this]; omega
    rw [words_Join.l0, if_neg (show ¬ ((pre.length : Int) < (pre.length : Int)) by omega), hj]
    simp only [Option.bind_some, List.any_nil, List.all_nil, Bool.false_eq_true, if_false, Bool.true_eq_false, or_false]
    rcases hform with rfl | rfl
    · rw [if_pos rfl, if_neg (show ¬ ((0 : Int) ≠ 0) from fun h => h rfl)]
      by_cases h8 : 8192 < (joinB pre).size
      · rw [if_pos (show ((joinB pre).size : Int) > 8192 by omega), if_pos h8]
      · rw [if_neg (show ¬ ((joinB pre).size : Int) > 8192 by omega), if_neg h8]
    · rw [if_neg (show ¬ ((6 : Int) = 0) by decide), if_pos (show (6 : Int) ≠ 0 by decide)]
  | cons x rest ih =>
    intro pre form k hp hform hk
    obtain ⟨k, rfl⟩ : ∃ k', k = k' + 1 := ⟨k - 1, by omega⟩
    have hlen : l.length = pre.length + (rest.length + 1) := by rw [← hp]; simp
    have hx : rd_T43 l (pre.length : Int) = x := by rw [← hp]; exact rd_mid pre x rest
    have hxs : x.f0.size ≤ 2100 := hs x (by rw [← hp]; simp)
    have w1 : wrap64 ((pre.length : Int) + 1) = (((pre ++ [x]).length : Nat) : Int) := by rw [w64 (by omega) (by omega)]; simp
    have hpx : (pre ++ [x]) ++ rest = l := by rw [List.append_assoc]; exact hp
    rw [List.length_cons] at hk
    rw [words_Join.l0, if_pos (show (pre.length : Int) < (l.length : Int) by omega), if_pos (show (0 : Int) ≤ (pre.length : Int) by omega), if_pos (show (pre.length : Int) < (l.length : Int) by omega), hx, w1, List.any_cons, List.all_cons]
    by_cases hb : 2000 < x.f0.size
    · rw [if_pos (show (x.f0.size : Int) > 2000 by omega), if_pos (by unfold bigF; rw [decide_eq_true hb]; rfl)]
    · have hbf : bigF x = false := decide_eq_false hb
      rw [if_neg (show ¬ (x.f0.size : Int) > 2000 by omega), hbf, Bool.false_or]
      have step : ∀ (form' : Int), (form' = 0 ∨ form' = 6) → words_Join.l0 k form' (pre.map piece ++ [piece x]) l (l.length : Int) (((pre ++ [x]).length : Nat) : Int) = some (if rest.any bigF = true then (⟨#[]⟩, 3) else if (form' ≠ 0 ∨ rest.all okF = false) then (⟨#[]⟩, 6) else if 8192 < (joinB l).size then (⟨#[]⟩, 3) else (joinB l, 0)) := by
        intro form' hf'
        have := ih (pre ++ [x]) form' k hpx hf' (by omega)
        rw [List.map_append] at this
        exact this
      by_cases hq : x.f1 = true
      · have hpc : piece x = quoteS x.f0 := if_pos hq
        have hok : okF x = true := by unfold okF; rw [hq]; rfl
        rw [if_pos hq, wQuote_f x.f0 (by omega) k (by omega)]
        simp only [Option.bind_some]
        rw [if_pos (show (pre.map piece).length < 8796093022208 by rw [List.length_map]; omega), ← hpc, step form hform, hok, Bool.true_and]
      · have hpc : piece x = x.f0 := if_neg hq
        have hqf : x.f1 = false := by simpa using hq
        rw [if_neg hq, isBare_f x.f0 (by omega) k (by omega)]
        simp only [Option.bind_some]
        have hok : okF x = bareS x.f0 := by unfold okF; rw [hqf]; rfl
        rw [hok, ← hpc]
        cases hbr : bareS x.f0 with
        | true =>
          rw [hpc, hbr, if_pos rfl, if_pos (show (pre.map piece).length < 8796093022208 by rw [List.length_map]; omega), ← hpc, step form hform, Bool.true_and]
        | false =>
          rw [hpc, hbr, if_neg Bool.false_ne_true, if_pos (show (pre.map piece).length < 8796093022208 by rw [List.length_map]; omega), ← hpc, step 6 (.inr rfl), Bool.false_and]
          simp
theorem wJoin_f (l : List S43) (hs : small l) (k : Nat) (hk : 3100 ≤ k) : words_Join.f k l = some (joinS l) := by
  unfold words_Join.f joinS
  by_cases h : 64 < l.length
  · rw [if_pos (show (l.length : Int) > 64 by omega), if_pos h]
  · rw [if_neg (show ¬ (l.length : Int) > 64 by omega), if_neg h]
    have := wJoin_l l (by omega) hs l [] 0 k rfl (.inl rfl) (by omega)
    simp only [List.map_nil, List.length_nil, Int.natCast_zero] at this
    rw [this]
    simp
theorem rJoin_l0 (l : List S43) (hl : l.length ≤ 64) : ∀ (rest pre : List S43) (k : Nat), pre ++ rest = l → rest.length + 1 ≤ k → mummerref01_Join.l0 k l (pre.length : Int) = if rest.any bigF = true then some (⟨#[]⟩, 3) else mummerref01_Join.l1 (k - rest.length - 1) l (⟨#[]⟩ : ByteArray) 0 := by
  intro rest
  induction rest with
  | nil =>
    intro pre k hp hk
    obtain ⟨k, rfl⟩ : ∃ k', k = k' + 1 := ⟨k - 1, by omega⟩
    rw [List.append_nil] at hp
    subst hp
    rw [mummerref01_Join.l0, if_neg (show ¬ ((pre.length : Int) < (pre.length : Int)) by omega)]
    rfl
  | cons x rest ih =>
    intro pre k hp hk
    obtain ⟨k, rfl⟩ : ∃ k', k = k' + 1 := ⟨k - 1, by omega⟩
    have hlen : l.length = pre.length + (rest.length + 1) := by rw [← hp]; simp
    have hx : rd_T43 l (pre.length : Int) = x := by rw [← hp]; exact rd_mid pre x rest
    have w1 : wrap64 ((pre.length : Int) + 1) = (((pre ++ [x]).length : Nat) : Int) := by rw [w64 (by omega) (by omega)]; simp
    rw [List.length_cons] at hk ⊢
    rw [mummerref01_Join.l0, if_pos (show (pre.length : Int) < (l.length : Int) by omega), if_pos (show (0 : Int) ≤ (pre.length : Int) by omega), hx, w1, List.any_cons]
    by_cases hb : 2000 < x.f0.size
    · rw [if_pos (show (x.f0.size : Int) > 2000 by omega), if_pos (by unfold bigF; rw [decide_eq_true hb]; rfl)]
    · have hbf : bigF x = false := decide_eq_false hb
      rw [if_neg (show ¬ (x.f0.size : Int) > 2000 by omega), hbf, Bool.false_or, ih (pre ++ [x]) k (by rw [List.append_assoc]; exact hp) (by omega)]
      rw [show k + 1 - (rest.length + 1) - 1 = k - rest.length - 1 by omega]
theorem rJoin_l1 (l : List S43) (hl : l.length ≤ 64) (hs : small l) : ∀ (rest pre : List S43) (k : Nat), pre ++ rest = l → 3000 + 2 * rest.length ≤ k →
    mummerref01_Join.l1 k l (joinB pre) (pre.length : Int) = some (if rest.all okF = false then (⟨#[]⟩, 6) else if 8192 < (joinB l).size then (⟨#[]⟩, 3) else (joinB l, 0)) := by
  intro rest
  induction rest with
  | nil =>
    intro pre k hp hk
    obtain ⟨k, rfl⟩ : ∃ k', k = k' + 1 := ⟨k - 1, by omega⟩
    rw [List.append_nil] at hp
    subst hp
    rw [mummerref01_Join.l1, if_neg (show ¬ ((pre.length : Int) < (pre.length : Int)) by omega), List.all_nil, if_neg (show ¬ (true = false) by decide)]
    by_cases h8 : 8192 < (joinB pre).size
    · rw [if_pos (show ((joinB pre).size : Int) > 8192 by omega), if_pos h8]
    · rw [if_neg (show ¬ ((joinB pre).size : Int) > 8192 by omega), if_neg h8]
  | cons x rest ih =>
    intro pre k hp hk
    obtain ⟨k, rfl⟩ : ∃ k', k = k' + 2 := ⟨k - 2, by omega⟩
    have hlen : l.length = pre.length + (rest.length + 1) := by rw [← hp]; simp
    have hx : rd_T43 l (pre.length : Int) = x := by rw [← hp]; exact rd_mid pre x rest
    have hxs : x.f0.size ≤ 2100 := hs x (by rw [← hp]; simp)
    have w1 : wrap64 ((pre.length : Int) + 1) = (((pre ++ [x]).length : Nat) : Int) := by rw [w64 (by omega) (by omega)]; simp
    have hpre : small pre := fun y hy => hs y (by rw [← hp]; exact List.mem_append_left _ hy)
    have hjs := joinB_size hpre
    have hps := piece_size x
    rw [List.length_cons] at hk
    have hrec := ih (pre ++ [x]) k (by rw [List.append_assoc]; exact hp) (by omega)
    have hsp : ((joinB pre) ++ (⟨#[32]⟩ : ByteArray)).size = (joinB pre).size + 1 := by rw [ByteArray.size_append]; rfl
    rw [mummerref01_Join.l1, if_pos (show (pre.length : Int) < (l.length : Int) by omega), if_pos (show (0 : Int) ≤ (pre.length : Int) by omega), hx, List.all_cons]
    have good : okF x = true → mummerref01_Join.j2 (k + 1) l (joinB pre) (pre.length : Int) false = mummerref01_Join.l1 k l (joinB (pre ++ [x])) (((pre ++ [x]).length : Nat) : Int) := by
      intro hok
      rw [mummerref01_Join.j2, if_neg Bool.false_ne_true, hx, w1]
      by_cases h0 : pre = []
      · subst h0
        rw [if_neg (show ¬ ((([] : List S43).length : Int) > 0) by decide), if_pos (show (0 : Int) ≤ (([] : List S43).length : Int) by decide), if_pos (show (([] : List S43).length : Int) < (l.length : Int) by simp; omega)]
        rw [joinB_nil, List.nil_append, joinB_one]
        have he : ∀ y : ByteArray, (⟨#[]⟩ : ByteArray) ++ y = y := fun y => by apply ByteArray.ext; simp
        by_cases hq : x.f1 = true
        · have hpc : piece x = quoteS x.f0 := if_pos hq
          rw [if_pos hq, rQuote_f x.f0 (by omega) k (by omega)]
          simp only [Option.bind_some]
          rw [← hpc, if_pos (show (⟨#[]⟩ : ByteArray).size + (piece x).size ≤ 9223372036854775807 by show 0 + _ ≤ _; omega), he]
        · have hpc : piece x = x.f0 := if_neg hq
          rw [if_neg hq, ← hpc, if_pos (show (⟨#[]⟩ : ByteArray).size + (piece x).size ≤ 9223372036854775807 by show 0 + _ ≤ _; omega), he]
      · have hpl : 0 < pre.length := List.length_pos_iff.2 h0
        rw [if_pos (show (pre.length : Int) > 0 by omega), if_pos (show (joinB pre).size + 1 ≤ 9223372036854775807 by omega), if_pos (show (0 : Int) ≤ (pre.length : Int) by omega), if_pos (show (pre.length : Int) < (l.length : Int) by omega), joinB_snoc pre x h0]
        by_cases hq : x.f1 = true
        · have hpc : piece x = quoteS x.f0 := if_pos hq
          rw [if_pos hq, rQuote_f x.f0 (by omega) k (by omega)]
          simp only [Option.bind_some]
          rw [← hpc, if_pos (show (joinB pre ++ (⟨#[32]⟩ : ByteArray)).size + (piece x).size ≤ 9223372036854775807 by rw [hsp]; omega)]
        · have hpc : piece x = x.f0 := if_neg hq
          rw [if_neg hq, ← hpc, if_pos (show (joinB pre ++ (⟨#[32]⟩ : ByteArray)).size + (piece x).size ≤ 9223372036854775807 by rw [hsp]; omega)]
    by_cases hq : x.f1 = true
    · have hok : okF x = true := by unfold okF; rw [hq]; rfl
      rw [if_pos hq, good hok, hrec, hok, Bool.true_and]
    · have hqf : x.f1 = false := by simpa using hq
      have hok : okF x = bareS x.f0 := by unfold okF; rw [hqf]; rfl
      rw [if_neg hq, bare_f x.f0 (by omega) (k + 1) (by omega)]
      simp only [Option.bind_some]
      cases hbr : bareS x.f0 with
      | true => rw [show (!true) = false from rfl, good (by rw [hok, hbr]), hrec, hok, hbr, Bool.true_and]
      | false => rw [show (!false) = true from rfl, mummerref01_Join.j2, if_pos rfl, hok, hbr, Bool.false_and, if_pos rfl]
theorem rJoin_f (l : List S43) (hs : small l) (k : Nat) (hk : 4000 ≤ k) : mummerref01_Join.f k l = some (joinS l) := by
  unfold mummerref01_Join.f joinS
  by_cases h : 64 < l.length
  · rw [if_pos (show (l.length : Int) > 64 by omega), if_pos h]
  · rw [if_neg (show ¬ (l.length : Int) > 64 by omega), if_neg h]
    have h0 := rJoin_l0 l (by omega) l [] k rfl (by omega)
    have h1 := rJoin_l1 l (by omega) hs l [] (k - l.length - 1) rfl (by omega)
    rw [joinB_nil] at h1
    simp only [List.length_nil, Int.natCast_zero] at h0 h1
    rw [h0, h1]
    split <;> rfl
theorem far_l (l : List S43) (hl : l.length ≤ 70) : ∀ (rest pre : List S43) (k : Nat) (n : Int), pre ++ rest = l → rest.length + 1 ≤ k → ∃ b, mummerlaw01_far.l0 k l n (pre.length : Int) = some b ∧ (b = false → small rest) := by
  intro rest
  induction rest with
  | nil =>
    intro pre k n hp hk
    obtain ⟨k, rfl⟩ : ∃ k', k = k' + 1 := ⟨k - 1, by omega⟩
    rw [List.append_nil] at hp
    subst hp
    rw [mummerlaw01_far.l0, if_neg (show ¬ ((pre.length : Int) < (pre.length : Int)) by omega)]
    exact ⟨_, rfl, fun _ x hx => by cases hx⟩
  | cons x rest ih =>
    intro pre k n hp hk
    obtain ⟨k, rfl⟩ : ∃ k', k = k' + 1 := ⟨k - 1, by omega⟩
    have hlen : l.length = pre.length + (rest.length + 1) := by rw [← hp]; simp
    have hx : rd_T43 l (pre.length : Int) = x := by rw [← hp]; exact rd_mid pre x rest
    have w1 : wrap64 ((pre.length : Int) + 1) = (((pre ++ [x]).length : Nat) : Int) := by rw [w64 (by omega) (by omega)]; simp
    rw [List.length_cons] at hk
    rw [mummerlaw01_far.l0, if_pos (show (pre.length : Int) < (l.length : Int) by omega), if_pos (show (0 : Int) ≤ (pre.length : Int) by omega), hx, w1]
    by_cases hb : (x.f0.size : Int) > 2100
    · rw [if_pos hb]; exact ⟨true, rfl, fun h => by cases h⟩
    · rw [if_neg hb]
      obtain ⟨b, h1, h2⟩ := ih (pre ++ [x]) k (wrap64 (n + (x.f0.size : Int))) (by rw [List.append_assoc]; exact hp) (by omega)
      refine ⟨b, h1, fun h y hy => ?_⟩
      rcases List.mem_cons.1 hy with e | e
      · rw [e]; omega
      · exact h2 h y e
theorem far_f (l : List S43) (k : Nat) (hk : 100 ≤ k) : ∃ b, mummerlaw01_far.f k l = some b ∧ (b = false → small l ∧ l.length ≤ 70) := by
  unfold mummerlaw01_far.f
  by_cases h : 70 < l.length
  · rw [if_pos (show (l.length : Int) > 70 by omega)]; exact ⟨true, rfl, fun h => by cases h⟩
  · rw [if_neg (show ¬ (l.length : Int) > 70 by omega)]
    obtain ⟨b, h1, h2⟩ := far_l l (by omega) l [] k 0 rfl (by omega)
    exact ⟨b, h1, fun hb => ⟨h2 hb, by omega⟩⟩
theorem law_joins (l : List S43) : ∃ k, mummerlaw01_WordsJoins.f k l = some true := by
  refine ⟨5000, ?_⟩
  unfold mummerlaw01_WordsJoins.f
  obtain ⟨b, h1, h2⟩ := far_f l 5000 (by omega)
  rw [h1]
  simp only [Option.bind_some]
  cases b with
  | true => rw [if_pos rfl, shown_f _ (by omega)]; rfl
  | false =>
    rw [if_neg Bool.false_ne_true, wJoin_f l (h2 rfl).1 _ (by omega), rJoin_f l (h2 rfl).1 _ (by omega)]
    simp only [Option.bind_some]
    rw [if_pos trivial, if_pos trivial, shown_f _ (by omega)]; rfl
end Go.Proofs.YtciaocdpojnmcaaDoor.P
