/- Plain lemmas: the nesting of spans. -/
import Derived.Test.YtnkfdobcmfdhfaaDoorL0
import Derived.Test.YtnkfdobcmfdhfaaDoorPx16
import Derived.Test.YtnkfdobcmfdhfaaDoorPx19
import Derived.Test.YtnkfdobcmfdhfaaDoorPx5
namespace Go.Proofs.YtnkfdobcmfdhfaaDoor.P
open Go.RowKit Go.Proofs.YtnkfdobcmfdhfaaDoorW.PrintWords Go.Proofs.YtnkfdobcmfdhfaaDoorW.PrintLast Sc
set_option linter.unusedVariables false
set_option linter.unusedSimpArgs false
set_option maxRecDepth 20000
/-! ### the spans' nesting, plainly -/
theorem w64 {n : Int} (h : -9223372036854775808 ≤ n) (h' : n ≤ 9223372036854775807) : wrap64 n = n := by unfold wrap64; omega
def sp (l : List S24) (i : Nat) : S24 := l.getD i z24
def Wi (a b : S24) : Prop := b.f0 ≤ a.f0 ∧ a.f1 ≤ b.f1
def Be (a b : S24) : Prop := a.f1 ≤ b.f0 ∧ ¬ (a.f0 = b.f0 ∧ a.f1 = b.f1)
instance (a b : S24) : Decidable (Wi a b) := by unfold Wi; infer_instance
instance (a b : S24) : Decidable (Be a b) := by unfold Be; infer_instance
def OkS (s : S24) : Prop := 0 ≤ s.f0 ∧ s.f0 ≤ s.f1 ∧ s.f1 ≤ 4611686018427387904
instance (s : S24) : Decidable (OkS s) := by unfold OkS; infer_instance
def Bad (l : List S24) (k i : Nat) : Prop := ¬ Wi (sp l k) (sp l i) ∧ ¬ Be (sp l i) (sp l k)
/-- The reference's inner loop. -/
def rp (l : List S24) (k : Nat) : Nat → Nat → Int → Option Int
  | 0, _, p => some p
  | d + 1, i, p => if Wi (sp l k) (sp l i) then rp l k d (i + 1) (i : Int) else (if Be (sp l i) (sp l k) then rp l k d (i + 1) p else none)
theorem rp_bad (l : List S24) (k : Nat) : ∀ (d i : Nat) (p : Int), (∃ j, i ≤ j ∧ j < i + d ∧ Bad l k j) → rp l k d i p = none
  | 0, i, p, h => by obtain ⟨j, h1, h2, _⟩ := h; omega
  | d + 1, i, p, ⟨j, h1, h2, h3⟩ => by
    rw [rp]
    by_cases e : j = i
    · subst e; rw [if_neg h3.1, if_neg h3.2]
    · have ih := fun p => rp_bad l k d (i + 1) p ⟨j, by omega, by omega, h3⟩
      rw [ih, ih]
      split <;> (try split) <;> rfl
theorem rp_good (l : List S24) (k : Nat) : ∀ (d i : Nat) (p : Int), (∀ j, i ≤ j → j < i + d → ¬ Bad l k j) → (∀ j, i ≤ j → j < i + d → ¬ Wi (sp l k) (sp l j)) → rp l k d i p = some p
  | 0, i, p, _, _ => rfl
  | d + 1, i, p, h1, h2 => by
    rw [rp, if_neg (h2 i (Nat.le_refl _) (by omega)), if_pos (Classical.byContradiction fun h => h1 i (Nat.le_refl _) (by omega) ⟨h2 i (Nat.le_refl _) (by omega), h⟩)]
    exact rp_good l k d (i + 1) p (fun j a b => h1 j (by omega) (by omega)) (fun j a b => h2 j (by omega) (by omega))
theorem rp_last (l : List S24) (k : Nat) : ∀ (d i : Nat) (p : Int) (q : Nat), i ≤ q → q < i + d → (∀ j, i ≤ j → j < i + d → ¬ Bad l k j) → Wi (sp l k) (sp l q) → (∀ j, q < j → j < i + d → ¬ Wi (sp l k) (sp l j)) → rp l k d i p = some (q : Int)
  | 0, i, p, q, h1, h2, _, _, _ => by omega
  | d + 1, i, p, q, h1, h2, h3, h4, h5 => by
    rw [rp]
    by_cases e : q = i
    · subst e
      rw [if_pos h4]
      exact rp_good l k d (q + 1) q (fun j a b => h3 j (by omega) (by omega)) (fun j a b => h5 j (by omega) (by omega))
    · have ih := fun p => rp_last l k d (i + 1) p q (by omega) (by omega) (fun j a b => h3 j (by omega) (by omega)) h4 (fun j a b => h5 j a (by omega))
      have h6 := h3 i (Nat.le_refl _) (by omega)
      rw [ih, ih]
      split
      · rfl
      · rename_i h7
        rw [if_pos (Classical.byContradiction fun h => h6 ⟨h7, h⟩)]
structure Inv (l : List S24) (k T : Nat) (os : List Nat) (e : Int) : Prop where
  inc : os.Pairwise (· < ·)
  lt : ∀ i ∈ os, i < k
  chain : os.Pairwise (fun a b => Wi (sp l b) (sp l a))
  clo : ∀ i, i < k → i ∉ os → (∃ t, i < t ∧ t < T ∧ Be (sp l i) (sp l t) ∧ ¬ Wi (sp l t) (sp l i)) ∧ (sp l i).f1 ≤ e
  top : e = 0 ∨ ∃ i, i < k ∧ i ∉ os ∧ (sp l i).f1 = e
theorem Inv.first (l : List S24) : Inv l 0 0 [] 0 := ⟨List.Pairwise.nil, (fun _ h => by cases h), List.Pairwise.nil, (fun i h => absurd h (Nat.not_lt_zero _)), Or.inl rfl⟩
theorem Inv.more {l : List S24} {k T : Nat} {os : List Nat} {e : Int} (h : Inv l k T os e) : Inv l k (T + 1) os e :=
  ⟨h.inc, h.lt, h.chain, fun i hi ho => by obtain ⟨⟨t, a, b, c⟩, d⟩ := h.clo i hi ho; exact ⟨⟨t, a, by omega, c⟩, d⟩, h.top⟩
theorem Wi.trans {a b c : S24} (h : Wi a b) (h' : Wi b c) : Wi a c := ⟨Int.le_trans h'.1 h.1, Int.le_trans h.2 h'.2⟩
/-- All that are open have it within them. -/
theorem Inv.open_ {l : List S24} {k T : Nat} {os : List Nat} {e : Int} (h : Inv l k T os e) (ht : os = [] ∨ ∃ o p, os = o ++ [p] ∧ Wi (sp l k) (sp l p)) : ∀ i ∈ os, Wi (sp l k) (sp l i) := by
  intro i hi
  rcases ht with rfl | ⟨o, p, rfl, hw⟩
  · cases hi
  · rcases List.mem_append.1 hi with h1 | h1
    · have := (List.pairwise_append.1 h.chain).2.2 i h1 p (List.mem_singleton.2 rfl)
      exact hw.trans this
    · rw [List.mem_singleton.1 h1]; exact hw
theorem Inv.err {l : List S24} {k : Nat} {os : List Nat} {e : Int} (h : Inv l k (k + 1) os e) (hv : ∀ i, i ≤ k → OkS (sp l i)) (hlt : (sp l k).f0 < e) : ∃ i, i < k ∧ Bad l k i := by
  have h0 := (hv k (Nat.le_refl _)).1
  rcases h.top with rfl | ⟨i, hi, ho, he⟩
  · omega
  · obtain ⟨⟨t, a, b, c, _⟩, _⟩ := h.clo i hi ho
    have ht := hv t (by omega)
    obtain ⟨c1, _⟩ := c
    by_cases hk : t = k
    · subst hk; omega
    · refine ⟨t, by omega, fun hw => ?_, fun hb => ?_⟩
      · have := hw.1; omega
      · have := hb.1; have := ht.2.1; omega
theorem Inv.nobad {l : List S24} {k : Nat} {os : List Nat} {e : Int} (h : Inv l k (k + 1) os e) (ht : os = [] ∨ ∃ o p, os = o ++ [p] ∧ Wi (sp l k) (sp l p)) (hle : ¬ (sp l k).f0 < e) : ∀ i, i < k → ¬ Bad l k i := by
  intro i hi hb
  by_cases ho : i ∈ os
  · exact hb.1 (h.open_ ht i ho)
  · have h1 := (h.clo i hi ho).2
    by_cases c : (sp l i).f0 = (sp l k).f0 ∧ (sp l i).f1 = (sp l k).f1
    · exact hb.1 ⟨by omega, by omega⟩
    · exact hb.2 ⟨by omega, c⟩
theorem Inv.last {l : List S24} {k : Nat} {os : List Nat} {e : Int} (h : Inv l k (k + 1) os e) (hv : ∀ i, i ≤ k → OkS (sp l i)) (hn : ∀ i, i < k → ¬ Bad l k i) (p : Int) (hp : ∀ i : Nat, p < (i : Int) → i ∉ os) :
    ∀ (d i : Nat), i + d = k → i < k → p < (i : Int) → ¬ Wi (sp l k) (sp l i) := by
  intro d
  induction d using Nat.strongRecOn with
  | ind d ih =>
    intro i hd hi hpi hw
    obtain ⟨⟨t, a, b, c, c'⟩, _⟩ := h.clo i hi (hp i hpi)
    by_cases hk : t = k
    · subst hk; exact c' hw
    · have h2 := ih (k - t) (by omega) t (by omega) (by omega) (by omega)
      have h3 : Be (sp l t) (sp l k) := Classical.byContradiction fun h4 => hn t (by omega) ⟨h2, h4⟩
      have ht := hv t (by omega)
      have hs := hv k (Nat.le_refl _)
      obtain ⟨q1, _⟩ := c
      obtain ⟨q2, q3⟩ := h3
      obtain ⟨q4, q5⟩ := hw
      have := ht.2.1
      have := hs.2.1
      exact q3 ⟨by omega, by omega⟩
theorem Inv.pop {l : List S24} {k : Nat} {o : List Nat} {p : Nat} {e : Int} (h : Inv l k (k + 1) (o ++ [p]) e) (h1 : ¬ Wi (sp l k) (sp l p)) (h2 : Be (sp l p) (sp l k)) : Inv l k (k + 1) o (max e (sp l p).f1) := by
  have hp := h.lt p (by simp)
  have hpo : p ∉ o := fun hm => Nat.lt_irrefl _ ((List.pairwise_append.1 h.inc).2.2 p hm p (List.mem_singleton.2 rfl))
  refine ⟨(List.pairwise_append.1 h.inc).1, fun i hi => h.lt i (by simp [hi]), (List.pairwise_append.1 h.chain).1, fun i hi ho => ?_, ?_⟩
  · by_cases c : i = p
    · subst c; exact ⟨⟨k, hp, by omega, h2, h1⟩, Int.le_max_right _ _⟩
    · obtain ⟨a, b⟩ := h.clo i hi (by simp [ho, c])
      exact ⟨a, Int.le_trans b (Int.le_max_left _ _)⟩
  · rcases Int.le_total e (sp l p).f1 with c | c
    · exact .inr ⟨p, hp, hpo, (Int.max_eq_right c).symm⟩
    · rw [Int.max_eq_left c]
      rcases h.top with h3 | ⟨i, a, b, c'⟩
      · exact .inl h3
      · exact .inr ⟨i, a, fun hm => b (by simp [hm]), c'⟩
theorem Inv.push {l : List S24} {k : Nat} {os : List Nat} {e : Int} (h : Inv l k (k + 1) os e) (ht : os = [] ∨ ∃ o p, os = o ++ [p] ∧ Wi (sp l k) (sp l p)) : Inv l (k + 1) (k + 1) (os ++ [k]) e := by
  have ho := h.open_ ht
  refine ⟨List.pairwise_append.2 ⟨h.inc, List.pairwise_singleton _ _, fun a ha b hb => by rw [List.mem_singleton.1 hb]; exact h.lt a ha⟩, fun i hi => ?_, List.pairwise_append.2 ⟨h.chain, List.pairwise_singleton _ _, fun a ha b hb => by rw [List.mem_singleton.1 hb]; exact ho a ha⟩, fun i hi hm => ?_, ?_⟩
  · rcases List.mem_append.1 hi with h1 | h1
    · have := h.lt i h1; omega
    · rw [List.mem_singleton.1 h1]; omega
  · have h1 : i ∉ os := fun h2 => hm (by simp [h2])
    have h2 : i ≠ k := fun h2 => hm (by simp [h2])
    exact h.clo i (by omega) h1
  · rcases h.top with h1 | ⟨i, a, b, c⟩
    · exact .inl h1
    · exact .inr ⟨i, by omega, fun hm => by rcases List.mem_append.1 hm with h2 | h2; exact b h2; rw [List.mem_singleton.1 h2] at a; omega, c⟩
theorem within_f (a b : S24) : spans_within.f a.f0 a.f1 b.f0 b.f1 = some (decide (Wi a b)) := by
  unfold spans_within.f Wi
  by_cases c : b.f0 ≤ a.f0
  · rw [if_pos c]; simp [c]
  · rw [if_neg c]; simp [c]
theorem before_f (a b : S24) : spans_before.f a.f0 a.f1 b.f0 b.f1 = some (decide (Be a b)) := by
  unfold spans_before.f
  by_cases c : a.f1 ≤ b.f0
  · rw [if_pos c]
    by_cases h : a.f0 = b.f0 ∧ a.f1 = b.f1
    · rw [decide_eq_false (p := Be a b) (fun q => q.2 h)]; simp [h.1, h.2]
    · rw [decide_eq_true (p := Be a b) ⟨c, h⟩]
      by_cases c1 : a.f0 = b.f0
      · have c2 : ¬ a.f1 = b.f1 := fun q => h ⟨c1, q⟩
        simp [beq_eq_false_iff_ne.2 c2]
      · simp [beq_eq_false_iff_ne.2 c1]
  · rw [if_neg c, decide_eq_false (p := Be a b) (fun q => c q.1)]
theorem rwithin_f (a b : S24) : mummerref03_within.f a.f0 a.f1 b.f0 b.f1 = some (decide (Wi a b)) := by
  unfold mummerref03_within.f Wi
  by_cases c : a.f0 ≥ b.f0
  · rw [if_pos c]; have : b.f0 ≤ a.f0 := c; simp [this]
  · rw [if_neg c]; have : ¬ b.f0 ≤ a.f0 := c; simp [this]
theorem rbefore_f (a b : S24) : mummerref03_before.f a.f0 a.f1 b.f0 b.f1 = some (decide (Be a b)) := by
  unfold mummerref03_before.f
  by_cases c : a.f1 ≤ b.f0
  · rw [if_pos c]
    by_cases h : a.f0 = b.f0 ∧ a.f1 = b.f1
    · rw [decide_eq_false (p := Be a b) (fun q => q.2 h)]; simp [h.1, h.2]
    · rw [decide_eq_true (p := Be a b) ⟨c, h⟩]
      by_cases c1 : a.f0 = b.f0
      · have c2 : ¬ a.f1 = b.f1 := fun q => h ⟨c1, q⟩
        simp [beq_eq_false_iff_ne.2 c2]
      · simp [beq_eq_false_iff_ne.2 c1]
  · rw [if_neg c, decide_eq_false (p := Be a b) (fun q => c q.1)]
theorem ris_f (a : S24) : mummerref03_is.f a.f0 a.f1 = some (decide (OkS a)) := by
  unfold mummerref03_is.f OkS
  by_cases c : a.f0 ≥ 0
  · rw [if_pos c]
    have c' : 0 ≤ a.f0 := c
    by_cases c2 : a.f0 ≤ a.f1
    · rw [if_pos c2]; simp [c', c2]
    · rw [if_neg c2]; simp [c2]
  · rw [if_neg c]; have c' : ¬ 0 ≤ a.f0 := c; simp [c']
theorem rd_sp (l : List S24) (i : Nat) : rd_T24 l (i : Int) = sp l i := rfl
theorem rd_ints (os : List Nat) (p : Nat) : rd ((os ++ [p]).map (fun i : Nat => (i : Int))) (os.length : Int) = (p : Int) := by
  unfold rd
  simp [List.getD_eq_getElem?_getD]
theorem code_l2 (l : List S24) (k : Nat) (hk : k < l.length) (hl : l.length ≤ 2000) (hv : ∀ i, i ≤ k → OkS (sp l i)) : ∀ (n : Nat) (os : List Nat) (e : Int) (F : Nat) (out : List Int), os.length = n → n ≤ k → out.length = k → Inv l k (k + 1) os e → n < F →
    (rp l k k 0 (-1) = none ∧ spans_Nest.l2 F l out (os.map (fun i : Nat => (i : Int))) e k n l l.length k (sp l k).f0 (sp l k).f1 = some ([], (k : Int), 6)) ∨
    (∃ (q : Int) (os' : List Nat) (e' : Int) (F' : Nat), rp l k k 0 (-1) = some q ∧ spans_Nest.l2 F l out (os.map (fun i : Nat => (i : Int))) e k n l l.length k (sp l k).f0 (sp l k).f1 = spans_Nest.l1 F' l (out ++ [q]) ((os' ++ [k]).map (fun i : Nat => (i : Int))) e' l l.length ((k + 1 : Nat) : Int) ∧ Inv l (k + 1) (k + 1) (os' ++ [k]) e' ∧ os'.length ≤ k ∧ F ≤ F' + n + 1) := by
  intro n
  induction n with
  | zero =>
    intro os e F out ho hn hout hI hF
    obtain rfl : os = [] := List.length_eq_zero_iff.1 ho
    obtain ⟨F, rfl⟩ : ∃ m, F = m + 1 := ⟨F - 1, by omega⟩
    simp only [spans_Nest.l2]
    rw [if_neg (show ¬ ((0 : Nat) : Int) > 0 by omega)]
    by_cases c : (sp l k).f0 < e
    · rw [if_pos c]
      obtain ⟨i, h1, h2⟩ := hI.err hv c
      exact .inl ⟨rp_bad l k k 0 (-1) ⟨i, Nat.zero_le _, by omega, h2⟩, rfl⟩
    · rw [if_neg c, if_pos (by omega), if_pos (by simp), w64 (by omega) (by omega)]
      have h1 := hI.nobad (.inl rfl) c
      refine .inr ⟨-1, [], e, F, rp_good l k k 0 (-1) (fun j _ hj => h1 j (by omega)) (fun j _ hj => hI.last hv h1 (-1) (fun i _ h => by cases h) (k - j) j (by omega) (by omega) (by omega)), rfl, hI.push (.inl rfl), Nat.zero_le _, by omega⟩
  | succ n ih =>
    intro os e F out ho hn hout hI hF
    obtain ⟨o, p, rfl⟩ : ∃ o p, os = o ++ [p] := by
      rcases List.eq_nil_or_concat os with h | ⟨o, p, h⟩
      · subst h; cases ho
      · exact ⟨o, p, by rw [h, List.concat_eq_append]⟩
    have hol : o.length = n := by simpa using ho
    have hp := hI.lt p (by simp)
    obtain ⟨F, rfl⟩ : ∃ m, F = m + 1 := ⟨F - 1, by omega⟩
    simp only [spans_Nest.l2]
    have e1 : wrap64 (((n + 1 : Nat) : Int) - 1) = (o.length : Int) := by rw [w64 (by omega) (by omega)]; omega
    rw [if_pos (show ((n + 1 : Nat) : Int) > 0 by omega), e1, if_pos (by omega), if_pos (by simp; omega), rd_ints, if_pos (by omega), if_pos (by omega), rd_sp, within_f, Option.bind_some]
    by_cases c : Wi (sp l k) (sp l p)
    · have ht : (o ++ [p] = []) ∨ ∃ o' p', o ++ [p] = o' ++ [p'] ∧ Wi (sp l k) (sp l p') := .inr ⟨o, p, rfl, c⟩
      rw [if_pos (decide_eq_true c)]
      by_cases c2 : (sp l k).f0 < e
      · rw [if_pos c2]
        obtain ⟨i, h1, h2⟩ := hI.err hv c2
        exact .inl ⟨rp_bad l k k 0 (-1) ⟨i, Nat.zero_le _, by omega, h2⟩, rfl⟩
      · rw [if_neg c2, if_pos (by omega), if_pos (by simp; omega), w64 (by omega) (by omega)]
        have h1 := hI.nobad ht c2
        have hgt : ∀ i : Nat, (p : Int) < (i : Int) → i ∉ o ++ [p] := by
          intro i hi hm
          rcases List.mem_append.1 hm with h | h
          · have := (List.pairwise_append.1 hI.inc).2.2 i h p (List.mem_singleton.2 rfl); omega
          · rw [List.mem_singleton.1 h] at hi; omega
        refine .inr ⟨(p : Int), o ++ [p], e, F, rp_last l k k 0 (-1) p (Nat.zero_le _) (by omega) (fun j _ hj => h1 j (by omega)) c (fun j hj hj2 => hI.last hv h1 p hgt (k - j) j (by omega) (by omega) (by omega)), ?_, hI.push ht, by simp; omega, by omega⟩
        rw [List.map_append (l₂ := [k])]; rfl
    · rw [if_neg (by simpa using c), before_f, Option.bind_some]
      by_cases c2 : Be (sp l p) (sp l k)
      · rw [if_pos (decide_eq_true c2), if_pos (by simp; omega)]
        have e2 : ((o ++ [p]).map (fun i : Nat => (i : Int))).take ((o.length : Int)).toNat = o.map (fun i : Nat => (i : Int)) := by simp
        have e3 : mx e (sp l p).f1 = max e (sp l p).f1 := by unfold mx; omega
        rw [e2, e3]
        have := ih o (max e (sp l p).f1) F out hol (by omega) hout (hI.pop c c2) (by omega)
        rw [hol]
        rcases this with h | ⟨q, os', e', F', h1, h2, h3, h4, h5⟩
        · exact .inl h
        · exact .inr ⟨q, os', e', F', h1, h2, h3, h4, by omega⟩
      · rw [if_neg (by simpa using c2)]
        exact .inl ⟨rp_bad l k k 0 (-1) ⟨p, Nat.zero_le _, by omega, c, c2⟩, rfl⟩
def nestGo (l : List S24) : Nat → Nat → List Int → List Int × Int × Int
  | 0, _, out => (out, 0, 0)
  | d + 1, k, out => match rp l k k 0 (-1) with
    | none => ([], (k : Int), 6)
    | some q => nestGo l d (k + 1) (out ++ [q])
theorem code_l1 (l : List S24) (hl : l.length ≤ 2000) (hv : ∀ i, i < l.length → OkS (sp l i)) : ∀ (d k : Nat) (os : List Nat) (e : Int) (F : Nat) (out : List Int), k + d = l.length → out.length = k → Inv l k k os e → os.length ≤ k → (l.length + 2) * (d + 1) < F →
    spans_Nest.l1 F l out (os.map (fun i : Nat => (i : Int))) e l l.length k = some (nestGo l d k out) := by
  intro d
  induction d with
  | zero =>
    intro k os e F out hk hout hI ho hF
    obtain ⟨F, rfl⟩ : ∃ m, F = m + 1 := ⟨F - 1, by omega⟩
    simp only [spans_Nest.l1]
    rw [if_neg (by omega)]
    rfl
  | succ d ih =>
    intro k os e F out hk hout hI ho hF
    obtain ⟨F, rfl⟩ : ∃ m, F = m + 1 := ⟨F - 1, by omega⟩
    rw [Nat.mul_succ] at hF
    simp only [spans_Nest.l1]
    rw [if_pos (by omega), if_pos (by omega), if_pos (by omega), rd_sp, List.length_map]
    have hb : (l.length + 2) * 1 ≤ (l.length + 2) * (d + 1) := Nat.mul_le_mul (Nat.le_refl _) (by omega)
    rcases code_l2 l k (by omega) hl (fun i hi => hv i (by omega)) os.length os e F out rfl ho hout hI.more (by omega) with ⟨h1, h2⟩ | ⟨q, os', e', F', h1, h2, h3, h4, h5⟩
    · rw [h2]
      simp only [nestGo, h1]
    · rw [h2]
      simp only [nestGo, h1]
      exact ih (k + 1) (os' ++ [k]) e' F' (out ++ [q]) (by omega) (by simp [hout]) h3 (by simp; omega) (by omega)
def okFrom (l : List S24) : Nat → Nat → Bool
  | 0, _ => true
  | d + 1, i => decide (OkS (sp l i)) && okFrom l d (i + 1)
theorem spans_l0 (l : List S24) (hl : l.length ≤ 1000000) : ∀ (d i F : Nat), i + d = l.length → d < F → spans_spans.l0 F l l.length i = some (okFrom l d i) := by
  intro d
  induction d with
  | zero =>
    intro i F hi hF
    obtain ⟨F, rfl⟩ : ∃ m, F = m + 1 := ⟨F - 1, by omega⟩
    simp only [spans_spans.l0]
    rw [if_neg (by omega)]
    rfl
  | succ d ih =>
    intro i F hi hF
    obtain ⟨F, rfl⟩ : ∃ m, F = m + 1 := ⟨F - 1, by omega⟩
    simp only [spans_spans.l0, okFrom]
    rw [if_pos (by omega), if_pos (by omega), if_pos (by omega), rd_sp, w64 (by omega) (by omega)]
    have := ih (i + 1) F (by omega) (by omega)
    rw [show ((i + 1 : Nat) : Int) = (i : Int) + 1 by omega] at this
    rw [this]
    by_cases c : (sp l i).f0 < 0
    · rw [if_pos c, decide_eq_false (fun h : OkS (sp l i) => by have := h.1; omega)]; rfl
    · rw [if_neg c]
      by_cases c2 : (sp l i).f0 > (sp l i).f1
      · rw [if_pos c2, decide_eq_false (fun h : OkS (sp l i) => by have := h.2.1; omega)]; rfl
      · rw [if_neg c2]
        by_cases c3 : (sp l i).f1 > 4611686018427387904
        · rw [if_pos c3, decide_eq_false (fun h : OkS (sp l i) => by have := h.2.2; omega)]; rfl
        · rw [if_neg c3, decide_eq_true (show OkS (sp l i) from ⟨by omega, by omega, by omega⟩)]; rfl
theorem spans_one (s : S24) (F : Nat) (hF : 1 < F) : spans_spans.f F [s] = some (decide (OkS s)) := by
  unfold spans_spans.f
  have := spans_l0 [s] (by simp) 1 0 F rfl (by omega)
  refine this.trans ?_
  show some (decide (OkS s) && true) = _
  rw [Bool.and_true]
theorem spans_two (s t : S24) (F : Nat) (hF : 2 < F) : spans_spans.f F [s, t] = some (decide (OkS s) && decide (OkS t)) := by
  unfold spans_spans.f
  have := spans_l0 [s, t] (by simp) 2 0 F rfl (by omega)
  refine this.trans ?_
  show some (decide (OkS s) && (decide (OkS t) && true)) = _
  rw [Bool.and_true]
def firstBad (l : List S24) : Nat → Nat → Option Nat
  | 0, _ => none
  | d + 1, i => if OkS (sp l i) then firstBad l d (i + 1) else some i
def nestS (l : List S24) : List Int × Int × Int := if (l.length : Int) > 2000 then ([], 0, 3) else (match firstBad l l.length 0 with
  | some j => ([], (j : Int), 6)
  | none => nestGo l l.length 0 [])
theorem code_l0 (l : List S24) (hl : l.length ≤ 2000) : ∀ (d i F : Nat), i + d = l.length → (∀ j, j < i → OkS (sp l j)) → (l.length + 2) * (l.length + 1) + d + 2 < F →
    spans_Nest.l0 F l [] l l.length i = some (match firstBad l d i with
      | some j => ([], (j : Int), 6)
      | none => nestGo l l.length 0 []) := by
  intro d
  induction d with
  | zero =>
    intro i F hi hv hF
    obtain ⟨F, rfl⟩ : ∃ m, F = m + 1 := ⟨F - 1, by omega⟩
    simp only [spans_Nest.l0, firstBad]
    rw [if_neg (by omega)]
    exact code_l1 l hl (fun j hj => hv j (by omega)) l.length 0 [] 0 F [] (by omega) rfl (Inv.first l) (Nat.le_refl _) (by omega)
  | succ d ih =>
    intro i F hi hv hF
    obtain ⟨F, rfl⟩ : ∃ m, F = m + 1 := ⟨F - 1, by omega⟩
    simp only [spans_Nest.l0, firstBad]
    rw [if_pos (by omega), if_pos (by omega), if_pos (by omega), rd_sp, spans_one _ F (by omega), Option.bind_some, w64 (by omega) (by omega)]
    by_cases c : OkS (sp l i)
    · rw [if_pos (decide_eq_true (show OkS ⟨(sp l i).f0, (sp l i).f1⟩ from c)), if_pos c]
      have := ih (i + 1) F (by omega) (fun j hj => by by_cases e : j = i; exact e ▸ c; exact hv j (by omega)) (by omega)
      rwa [show ((i + 1 : Nat) : Int) = (i : Int) + 1 by omega] at this
    · rw [if_neg (by rw [decide_eq_false (show ¬ OkS ⟨(sp l i).f0, (sp l i).f1⟩ from c)]; decide), if_neg c]
theorem code_nest (l : List S24) (F : Nat) (hF : 5000000 < F) : spans_Nest.f F l = some (nestS l) := by
  unfold spans_Nest.f nestS
  by_cases c : (l.length : Int) > 2000
  · rw [if_pos c, if_pos c]
  · rw [if_neg c, if_neg c]
    have h2 : (l.length + 2) * (l.length + 1) ≤ 2002 * 2001 := Nat.mul_le_mul (by omega) (by omega)
    exact code_l0 l (by omega) l.length 0 F (by omega) (fun j hj => absurd hj (Nat.not_lt_zero _)) (by omega)
theorem ref_l2 (l : List S24) (k : Nat) (hk : k < l.length) (hl : l.length ≤ 2000) (out : List Int) (hout : out.length = k) : ∀ (d i : Nat) (p : Int) (F : Nat), i + d = k →
    mummerref03_Nest.l2 (F + d + 1) l out k p i = (match rp l k d i p with
      | none => some ([], (k : Int), 6)
      | some q => mummerref03_Nest.l1 F l (out ++ [q]) ((k + 1 : Nat) : Int)) := by
  intro d
  induction d with
  | zero =>
    intro i p F hi
    simp only [mummerref03_Nest.l2, rp]
    rw [if_neg (by omega), if_pos (by omega), w64 (by omega) (by omega)]
    rfl
  | succ d ih =>
    intro i p F hi
    have h1 := fun p => ih (i + 1) p F (by omega)
    rw [show ((i + 1 : Nat) : Int) = (i : Int) + 1 by omega] at h1
    have e1 : F + (d + 1) + 1 = (F + d + 1) + 1 := by omega
    rw [e1]
    generalize F + d + 1 = G at h1 ⊢
    simp only [mummerref03_Nest.l2, rp]
    rw [if_pos (by omega), if_pos (by omega), if_pos (by omega), if_pos (by omega), if_pos (by omega), rd_sp, rd_sp, rwithin_f, Option.bind_some, w64 (by omega) (by omega)]
    by_cases c : Wi (sp l k) (sp l i)
    · rw [if_pos (decide_eq_true c), if_pos c]; exact h1 _
    · rw [if_neg (by simpa using c), if_neg c, rbefore_f, Option.bind_some]
      by_cases c2 : Be (sp l i) (sp l k)
      · rw [if_pos (decide_eq_true c2), if_pos c2]; exact h1 _
      · rw [if_neg (by simpa using c2), if_neg c2]
theorem ref_l1 (l : List S24) (hl : l.length ≤ 2000) : ∀ (d k : Nat) (F : Nat) (out : List Int), k + d = l.length → out.length = k → (l.length + 2) * (d + 1) < F →
    mummerref03_Nest.l1 F l out k = some (nestGo l d k out) := by
  intro d
  induction d with
  | zero =>
    intro k F out hk hout hF
    obtain ⟨F, rfl⟩ : ∃ m, F = m + 1 := ⟨F - 1, by omega⟩
    simp only [mummerref03_Nest.l1]
    rw [if_neg (by omega)]
    rfl
  | succ d ih =>
    intro k F out hk hout hF
    rw [Nat.mul_succ] at hF
    have hb : (l.length + 2) * 1 ≤ (l.length + 2) * (d + 1) := Nat.mul_le_mul (Nat.le_refl _) (by omega)
    obtain ⟨F, rfl⟩ : ∃ m, F = (m + k + 1) + 1 := ⟨F - (k + 2), by omega⟩
    simp only [mummerref03_Nest.l1]
    rw [if_pos (by omega)]
    have := ref_l2 l k (by omega) hl out hout k 0 (-1) F (by omega)
    refine this.trans ?_
    simp only [nestGo]
    cases rp l k k 0 (-1) with
    | none => rfl
    | some q => exact ih (k + 1) F (out ++ [q]) (by omega) (by simp [hout]) (by omega)
theorem ref_l0 (l : List S24) (hl : l.length ≤ 2000) : ∀ (d i F : Nat), i + d = l.length → (l.length + 2) * (l.length + 1) + d + 2 < F →
    mummerref03_Nest.l0 F l i = some (match firstBad l d i with
      | some j => ([], (j : Int), 6)
      | none => nestGo l l.length 0 []) := by
  intro d
  induction d with
  | zero =>
    intro i F hi hF
    obtain ⟨F, rfl⟩ : ∃ m, F = m + 1 := ⟨F - 1, by omega⟩
    simp only [mummerref03_Nest.l0, firstBad]
    rw [if_neg (by omega)]
    exact ref_l1 l hl l.length 0 F [] (by omega) rfl (by omega)
  | succ d ih =>
    intro i F hi hF
    obtain ⟨F, rfl⟩ : ∃ m, F = m + 1 := ⟨F - 1, by omega⟩
    simp only [mummerref03_Nest.l0, firstBad]
    rw [if_pos (by omega), if_pos (by omega), rd_sp, ris_f, Option.bind_some, w64 (by omega) (by omega)]
    by_cases c : OkS (sp l i)
    · rw [if_pos (decide_eq_true c), if_pos c]
      have := ih (i + 1) F (by omega) (by omega)
      rwa [show ((i + 1 : Nat) : Int) = (i : Int) + 1 by omega] at this
    · rw [if_neg (by simpa using c), if_neg c]
theorem ref_nest (l : List S24) (F : Nat) (hF : 5000000 < F) : mummerref03_Nest.f F l = some (nestS l) := by
  unfold mummerref03_Nest.f nestS
  by_cases c : (l.length : Int) > 2000
  · rw [if_pos c, if_pos c]
  · rw [if_neg c, if_neg c]
    have h2 : (l.length + 2) * (l.length + 1) ≤ 2002 * 2001 := Nat.mul_le_mul (by omega) (by omega)
    exact ref_l0 l (by omega) l.length 0 F (by omega) (by omega)
end Go.Proofs.YtnkfdobcmfdhfaaDoor.P
