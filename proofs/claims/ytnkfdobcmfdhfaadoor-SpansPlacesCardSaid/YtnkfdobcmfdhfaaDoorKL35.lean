import Derived.Test.YtnkfdobcmfdhfaaDoorKL32
import Derived.Test.YtnkfdobcmfdhfaaDoorKL33
import Derived.Test.YtnkfdobcmfdhfaaDoorKL34
import Derived.Test.YtnkfdobcmfdhfaaDoorKL29
namespace Go.Proofs.YtnkfdobcmfdhfaaDoor.P
open Go.RowKit Go.Proofs.YtnkfdobcmfdhfaaDoorW.PrintWords Go.Proofs.YtnkfdobcmfdhfaaDoorW.PrintLast Sc
set_option linter.unusedVariables false
set_option linter.unusedSimpArgs false
set_option maxRecDepth 20000
theorem w64 {n : Int} (h : -9223372036854775808 ≤ n) (h' : n ≤ 9223372036854775807) : wrap64 n = n := by unfold wrap64; omega
def sp (l : List S24) (i : Nat) : S24 := l.getD i z24
def Wi (a b : S24) : Prop := b.f0 ≤ a.f0 ∧ a.f1 ≤ b.f1
def Be (a b : S24) : Prop := a.f1 ≤ b.f0 ∧ ¬ (a.f0 = b.f0 ∧ a.f1 = b.f1)
instance (a b : S24) : Decidable (Wi a b) := by unfold Wi; infer_instance
instance (a b : S24) : Decidable (Be a b) := by unfold Be; infer_instance
def OkS (s : S24) : Prop := 0 ≤ s.f0 ∧ s.f0 ≤ s.f1 ∧ s.f1 ≤ 4611686018427387904
instance (s : S24) : Decidable (OkS s) := by unfold OkS; infer_instance
def Bad (l : List S24) (k i : Nat) : Prop := ¬ Wi (sp l k) (sp l i) ∧ ¬ Be (sp l i) (sp l k)
structure Inv (l : List S24) (k T : Nat) (os : List Nat) (e : Int) : Prop where
  inc : os.Pairwise (· < ·)
  lt : ∀ i ∈ os, i < k
  chain : os.Pairwise (fun a b => Wi (sp l b) (sp l a))
  clo : ∀ i, i < k → i ∉ os → (∃ t, i < t ∧ t < T ∧ Be (sp l i) (sp l t) ∧ ¬ Wi (sp l t) (sp l i)) ∧ (sp l i).f1 ≤ e
  top : e = 0 ∨ ∃ i, i < k ∧ i ∉ os ∧ (sp l i).f1 = e
theorem Inv.first (l : List S24) : Inv l 0 0 [] 0 := ⟨List.Pairwise.nil, (fun _ h => by cases h), List.Pairwise.nil, (fun i h => absurd h (Nat.not_lt_zero _)), Or.inl rfl⟩
theorem Inv.more {l : List S24} {k T : Nat} {os : List Nat} {e : Int} (h : Inv l k T os e) : Inv l k (T + 1) os e :=
  ⟨h.inc, h.lt, h.chain, fun i hi ho => by obtain ⟨⟨t, a, b, c⟩, d⟩ := h.clo i hi ho; exact ⟨⟨t, a, by omega, c⟩, d⟩, h.top⟩
theorem Wi.trans {a b c : S24} (h : Wi a b) (h' : Wi b c) : Wi a c := ⟨Int.le_trans h'.1 h.1, Int.le_trans h.2 h'.2⟩
theorem Inv.last {l : List S24} {k : Nat} {os : List Nat} {e : Int} (h : Inv l k (k + 1) os e) (hv : ∀ i, i ≤ k → OkS (sp l i)) (hn : ∀ i, i < k → ¬ Bad l k i) (p : Int) (hp : ∀ i : Nat, p < (i : Int) → i ∉ os) :
    ∀ (d i : Nat), i + d = k → i < k → p < (i : Int) → ¬ Wi (sp l k) (sp l i) := by
  intro d
  induction d using Nat.strongRecOn with
  | ind d ih =>
    intro i hd hi hpi hw
    obtain ⟨⟨t, a, b, c, c'⟩, _⟩ := h.clo i hi (hp i hpi)
    by_cases hk : t = k
    · subst hk; exact c' hw
    · have h2 := ih (k - t) (by omega) t (by omega) (by omega) (by omega)
      have h3 : Be (sp l t) (sp l k) := Classical.byContradiction fun h4 => hn t (by omega) ⟨h2, h4⟩
      have ht := hv t (by omega)
      have hs := hv k (Nat.le_refl _)
      obtain ⟨q1, _⟩ := c
      obtain ⟨q2, q3⟩ := h3
      obtain ⟨q4, q5⟩ := hw
      have := ht.2.1
      have := hs.2.1
      exact q3 ⟨by omega, by omega⟩
theorem within_f (a b : S24) : spans_within.f a.f0 a.f1 b.f0 b.f1 = some (decide (Wi a b)) := by
  unfold spans_within.f Wi
  by_cases c : b.f0 ≤ a.f0
  · rw [if_pos c]; simp [c]
  · rw [if_neg c]; simp [c]
theorem rd_sp (l : List S24) (i : Nat) : rd_T24 l (i : Int) = sp l i := rfl
end Go.Proofs.YtnkfdobcmfdhfaaDoor.P
