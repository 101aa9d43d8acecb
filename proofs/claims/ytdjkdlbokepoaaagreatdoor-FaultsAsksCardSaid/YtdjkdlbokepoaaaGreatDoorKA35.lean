import Derived.Test.YtdjkdlbokepoaaaGreatDoorKA36
import Derived.ProofKit
import Derived.OpenShut
import Derived.ChangeArms
import Derived.ShutString
import Derived.WalkKit
import Derived.KernelRfl
namespace Go.Proofs.YtdjkdlbokepoaaaGreatDoor.P
open Go.RowKit YtdjkdlbokepoaaaGreatDoorW.PrintWords Go.ChangeShapes
set_option linter.unusedVariables false
set_option maxRecDepth 100000
def Opn {α : Type} (P : Program) (t : TypeId) (d : Kd α) (Wf : α → Prop) : Prop :=
 P.cellsOf t = d.sz ∧ ∀ (H : Type) (enc : TypeId × Value → H) (w : World) (base : Nat) (spare : Nat → Bool) (held : Bool) (fuel : Nat) (cs : List Value) (x : DataW H × List MemPlace),
  DataW.trod enc P w base spare held fuel t cs = some x → ∃ v : α, d.K w v cs ∧ Wf v
theorem Opn.int {P : Program} {t : TypeId} {k : IntKind} {Wf : Int → Prop} (ht : P.underlying t = some (.int k)) (hc : P.cellsOf t = 1) (hw : ∀ n, (Lit.int k n).wf = true → Wf n) : Opn P t (Kd.int k) Wf := by
 refine ⟨hc, fun H enc w base spare held fuel cs x h => ?_⟩
 obtain ⟨n, rfl, _, hn⟩ := DataW.trod_int ht h
 exact ⟨n, rfl, hw n hn⟩
theorem Opn.bool {P : Program} {t : TypeId} (ht : P.underlying t = some .bool) (hc : P.cellsOf t = 1) : Opn P t Kd.bool (fun _ => True) := by
 refine ⟨hc, fun H enc w base spare held fuel cs x h => ?_⟩
 obtain ⟨n, rfl, _⟩ := DataW.trod_bool ht h
 exact ⟨n, rfl, trivial⟩
theorem Opn.string {P : Program} {t : TypeId} (ht : P.underlying t = some .string) (hc : P.cellsOf t = 1) : Opn P t Kd.string (fun s => s.size ≤ 9223372036854775807) := by
 refine ⟨hc, fun H enc w base spare held fuel cs x h => ?_⟩
 obtain ⟨s, rfl, _, hs⟩ := DataW.trod_string ht h
 exact ⟨s, rfl, by simpa [maxLen] using hs⟩
theorem list_of {α : Type} (Q : Nat → α → Prop) : ∀ n : Nat, (∀ i, i < n → ∃ v, Q i v) → ∃ xs : List α, xs.length = n ∧ ∀ i v, xs[i]? = some v → Q i v
 | 0, _ => ⟨[], rfl, fun i v h => by simp at h⟩
 | n + 1, h => by
  obtain ⟨xs, hl, hx⟩ := list_of Q n (fun i hi => h i (by omega))
  obtain ⟨v, hv⟩ := h n (by omega)
  refine ⟨xs ++ [v], by simp [hl], fun i u hu => ?_⟩
  by_cases hi : i < xs.length
  ·rw [List.getElem?_append_left hi] at hu
   exact hx i u hu
  ·rw [List.getElem?_append_right (by omega)] at hu
   have : i - xs.length = 0 := by
    by_cases h0 : i - xs.length = 0
    ·exact h0
    ·rw [List.getElem?_eq_none (by simp; omega)] at hu
     cases hu
   rw [this] at hu
   have e : i = n := by omega
   subst e
   simp at hu
   subst hu
   exact hv
theorem cells_at {w : World} {base : Nat} {a : Addr} {n : Nat} {c : List Value} (h : w.cells? base a n = some c) : c.length = n ∧ ∀ (i : Nat) (u : Value), c[i]? = some u → w.cell? (a.add i) = some u := by
 unfold World.cells? at h
 split at h
 ·have hl : c.length = n := by have := mapM_some_length h; simpa using this
  refine ⟨hl, fun i u hu => ?_⟩
  have hi : i < n := by
   have := (List.getElem?_eq_some_iff.1 hu).1
   omega
  have := mapM_some_get h i i (by simp [hi])
  rw [this]
  exact hu
 ·cases h
theorem Opn.slice {α : Type} {P : Program} {t e : TypeId} {d : Kd α} {Wf : α → Prop} (ht : P.underlying t = some (.slice e)) (hc : P.cellsOf t = 1) (he : Opn P e d Wf) :
  Opn P t (Kd.slice e d) (fun l => (l.length ≤ 9223372036854775807 ∧ ∀ z ∈ l, Wf z)) := by
 refine ⟨hc, fun H enc w base spare held fuel cs x h => ?_⟩
 rcases DataW.trod_slice ht h with ⟨rfl, _⟩ | ⟨a, len, cap, elems, rest, n, _, rfl, _, _, hl, hm, hlen, hel, _, _⟩
 ·exact ⟨[], ⟨none, 0, rfl, Nat.le_refl _, ⟨rfl, by simp, fun h => by simp at h⟩⟩, by simp⟩
 ·obtain ⟨xs, hx, hq⟩ := list_of (fun i (v : α) => (∃ c, c.length = d.sz ∧ d.K w v c ∧ ∀ j u, c[j]? = some u → w.cell? (a.add (i * d.sz + j)) = some u) ∧ Wf v) len (fun i hi => by
   have h1 := hel i hi
   rw [List.getElem?_eq_getElem (show i < elems.length by omega)] at h1
   obtain ⟨c, hc1, hc2⟩ := Option.bind_eq_some_iff.1 h1
   obtain ⟨v, hk, hw⟩ := he.2 _ _ _ _ _ _ _ _ _ hc2
   obtain ⟨hcl, hca⟩ := cells_at hc1
   rw [he.1] at hcl hca
   refine ⟨v, ⟨c, hcl, hk, fun j u hu => ?_⟩, hw⟩
   rw [← add_add]
   exact hca j u hu)
  have hm' : cap ≤ 9223372036854775807 := by simpa [maxLen] using hm
  refine ⟨xs, ⟨some a, cap, by rw [hx], by omega, ⟨rfl, by omega, fun _ => ⟨a, rfl, fun j p hj => (hq j p hj).1⟩⟩⟩, by omega, fun z hz => ?_⟩
  obtain ⟨i, hi⟩ := List.getElem?_of_mem hz
  exact (hq i z hi).2
theorem opn25 : Opn Tryz.prog 25 (Kd.int .i64) (fun n => ((-9223372036854775808) ≤ n ∧ n ≤ 9223372036854775807)) := Opn.int Tryz.underlying25 (by kernel_rfl) (fun n h => by have e : (decide ((-9223372036854775808) ≤ n) && decide (n ≤ 9223372036854775807)) = true := h; simpa using e)
theorem opn3 : Opn Tryz.prog 3 (Kd.int .i64) (fun n => ((-9223372036854775808) ≤ n ∧ n ≤ 9223372036854775807)) := Opn.int Tryz.underlying3 (by kernel_rfl) (fun n h => by have e : (decide ((-9223372036854775808) ≤ n) && decide (n ≤ 9223372036854775807)) = true := h; simpa using e)
theorem opn39p : Opn Tryz.prog 39 (Kd.pair (Kd.int .i64) (Kd.int .i64)) (fun x : Int × Int => ((-9223372036854775808) ≤ x.1 ∧ x.1 ≤ 9223372036854775807) ∧ ((-9223372036854775808) ≤ x.2 ∧ x.2 ≤ 9223372036854775807)) := by
 refine ⟨by kernel_rfl, fun H enc w base spare held fuel cs x h => ?_⟩
 obtain ⟨xs, n, _, _, hl, hlen, hf⟩ := DataW.trod_struct Tryz.underlying39 h
 have hl' : cs.length = 2 := hl.trans (by kernel_rfl)
 have hlen' : xs.length = 2 := hlen
 have h0 := hf 0 _ rfl
 rw [List.getElem?_eq_getElem (show 0 < xs.length by omega)] at h0
 obtain ⟨v0, k0, w0⟩ := opn3.2 _ _ _ _ _ _ _ _ _ h0
 have h1 := hf 1 _ rfl
 rw [List.getElem?_eq_getElem (show 1 < xs.length by omega)] at h1
 obtain ⟨v1, k1, w1⟩ := opn3.2 _ _ _ _ _ _ _ _ _ h1
 match cs, hl', k0, k1 with
 | [c0, c1], _, k0, k1 =>
  exact ⟨(v0, v1), ⟨[c0], [c1], rfl, k0, k1⟩, w0, w1⟩
def W39 (x : S39) : Prop := ((-9223372036854775808) ≤ x.f0 ∧ x.f0 ≤ 9223372036854775807) ∧ ((-9223372036854775808) ≤ x.f1 ∧ x.f1 ≤ 9223372036854775807)
theorem opn39 : Opn Tryz.prog 39 k39 W39 := by
 refine ⟨by kernel_rfl, fun H enc w base spare held fuel cs x h => ?_⟩
 obtain ⟨v, hk, hw⟩ := opn39p.2 _ _ _ _ _ _ _ _ _ h
 exact ⟨⟨v.1, v.2⟩, hk, hw⟩
theorem opn9 : Opn Tryz.prog 9 Kd.string (fun s => s.size ≤ 9223372036854775807) := Opn.string Tryz.underlying9 (by kernel_rfl)
theorem opn41p : Opn Tryz.prog 41 (Kd.pair (Kd.int .i64) (Kd.pair (Kd.int .i64) (Kd.pair k39 (Kd.pair Kd.string (Kd.int .i64))))) (fun x : Int × Int × S39 × ByteArray × Int => ((-9223372036854775808) ≤ x.1 ∧ x.1 ≤ 9223372036854775807) ∧ ((-9223372036854775808) ≤ x.2.1 ∧ x.2.1 ≤ 9223372036854775807) ∧ W39 x.2.2.1 ∧ (x.2.2.2.1.size ≤ 9223372036854775807) ∧ ((-9223372036854775808) ≤ x.2.2.2.2 ∧ x.2.2.2.2 ≤ 9223372036854775807)) := by
 refine ⟨by kernel_rfl, fun H enc w base spare held fuel cs x h => ?_⟩
 obtain ⟨xs, n, _, _, hl, hlen, hf⟩ := DataW.trod_struct Tryz.underlying41 h
 have hl' : cs.length = 6 := hl.trans (by kernel_rfl)
 have hlen' : xs.length = 5 := hlen
 have h0 := hf 0 _ rfl
 rw [List.getElem?_eq_getElem (show 0 < xs.length by omega)] at h0
 obtain ⟨v0, k0, w0⟩ := opn25.2 _ _ _ _ _ _ _ _ _ h0
 have h1 := hf 1 _ rfl
 rw [List.getElem?_eq_getElem (show 1 < xs.length by omega)] at h1
 obtain ⟨v1, k1, w1⟩ := opn3.2 _ _ _ _ _ _ _ _ _ h1
 have h2 := hf 2 _ rfl
 rw [List.getElem?_eq_getElem (show 2 < xs.length by omega)] at h2
 obtain ⟨v2, k2, w2⟩ := opn39.2 _ _ _ _ _ _ _ _ _ h2
 have h3 := hf 3 _ rfl
 rw [List.getElem?_eq_getElem (show 3 < xs.length by omega)] at h3
 obtain ⟨v3, k3, w3⟩ := opn9.2 _ _ _ _ _ _ _ _ _ h3
 have h4 := hf 4 _ rfl
 rw [List.getElem?_eq_getElem (show 4 < xs.length by omega)] at h4
 obtain ⟨v4, k4, w4⟩ := opn3.2 _ _ _ _ _ _ _ _ _ h4
 match cs, hl', k0, k1, k2, k3, k4 with
 | [c0, c1, c2, c3, c4, c5], _, k0, k1, k2, k3, k4 =>
  exact ⟨(v0, v1, v2, v3, v4), ⟨[c0], [c1, c2, c3, c4, c5], rfl, k0, ⟨[c1], [c2, c3, c4, c5], rfl, k1, ⟨[c2, c3], [c4, c5], rfl, k2, ⟨[c4], [c5], rfl, k3, k4⟩⟩⟩⟩, w0, w1, w2, w3, w4⟩
def W41 (x : S41) : Prop := ((-9223372036854775808) ≤ x.f0 ∧ x.f0 ≤ 9223372036854775807) ∧ ((-9223372036854775808) ≤ x.f1 ∧ x.f1 ≤ 9223372036854775807) ∧ W39 x.f2 ∧ (x.f3.size ≤ 9223372036854775807) ∧ ((-9223372036854775808) ≤ x.f4 ∧ x.f4 ≤ 9223372036854775807)
theorem opn41 : Opn Tryz.prog 41 k41 W41 := by
 refine ⟨by kernel_rfl, fun H enc w base spare held fuel cs x h => ?_⟩
 obtain ⟨v, hk, hw⟩ := opn41p.2 _ _ _ _ _ _ _ _ _ h
 exact ⟨⟨v.1, v.2.1, v.2.2.1, v.2.2.2.1, v.2.2.2.2⟩, hk, hw⟩
theorem opn22 : Opn Tryz.prog 22 (Kd.slice 41 k41) (fun l => (l.length ≤ 9223372036854775807 ∧ ∀ z ∈ l, W41 z)) := Opn.slice Tryz.underlying22 (by kernel_rfl) opn41
end Go.Proofs.YtdjkdlbokepoaaaGreatDoor.P
