import Derived.Test.YtdjkdlbokepoaaaGreatDoorKA59
import Derived.Test.YtdjkdlbokepoaaaGreatDoorKA36
import Derived.Test.YtdjkdlbokepoaaaGreatDoorKA41
import Derived.Test.YtdjkdlbokepoaaaGreatDoorKA44
import Derived.Test.YtdjkdlbokepoaaaGreatDoorKA37
namespace Go.Proofs.YtdjkdlbokepoaaaGreatDoor.P
open Go.RowKit YtdjkdlbokepoaaaGreatDoorW.PrintWords YtdjkdlbokepoaaaGreatDoorW.PrintLast YtdjkdlbokepoaaaGreatDoorW.PrintMore Sc
set_option linter.unusedVariables false
set_option linter.unusedSimpArgs false
set_option maxRecDepth 20000
def Dn (l : List S41) : Prop := ∀ i : Nat, i < l.length → -1 ≤ (rd_T41 l (i : Int)).f4 ∧ (rd_T41 l (i : Int)).f4 < (i : Int)
theorem chk_dn {n : Int} {l : List S41} (h : (chkV n l).2 = 0) : Dn l := fun i hi => (errF_ok ((chk_ok n l h).2 i hi)).2.2.2
theorem chainG_mem {l : List S41} (hd : Dn l) : ∀ (n : Nat) (i : Int), i < (l.length : Int) → ∀ x ∈ chainG l n i, 0 ≤ x ∧ x < (l.length : Int)
 | 0, i, _, x, hx => by rw [chainG] at hx; cases hx
 | n + 1, i, hi, x, hx => by
  rw [chainG] at hx
  by_cases c : i < 0
  ·rw [if_pos c] at hx; cases hx
  ·rw [if_neg c] at hx
   obtain ⟨j, rfl⟩ : ∃ j : Nat, i = (j : Int) := ⟨i.toNat, by omega⟩
   have := hd j (by omega)
   rcases List.mem_cons.1 hx with rfl | hx
   ·exact ⟨by omega, hi⟩
   ·exact chainG_mem hd n _ (by omega) x hx
theorem chainG_lenL (l : List S41) : ∀ (n : Nat) (i : Int), (chainG l n i).length ≤ n
 | 0, i => by rw [chainG]; exact Nat.le_refl _
 | n + 1, i => by
  rw [chainG]
  split
  ·simp
  ·rw [List.length_cons]; have := chainG_lenL l n (rd_T41 l i).f4; omega
theorem rchain_l0 {l : List S41} (hd : Dn l) : ∀ (n : Nat) (i : Int) (out : List Int), -1 ≤ i → i < (n : Int) → i < (l.length : Int) → out.length + n ≤ 100000 → ∀ k, n < k → mummerref08_chain.l0 k l i out = some (out ++ chainG l n i) := by
 intro n
 induction n with
 | zero =>
  intro i out h1 h2 h3 ho k hk
  obtain ⟨k, rfl⟩ : ∃ K, k = K + 1 := ⟨k - 1, by omega⟩
  rw [mummerref08_chain.l0, if_neg (by omega), chainG, List.append_nil]
 | succ n ih =>
  intro i out h1 h2 h3 ho k hk
  obtain ⟨k, rfl⟩ : ∃ K, k = K + 1 := ⟨k - 1, by omega⟩
  by_cases c : i < 0
  ·rw [mummerref08_chain.l0, if_neg (by omega), chainG, if_pos c, List.append_nil]
  ·obtain ⟨j, rfl⟩ : ∃ j : Nat, i = (j : Int) := ⟨i.toNat, by omega⟩
   have := hd j (by omega)
   rw [mummerref08_chain.l0, if_pos (by omega), if_pos (by omega), if_pos (by omega), if_pos h3, ih _ _ this.1 (by omega) (by omega) (by simp; omega) k (by omega), chainG, if_neg c]
   simp
end Go.Proofs.YtdjkdlbokepoaaaGreatDoor.P
