import Derived.Test.YtdjkdlbokepoaaaGreatDoorKA78
import Derived.Test.YtdjkdlbokepoaaaGreatDoorKA36
import Derived.Test.YtdjkdlbokepoaaaGreatDoorKA37
import Derived.Test.YtdjkdlbokepoaaaGreatDoorKA41
import Derived.Test.YtdjkdlbokepoaaaGreatDoorKA44
namespace Go.Proofs.YtdjkdlbokepoaaaGreatDoor.P
open Go.RowKit YtdjkdlbokepoaaaGreatDoorW.PrintWords YtdjkdlbokepoaaaGreatDoorW.PrintLast YtdjkdlbokepoaaaGreatDoorW.PrintMore Sc
set_option linter.unusedVariables false
set_option linter.unusedSimpArgs false
set_option maxRecDepth 20000
theorem ints_l0 (l : List Int) (hl : l.length ≤ 1000) : ∀ (d i : Nat), i + d = l.length → ∀ K, d < K → mummerref04_Ints.l0 K l l (i : Int) = some true := by
 intro d
 induction d with
 | zero =>
  intro i hi K hK
  obtain ⟨K, rfl⟩ : ∃ k, K = k + 1 := ⟨K - 1, by omega⟩
  rw [mummerref04_Ints.l0, if_neg (by omega)]
 | succ d ih =>
  intro i hi K hK
  obtain ⟨K, rfl⟩ : ∃ k, K = k + 1 := ⟨K - 1, by omega⟩
  rw [mummerref04_Ints.l0, if_pos (by omega), if_pos (by omega), if_pos (by omega), if_pos rfl, w64 (by omega) (by omega), show (i : Int) + 1 = ((i + 1 : Nat) : Int) by omega]
  exact ih (i + 1) (by omega) K (by omega)
theorem ints_f (l : List Int) (hl : l.length ≤ 1000) (k : Nat) (hk : 20000 ≤ k) : mummerref04_Ints.f k l l = some true := by
 unfold mummerref04_Ints.f
 rw [if_pos rfl]
 exact ints_l0 l hl l.length 0 (by omega) k (by omega)
theorem chain_val (l : List S41) (a : Int) (k : Nat) (hk : 20000 ≤ k) : ∃ p, mummerref08_Chain.f k l a = some p ∧ p.1.length ≤ 1000 := by
 refine ⟨_, rchain_f l a k hk, ?_⟩
 by_cases c : (chkV 8000 l).2 = 0
 ·have hn := (chk_ok _ _ c).1
  rw [if_pos c]
  by_cases d : a < 0 ∨ (l.length : Int) ≤ a
  ·rw [if_pos d]; exact Nat.zero_le _
  ·rw [if_neg d]
   have := chainG_lenL l l.length a
   show (chainG l l.length a).length ≤ 1000
   omega
 ·rw [if_neg c]; exact Nat.zero_le _
theorem roots_val (l : List S41) (k : Nat) (hk : 20000 ≤ k) : ∃ p, mummerref08_Roots.f k l = some p ∧ p.1.length ≤ 1000 := by
 rw [← roots_same l k hk]
 unfold faults_Roots.f
 rw [check_f _ _ _ (by omega), Option.bind_some]
 by_cases c : (chkV 8000 l).2 = 0
 ·have hn := (chk_ok _ _ c).1
  rw [if_pos c, if_pos (by omega)]
  refine ⟨_, rfl, ?_⟩
  have := rootsUp_len l l.length
  show (rootsUp l l.length).length ≤ 1000
  omega
 ·rw [if_neg c]
  exact ⟨_, rfl, Nat.zero_le _⟩
theorem order_val (l : List S41) (k : Nat) (hk : 20000 ≤ k) : ∃ p, mummerref08_Order.f k l = some p ∧ p.1.length ≤ 1000 := by
 rw [← order_same l k hk]
 unfold faults_Order.f
 rw [check_f _ _ _ (by omega), Option.bind_some]
 by_cases c : (chkV 8000 l).2 = 0
 ·have hn := (chk_ok _ _ c).1
  rw [if_pos c, if_pos (by omega)]
  refine ⟨_, rfl, ?_⟩
  have := (ordL_spec l (by omega)).1.length_eq
  rw [upL_len] at this
  show (ordL l).length ≤ 1000
  omega
 ·rw [if_neg c]
  exact ⟨_, rfl, Nat.zero_le _⟩
theorem has_val (l : List S41) (a code : Int) (k : Nat) (hk : 20000 ≤ k) : ∃ p, mummerref08_Has.f k l a code = some p := by
 unfold mummerref08_Has.f
 rw [rchain_f l a k hk, Option.bind_some]
 by_cases c : (chkV 8000 l).2 = 0
 ·rw [if_pos c]
  have hn := (chk_ok _ _ c).1
  by_cases d : a < 0 ∨ (l.length : Int) ≤ a
  ·rw [if_pos d, if_neg (by decide)]; exact ⟨_, rfl⟩
  ·rw [if_neg d, if_pos rfl]
   have hl := chainG_lenL l l.length a
   exact ⟨_, rhas_l0 l code _ (chainG_mem (chk_dn c) _ _ (by omega)) (by omega) (chainG l l.length a).length 0 (by omega) k (by omega)⟩
 ·rw [if_neg c]
  dsimp only
  rw [if_neg c]; exact ⟨_, rfl⟩
theorem first_val (l : List S41) (code : Int) (k : Nat) (hk : 20000 ≤ k) : ∃ p, mummerref08_First.f k l code = some p := by
 unfold mummerref08_First.f
 rw [rcheck_f _ _ _ (by omega), Option.bind_some]
 by_cases c : (chkV 8000 l).2 = 0
 ·have hn := (chk_ok _ _ c).1
  rw [if_pos c]
  exact ⟨_, rfirst_l0 l (by omega) code l 0 rfl k (by omega)⟩
 ·rw [if_neg c]; exact ⟨_, rfl⟩
theorem law_asks (l : List S41) (a code : Int) : ∃ k, mummerlaw08_FaultsAsks.f k l a code = some true := by
 refine ⟨30000, ?_⟩
 unfold mummerlaw08_FaultsAsks.f
 obtain ⟨b, e, hb⟩ := far_f l 30000 (by omega)
 rw [e, Option.bind_some]
 cases b with
 | true => rw [if_pos rfl]; rfl
 | false =>
  obtain ⟨p1, e1, n1⟩ := chain_val l a 30000 (by omega)
  obtain ⟨p2, e2, n2⟩ := roots_val l 30000 (by omega)
  obtain ⟨p3, e3, n3⟩ := order_val l 30000 (by omega)
  obtain ⟨p4, e4⟩ := has_val l a code 30000 (by omega)
  obtain ⟨p5, e5⟩ := first_val l code 30000 (by omega)
  rw [if_neg (by decide), chain_same l a 30000 (by omega), e1, Option.bind_some, Option.bind_some, ints_f _ n1 _ (by omega), Option.bind_some, if_pos rfl, if_pos rfl,
   roots_same l 30000 (by omega), e2, Option.bind_some, Option.bind_some, order_same l 30000 (by omega), e3, Option.bind_some, Option.bind_some, ints_f _ n2 _ (by omega), Option.bind_some, if_pos rfl, if_pos rfl,
   ints_f _ n3 _ (by omega), Option.bind_some, if_pos rfl, if_pos rfl, has_same l a code 30000 (by omega), e4, Option.bind_some, Option.bind_some, first_same l code 30000 (by omega), e5, Option.bind_some, Option.bind_some,
   if_pos (by cases p4.1 <;> rfl), if_pos rfl, if_pos rfl, if_pos rfl]
  rfl
end Go.Proofs.YtdjkdlbokepoaaaGreatDoor.P
