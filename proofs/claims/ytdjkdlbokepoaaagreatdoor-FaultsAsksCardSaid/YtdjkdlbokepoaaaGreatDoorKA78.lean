import Derived.Test.YtdjkdlbokepoaaaGreatDoorKA77
import Derived.Test.YtdjkdlbokepoaaaGreatDoorKA36
import Derived.Test.YtdjkdlbokepoaaaGreatDoorKA41
import Derived.Test.YtdjkdlbokepoaaaGreatDoorKA44
namespace Go.Proofs.YtdjkdlbokepoaaaGreatDoor.P
open Go.RowKit YtdjkdlbokepoaaaGreatDoorW.PrintWords YtdjkdlbokepoaaaGreatDoorW.PrintLast YtdjkdlbokepoaaaGreatDoorW.PrintMore Sc
set_option linter.unusedVariables false
set_option linter.unusedSimpArgs false
set_option maxRecDepth 20000
def tI (l : List S41) (a b : Int) : Prop := (rd_T41 l a).f2.f0 < (rd_T41 l b).f2.f0 ∨ (rd_T41 l a).f2.f0 = (rd_T41 l b).f2.f0 ∧ ((rd_T41 l a).f2.f1 < (rd_T41 l b).f2.f1 ∨ (rd_T41 l a).f2.f1 = (rd_T41 l b).f2.f1 ∧ a < b)
instance (l : List S41) (a b : Int) : Decidable (tI l a b) := by unfold tI; infer_instance
def kL (l : List S41) (a b : Int) : Prop := (rd_T41 l a).f2.f0 < (rd_T41 l b).f2.f0 ∨ (rd_T41 l a).f2.f0 = (rd_T41 l b).f2.f0 ∧ (rd_T41 l a).f2.f1 < (rd_T41 l b).f2.f1
instance (l : List S41) (a b : Int) : Decidable (kL l a b) := by unfold kL; infer_instance
theorem tI_trans {l : List S41} {a b c : Int} (h : ¬ tI l b a) (h' : ¬ tI l c b) : ¬ tI l c a := by unfold tI at *; omega
theorem tI_eq {l : List S41} {a b : Int} (h : ¬ tI l b a) (h' : ¬ tI l a b) : a = b := by unfold tI at *; omega
def tFn (l : List S41) (x y : Fin l.length) : Bool := decide (tI l (x.val : Int) (y.val : Int))
theorem tFn_swo (l : List S41) : Go.Sort.SWO (tFn l) where
 irrefl x := by unfold tFn; rw [decide_eq_false_iff_not]; unfold tI; omega
 trans x y z h1 h2 := by unfold tFn at *; rw [decide_eq_true_eq] at *; unfold tI at *; omega
 ntrans x y z h1 h2 := by unfold tFn at *; rw [decide_eq_false_iff_not] at *; unfold tI at *; omega
theorem cfF_same (l : List S41) (x y : Fin l.length) (h : x.val < y.val) : ltOf (cfF l) y x = tFn l y x := by
 unfold ltOf tFn cfF cfO
 rw [decide_eq_decide]
 unfold tI orI cI
 generalize (rd_T41 l (y.val : Int)).f2.f0 = a
 generalize (rd_T41 l (x.val : Int)).f2.f0 = b
 generalize (rd_T41 l (y.val : Int)).f2.f1 = c
 generalize (rd_T41 l (x.val : Int)).f2.f1 = d
 by_cases c1 : a < b
 ·rw [if_pos c1, if_neg (by decide)]; constructor
  ·intro _; exact .inl c1
  ·intro _; decide
 ·rw [if_neg c1]
  by_cases c2 : b < a
  ·rw [if_pos c2, if_neg (by decide)]; constructor
   ·intro h; omega
   ·intro h; omega
  ·rw [if_neg c2, if_pos rfl]
   by_cases c3 : c < d
   ·rw [if_pos c3]; constructor
    ·intro _; omega
    ·intro _; decide
   ·rw [if_neg c3]
    by_cases c4 : d < c
    ·rw [if_pos c4]; constructor
     ·intro h; omega
     ·intro h; omega
    ·rw [if_neg c4]; constructor
     ·intro h; omega
     ·intro h; omega
theorem extract_all {α : Type} (D : Array α) (n : Nat) (h : D.size = n) : D.extract 0 n = D := by subst h; exact Array.extract_size
theorem ordL_spec (l : List S41) (hn : l.length ≤ 59) : (ordL l).Perm (upL l.length) ∧ (ordL l).Pairwise (fun a b => ¬ tI l b a) := by
 unfold ordL
 by_cases h0 : 0 < l.length
 ·rw [dif_pos h0]
  obtain ⟨I, hI⟩ : ∃ I : Inhabited (Fin l.length), I = inhF l h0 := ⟨_, rfl⟩
  rw [← hI]
  have hd : (Array.ofFn (fun i : Fin l.length => i)).size = l.length := by simp
  have get : ∀ p (hp : p < l.length), (Array.ofFn (fun i : Fin l.length => i))[p]! = ⟨p, hp⟩ := fun p hp => by
   rw [getElem!_pos _ p (by rw [hd]; exact hp)]; simp
  obtain ⟨P, S⟩ := ordA_ok (lt := ltOf (cfF l)) (tFn_swo l) (fun x y => x.val < y.val) (fun x y h => cfF_same l x y h) l.length (Array.ofFn (fun i : Fin l.length => i)) hd hn (fun p q h1 h2 => by
   rw [get p (by omega), get q h2]; exact h1)
  generalize ordA (ltOf (cfF l)) l.length (Array.ofFn (fun i : Fin l.length => i)) = D at P S
  have hD : D.size = l.length := by rw [P.1, hd]
  have hp := P.2.2
  have x1 := extract_all D l.length hD
  have x2 := extract_all (Array.ofFn (fun i : Fin l.length => i)) l.length hd
  rw [x1, x2] at hp
  constructor
  ·have := hp.map (fun i : Fin l.length => ((i.val : Nat) : Int))
   refine this.trans (List.Perm.of_eq ?_)
   apply List.ext_getElem
   ·simp [upL]
   ·intro i h1 h2
    simp [upL]
  ·rw [List.pairwise_map, List.pairwise_iff_getElem]
   intro i j hi hj hij
   have hi' : i < D.size := by simpa using hi
   have hj' : j < D.size := by simpa using hj
   have := S i j (Nat.zero_le _) hij (by omega)
   rw [getElem!_pos D j hj', getElem!_pos D i hi'] at this
   unfold tFn at this
   rw [decide_eq_false_iff_not] at this
   simpa using this
 ·rw [dif_neg h0, show l.length = 0 by omega]
  exact ⟨List.Perm.refl _, List.Pairwise.nil⟩
theorem before_f (l : List S41) (a b : Int) : mummerref08_before.f (rd_T41 l a).f2.f0 (rd_T41 l a).f2.f1 (rd_T41 l b).f2.f0 (rd_T41 l b).f2.f1 = some (decide (kL l a b)) := by
 unfold mummerref08_before.f
 by_cases c : (rd_T41 l a).f2.f0 < (rd_T41 l b).f2.f0
 ·rw [if_pos c, decide_eq_true (show kL l a b from .inl c)]
 ·rw [if_neg c]
  by_cases e : (rd_T41 l a).f2.f0 = (rd_T41 l b).f2.f0
  ·rw [if_pos e]
   congr 1
   rw [decide_eq_decide]
   constructor
   ·intro h; exact .inr ⟨e, h⟩
   ·intro h; unfold kL at h; omega
  ·rw [if_neg e, decide_eq_false (show ¬ kL l a b from fun h => by unfold kL at h; omega)]
theorem rord_l1 (l : List S41) (hl : l.length ≤ 100) (out : List Int) (ho : out.length ≤ 1000) (i : Nat) (hi : i < l.length) (hm : ∀ x ∈ out, 0 ≤ x ∧ x < (l.length : Int)) (F : Option (List Int × Int)) (Bd : Nat)
  (h : ∀ n : Nat, n ≤ out.length → (∀ x ∈ out.drop n, kL l (i : Int) x) → (n = 0 ∨ ¬ kL l (i : Int) (out.getD (n - 1) 0)) → ∀ K, Bd ≤ K → mummerref08_Order.l0 K l (out.take n ++ ((i : Int) :: out.drop n)) ((i + 1 : Nat) : Int) = F) :
  ∀ n : Nat, n ≤ out.length → (∀ x ∈ out.drop n, kL l (i : Int) x) → ∀ K, Bd + n + 1 ≤ K → mummerref08_Order.l1 K l out (i : Int) (n : Int) = F := by
 have stop : ∀ n : Nat, n ≤ out.length → (∀ x ∈ out.drop n, kL l (i : Int) x) → (n = 0 ∨ ¬ kL l (i : Int) (out.getD (n - 1) 0)) → ∀ K, Bd ≤ K →
   ((some (([(i : Int)] : List Int) : List Int)).bind fun y482 => (if 0 ≤ (n : Int) then (if (n : Int) ≤ (out.length : Int) then ((some (out.drop (n : Int).toNat : List Int)).bind fun y485 => (if y482.length + y485.length < 17592186044416 then ((some (y482 ++ y485 : List Int)).bind fun y489 => ((some (([] : List Int) : List Int)).bind fun y492 => ((some (out.take (n : Int).toNat : List Int)).bind fun y495 => (if y492.length + y495.length < 17592186044416 then ((some (y492 ++ y495 : List Int)).bind fun y499 => (if y499.length + y489.length < 17592186044416 then (mummerref08_Order.l0 K l (y499 ++ y489) (wrap64 ((i : Int) + 1))) else (none))) else (none))))) else (none))) else (none)) else (none))) = F := by
  intro n hn hd hc K hK
  rw [Option.bind_some, if_pos (by omega), if_pos (by omega), Option.bind_some, Int.toNat_natCast, if_pos (by simp; omega), Option.bind_some, Option.bind_some, Option.bind_some, if_pos (by simp; omega), Option.bind_some, if_pos (by simp; omega), w64 (by omega) (by omega), show (i : Int) + 1 = ((i + 1 : Nat) : Int) by omega]
  exact h n hn hd hc K hK
 intro n
 induction n with
 | zero =>
  intro hn hd K hK
  obtain ⟨K, rfl⟩ : ∃ k, K = k + 1 := ⟨K - 1, by omega⟩
  rw [mummerref08_Order.l1, if_neg (by omega)]
  exact stop 0 hn hd (.inl rfl) K (by omega)
 | succ n ih =>
  intro hn hd K hK
  obtain ⟨K, rfl⟩ : ∃ k, K = k + 1 := ⟨K - 1, by omega⟩
  have hw : wrap64 (((n + 1 : Nat) : Int) - 1) = (n : Int) := by rw [w64 (by omega) (by omega)]; omega
  have hlt : n < out.length := by omega
  have hrd : rd out (n : Int) = out.getD n 0 := rfl
  have hg : out.getD n 0 = out[n] := by rw [List.getD_eq_getElem?_getD, List.getElem?_eq_getElem hlt]; rfl
  have hx := hm out[n] (List.getElem_mem hlt)
  rw [mummerref08_Order.l1, if_pos (by omega), if_pos (by omega), if_pos (by omega), hw, if_pos (by omega), if_pos (by omega), hrd, hg, if_pos hx.1, if_pos hx.2, before_f, Option.bind_some]
  by_cases c : kL l (i : Int) out[n]
  ·rw [decide_eq_true c, if_pos rfl]
   refine ih (by omega) ?_ K (by omega)
   intro x hxm
   rw [List.drop_eq_getElem_cons hlt] at hxm
   rcases List.mem_cons.1 hxm with rfl | hxm
   ·exact c
   ·exact hd x hxm
  ·rw [decide_eq_false c, if_neg (by decide)]
   exact stop (n + 1) hn hd (.inr (by rw [Nat.add_sub_cancel, hg]; exact c)) K (by omega)
theorem rord_l0 (l : List S41) (hl : l.length ≤ 59) : ∀ (d i : Nat), i + d = l.length → ∀ out : List Int, out.Perm (upL i) → out.Pairwise (fun a b => ¬ tI l b a) → ∀ K, d * 200 + 1 ≤ K → mummerref08_Order.l0 K l out (i : Int) = some (ordL l, 0) := by
 intro d
 induction d with
 | zero =>
  intro i hi out hp hs K hK
  obtain rfl : i = l.length := by omega
  obtain ⟨K, rfl⟩ : ∃ k, K = k + 1 := ⟨K - 1, by omega⟩
  obtain ⟨q1, q2⟩ := ordL_spec l hl
  rw [mummerref08_Order.l0, if_neg (by omega)]
  have : out = ordL l := List.Perm.eq_of_pairwise (le := fun a b => ¬ tI l b a) (fun a b _ _ h1 h2 => tI_eq h1 h2) hs q2 (hp.trans q1.symm)
  rw [this]
 | succ d ih =>
  intro i hi out hp hs K hK
  obtain ⟨K, rfl⟩ : ∃ k, K = k + 1 := ⟨K - 1, by omega⟩
  have hlen : out.length = i := by rw [hp.length_eq, upL_len]
  have hmem : ∀ x ∈ out, 0 ≤ x ∧ x < (i : Int) := fun x hx => by
   have := hp.mem_iff.1 hx
   unfold upL at this
   obtain ⟨j, hj, rfl⟩ := List.mem_map.1 this
   have := List.mem_range.1 hj
   omega
  rw [mummerref08_Order.l0, if_pos (by omega)]
  refine rord_l1 l (by omega) out (by omega) i (by omega) (fun x hx => by have := hmem x hx; omega) _ (d * 200 + 1) (fun n hn hd hc K hK => ?_) out.length (Nat.le_refl _) (by rw [List.drop_length]; intro x hx; cases hx) K (by omega)
  refine ih (i + 1) (by omega) _ ?_ ?_ K hK
  ·rw [upL_succ]
   refine List.perm_middle.trans ?_
   rw [List.take_append_drop]
   exact (List.Perm.cons _ hp).trans (List.perm_append_singleton _ _).symm
  ·have hs' := hs
   rw [← List.take_append_drop n out] at hs'
   rw [List.pairwise_append] at hs'
   obtain ⟨s1, s2, s3⟩ := hs'
   have hi' : ∀ x ∈ out.take n, ¬ tI l (i : Int) x := by
    intro x hx
    rcases hc with hc | hc
    ·subst hc; rw [List.take_zero] at hx; cases hx
    ·by_cases n0 : n = 0
     ·subst n0; rw [List.take_zero] at hx; cases hx
     ·have hlt : n - 1 < out.length := by omega
      rw [List.getD_eq_getElem?_getD, List.getElem?_eq_getElem hlt, Option.getD_some] at hc
      obtain ⟨j, hj, e⟩ := List.mem_iff_getElem.1 hx
      rw [List.length_take] at hj
      rw [List.getElem_take] at e
      have hz := (hmem out[n - 1] (List.getElem_mem hlt)).2
      have b1 : ¬ tI l (i : Int) out[n - 1] := by unfold tI; unfold kL at hc; omega
      by_cases je : j = n - 1
      ·subst je; rw [← e]; exact b1
      ·have b2 := (List.pairwise_iff_getElem.1 hs) j (n - 1) (by omega) hlt (by omega)
       rw [e] at b2
       exact tI_trans b2 b1
   rw [List.pairwise_append, List.pairwise_cons]
   refine ⟨s1, ⟨fun y hy => ?_, s2⟩, ?_⟩
   ·have := hd y hy
    unfold kL at this
    unfold tI
    omega
   ·intro x hx y hy
    rcases List.mem_cons.1 hy with rfl | hy
    ·exact hi' x hx
    ·exact s3 x hx y hy
theorem order_same (l : List S41) (k : Nat) (hk : 20000 ≤ k) : faults_Order.f k l = mummerref08_Order.f k l := by
 unfold faults_Order.f mummerref08_Order.f
 rw [check_f _ _ _ (by omega), rcheck_f _ _ _ (by omega), Option.bind_some, Option.bind_some]
 by_cases c : (chkV 8000 l).2 = 0
 ·have hn := (chk_ok _ _ c).1
  rw [if_pos c, if_pos c, if_pos (by omega)]
  exact (rord_l0 l (by omega) l.length 0 (by omega) [] (List.Perm.refl _) List.Pairwise.nil k (by omega)).symm
 ·rw [if_neg c, if_neg c]
end Go.Proofs.YtdjkdlbokepoaaaGreatDoor.P
