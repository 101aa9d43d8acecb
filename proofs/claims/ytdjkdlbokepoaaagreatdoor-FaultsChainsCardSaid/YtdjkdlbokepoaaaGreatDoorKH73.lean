import Derived.Test.YtdjkdlbokepoaaaGreatDoorKH72
import Derived.Test.YtdjkdlbokepoaaaGreatDoorKH36
import Derived.Test.YtdjkdlbokepoaaaGreatDoorKH39
namespace Go.Proofs.YtdjkdlbokepoaaaGreatDoor.P
open Go.RowKit Go.Proofs.YtdjkdlbokepoaaaGreatDoorW.PrintWords Go.Proofs.YtdjkdlbokepoaaaGreatDoorW.PrintLast Go.Proofs.YtdjkdlbokepoaaaGreatDoorW.PrintMore Sc
set_option linter.unusedVariables false
set_option linter.unusedSimpArgs false
set_option maxRecDepth 20000
theorem chainG_head (l : List S41) (n : Nat) (i : Int) (h0 : 0 ≤ i) (h1 : i < (n : Int)) : (chainG l n i)[0]? = some i := by
  obtain ⟨n, rfl⟩ : ∃ m, n = m + 1 := ⟨n - 1, by omega⟩
  rw [chainG, if_neg (by omega)]; rfl
theorem chainG_neg (l : List S41) (n : Nat) (i : Int) (h0 : i < 0) : chainG l n i = [] := by
  cases n with
  | zero => rw [chainG]
  | succ n => rw [chainG, if_pos h0]
theorem chain_next {l : List S41} (hd : Dn l) : ∀ (n : Nat) (i : Int), i < (n : Int) → i < (l.length : Int) → ∀ (k : Nat) (x : Int), (chainG l n i)[k]? = some x → (rd_T41 l x).f4 = ((chainG l n i)[k + 1]?).getD (-1)
  | 0, i, h1, h2, k, x, hx => by rw [chainG] at hx; simp at hx
  | n + 1, i, h1, h2, k, x, hx => by
    by_cases c : i < 0
    · rw [chainG_neg l _ i c] at hx; simp at hx
    · obtain ⟨j, rfl⟩ : ∃ j : Nat, i = (j : Int) := ⟨i.toNat, by omega⟩
      have hj := hd j (by omega)
      rw [chainG, if_neg c] at hx ⊢
      cases k with
      | zero =>
        have : (j : Int) = x := by simpa using hx
        subst this
        by_cases e : (rd_T41 l (j : Int)).f4 < 0
        · rw [chainG_neg l n _ e]
          show _ = (-1 : Int)
          omega
        · have := chainG_head l n (rd_T41 l (j : Int)).f4 (by omega) (by omega)
          show _ = ((chainG l n (rd_T41 l (j : Int)).f4)[0]?).getD (-1)
          rw [this]; rfl
      | succ k =>
        have ih := chain_next hd n (rd_T41 l (j : Int)).f4 (by omega) (by omega) k x (by simpa using hx)
        rw [ih]
        simp
theorem mem_of_get {α : Type} {c : List α} {k : Nat} {x : α} (h : c[k]? = some x) : x ∈ c := List.mem_of_getElem? h
/-- Each fault is in the chain of a root. -/
theorem in_root {l : List S41} (hd : Dn l) : ∀ (m p : Nat), p + m = l.length → 0 < m → ∃ r : Nat, r < l.length ∧ isRoot l r = true ∧ (p : Int) ∈ chainG l l.length r := by
  intro m
  induction m using Nat.strongRecOn with
  | _ m ih =>
    intro p hp hm
    by_cases c : isRoot l p = true
    · exact ⟨p, by omega, c, mem_of_get (chainG_head l l.length p (by omega) (by omega))⟩
    · unfold isRoot at c
      have c' : (l.any fun y => decide (y.f4 = (p : Int))) = true := by simpa using c
      obtain ⟨y, hy, e⟩ := List.any_eq_true.1 c'
      have e := of_decide_eq_true e
      obtain ⟨q, hq, rfl⟩ := List.mem_iff_getElem.1 hy
      have hrd : rd_T41 l (q : Int) = l[q] := by
        show l.getD q z41 = _
        rw [List.getD_eq_getElem?_getD, List.getElem?_eq_getElem hq]; rfl
      have hdq := hd q hq
      rw [hrd, e] at hdq
      obtain ⟨r, r1, r2, r3⟩ := ih (l.length - q) (by omega) q (by omega) (by omega)
      obtain ⟨k, hk⟩ := List.mem_iff_getElem?.1 r3
      have nx := chain_next hd l.length r (by omega) (by omega) k (q : Int) hk
      rw [hrd, e] at nx
      refine ⟨r, r1, r2, ?_⟩
      cases hg : (chainG l l.length (r : Int))[k + 1]? with
      | none =>
        rw [hg] at nx
        have nx : (p : Int) = -1 := nx
        omega
      | some z =>
        rw [hg] at nx
        have nx : (p : Int) = z := nx
        rw [nx]
        exact mem_of_get hg
theorem has_f (l1 : List S41) (a c : Int) (k : Nat) (hk : 200 ≤ k) (hc : (chkV 8000 l1).2 = 0) (h0 : 0 ≤ a) (h1 : a < (l1.length : Int)) : faults_Has.f k l1 a c = some ((chainG l1 l1.length a).any (fun i => decide (c = (rd_T41 l1 i).f0)), 0) := by
  have hn := (chk_ok _ _ hc).1
  unfold faults_Has.f faults_known.f
  rw [check_f _ _ _ hk, Option.bind_some, if_pos hc, if_neg (by omega), if_neg (by omega), Option.bind_some, if_pos hc, if_pos ⟨chk_downs hc, h0, h1, by omega⟩]
def Mo (x y : List Bool) : Prop := ∀ p : Nat, x.getD p false = true → y.getD p false = true
section
variable {l : List S41} {code : Int} {roots : List Int}
theorem ch_l3 (i : Int) (c : List Int) (hcm : ∀ x ∈ c, 0 ≤ x ∧ x < (l.length : Int)) (hcl : c.length ≤ 50) (k2 : Nat) (x8 : List Bool) (Bd : Nat)
    (hnext : ∀ y : List Bool, y.length = l.length → Mo x8 y → (∀ x ∈ c, y.getD x.toNat false = true) → ∀ K, Bd ≤ K → mummerlaw08_FaultsChains.l2 K l code roots y i c (k2 + 1 : Nat) = some true) (hk2 : k2 ≤ 1000) :
    ∀ (d j : Nat) (y : List Bool), j + d = c.length → y.length = l.length → Mo x8 y → (∀ m, m < j → ∀ x, c[m]? = some x → y.getD x.toNat false = true) → ∀ K, Bd + d + 1 ≤ K → mummerlaw08_FaultsChains.l3 K l code roots y i c (k2 : Int) (j : Int) = some true := by
  intro d
  induction d with
  | zero =>
    intro j y hj hy hm hx K hK
    obtain ⟨K, rfl⟩ : ∃ k, K = k + 1 := ⟨K - 1, by omega⟩
    rw [mummerlaw08_FaultsChains.l3, if_neg (by omega), w64 (by omega) (by omega), show (k2 : Int) + 1 = ((k2 + 1 : Nat) : Int) by omega]
    refine hnext y hy hm (fun x hxc => ?_) K (by omega)
    obtain ⟨m, hm'⟩ := List.mem_iff_getElem?.1 hxc
    have := (List.getElem?_eq_some_iff.1 hm').1
    exact hx m (by omega) x hm'
  | succ d ih =>
    intro j y hj hy hm hx K hK
    obtain ⟨K, rfl⟩ : ∃ k, K = k + 1 := ⟨K - 1, by omega⟩
    have hlt : j < c.length := by omega
    have hrd : rd c (j : Int) = c[j] := by
      show c.getD j 0 = _
      rw [List.getD_eq_getElem?_getD, List.getElem?_eq_getElem hlt]; rfl
    have hr := hcm _ (List.getElem_mem hlt)
    rw [mummerlaw08_FaultsChains.l3, if_pos (by omega), if_pos (by omega), hrd, if_pos hr.1, if_pos (by rw [hy]; exact hr.2), w64 (by omega) (by omega), show (j : Int) + 1 = ((j + 1 : Nat) : Int) by omega]
    have hset : ∀ p : Nat, (y.set c[j].toNat true).getD p false = true ↔ (p = c[j].toNat ∨ y.getD p false = true) := fun p => by
      rw [List.getD_eq_getElem?_getD, List.getD_eq_getElem?_getD, List.getElem?_set]
      by_cases e : c[j].toNat = p
      · rw [if_pos e, if_pos (by omega)]
        exact ⟨fun _ => .inl e.symm, fun _ => rfl⟩
      · rw [if_neg e]
        exact ⟨fun h => .inr h, fun h => h.elim (fun h => absurd h.symm e) id⟩
    refine ih (j + 1) _ (by omega) (by rw [List.length_set]; exact hy) (fun p hp => (hset p).2 (.inr (hm p hp))) (fun m hm' x hx' => ?_) K (by omega)
    by_cases e : m = j
    · subst e
      have : c[m] = x := by
        rw [List.getElem?_eq_getElem hlt] at hx'
        exact Option.some.inj hx'
      subst this
      exact (hset _).2 (.inl rfl)
    · exact (hset _).2 (.inr (hx m (by omega) x hx'))
theorem ch_l2 (i : Nat) (c : List Int) (hcm : ∀ x ∈ c, 0 ≤ x ∧ x < (l.length : Int)) (hcl : c.length ≤ 50) (hrl : roots.length ≤ 100) (x8 : List Bool) (Bd : Nat)
    (hnext : ∀ y : List Bool, y.length = l.length → Mo x8 y → ((i : Int) ∈ roots → ∀ x ∈ c, y.getD x.toNat false = true) → ∀ K, Bd ≤ K → mummerlaw08_FaultsChains.l0 K l code roots y ((i + 1 : Nat) : Int) = some true) (hi : i ≤ 1000) :
    ∀ (d k2 : Nat) (y : List Bool), k2 + d = roots.length → y.length = l.length → Mo x8 y → ((∃ k', k' < k2 ∧ roots[k']? = some (i : Int)) → ∀ x ∈ c, y.getD x.toNat false = true) → ∀ K, Bd + d * 60 + 1 ≤ K → mummerlaw08_FaultsChains.l2 K l code roots y (i : Int) c (k2 : Int) = some true := by
  intro d
  induction d with
  | zero =>
    intro k2 y hk hy hm hx K hK
    obtain ⟨K, rfl⟩ : ∃ k, K = k + 1 := ⟨K - 1, by omega⟩
    rw [mummerlaw08_FaultsChains.l2, if_neg (by omega), w64 (by omega) (by omega), show (i : Int) + 1 = ((i + 1 : Nat) : Int) by omega]
    refine hnext y hy hm (fun hr => hx ?_) K (by omega)
    obtain ⟨m, hm'⟩ := List.mem_iff_getElem?.1 hr
    have := (List.getElem?_eq_some_iff.1 hm').1
    exact ⟨m, by omega, hm'⟩
  | succ d ih =>
    intro k2 y hk hy hm hx K hK
    obtain ⟨K, rfl⟩ : ∃ k, K = k + 1 := ⟨K - 1, by omega⟩
    have hlt : k2 < roots.length := by omega
    have hrd : rd roots (k2 : Int) = roots[k2] := by
      show roots.getD k2 0 = _
      rw [List.getD_eq_getElem?_getD, List.getElem?_eq_getElem hlt]; rfl
    rw [mummerlaw08_FaultsChains.l2, if_pos (by omega), if_pos (by omega), hrd]
    by_cases e : roots[k2] = (i : Int)
    · rw [if_pos e]
      exact ch_l3 (i : Int) c hcm hcl k2 y (Bd + d * 60 + 1) (fun y' h1 h2 h3 K hK => ih (k2 + 1) y' (by omega) h1 (fun p hp => h2 p (hm p hp)) (fun _ => h3) K hK) (by omega) c.length 0 y (by omega) hy (fun p hp => hp) (fun m hm => by omega) K (by omega)
    · rw [if_neg e, w64 (by omega) (by omega), show (k2 : Int) + 1 = ((k2 + 1 : Nat) : Int) by omega]
      refine ih (k2 + 1) y (by omega) hy hm (fun ⟨k', h1, h2⟩ => ?_) K (by omega)
      by_cases q : k' = k2
      · subst q
        rw [List.getElem?_eq_getElem hlt] at h2
        exact absurd (Option.some.inj h2) e
      · exact hx ⟨k', by omega, h2⟩
theorem ch_l1 (hc : (chkV 8000 l).2 = 0) (i : Nat) (hi : i < l.length) (c : List Int) (hce : c = chainG l l.length (i : Int)) (x8 : List Bool) (Bd : Nat)
    (hend : ∀ K, Bd ≤ K → mummerlaw08_FaultsChains.l2 K l code roots x8 (i : Int) c 0 = some true) :
    ∀ (d j : Nat) (f : Bool), j + d = c.length → (f || (c.drop j).any (fun y => decide (code = (rd_T41 l y).f0))) = c.any (fun y => decide (code = (rd_T41 l y).f0)) → ∀ K, Bd + 300 + d ≤ K → mummerlaw08_FaultsChains.l1 K l code roots x8 (i : Int) c f (j : Int) = some true := by
  have hd := chk_dn hc
  have hn := (chk_ok _ _ hc).1
  have hcl : c.length ≤ 50 := by rw [hce]; have := chainG_lenL l l.length (i : Int); omega
  have hcm : ∀ x ∈ c, 0 ≤ x ∧ x < (l.length : Int) := by rw [hce]; exact chainG_mem hd _ _ (by omega)
  have hnx : ∀ (k : Nat) (x : Int), c[k]? = some x → (rd_T41 l x).f4 = (c[k + 1]?).getD (-1) := by rw [hce]; exact chain_next hd _ _ (by omega) (by omega)
  intro d
  induction d with
  | zero =>
    intro j f hj hf K hK
    obtain ⟨K, rfl⟩ : ∃ k, K = k + 1 := ⟨K - 1, by omega⟩
    have e : c.drop j = [] := List.drop_eq_nil_of_le (by omega)
    rw [e] at hf
    have hf' : f = c.any (fun y => decide (code = (rd_T41 l y).f0)) := by simpa using hf
    have hh := has_f l (i : Int) code K (by omega) hc (by omega) (by omega)
    rw [← hce, ← hf'] at hh
    rw [mummerlaw08_FaultsChains.l1, if_neg (by omega), hh, Option.bind_some]
    dsimp only
    rw [if_neg (by simp), if_pos rfl]
    exact hend K (by omega)
  | succ d ih =>
    intro j f hj hf K hK
    obtain ⟨K, rfl⟩ : ∃ k, K = k + 1 := ⟨K - 1, by omega⟩
    have hlt : j < c.length := by omega
    have hg : c[j]? = some c[j] := List.getElem?_eq_getElem hlt
    have hrd : rd c (j : Int) = c[j] := by
      show c.getD j 0 = _
      rw [List.getD_eq_getElem?_getD, hg]; rfl
    have hr := hcm _ (List.getElem_mem hlt)
    have nx := hnx j _ hg
    rw [List.drop_eq_getElem_cons hlt, List.any_cons] at hf
    -- the step
    have stepT : f = true → mummerlaw08_FaultsChains.l1 K l code roots x8 (i : Int) c true ((j + 1 : Nat) : Int) = some true := fun h => by
      refine ih (j + 1) true (by omega) ?_ K (by omega)
      rw [← hf, h]; simp
    have stepF : f = false → mummerlaw08_FaultsChains.l1 K l code roots x8 (i : Int) c ((rd_T41 l c[j]).f0 == code) ((j + 1 : Nat) : Int) = some true := fun h => by
      refine ih (j + 1) _ (by omega) ?_ K (by omega)
      rw [← hf, h, Bool.false_or]
      congr 1
      by_cases e : (rd_T41 l c[j]).f0 = code
      · rw [decide_eq_true e.symm]; simpa using e
      · rw [decide_eq_false (fun h => e h.symm)]; simpa using e
    rw [mummerlaw08_FaultsChains.l1, if_pos (by omega), if_pos (by omega), hrd, if_neg (by omega), if_neg (by omega), w64 (by omega) (by omega), show (j : Int) + 1 = ((j + 1 : Nat) : Int) by omega]
    have fork : ∀ b : Bool, f = b → (if f = true then mummerlaw08_FaultsChains.l1 K l code roots x8 (i : Int) c true ((j + 1 : Nat) : Int) else mummerlaw08_FaultsChains.l1 K l code roots x8 (i : Int) c ((rd_T41 l c[j]).f0 == code) ((j + 1 : Nat) : Int)) = some true := fun b hb => by
      cases b with
      | true => rw [if_pos hb]; exact stepT hb
      | false => rw [if_neg (by rw [hb]; decide)]; exact stepF hb
    by_cases c1 : j + 1 < c.length
    · have hg' : c[j + 1]? = some c[j + 1] := List.getElem?_eq_getElem c1
      have hrd' : rd c ((j + 1 : Nat) : Int) = c[j + 1] := by
        show c.getD (j + 1) 0 = _
        rw [List.getD_eq_getElem?_getD, hg']; rfl
      rw [hg'] at nx
      have nx : (rd_T41 l c[j]).f4 = c[j + 1] := nx
      rw [if_pos (by omega), if_pos (by omega), if_pos hr.1, if_pos hr.2, hrd', if_pos nx.symm, if_neg (by omega)]
      exact fork f rfl
    · have hg' : c[j + 1]? = none := List.getElem?_eq_none (by omega)
      rw [hg'] at nx
      have nx : (rd_T41 l c[j]).f4 = -1 := nx
      rw [if_neg (by omega), if_pos (by omega), if_pos hr.1, if_pos hr.2, if_pos nx]
      exact fork f rfl
theorem ch_l4 (hn : l.length ≤ 100) (y : List Bool) (hy : y.length = l.length) (ha : ∀ p, p < l.length → y.getD p false = true) : ∀ (d p : Nat), p + d = l.length → ∀ K, d < K → mummerlaw08_FaultsChains.l4 K l y (p : Int) = some true := by
  intro d
  induction d with
  | zero =>
    intro p hp K hK
    obtain ⟨K, rfl⟩ : ∃ k, K = k + 1 := ⟨K - 1, by omega⟩
    rw [mummerlaw08_FaultsChains.l4, if_neg (by omega)]; rfl
  | succ d ih =>
    intro p hp K hK
    obtain ⟨K, rfl⟩ : ∃ k, K = k + 1 := ⟨K - 1, by omega⟩
    have e : rdOf false y (p : Int) = true := ha p (by omega)
    rw [mummerlaw08_FaultsChains.l4, if_pos (by omega), if_pos (by omega), if_pos (by omega), if_pos e, w64 (by omega) (by omega), show (p : Int) + 1 = ((p + 1 : Nat) : Int) by omega]
    exact ih (p + 1) (by omega) K (by omega)
theorem ch_l0 (hc : (chkV 8000 l).2 = 0) (hro : roots = rootsUp l l.length) :
    ∀ (d i : Nat) (y : List Bool), i + d = l.length → y.length = l.length → (∀ r : Nat, r < i → isRoot l r = true → ∀ x ∈ chainG l l.length (r : Int), y.getD x.toNat false = true) → ∀ K, 1000 + d * 10000 ≤ K → mummerlaw08_FaultsChains.l0 K l code roots y (i : Int) = some true := by
  have hd := chk_dn hc
  have hn := (chk_ok _ _ hc).1
  have hrl : roots.length ≤ 50 := by rw [hro]; have := rootsUp_len l l.length; omega
  intro d
  induction d with
  | zero =>
    intro i y hi hy hx K hK
    obtain ⟨K, rfl⟩ : ∃ k, K = k + 1 := ⟨K - 1, by omega⟩
    rw [mummerlaw08_FaultsChains.l0, if_neg (by omega)]
    refine ch_l4 (by omega) y hy (fun p hp => ?_) l.length 0 (by omega) K (by omega)
    obtain ⟨r, r1, r2, r3⟩ := in_root hd (l.length - p) p (by omega) (by omega)
    exact hx r (by omega) r2 _ r3
  | succ d ih =>
    intro i y hi hy hx K hK
    obtain ⟨K, rfl⟩ : ∃ k, K = k + 1 := ⟨K - 1, by omega⟩
    have hcl := chainG_lenL l l.length (i : Int)
    have hcm := chainG_mem hd l.length (i : Int) (by omega)
    have hh := chainG_head l l.length (i : Int) (by omega) (by omega)
    have hlt : 0 < (chainG l l.length (i : Int)).length := (List.getElem?_eq_some_iff.1 hh).1
    have hrd : rd (chainG l l.length (i : Int)) 0 = (i : Int) := by
      show (chainG l l.length (i : Int)).getD 0 0 = _
      rw [List.getD_eq_getElem?_getD, hh]; rfl
    rw [mummerlaw08_FaultsChains.l0, if_pos (by omega), chain_f l (i : Int) K (by omega) hc (by omega) (by omega), Option.bind_some]
    dsimp only
    rw [if_pos rfl, if_neg (by omega), if_neg (by omega), if_pos (by omega), hrd, if_pos rfl]
    refine ch_l1 hc i (by omega) _ rfl y (1000 + d * 10000 + 50 * 60 + 1) (fun K hK => ?_) (chainG l l.length (i : Int)).length 0 false (by omega) (by simp) K (by omega)
    refine ch_l2 i _ hcm (by omega) (by omega) y (1000 + d * 10000) (fun y' h1 h2 h3 K hK => ?_) (by omega) roots.length 0 y (by omega) hy (fun p hp => hp) (fun ⟨k', h, _⟩ => by omega) K (by omega)
    refine ih (i + 1) y' (by omega) h1 (fun r hr hroot x hxc => ?_) K hK
    by_cases e : r = i
    · subst e
      refine h3 ?_ x hxc
      rw [hro]
      unfold rootsUp
      rw [List.mem_map]
      exact ⟨r, List.mem_filter.2 ⟨List.mem_range.2 (by omega), hroot⟩, rfl⟩
    · exact h2 _ (hx r (by omega) hroot x hxc)
end
theorem roots_f (l : List S41) (k : Nat) (hk : 200 ≤ k) (hc : (chkV 8000 l).2 = 0) : faults_Roots.f k l = some (rootsUp l l.length, 0) := by
  have hn := (chk_ok _ _ hc).1
  unfold faults_Roots.f
  rw [check_f _ _ _ hk, Option.bind_some, if_pos hc, if_pos (by omega)]
theorem law_chains (l : List S41) (code : Int) : ∃ k, mummerlaw08_FaultsChains.f k l code = some true := by
  refine ⟨600001, ?_⟩
  have yes : mummerlaw08_FaultsChains.j0 (600000 + 1) l code true = some true := by rw [mummerlaw08_FaultsChains.j0, if_pos rfl]; rfl
  unfold mummerlaw08_FaultsChains.f
  obtain ⟨b, e, hb⟩ := far_f l 600001 (by omega)
  rw [check_f _ _ _ (by omega), Option.bind_some, e, Option.bind_some]
  cases b with
  | true => rw [if_pos rfl]; exact yes
  | false =>
    rw [if_neg (by decide)]
    by_cases hc : (chkV 8000 l).2 = 0
    · have hn := (chk_ok _ _ hc).1
      rw [hc]
      show mummerlaw08_FaultsChains.j0 (600000 + 1) l code false = _
      rw [mummerlaw08_FaultsChains.j0, if_neg (by decide), roots_f l _ (by omega) hc, Option.bind_some]
      dsimp only
      rw [if_pos rfl, if_pos (by omega), Int.toNat_natCast, if_pos (by omega)]
      exact ch_l0 hc rfl l.length 0 _ (by omega) (by simp) (fun r hr => by omega) 600000 (by omega)
    · have : ((chkV 8000 l).2 != 0) = true := by simpa using hc
      rw [this]
      exact yes
end Go.Proofs.YtdjkdlbokepoaaaGreatDoor.P
