import Derived.Test.YtkalbdeopogbpaaGreatDoorKX38
import Derived.Test.YtkalbdeopogbpaaGreatDoorKX32
import Derived.Test.YtkalbdeopogbpaaGreatDoorKX35
import Derived.Test.YtkalbdeopogbpaaGreatDoorKX33
import Derived.Test.YtkalbdeopogbpaaGreatDoorKX34
import Derived.Test.YtkalbdeopogbpaaGreatDoorKX48
namespace Go.Proofs.YtkalbdeopogbpaaGreatDoor.P.Wq
open Go.RowKit Go.Proofs.YtkalbdeopogbpaaGreatDoorW.PrintWords Go.Proofs.YtkalbdeopogbpaaGreatDoorW.PrintLast
set_option linter.unusedVariables false
set_option linter.unusedSimpArgs false
set_option maxRecDepth 20000
def asc : List Int → Prop
  | [] => True
  | x :: r => (∀ y s, r = y :: s → x < y) ∧ asc r
def runsOf : Nat → List Int → List (Nat × Nat)
  | 0, _ => []
  | _ + 1, [] => []
  | g + 1, x :: r => (x.toNat, x.toNat + Wd.runLen x r) :: runsOf g (r.drop (Wd.runLen x r))
theorem itoa_pos (x : Int) (h : 0 ≤ x) : Lib.itoa x = Lib.decDigits x.toNat := by
  unfold Lib.itoa
  rw [if_neg (by omega)]
theorem seg_one (x : Int) (h : 0 ≤ x) (k : Nat) : Lib.itoa x ++ (if k = 0 then [] else 45 :: Lib.itoa (x + (k : Int))) = segL (x.toNat, x.toNat + k) := by
  unfold segL
  by_cases hk : k = 0
  · subst hk
    rw [if_pos rfl, if_pos (by simp), List.append_nil, itoa_pos x h]
  · rw [if_neg hk, if_neg (show ¬ x.toNat = x.toNat + k by omega), itoa_pos x h, itoa_pos _ (by omega), show (x + (k : Int)).toNat = x.toNat + k by omega]
theorem listGo_tl : ∀ (g : Nat) (l : List Int) (acc : List UInt8), (∀ x ∈ l, 0 ≤ x) → acc ≠ [] → Wd.listGo g l acc = acc ++ tlC 44 ((runsOf g l).map segL) := by
  intro g
  induction g with
  | zero => intro l acc _ _; cases l <;> (rw [Wd.listGo, runsOf]; simp [tlC])
  | succ g ih =>
    intro l acc hl hacc
    cases l with
    | nil => rw [Wd.listGo, runsOf]; simp [tlC]
    | cons x r =>
      have h0 := hl x (by simp)
      rw [Wd.listGo, runsOf, if_neg hacc, List.append_assoc (acc ++ [44]), seg_one x h0]
      rw [ih _ _ (fun y hy => hl y (by simp [List.mem_of_mem_drop hy])) (by simp), List.map_cons, tlC]
      simp
theorem listGo_jn (g : Nat) (l : List Int) (hl : ∀ x ∈ l, 0 ≤ x) : Wd.listGo g l [] = jnC 44 ((runsOf g l).map segL) := by
  cases g with
  | zero => cases l <;> (rw [Wd.listGo, runsOf]; rfl)
  | succ g =>
    cases l with
    | nil => rw [Wd.listGo, runsOf]; rfl
    | cons x r =>
      have h0 := hl x (by simp)
      rw [Wd.listGo, runsOf, if_pos rfl, List.append_nil, List.nil_append, seg_one x h0]
      have hne : segL (x.toNat, x.toNat + Wd.runLen x r) ≠ [] := by
        intro e
        have := segL_len (x.toNat, x.toNat + Wd.runLen x r)
        rw [e] at this
        exact absurd this (by decide)
      rw [listGo_tl g _ _ (fun y hy => hl y (by simp [List.mem_of_mem_drop hy])) hne, List.map_cons, jnC]
theorem formK_lt : ∀ (l : List Int) (n : Nat), Wd.formK l n = 0 → ∀ k, k + 1 < n → l.getD k 0 < l.getD (k + 1) 0 := by
  intro l n
  induction n with
  | zero => intro _ k hk; omega
  | succ n ih =>
    intro h k hk
    rw [Wd.formK] at h
    split at h
    · exact absurd h (by decide)
    · rename_i hc
      by_cases he : k + 1 = n
      · subst he
        rw [Nat.add_sub_cancel] at hc
        have h2 : ¬ l.getD (k + 1) 0 ≤ l.getD k 0 := fun h2 => hc ⟨by omega, h2⟩
        omega
      · exact ih h k (by omega)
theorem formK_of : ∀ (l : List Int) (n : Nat), (∀ k, k + 1 < n → l.getD k 0 < l.getD (k + 1) 0) → Wd.formK l n = 0 := by
  intro l n
  induction n with
  | zero => intro _; rfl
  | succ n ih =>
    intro h
    rw [Wd.formK, if_neg, ih (fun k hk => h k (by omega))]
    rintro ⟨h1, h2⟩
    have := h (n - 1) (by omega)
    rw [show n - 1 + 1 = n by omega] at this
    omega
theorem asc_of : ∀ (l : List Int), (∀ k, k + 1 < l.length → l.getD k 0 < l.getD (k + 1) 0) → asc l := by
  intro l
  induction l with
  | nil => intro _; trivial
  | cons x r ih =>
    intro h
    refine ⟨fun y s e => ?_, ih (fun k hk => ?_)⟩
    · subst e
      exact h 0 (by simp)
    · have := h (k + 1) (by rw [List.length_cons]; omega)
      exact this
theorem asc_to : ∀ (l : List Int), asc l → ∀ k, k + 1 < l.length → l.getD k 0 < l.getD (k + 1) 0 := by
  intro l
  induction l with
  | nil => intro _ k hk; exact absurd hk (by simp)
  | cons x r ih =>
    intro h k hk
    cases k with
    | zero =>
      cases r with
      | nil => exact absurd hk (by simp)
      | cons y s => exact h.1 y s rfl
    | succ k => exact ih h.2 k (by rw [List.length_cons] at hk; omega)
theorem formK_asc (l : List Int) : Wd.formK l l.length = 0 ↔ asc l := ⟨fun h => asc_of l (formK_lt l _ h), fun h => formK_of l _ (asc_to l h)⟩
theorem asc_drop : ∀ (l : List Int) (k : Nat), asc l → asc (l.drop k) := by
  intro l
  induction l with
  | nil => intro k _; rw [List.drop_nil]; trivial
  | cons x r ih =>
    intro k h
    cases k with
    | zero => exact h
    | succ k => exact ih k h.2
theorem run_take : ∀ (r : List Int) (x : Int), 0 ≤ x → r.take (Wd.runLen x r) = rangeL (x.toNat + 1) (Wd.runLen x r) := by
  intro r
  induction r with
  | nil => intro x _; rw [Wd.runLen]; rfl
  | cons y r ih =>
    intro x hx
    rw [Wd.runLen]
    split
    · rename_i h
      rw [List.take_succ_cons, rangeL_succ, ih y (by omega), show y.toNat + 1 = x.toNat + 1 + 1 by omega]
      congr 1
      omega
    · rfl
theorem run_next : ∀ (r : List Int) (x : Int), asc (x :: r) → ∀ y s, r.drop (Wd.runLen x r) = y :: s → x + (Wd.runLen x r : Int) + 1 < y := by
  intro r
  induction r with
  | nil => intro x _ y s h; rw [List.drop_nil] at h; cases h
  | cons z r ih =>
    intro x ha y s h
    rw [Wd.runLen] at h ⊢
    have hz := ha.1 z r rfl
    split at h
    · rename_i hc
      rw [if_pos hc]
      rw [List.drop_succ_cons] at h
      have := ih z ha.2 y s h
      omega
    · rename_i hc
      rw [if_neg hc]
      rw [List.drop_zero] at h
      injection h with e1 e2
      omega
theorem goodP_runs : ∀ (g : Nat) (l : List Int) (o : Option Nat), (∀ x ∈ l, 0 ≤ x) → asc l → (∀ y s, l = y :: s → okBy o y.toNat = true) → goodP o (runsOf g l) := by
  intro g
  induction g with
  | zero => intro l o _ _ _; rw [runsOf]; trivial
  | succ g ih =>
    intro l o hl ha ho
    cases l with
    | nil => rw [runsOf]; trivial
    | cons x r =>
      rw [runsOf]
      have h0 := hl x (by simp)
      refine ⟨by omega, ho x r rfl, ih _ _ (fun y hy => hl y (by simp [List.mem_of_mem_drop hy])) (asc_drop _ _ ha.2) (fun y s e => ?_)⟩
      have := run_next r x ha y s e
      exact decide_eq_true (by omega)
theorem expand_runs : ∀ (g : Nat) (l acc : List Int), l.length ≤ g → (∀ x ∈ l, 0 ≤ x) → acc.length + l.length ≤ 500 → expand (runsOf g l) acc = (acc ++ l, 0) := by
  intro g
  induction g with
  | zero =>
    intro l acc hg _ _
    have : l = [] := List.length_eq_zero_iff.1 (by omega)
    subst this
    rw [runsOf, expand, List.append_nil]
  | succ g ih =>
    intro l acc hg hl h5
    cases l with
    | nil => rw [runsOf, expand, List.append_nil]
    | cons x r =>
      have h0 := hl x (by simp)
      have hr := Wd.runLen_le r x
      rw [List.length_cons] at h5 hg
      rw [runsOf, expand]
      simp only [Nat.add_sub_cancel_left]
      rw [if_neg (by omega), ih _ _ (by rw [List.length_drop]; omega) (fun y hy => hl y (by simp [List.mem_of_mem_drop hy])) (by rw [List.length_append, rangeL_len, List.length_drop]; omega)]
      rw [rangeL_succ, ← run_take r x h0, List.append_assoc, List.cons_append, List.take_append_drop, show ((x.toNat : Nat) : Int) = x by omega]
theorem runs_mem : ∀ (g : Nat) (l : List Int), (∀ x ∈ l, 0 ≤ x) → ∀ p ∈ runsOf g l, ((p.2 : Nat) : Int) ∈ l := by
  intro g
  induction g with
  | zero => intro l _ p hp; rw [runsOf] at hp; cases hp
  | succ g ih =>
    intro l hl p hp
    cases l with
    | nil => rw [runsOf] at hp; cases hp
    | cons x r =>
      have h0 := hl x (by simp)
      rw [runsOf] at hp
      rcases List.mem_cons.1 hp with e | e
      · subst e
        show ((x.toNat + Wd.runLen x r : Nat) : Int) ∈ x :: r
        by_cases hk : Wd.runLen x r = 0
        · rw [hk, show ((x.toNat + 0 : Nat) : Int) = x by omega]; simp
        · refine List.mem_cons.2 (.inr (List.mem_of_mem_take (i := Wd.runLen x r) ?_))
          rw [run_take r x h0]
          exact List.mem_map.2 ⟨Wd.runLen x r - 1, List.mem_range.2 (by omega), by omega⟩
      · exact List.mem_cons.2 (.inr (List.mem_of_mem_drop (ih _ (fun y hy => hl y (by simp [List.mem_of_mem_drop hy])) p e)))
theorem lastN_mem (ps : List (Nat × Nat)) : lastN ps = 0 ∨ ∃ p ∈ ps, lastN ps = p.2 := by
  unfold lastN
  cases h : ps.getLast? with
  | none => exact .inl rfl
  | some p => exact .inr ⟨p, List.mem_of_getLast? h, rfl⟩
theorem outB_not {l : List Int} (h : l.any Wd.outB = false) : ∀ x ∈ l, 0 ≤ x ∧ x ≤ 1000000000 := by
  intro x hx
  have := List.any_eq_false.1 h x hx
  unfold Wd.outB at this
  simp at this
  omega
theorem seg_head (ps : List (Nat × Nat)) (hne : ps ≠ []) : jnC 44 (ps.map segL) ≠ [45] := by
  cases ps with
  | nil => exact absurd rfl hne
  | cons p ps =>
    rw [List.map_cons, jnC]
    unfold segL
    obtain ⟨b, r, hb⟩ := List.exists_cons_of_ne_nil (dd_ne p.1)
    have h45 : b ≠ 45 := by
      intro e
      have := dd45 p.1
      rw [hb, e] at this
      exact this (by simp)
    rw [hb]
    split <;> (intro e; injection e with e1 e2; exact h45 e1)
theorem runsOf_ne (g : Nat) (x : Int) (r : List Int) : runsOf (g + 1) (x :: r) ≠ [] := by rw [runsOf]; exact fun h => by cases h
theorem inv_LP (l : List Int) (h : (Wd.listS l).2 = 0) : parseS (Wd.listS l).1 = (l, 0) := by
  unfold Wd.listS at h ⊢
  split
  · rename_i h1; rw [if_pos h1] at h; exact absurd h (by decide)
  · rename_i h1
    rw [if_neg h1] at h
    split
    · rename_i h2; rw [if_pos h2] at h; exact absurd h (by decide)
    · rename_i h2
      rw [if_neg h2] at h
      split
      · rename_i h3; rw [if_pos h3] at h; exact absurd h h3
      · rename_i h3
        split
        · rename_i h4; subst h4; rfl
        · rename_i h4
          have hb := outB_not (by simpa using h2)
          have h0 : ∀ x ∈ l, 0 ≤ x := fun x hx => (hb x hx).1
          have ha := (formK_asc l).1 (by simpa using h3)
          unfold parseS
          rw [show (⟨(Wd.listGo l.length l []).toArray⟩ : ByteArray).data.toList = Wd.listGo l.length l [] from rfl, listGo_jn _ _ h0]
          have hne : runsOf l.length l ≠ [] := by
            cases l with
            | nil => exact absurd rfl h4
            | cons x r => exact runsOf_ne _ _ _
          rw [if_neg (seg_head _ hne), join_spA 44 _ (by simpa using hne) (by
            intro x hx
            obtain ⟨p, _, rfl⟩ := List.mem_map.1 hx
            exact segL_44 p), (chk_iff _ _ _).2 ⟨rfl, goodP_runs _ _ none h0 ha (fun _ _ _ => rfl)⟩]
          simp only
          have hlast : lastN (runsOf l.length l) ≤ 1000000000 := by
            rcases lastN_mem (runsOf l.length l) with e | ⟨p, hp, e⟩
            · omega
            · have := hb _ (runs_mem _ _ h0 p hp)
              omega
          rw [if_neg (by omega), expand_runs _ _ _ (Nat.le_refl _) h0 (by simp; omega), List.nil_append]
def flat (ps : List (Nat × Nat)) : List Int := match ps with
  | [] => []
  | p :: ps => rangeL p.1 (p.2 - p.1 + 1) ++ flat ps
theorem expand_ok : ∀ (ps : List (Nat × Nat)) (acc m : List Int), expand ps acc = (m, 0) → acc.length ≤ 500 → m = acc ++ flat ps ∧ m.length ≤ 500 := by
  intro ps
  induction ps with
  | nil =>
    intro acc m h h5
    rw [expand] at h
    injection h with e1 e2
    subst e1
    exact ⟨by rw [flat, List.append_nil], h5⟩
  | cons p ps ih =>
    intro acc m h h5
    rw [expand] at h
    split at h
    · injection h with e1 e2; exact absurd e2 (by decide)
    · have := ih _ _ h (by rw [List.length_append, rangeL_len]; omega)
      rw [flat]
      exact ⟨by rw [this.1, List.append_assoc], this.2⟩
theorem flat_head (o : Option Nat) (ps : List (Nat × Nat)) (h : goodP o ps) (q : Nat) (ho : o = some q) : ∀ y s, flat ps = y :: s → (q : Int) + 1 < y := by
  intro y s e
  cases ps with
  | nil => cases e
  | cons p ps =>
    rw [flat, rangeL_succ, List.cons_append] at e
    injection e with e1 e2
    subst ho
    have h3 : decide (q + 1 < p.1) = true := h.2.1
    have := of_decide_eq_true h3
    omega
theorem run_range : ∀ (d : Nat) (x : Nat) (s : List Int), (∀ y t, s = y :: t → ((x + d : Nat) : Int) + 1 < y) → Wd.runLen (x : Int) (rangeL (x + 1) d ++ s) = d := by
  intro d
  induction d with
  | zero =>
    intro x s h
    rw [rangeL_zero, List.nil_append]
    cases s with
    | nil => rfl
    | cons y t =>
      have := h y t rfl
      rw [Wd.runLen, if_neg (by omega)]
  | succ d ih =>
    intro x s h
    rw [rangeL_succ, List.cons_append, Wd.runLen, if_pos (by omega), ih (x + 1) s (fun y t e => by have := h y t e; omega)]
theorem runs_flat : ∀ (g : Nat) (ps : List (Nat × Nat)) (o : Option Nat), goodP o ps → (flat ps).length ≤ g → runsOf g (flat ps) = ps := by
  intro g
  induction g with
  | zero =>
    intro ps o h hg
    cases ps with
    | nil => rfl
    | cons p ps => rw [flat, List.length_append, rangeL_len] at hg; omega
  | succ g ih =>
    intro ps o h hg
    cases ps with
    | nil => rfl
    | cons p ps =>
      have hr : Wd.runLen (p.1 : Int) (rangeL (p.1 + 1) (p.2 - p.1) ++ flat ps) = p.2 - p.1 := by
        refine run_range _ _ _ (fun y t e => ?_)
        have := flat_head _ ps h.2.2 p.2 rfl y t e
        have := h.1
        omega
      have h1 := h.1
      rw [flat, List.length_append, rangeL_len] at hg
      rw [flat, rangeL_succ, List.cons_append, runsOf, hr, Int.toNat_natCast, List.drop_left' (rangeL_len _ _), ih ps (some p.2) h.2.2 (by omega), show p.1 + (p.2 - p.1) = p.2 by omega]
theorem asc_range : ∀ (d : Nat) (x : Nat) (s : List Int), asc s → (∀ y t, s = y :: t → ((x + d : Nat) : Int) ≤ y) → asc (rangeL x d ++ s) := by
  intro d
  induction d with
  | zero => intro x s h _; exact h
  | succ d ih =>
    intro x s h hs
    rw [rangeL_succ, List.cons_append]
    refine ⟨fun y t e => ?_, ih (x + 1) s h (fun y t e => by have := hs y t e; omega)⟩
    cases d with
    | zero =>
      rw [rangeL_zero, List.nil_append] at e
      have := hs y t e
      omega
    | succ d =>
      rw [rangeL_succ, List.cons_append] at e
      injection e with e1 e2
      omega
theorem asc_flat : ∀ (ps : List (Nat × Nat)) (o : Option Nat), goodP o ps → asc (flat ps) := by
  intro ps
  induction ps with
  | nil => intro o _; trivial
  | cons p ps ih =>
    intro o h
    rw [flat]
    refine asc_range _ _ _ (ih _ h.2.2) (fun y t e => ?_)
    have := flat_head _ ps h.2.2 p.2 rfl y t e
    have := h.1
    omega
theorem flat_mem : ∀ (ps : List (Nat × Nat)), (∀ p ∈ ps, p.1 ≤ p.2) → ∀ x ∈ flat ps, 0 ≤ x ∧ ∃ p ∈ ps, x ≤ (p.2 : Int) := by
  intro ps
  induction ps with
  | nil => intro _ x hx; cases hx
  | cons p ps ih =>
    intro hp x hx
    rw [flat] at hx
    rcases List.mem_append.1 hx with h | h
    · obtain ⟨i, hi, rfl⟩ := List.mem_map.1 h
      have h1 := List.mem_range.1 hi
      have h2 := hp p (by simp)
      exact ⟨by omega, p, by simp, by omega⟩
    · obtain ⟨h1, q, h2, h3⟩ := ih (fun q hq => hp q (by simp [hq])) x h
      exact ⟨h1, q, by simp [h2], h3⟩
theorem inv_PL (a : ByteArray) (h : (parseS a).2 = 0) : Wd.listS (parseS a).1 = (a, 0) := by
  unfold parseS at h ⊢
  split
  · rename_i h1
    have : a = mkB [45] := by rw [← mkB_of a, h1]
    rw [this]; rfl
  · rename_i h1
    rw [if_neg h1] at h
    cases hc : chk none (spA 44 [] a.data.toList) with
    | none => rw [hc] at h; exact absurd h (by decide)
    | some ps =>
      rw [hc] at h
      simp only at h ⊢
      obtain ⟨hs, hg⟩ := (chk_iff _ _ _).1 hc
      split
      · rename_i h2; rw [if_pos h2] at h; exact absurd h (by decide)
      · rename_i h2
        rw [if_neg h2] at h
        obtain ⟨hm, h5⟩ := expand_ok ps [] (expand ps []).1 (by rw [← h]) (by simp)
        rw [List.nil_append] at hm
        rw [hm] at h5 ⊢
        have hl := good_last ps none hg
        have hne : ps ≠ [] := by
          rintro rfl
          exact spA_nil 44 _ _ hs
        have hfne : flat ps ≠ [] := by
          cases ps with
          | nil => exact absurd rfl hne
          | cons p ps => rw [flat, rangeL_succ]; exact fun h => by cases h
        have hb : ∀ x ∈ flat ps, 0 ≤ x ∧ x ≤ 1000000000 := by
          intro x hx
          obtain ⟨g1, p, g2, g3⟩ := flat_mem ps (fun p hp => (hl p hp).1) x hx
          have := (hl p g2).2
          exact ⟨g1, by omega⟩
        unfold Wd.listS
        rw [if_neg (by omega), if_neg (by
          intro e
          obtain ⟨x, hx, hx2⟩ := List.any_eq_true.1 e
          have := hb x hx
          unfold Wd.outB at hx2
          simp at hx2
          omega), if_neg (by rw [(formK_asc _).2 (asc_flat ps none hg)]; exact fun h => h rfl), if_neg hfne, listGo_jn _ _ (fun x hx => (hb x hx).1), runs_flat _ ps none hg (Nat.le_refl _), ← hs, spA_join 44, List.nil_append]
end Go.Proofs.YtkalbdeopogbpaaGreatDoor.P.Wq
