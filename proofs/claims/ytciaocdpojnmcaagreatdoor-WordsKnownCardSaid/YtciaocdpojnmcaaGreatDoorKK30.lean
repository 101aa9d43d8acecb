import Derived.ScopeJumps
import Derived.ControlIn
import Derived.WalkMore
namespace Go.Proofs.YtciaocdpojnmcaaGreatDoor.P
open Go
/-- As Q; by a goto to label l: J l. -/
def Wd.jumps (J : Nat → Act → World → Prop) (Q : Exit → Act → World → Prop) : Exit → Act → World → Prop
  | .goto l, a, w => J l a w
  | e, a, w => Q e a w
section
variable {P : Program} {a : Act} {w : World} {Q : Exit → Act → World → Prop}
/-- A scope in which the run jumps to many labels: a number goes down at every jump. -/
theorem Wd.wp_scope_many {c : Code} (J : Nat → Nat → Act → World → Prop)
    (first : c.wp P (Wd.jumps (fun l a w => ∃ n, J l n a w) Q) a w)
    (pass : ∀ l n a w, J l n a w → ∃ rest, findLabel c l = some rest ∧ rest.wp P (Wd.jumps (fun l' a' w' => ∃ n', n' < n ∧ J l' n' a' w') Q) a w) : (Code.scope c).wp P Q a w := by
  intro b k cs
  have key : ∀ n l rest a w, findLabel c l = some rest → J l n a w → ∃ e a' w', Q e a' w' ∧ Arrives P (lone (b.at a (.code rest :: .inScope c :: k)) cs w) b k cs e a' w' := by
    intro n
    induction n using Nat.strongRecOn with
    | _ n ih =>
      intro l rest a w hl hJ
      obtain ⟨rest', hl', hp⟩ := pass l n a w hJ
      obtain rfl : rest' = rest := by rw [hl] at hl'; exact (Option.some.inj hl').symm
      obtain ⟨e, a₁, w₁, hq, harr⟩ := hp b (.inScope c :: k) cs
      cases e with
      | normal => exact ⟨.normal, a₁, w₁, hq, Steps.trans harr (.one step_inScope)⟩
      | exit id => exact ⟨.exit id, a₁, w₁, hq, fun k' hk => harr k' (by simp [exitTo, hk])⟩
      | goto l' =>
        obtain ⟨n', hlt, hJ'⟩ := hq
        obtain ⟨rest₂, hl₂, _⟩ := pass l' n' a₁ w₁ hJ'
        obtain ⟨e₂, a₂, w₂, hq₂, harr₂⟩ := ih n' hlt l' rest₂ a₁ w₁ hl₂ hJ'
        exact ⟨e₂, a₂, w₂, hq₂, .of_steps (harr _ (by simp [gotoIn, hl₂])) harr₂⟩
      | ret => exact ⟨_, a₁, w₁, hq, harr⟩
      | panic ch => exact ⟨_, a₁, w₁, hq, harr⟩
      | outgrown => exact ⟨_, a₁, w₁, hq, harr⟩
  obtain ⟨e, a₁, w₁, hq, harr⟩ := first b (.inScope c :: k) cs
  cases e with
  | normal => exact ⟨.normal, a₁, w₁, hq, .head step_scope (Steps.trans harr (.one step_inScope))⟩
  | exit id => exact ⟨.exit id, a₁, w₁, hq, fun k' hk => .head step_scope (harr k' (by simp [exitTo, hk]))⟩
  | goto l' =>
    obtain ⟨n', hJ'⟩ := hq
    obtain ⟨rest₂, hl₂, _⟩ := pass l' n' a₁ w₁ hJ'
    obtain ⟨e₂, a₂, w₂, hq₂, harr₂⟩ := key n' l' rest₂ a₁ w₁ hl₂ hJ'
    exact ⟨e₂, a₂, w₂, hq₂, .of_steps (.head step_scope (harr _ (by simp [gotoIn, hl₂]))) harr₂⟩
  | ret => exact ⟨_, a₁, w₁, hq, .of_steps (.one step_scope) harr⟩
  | panic ch => exact ⟨_, a₁, w₁, hq, .of_steps (.one step_scope) harr⟩
  | outgrown => exact ⟨_, a₁, w₁, hq, .of_steps (.one step_scope) harr⟩
theorem Wd.wpIn_scope_many {N : Nat} {c : Code} (J : Nat → Nat → Act → World → Prop)
    (first : c.wpIn Fence.wide N P (Wd.jumps (fun l a w => ∃ n, J l n a w) Q) a w)
    (pass : ∀ l n a w, J l n a w → ∃ rest, findLabel c l = some rest ∧ rest.wpIn Fence.wide N P (Wd.jumps (fun l' a' w' => ∃ n', n' < n ∧ J l' n' a' w') Q) a w) : (Code.scope c).wpIn Fence.wide N P Q a w :=
  wpIn_wide.2 (Wd.wp_scope_many J (wpIn_wide.1 first) (fun l n a w h => by
    obtain ⟨r, h1, h2⟩ := pass l n a w h
    exact ⟨r, h1, wpIn_wide.1 h2⟩))
/-- Two labels, 1 and 0. -/
theorem Wd.wpIn_scope_two {N : Nat} {c B1 B0 : Code} (h1 : findLabel c 1 = some (Code.skip.seq B1)) (h0 : findLabel c 0 = some (Code.skip.seq B0)) (J1 J0 : Nat → Act → World → Prop)
    (first : ∀ S : Exit → Act → World → Prop, (∀ n a w, J1 n a w → B1.wpIn Fence.wide N P S a w) → (∀ a w, Q .ret a w → S .ret a w) → c.wpIn Fence.wide N P S a w)
    (pass1 : ∀ n a w, J1 n a w → ∀ S : Exit → Act → World → Prop, (∀ n' a w, n' < n → J0 n' a w → B0.wpIn Fence.wide N P S a w) → (∀ n' a w, n' < n → J0 n' a w → S (.goto 0) a w) → (∀ a w, Q .ret a w → S .ret a w) → B1.wpIn Fence.wide N P S a w)
    (pass0 : ∀ n a w, J0 n a w → ∀ S : Exit → Act → World → Prop, (∀ n' a w, n' < n → J1 n' a w → S (.goto 1) a w) → (∀ a w, Q .ret a w → S .ret a w) → B0.wpIn Fence.wide N P S a w) : (Code.scope c).wpIn Fence.wide N P Q a w := by
  have p0 : ∀ n a w, J0 n a w → ∀ m, n < m → B0.wpIn Fence.wide N P (Wd.jumps (fun l' a' w' => ∃ n', n' < m ∧ ((l' = 1 ∧ J1 n' a' w') ∨ (l' = 0 ∧ J0 n' a' w'))) Q) a w := by
    intro n a w h m hm
    exact pass0 n a w h _ (fun n' a w hn hJ => ⟨n', by omega, .inl ⟨rfl, hJ⟩⟩) (fun a w h => h)
  have p1 : ∀ n a w, J1 n a w → ∀ m, n ≤ m → B1.wpIn Fence.wide N P (Wd.jumps (fun l' a' w' => ∃ n', n' < m ∧ ((l' = 1 ∧ J1 n' a' w') ∨ (l' = 0 ∧ J0 n' a' w'))) Q) a w := by
    intro n a w h m hm
    exact pass1 n a w h _ (fun n' a w hn hJ => p0 n' a w hJ m (by omega)) (fun n' a w hn hJ => ⟨n', by omega, .inr ⟨rfl, hJ⟩⟩) (fun a w h => h)
  refine Wd.wpIn_scope_many (fun l n a w => (l = 1 ∧ J1 n a w) ∨ (l = 0 ∧ J0 n a w)) ?_ ?_
  · refine first _ (fun n a w hJ => wpIn_mono (p1 n a w hJ n (Nat.le_refl _)) ?_) (fun a w h => h)
    intro e a w h
    cases e with
    | goto l => obtain ⟨n', _, h⟩ := h; exact ⟨n', h⟩
    | _ => exact h
  · rintro l n a w (⟨rfl, h⟩ | ⟨rfl, h⟩)
    · refine ⟨_, h1, wpIn_seq (wpIn_skip ?_)⟩
      exact p1 n a w h n (Nat.le_refl _)
    · refine ⟨_, h0, wpIn_seq (wpIn_skip ?_)⟩
      exact pass0 n a w h _ (fun n' a w hn hJ => ⟨n', hn, .inl ⟨rfl, hJ⟩⟩) (fun a w h => h)
end
end Go.Proofs.YtciaocdpojnmcaaGreatDoor.P
