import Derived.ScopeJumps
import Derived.WalkMore
import Derived.Deep.LoopGhost
namespace Go.Proofs.YtkalbdeopogbpaaGreatDoor.P.Sc
open Go
/-- A scope whose end jumps back to its one label: an invariant that bears a number, which every pass lowers (beside the kit's wp_loop_ghost_k). -/
theorem wp_scope_ghost {P : Program} {Q : Exit → Act → World → Prop} {a : Act} {w : World} {c B : Code} (l : Nat) (hf : findLabel c l = some (Code.skip.seq (B.seq (Code.goto l)))) (hQ : ∀ l' a w, ¬ Q (.goto l') a w)
    (I : Nat → Act → World → Prop)
    (round : ∀ n a w, I n a w → ∀ (J : Nat → Act → World → Prop) (K : Act → World → Prop), (∀ k a' w', I k a' w' → J k a' w') → (∀ a' w', Handed J n a' w' → K a' w') → B.wp P (Exit.then K Q) a w)
    (first : ∀ S : Exit → Act → World → Prop, (∀ n a' w', I n a' w' → (B.seq (Code.goto l)).wp P S a' w') → c.wp P S a w) : (Code.scope c).wp P Q a w := by
  have pass : ∀ n a w, I n a w → (B.seq (Code.goto l)).wp P (Exit.jump l (fun a' w' => ∃ n', n' < n ∧ I n' a' w') Q) a w := by
    intro n a w h
    refine wp_seq (wp_mono (round n a w h I _ (fun _ _ _ q => q) fun _ _ q => q) ?_)
    intro e a' w' hq
    cases e with
    | normal => exact wp_goto ⟨rfl, hq⟩
    | exit id => exact hq
    | goto l' => exact absurd hq (hQ _ _ _)
    | ret => exact hq
    | panic ch => exact hq
    | outgrown => exact hq
  have weak : ∀ {J J' : Act → World → Prop}, (∀ a w, J a w → J' a w) → ∀ e a w, Exit.jump l J Q e a w → Exit.jump l J' Q e a w := by
    intro J J' h e a w hq
    cases e with
    | goto l' => exact ⟨hq.1, h _ _ hq.2⟩
    | normal => exact hq
    | exit id => exact hq
    | ret => exact hq
    | panic ch => exact hq
    | outgrown => exact hq
  refine wp_scope_jumps l (fun a w => ∃ n, I n a w) (fun a w => leastOf (fun n => I n a w)) hf (first _ fun n a' w' h => wp_mono (pass n a' w' h) (weak fun _ _ ⟨n', _, h'⟩ => ⟨n', h'⟩)) ?_
  intro a w hI
  refine wp_seq (wp_skip ?_)
  refine wp_mono (pass _ a w (leastOf_spec hI).1) (weak ?_)
  rintro a' w' ⟨n', hlt, hI'⟩
  exact ⟨⟨n', hI'⟩, Nat.lt_of_le_of_lt ((leastOf_spec ⟨n', hI'⟩).2 n' hI') hlt⟩
theorem ngr {Q : Exit → Act → World → Prop} {a : Act} {w : World} (h : Q .ret a w) : Exit.noGoto Q .ret a w := h
end Go.Proofs.YtkalbdeopogbpaaGreatDoor.P.Sc
