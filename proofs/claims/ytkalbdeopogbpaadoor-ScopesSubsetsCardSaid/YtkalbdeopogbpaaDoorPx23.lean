-- Written by wip/tools/myprint.py of this session over the kit's print; Lean checks it.
import Derived.Test.YtkalbdeopogbpaaDoorPx0
import Derived.Test.YtkalbdeopogbpaaDoorPx1
import Derived.Test.YtkalbdeopogbpaaDoorPx2
namespace Go.Proofs.YtkalbdeopogbpaaDoor.P
open Go.RowKit Go.Proofs.YtkalbdeopogbpaaDoorW.PrintWords Go.Proofs.YtkalbdeopogbpaaDoorW.PrintLast Go.Proofs.YtkalbdeopogbpaaDoorW.PrintMore
attribute [local go_sem] max2_int min2_int max_two min_two max_three min_three max_four min_four   -- for this text's walks alone
set_option linter.unusedVariables false
set_option linter.unusedSimpArgs false


/-! ### scopes_Union: function 26 (written by this session) -/
def scopes_Union.f (k : Nat) (a0 : ByteArray) (a1 : ByteArray) : Option (ByteArray × Int) :=
  (scopes_merge.f k a0 a1).bind fun t => (if t.2.2.2 = 0 then (if t.1.length + t.2.1.length + t.2.2.1.length ≤ 1000000 then some (ofS (t.1 ++ t.2.1 ++ t.2.2.1)) else none) else some ((⟨#[]⟩ : ByteArray), t.2.2.2))
theorem scopes_Union.mono : ∀ a0 a1 k, LeO (scopes_Union.f k a0 a1) (scopes_Union.f (k + 1) a0 a1) := by
  intro a0 a1 k
  unfold scopes_Union.f
  exact LeO.bind (scopes_merge.mono _ _ _) fun _ => LeO.refl _
/-- Three lists, one behind the other. -/
def Un.pick {α : Type} (x y z : α) : Nat → α
  | 0 => x
  | 1 => y
  | _ => z
theorem Un.flat (x y z : List Int) : Sc.flat (Un.pick x y z) 3 = x ++ y ++ z := by simp [Sc.flat, Un.pick]
theorem Un.cells (w2 : World) (A0 A1 A2 : Option Addr) (t1 t2 t3 : List Int) (c0 c1 c2 : Nat) : ∀ j, j < 3 → (w2.alloc (.cells #[.slice A0 t1.length c0, .slice A1 t2.length c1, .slice A2 t3.length c2] 22)).cell? ⟨w2.heap.size, j, none⟩ = some (.slice (Un.pick A0 A1 A2 j) (Un.pick t1 t2 t3 j).length (Un.pick c0 c1 c2 j)) := by
  intro j hj
  rw [Sc.cells_of (World.alloc_heap_new w2 (.cells #[.slice A0 t1.length c0, .slice A1 t2.length c1, .slice A2 t3.length c2] 22))]
  obtain rfl | rfl | rfl : j = 0 ∨ j = 1 ∨ j = 2 := by omega
  all_goals rfl
theorem Un.reads (w2 : World) (A0 A1 A2 : Option Addr) (t1 t2 t3 : List Int) (h0 : Kd.C (Kd.int .i64) w2 A0 t1.length t1) (h1 : Kd.C (Kd.int .i64) w2 A1 t2.length t2) (h2 : Kd.C (Kd.int .i64) w2 A2 t3.length t3) (w3 : World) (hb : Below w2.heap.size w2 w3) :
    ∀ j, j < 3 → Kd.C (Kd.int .i64) w3 (Un.pick A0 A1 A2 j) (Un.pick t1 t2 t3 j).length (Un.pick t1 t2 t3 j) := by
  intro j hj
  obtain rfl | rfl | rfl : j = 0 ∨ j = 1 ∨ j = 2 := by omega
  · exact Kd.C_below h0 hb
  · exact Kd.C_below h1 hb
  · exact Kd.C_below h2 hb
set_option maxHeartbeats 2000000 in
set_option maxRecDepth 100000 in
theorem scopes_Union.calls (k : Nat) (a0 : ByteArray) (a1 : ByteArray) (r1 : ByteArray) (r2 : Int) (w : World) (h : scopes_Union.f k a0 a1 = some (r1, r2)) :
    Calls Tryd.prog 26 #[.string a0, .string a1] w fun e w' => e = .returned (.tuple #[.string r1, .int .i64 r2]) ∧ Below w.heap.size w w' := by
  unfold scopes_Union.f at h
  obtain ⟨⟨t1, t2, t3, t4⟩, hM, h⟩ := Option.bind_eq_some_iff.1 h
  dsimp only at h
  have HM := ak hM
  clear hM
  by_cases h4 : t4 = 0
  · subst h4
    rw [if_pos rfl] at h
    by_cases hs : t1.length + t2.length + t3.length ≤ 1000000
    · rw [if_pos hs] at h
      have h' := Option.some.inj h
      have h1 : (ofS (t1 ++ t2 ++ t3)).1 = r1 := by rw [h']
      have h2 : (ofS (t1 ++ t2 ++ t3)).2 = r2 := by rw [h']
      subst h1; subst h2
      obtain ⟨l, hl⟩ : ∃ l, t1 ++ t2 ++ t3 = l := ⟨_, rfl⟩
      rw [hl]
      have HL := ak hl
      have HN : Aside0 (l.length ≤ 1000000) := ⟨by rw [← hl]; simp; omega⟩
      clear h h' hl hs
      go_enter Tryd.func26, Tryd.ntmps26
      go_wp2_with (first
        | (go_at_call 53; refine (scopes_merge.calls k a0 a1 t1 t2 t3 0 _ HM.out).mono ?_; rintro e w2 ⟨v0, v1, v2, rfl, ho0, ho1, ho2, hb⟩; obtain ⟨A0, c0, rfl, _, hr0⟩ := Kd.R_reads ho0; obtain ⟨A1, c1, rfl, _, hr1⟩ := Kd.R_reads ho1; obtain ⟨A2, c2, rfl, _, hr2⟩ := Kd.R_reads ho2; have HR0 := ak hr0; have HR1 := ak hr1; have HR2 := ak hr2; have HB := ak hb; clear ho0 ho1 ho2 hr0 hr1 hr2 hb)
        | (go_at_call 54; with_reducible refine Calls.mono (Sc.concat_calls w2.heap.size 3 (Un.pick t1 t2 t3) (Un.pick A0 A1 A2) (Un.pick c0 c1 c2) _ (by omega) (by rw [Un.flat, HL.out]; exact HN.out) (Un.cells w2 A0 A1 A2 t1 t2 t3 c0 c1 c2) (Un.reads w2 A0 A1 A2 t1 t2 t3 HR0.out HR1.out HR2.out _ ((Below.refl _ w2).alloc (Nat.le_refl _) _))) ?_; rintro e w3 ⟨v3, rfl, ho, hb⟩; rw [Un.flat, HL.out] at ho; obtain ⟨A3, c3, rfl, _, hr3⟩ := Sc.OwnI.reads ho; have HR3 := ak hr3; have HB3 := ak ((HB.out.alloc HB.out.size _).trans (hb.mono (by have := HB.out.size; simp; omega))); clear ho hb hr3)
        | (go_at_call 11; refine (Sc.of_calls l A3 c3 _ HN.out HR3.out).mono ?_; rintro e w5 ⟨rfl, hb⟩; have HB5 := ak (below_step HB3.out hb); clear hb))
      go_ret2
      exact ⟨rfl, HB5.out⟩
    · rw [if_neg hs] at h; cases h
  · rw [if_neg h4] at h
    obtain ⟨rfl, rfl⟩ := Prod.mk.inj (Option.some.inj h)
    have b1 : (t4 != 0) = true := bne_iff_ne.mpr h4
    clear h h4
    go_enter Tryd.func26, Tryd.ntmps26
    go_wp2_with (go_at_call 53; refine (scopes_merge.calls k a0 a1 t1 t2 t3 t4 _ HM.out).mono ?_; rintro e w2 ⟨v0, v1, v2, rfl, ho0, ho1, ho2, hb⟩; obtain ⟨A0, c0, rfl, _, hr0⟩ := Kd.R_reads ho0; obtain ⟨A1, c1, rfl, _, hr1⟩ := Kd.R_reads ho1; obtain ⟨A2, c2, rfl, _, hr2⟩ := Kd.R_reads ho2; have HB := ak hb; clear ho0 ho1 ho2 hr0 hr1 hr2 hb)
    go_ret2
    exact ⟨rfl, HB.out⟩

/-! ### scopes_Meet: function 27 -/
def scopes_Meet.f (k : Nat) (a0 : ByteArray) (a1 : ByteArray) : Option (ByteArray × Int) := (scopes_merge.f k a0 a1).bind fun bt277 => ((scopes_write.f bt277.2.1).bind fun t287 => (some (t287, bt277.2.2.2)))
theorem scopes_Meet.mono : ∀ a0 a1 k, LeO (scopes_Meet.f k a0 a1) (scopes_Meet.f (k + 1) a0 a1) := by
  intro a0 a1 k
  unfold scopes_Meet.f
  repeat' first
      | (with_reducible exact scopes_merge.mono _ _ _)
      | (with_reducible exact LeO.refl _)
      | (with_reducible exact LeO.none _)
      | (with_reducible refine LeO.ite ?_ ?_)
      | (with_reducible refine LeO.bind ?_ (fun _ => ?_))
      | exact scopes_merge.mono _ _ _
      | exact LeO.none _
      | refine LeO.ite ?_ ?_
      | refine LeO.bind ?_ (fun _ => ?_)
set_option maxHeartbeats 8000000 in
set_option maxRecDepth 100000 in
theorem scopes_Meet.calls (k : Nat) (a0 : ByteArray) (a1 : ByteArray) (r1 : ByteArray) (r2 : Int) (w : World) (h : scopes_Meet.f k a0 a1 = some (r1, r2)) :
    Calls Tryd.prog 27 #[.string a0, .string a1] w fun e w' => e = .returned (.tuple #[.string r1, .int .i64 r2]) ∧ Below w.heap.size w w' := by
  have HB := ak (Below.refl w.heap.size w)
  have H : ((scopes_merge.f k a0 a1).bind fun bt277 => ((scopes_write.f bt277.2.1).bind fun t287 => (some (t287, bt277.2.2.2)))) = some (r1, r2) := h
  clear h
  replace H := Option.bind_eq_some_iff.mp H
  obtain ⟨⟨t277, t278, t279, t280⟩, A30, H⟩ := H
  replace H : ((scopes_write.f t278).bind fun t287 => (some (t287, t280))) = some (r1, r2) := H
  have A3 := ak A30
  clear A30
  replace H := Option.bind_eq_some_iff.mp H
  obtain ⟨t287, A40, H⟩ := H
  replace H : (some (t287, t280)) = some (r1, r2) := H
  have A4 := ak A40
  clear A40
  simp only [Option.some.injEq, Prod.mk.injEq] at H
  obtain ⟨rfl, rfl⟩ := H
  go_enter Tryd.func27, Tryd.ntmps27
  go_wp2_with (first | ((with_reducible refine gate_callee (f := 53) rfl ?_); refine goesL_ (some 13) rfl rfl Tryd.func53 (by kernel_rfl) rfl #[.string a0, .string a1] rfl (by (try simp only [List.map_toArray, List.map_cons, List.map_nil]); first | done | rfl | (simp only [List.length_drop, List.length_take]; rfl)) ?_; (with_reducible refine (scopes_merge.calls k a0 a1 t277 t278 t279 t280 _ A3.out).mono ?_); rintro e w5 ⟨v281, v283, v285, rfl, ho0, ho1, ho2, hb⟩; refine ⟨_, rfl, ?_⟩; have n0_ := ak (Kd.R_lower ho0 (below_size (by repeat (first | (with_reducible first | exact HB.out | apply wA | apply wN | apply wD) | exact HB.out)))); have n1_ := ak (Kd.R_lower ho1 (below_size (by repeat (first | (with_reducible first | exact HB.out | apply wA | apply wN | apply wD) | exact HB.out)))); have n2_ := ak (Kd.R_lower ho2 (below_size (by repeat (first | (with_reducible first | exact HB.out | apply wA | apply wN | apply wD) | exact HB.out)))); have n3_ := ak (below_step (by repeat (first | (with_reducible first | exact HB.out | apply wA | apply wN | apply wD) | exact HB.out)) hb); clear HB; have HO282 := n0_; have HO284 := n1_; have HO286 := n2_; have HB := n3_; clear n0_ n1_ n2_ n3_; (try clear hb); (try clear hb2); (try clear hk); (try clear hi); (try clear ho0); (try clear ho1); (try clear ho2); obtain ⟨Ao6, co6, eo6⟩ := Kd.R_slice HO284.out; subst eo6) | ((with_reducible refine gate_callee (f := 55) rfl ?_); refine goesL_ (some 19) rfl rfl Tryd.func55 (by kernel_rfl) rfl #[.slice Ao6 t278.length co6] rfl (by (try simp only [List.map_toArray, List.map_cons, List.map_nil]); first | done | rfl | (simp only [List.length_drop, List.length_take]; rfl)) ?_; (with_reducible refine (scopes_write.calls _ _ t278 t287 _ ?side1 ?side2 A4.out).mono ?_); (case side1 => repeat (first | exact (Kd.R_reads' HO284.out).2.2 | (with_reducible refine Kd.C_alloc ?_ _) | (with_reducible refine Kd.C_drewN ?_ _) | (with_reducible refine Kd.C_drew ?_))); (case side2 => exact (Kd.R_reads' HO284.out).2.1); rintro e w7 ⟨rfl, hb⟩; refine ⟨_, rfl, ?_⟩; have n0_ := ak (Kd.R_below (by (with_reducible repeat (first | apply Kd.R_alloc | apply Kd.R_drewN | apply Kd.R_drew)); exact HO282.out) hb); have n1_ := ak (Kd.R_below (by (with_reducible repeat (first | apply Kd.R_alloc | apply Kd.R_drewN | apply Kd.R_drew)); exact HO284.out) hb); have n2_ := ak (Kd.R_below (by (with_reducible repeat (first | apply Kd.R_alloc | apply Kd.R_drewN | apply Kd.R_drew)); exact HO286.out) hb); have n3_ := ak (below_step (by repeat (first | (with_reducible first | exact HB.out | apply wA | apply wN | apply wD) | exact HB.out)) hb); clear HO282; clear HO284; clear HO286; clear HB; have HO282 := n0_; have HO284 := n1_; have HO286 := n2_; have HB := n3_; clear n0_ n1_ n2_ n3_; (try clear hb); (try clear hb2); (try clear hk); (try clear hi)))
  go_ret2
  exact ⟨by first | rfl | (simp [errW_none, errW_some] <;> rfl) | (simp [*, errW_none, errW_some] <;> rfl), by repeat (first | (with_reducible first | exact HB.out | apply wA | apply wN | apply wD) | exact HB.out)⟩

end Go.Proofs.YtkalbdeopogbpaaDoor.P
