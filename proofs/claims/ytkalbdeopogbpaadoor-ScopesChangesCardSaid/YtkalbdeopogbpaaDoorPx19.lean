-- Written by wip/tools/myprint.py of this session over the kit's print; Lean checks it.
import Derived.Test.YtkalbdeopogbpaaDoorPx0
import Derived.Test.YtkalbdeopogbpaaDoorPx13
import Derived.Test.YtkalbdeopogbpaaDoorPx18
namespace Go.Proofs.YtkalbdeopogbpaaDoor.P
open Go.RowKit Go.Proofs.YtkalbdeopogbpaaDoorW.PrintWords Go.Proofs.YtkalbdeopogbpaaDoorW.PrintLast Go.Proofs.YtkalbdeopogbpaaDoorW.PrintMore
attribute [local go_sem] max2_int min2_int max_two min_two max_three min_three max_four min_four   -- for this text's walks alone
set_option linter.unusedVariables false
set_option linter.unusedSimpArgs false

/-! ### mummerref09_Drop: function 23 -/
def mummerref09_Drop.f (k : Nat) (a0 : ByteArray) (a1 : Int) : Option (ByteArray × Int) := (mummerref09_one.f k a0 a1).bind fun t226 => (if t226 = 0 then ((mummerref09_without.f k a0 a1).bind fun t227 => (some (t227, 0))) else (some ((⟨#[]⟩ : ByteArray), t226)))
theorem mummerref09_Drop.mono : ∀ a0 a1 k, LeO (mummerref09_Drop.f k a0 a1) (mummerref09_Drop.f (k + 1) a0 a1) := by
  intro a0 a1 k
  unfold mummerref09_Drop.f
  repeat' first
      | (with_reducible exact mummerref09_one.mono _ _ _)
      | (with_reducible exact mummerref09_without.mono _ _ _)
      | (with_reducible exact LeO.refl _)
      | (with_reducible exact LeO.none _)
      | (with_reducible refine LeO.ite ?_ ?_)
      | (with_reducible refine LeO.bind ?_ (fun _ => ?_))
      | exact mummerref09_one.mono _ _ _
      | exact mummerref09_without.mono _ _ _
      | exact LeO.none _
      | refine LeO.ite ?_ ?_
      | refine LeO.bind ?_ (fun _ => ?_)
set_option maxHeartbeats 8000000 in
set_option maxRecDepth 100000 in
theorem mummerref09_Drop.calls (k : Nat) (a0 : ByteArray) (a1 : Int) (r1 : ByteArray) (r2 : Int) (w : World) (h : mummerref09_Drop.f k a0 a1 = some (r1, r2)) :
    Calls Tryd.prog 23 #[.string a0, .int .i64 a1] w fun e w' => e = .returned (.tuple #[.string r1, .int .i64 r2]) ∧ Below w.heap.size w w' := by
  have HB := ak (Below.refl w.heap.size w)
  have H : ((mummerref09_one.f k a0 a1).bind fun t226 => (if t226 = 0 then ((mummerref09_without.f k a0 a1).bind fun t227 => (some (t227, 0))) else (some ((⟨#[]⟩ : ByteArray), t226)))) = some (r1, r2) := h
  clear h
  replace H := Option.bind_eq_some_iff.mp H
  obtain ⟨t226, A30, H⟩ := H
  replace H : (if t226 = 0 then ((mummerref09_without.f k a0 a1).bind fun t227 => (some (t227, 0))) else (some ((⟨#[]⟩ : ByteArray), t226))) = some (r1, r2) := H
  have A3 := ak A30
  clear A30
  by_cases c4 : t226 = 0
  · rw [if_pos c4] at H
    have c4b0 : (t226 == 0) = true := beq_iff_eq.mpr c4
    have c4b1 : (t226 != 0) = false := bne_eq_false_iff_eq.mpr c4
    clear c4
    replace H := Option.bind_eq_some_iff.mp H
    obtain ⟨t227, A50, H⟩ := H
    replace H : (some (t227, 0)) = some (r1, r2) := H
    have A5 := ak A50
    clear A50
    simp only [Option.some.injEq, Prod.mk.injEq] at H
    obtain ⟨rfl, rfl⟩ := H
    go_enter Tryd.func23, Tryd.ntmps23
    go_wp2_with (first | ((with_reducible refine gate_callee (f := 47) rfl ?_); refine goesL_ (some 9) rfl rfl Tryd.func47 (by kernel_rfl) rfl #[.string a0, .int .i64 a1] rfl (by (try simp only [List.map_toArray, List.map_cons, List.map_nil]); first | done | rfl | (simp only [List.length_drop, List.length_take]; rfl)) ?_; (with_reducible refine (mummerref09_one.calls k a0 a1 t226 _ A3.out).mono ?_); rintro e w' ⟨rfl, ⟨nd, rfl⟩⟩; refine ⟨_, rfl, ?_⟩) | ((with_reducible refine gate_callee (f := 52) rfl ?_); refine goesL_ (some 15) rfl rfl Tryd.func52 (by kernel_rfl) rfl #[.string a0, .int .i64 a1] rfl (by (try simp only [List.map_toArray, List.map_cons, List.map_nil]); first | done | rfl | (simp only [List.length_drop, List.length_take]; rfl)) ?_; (with_reducible refine (mummerref09_without.calls k a0 a1 t227 _ A5.out).mono ?_); rintro e w6 ⟨rfl, hb⟩; refine ⟨_, rfl, ?_⟩; have n0_ := ak (below_step (by repeat (first | (with_reducible first | exact HB.out | apply wA | apply wN | apply wD) | exact HB.out)) hb); clear HB; have HB := n0_; clear n0_; (try clear hb); (try clear hb2); (try clear hk); (try clear hi)))
    go_ret2
    exact ⟨by first | rfl | (simp [errW_none, errW_some] <;> rfl) | (simp [*, errW_none, errW_some] <;> rfl), by repeat (first | (with_reducible first | exact HB.out | apply wA | apply wN | apply wD) | exact HB.out)⟩
  · rw [if_neg c4] at H
    have c4b0 : (t226 == 0) = false := beq_eq_false_iff_ne.mpr c4
    have c4b1 : (t226 != 0) = true := bne_iff_ne.mpr c4
    simp only [Option.some.injEq, Prod.mk.injEq] at H
    obtain ⟨rfl, rfl⟩ := H
    go_enter Tryd.func23, Tryd.ntmps23
    go_wp2_with (first | ((with_reducible refine gate_callee (f := 47) rfl ?_); refine goesL_ (some 9) rfl rfl Tryd.func47 (by kernel_rfl) rfl #[.string a0, .int .i64 a1] rfl (by (try simp only [List.map_toArray, List.map_cons, List.map_nil]); first | done | rfl | (simp only [List.length_drop, List.length_take]; rfl)) ?_; (with_reducible refine (mummerref09_one.calls k a0 a1 t226 _ A3.out).mono ?_); rintro e w' ⟨rfl, ⟨nd, rfl⟩⟩; refine ⟨_, rfl, ?_⟩))
    go_ret2
    exact ⟨by first | rfl | (simp [errW_none, errW_some] <;> rfl) | (simp [*, errW_none, errW_some] <;> rfl), by repeat (first | (with_reducible first | exact HB.out | apply wA | apply wN | apply wD) | exact HB.out)⟩

end Go.Proofs.YtkalbdeopogbpaaDoor.P
