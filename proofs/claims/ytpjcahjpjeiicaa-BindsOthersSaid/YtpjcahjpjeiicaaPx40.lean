-- Written by wip/tools/myprint.py of this session over the kit's print; Lean checks it.
import Derived.Test.YtpjcahjpjeiicaaPx0
import Derived.Test.YtpjcahjpjeiicaaPx1
import Derived.Test.YtpjcahjpjeiicaaPx2
import Derived.Test.YtpjcahjpjeiicaaPx4
import Derived.Test.YtpjcahjpjeiicaaPx6
import Derived.Test.YtpjcahjpjeiicaaPx12
import Derived.Test.YtpjcahjpjeiicaaPx18
import Derived.Test.YtpjcahjpjeiicaaPx19
namespace Go.Proofs.Ytpjcahjpjeiicaa.P
open Go.RowKit Go.Proofs.YtpjcahjpjeiicaaW.PrintWords Go.Proofs.YtpjcahjpjeiicaaW.PrintLast Go.Proofs.YtpjcahjpjeiicaaW.PrintMore
attribute [local go_sem] max2_int min2_int max_two min_two max_three min_three max_four min_four   -- for this text's walks alone
set_option linter.unusedVariables false
set_option linter.unusedSimpArgs false

attribute [local go_sem high] eqA24
/-! ### mummerlaw11_BindsOthers: function 7 -/
mutual
def mummerlaw11_BindsOthers.j0 : Nat → List (S24) → ByteArray → ByteArray → Int → Int → Bool → Option (Bool)
  | 0, _, _, _, _, _, _ => none
  | k + 1, x0, x1, x2, x7, x8, x44 => if x44 = true then (if x8 = 0 then (some false) else ((mummerlaw11_awake.f k).bind fun t458 => (some t458))) else (mummerlaw11_BindsOthers.l0 k x0 x1 x2 x7 x8 ([] : List (S24)) ([] : List (S24)) 0)
def mummerlaw11_BindsOthers.l0 : Nat → List (S24) → ByteArray → ByteArray → Int → Int → List (S24) → List (S24) → Int → Option (Bool)
  | 0, _, _, _, _, _, _, _, _ => none
  | k + 1, x0, x1, x2, x7, x8, x11, x12, x13 => if x13 < (x0.length : Int) then (if 0 ≤ x13 then (if ((rd_T24 x0 x13).f0).toList = x1.toList then (if x11.length < 2932031007402 then ((some (([(⟨(rd_T24 x0 x13).f0, (rd_T24 x0 x13).f1, (rd_T24 x0 x13).f2, (rd_T24 x0 x13).f3⟩ : S24)] : List (S24)) : List (S24))).bind fun y465 => (if y465.length + x12.length < 2932031007402 then (mummerlaw11_BindsOthers.l0 k x0 x1 x2 x7 x8 (x11 ++ [(⟨(rd_T24 x0 x13).f0, (rd_T24 x0 x13).f1, (rd_T24 x0 x13).f2, (rd_T24 x0 x13).f3⟩ : S24)]) (y465 ++ x12) (wrap64 (x13 + 1))) else (none))) else (none)) else ((some (([(⟨(rd_T24 x0 x13).f0, (rd_T24 x0 x13).f1, (rd_T24 x0 x13).f2, (rd_T24 x0 x13).f3⟩ : S24)] : List (S24)) : List (S24))).bind fun y472 => (if y472.length + x12.length < 2932031007402 then (mummerlaw11_BindsOthers.l0 k x0 x1 x2 x7 x8 x11 (y472 ++ x12) (wrap64 (x13 + 1))) else (none)))) else (none)) else ((binds_Resolve.f k x11 x1 x2).bind fun bt478 => ((binds_Resolve.f k x12 x1 x2).bind fun bt480 => (if bt478.2 = x8 then (if bt480.2 = x8 then (if x8 = 0 then (if x7 < 0 then (some false) else (if x7 ≥ (x0.length : Int) then (some false) else (if bt478.1 < 0 then (some false) else (if bt478.1 ≥ (x11.length : Int) then (some false) else (if bt480.1 < 0 then (some false) else (if bt480.1 ≥ (x12.length : Int) then (some false) else (if 0 ≤ bt478.1 then (if bt478.1 < (x11.length : Int) then (if 0 ≤ x7 then (if x7 < (x0.length : Int) then (if (!((((rd_T24 x11 bt478.1).f0).toList) == (((rd_T24 x0 x7).f0).toList)) || (!((((rd_T24 x11 bt478.1).f1).toList) == (((rd_T24 x0 x7).f1).toList)) || (!(((rd_T24 x11 bt478.1).f2) == ((rd_T24 x0 x7).f2)) || (!(((rd_T24 x11 bt478.1).f3) == ((rd_T24 x0 x7).f3)))))) = true then (some false) else (if 0 ≤ bt480.1 then (if bt480.1 < (x12.length : Int) then (mummerlaw11_BindsOthers.j2 k x0 x1 x2 (!((((rd_T24 x12 bt480.1).f0).toList) == (((rd_T24 x0 x7).f0).toList)) || (!((((rd_T24 x12 bt480.1).f1).toList) == (((rd_T24 x0 x7).f1).toList)) || (!(((rd_T24 x12 bt480.1).f2) == ((rd_T24 x0 x7).f2)) || (!(((rd_T24 x12 bt480.1).f3) == ((rd_T24 x0 x7).f3))))))) else (none)) else (none))) else (none)) else (none)) else (none)) else (none)))))))) else (mummerlaw11_BindsOthers.j2 k x0 x1 x2 false)) else (some false)) else (some false))))
def mummerlaw11_BindsOthers.j2 : Nat → List (S24) → ByteArray → ByteArray → Bool → Option (Bool)
  | 0, _, _, _, _ => none
  | k + 1, x0, x1, x2, x152 => if x152 = true then (some false) else ((binds_Add.f x0 x1 x2 1 0).bind fun bt486 => (if bt486.2 = 0 then ((binds_Resolve.f k bt486.1 x1 x2).bind fun bt490 => (if bt490.1 = (x0.length : Int) then (if bt490.2 = 0 then (if (bt486.1.length : Int) = (wrap64 ((x0.length : Int) + 1)) then ((mummerlaw11_awake.f k).bind fun t492 => (some t492)) else (some false)) else (some false)) else (some false))) else ((mummerlaw11_awake.f k).bind fun t493 => (some t493))))
end
def mummerlaw11_BindsOthers.f (k : Nat) (l0 : List (S24)) (a1 : ByteArray) (a2 : ByteArray) : Option (Bool) := (mummerlaw11_far.f k l0 (([a1, a2] : List ByteArray))).bind fun t451 => (if t451 = true then ((mummerlaw11_awake.f k).bind fun t452 => (some t452)) else ((binds_Resolve.f k l0 a1 a2).bind fun bt453 => ((binds_Check.f l0).bind fun bt455 => (if bt455.2 = 0 then ((mummerref09_Check.f k a2).bind fun t457 => (mummerlaw11_BindsOthers.j0 k l0 a1 a2 bt453.1 bt453.2 (t457 != 0))) else (mummerlaw11_BindsOthers.j0 k l0 a1 a2 bt453.1 bt453.2 true)))))
theorem mummerlaw11_BindsOthers.mono_l : ∀ k, (∀ y0 y1 y2 y3 y4 y5, LeO (mummerlaw11_BindsOthers.j0 k y0 y1 y2 y3 y4 y5) (mummerlaw11_BindsOthers.j0 (k + 1) y0 y1 y2 y3 y4 y5)) ∧ (∀ y0 y1 y2 y3 y4 y5 y6 y7, LeO (mummerlaw11_BindsOthers.l0 k y0 y1 y2 y3 y4 y5 y6 y7) (mummerlaw11_BindsOthers.l0 (k + 1) y0 y1 y2 y3 y4 y5 y6 y7)) ∧ (∀ y0 y1 y2 y3, LeO (mummerlaw11_BindsOthers.j2 k y0 y1 y2 y3) (mummerlaw11_BindsOthers.j2 (k + 1) y0 y1 y2 y3))
  | 0 => ⟨fun _ _ _ _ _ _ r h => by simp [mummerlaw11_BindsOthers.j0] at h, fun _ _ _ _ _ _ _ _ r h => by simp [mummerlaw11_BindsOthers.l0] at h, fun _ _ _ _ r h => by simp [mummerlaw11_BindsOthers.j2] at h⟩
  | k + 1 => by
    obtain ⟨ih0, ih1, ih2⟩ := mummerlaw11_BindsOthers.mono_l k
    refine ⟨?_, ?_, ?_⟩
    · intro y0 y1 y2 y3 y4 y5
      unfold mummerlaw11_BindsOthers.j0
      repeat' first
      | (with_reducible exact ih0 _ _ _ _ _ _)
      | (with_reducible exact ih1 _ _ _ _ _ _ _ _)
      | (with_reducible exact ih2 _ _ _ _)
      | (with_reducible exact binds_Resolve.mono _ _ _ _)
      | (with_reducible exact mummerlaw11_awake.mono _)
      | (with_reducible exact mummerlaw11_far.mono _ _ _)
      | (with_reducible exact mummerref09_Check.mono _ _)
      | (with_reducible exact LeO.refl _)
      | (with_reducible exact LeO.none _)
      | (with_reducible refine LeO.ite ?_ ?_)
      | (with_reducible refine LeO.bind ?_ (fun _ => ?_))
      | exact ih0 _ _ _ _ _ _
      | exact ih1 _ _ _ _ _ _ _ _
      | exact ih2 _ _ _ _
      | exact binds_Resolve.mono _ _ _ _
      | exact mummerlaw11_awake.mono _
      | exact mummerlaw11_far.mono _ _ _
      | exact mummerref09_Check.mono _ _
      | exact LeO.none _
      | refine LeO.ite ?_ ?_
      | refine LeO.bind ?_ (fun _ => ?_)
    · intro y0 y1 y2 y3 y4 y5 y6 y7
      unfold mummerlaw11_BindsOthers.l0
      repeat' first
      | (with_reducible exact ih0 _ _ _ _ _ _)
      | (with_reducible exact ih1 _ _ _ _ _ _ _ _)
      | (with_reducible exact ih2 _ _ _ _)
      | (with_reducible exact binds_Resolve.mono _ _ _ _)
      | (with_reducible exact mummerlaw11_awake.mono _)
      | (with_reducible exact mummerlaw11_far.mono _ _ _)
      | (with_reducible exact mummerref09_Check.mono _ _)
      | (with_reducible exact LeO.refl _)
      | (with_reducible exact LeO.none _)
      | (with_reducible refine LeO.ite ?_ ?_)
      | (with_reducible refine LeO.bind ?_ (fun _ => ?_))
      | exact ih0 _ _ _ _ _ _
      | exact ih1 _ _ _ _ _ _ _ _
      | exact ih2 _ _ _ _
      | exact binds_Resolve.mono _ _ _ _
      | exact mummerlaw11_awake.mono _
      | exact mummerlaw11_far.mono _ _ _
      | exact mummerref09_Check.mono _ _
      | exact LeO.none _
      | refine LeO.ite ?_ ?_
      | refine LeO.bind ?_ (fun _ => ?_)
    · intro y0 y1 y2 y3
      unfold mummerlaw11_BindsOthers.j2
      repeat' first
      | (with_reducible exact ih0 _ _ _ _ _ _)
      | (with_reducible exact ih1 _ _ _ _ _ _ _ _)
      | (with_reducible exact ih2 _ _ _ _)
      | (with_reducible exact binds_Resolve.mono _ _ _ _)
      | (with_reducible exact mummerlaw11_awake.mono _)
      | (with_reducible exact mummerlaw11_far.mono _ _ _)
      | (with_reducible exact mummerref09_Check.mono _ _)
      | (with_reducible exact LeO.refl _)
      | (with_reducible exact LeO.none _)
      | (with_reducible refine LeO.ite ?_ ?_)
      | (with_reducible refine LeO.bind ?_ (fun _ => ?_))
      | exact ih0 _ _ _ _ _ _
      | exact ih1 _ _ _ _ _ _ _ _
      | exact ih2 _ _ _ _
      | exact binds_Resolve.mono _ _ _ _
      | exact mummerlaw11_awake.mono _
      | exact mummerlaw11_far.mono _ _ _
      | exact mummerref09_Check.mono _ _
      | exact LeO.none _
      | refine LeO.ite ?_ ?_
      | refine LeO.bind ?_ (fun _ => ?_)
theorem mummerlaw11_BindsOthers.mono : ∀ a0 a1 a2 k, LeO (mummerlaw11_BindsOthers.f k a0 a1 a2) (mummerlaw11_BindsOthers.f (k + 1) a0 a1 a2) := by
  intro a0 a1 a2 k
  obtain ⟨ih0, ih1, ih2⟩ := mummerlaw11_BindsOthers.mono_l k
  unfold mummerlaw11_BindsOthers.f
  repeat' first
      | (with_reducible exact ih0 _ _ _ _ _ _)
      | (with_reducible exact ih1 _ _ _ _ _ _ _ _)
      | (with_reducible exact ih2 _ _ _ _)
      | (with_reducible exact binds_Resolve.mono _ _ _ _)
      | (with_reducible exact mummerlaw11_awake.mono _)
      | (with_reducible exact mummerlaw11_far.mono _ _ _)
      | (with_reducible exact mummerref09_Check.mono _ _)
      | (with_reducible exact LeO.refl _)
      | (with_reducible exact LeO.none _)
      | (with_reducible refine LeO.ite ?_ ?_)
      | (with_reducible refine LeO.bind ?_ (fun _ => ?_))
      | exact ih0 _ _ _ _ _ _
      | exact ih1 _ _ _ _ _ _ _ _
      | exact ih2 _ _ _ _
      | exact binds_Resolve.mono _ _ _ _
      | exact mummerlaw11_awake.mono _
      | exact mummerlaw11_far.mono _ _ _
      | exact mummerref09_Check.mono _ _
      | exact LeO.none _
      | refine LeO.ite ?_ ?_
      | refine LeO.bind ?_ (fun _ => ?_)
set_option maxHeartbeats 8000000 in
set_option maxRecDepth 100000 in
theorem mummerlaw11_BindsOthers.calls (k : Nat) (A0 : Option Addr) (c0 : Nat) (l0 : List (S24)) (a1 : ByteArray) (a2 : ByteArray) (r : Bool) (w : World) (hr0 : Kd.C k24 w A0 l0.length l0) (hc0 : l0.length ≤ c0) (hrt : Aside0 (r = true)) (h : mummerlaw11_BindsOthers.f k l0 a1 a2 = some r) :
    Calls Try.prog 7 #[.slice A0 l0.length c0, .string a1, .string a2] w fun e w' => e = .returned (.bool r) ∧ Below w.heap.size w w' := by
  have hu24 := Try.underlying24
  have HR0 := ak hr0
  have HC0 := ak hc0
  clear hr0 hc0
  have HB := ak (Below.refl w.heap.size w)
  have H : ((mummerlaw11_far.f k l0 (([a1, a2] : List ByteArray))).bind fun t451 => (if t451 = true then ((mummerlaw11_awake.f k).bind fun t452 => (some t452)) else ((binds_Resolve.f k l0 a1 a2).bind fun bt453 => ((binds_Check.f l0).bind fun bt455 => (if bt455.2 = 0 then ((mummerref09_Check.f k a2).bind fun t457 => (mummerlaw11_BindsOthers.j0 k l0 a1 a2 bt453.1 bt453.2 (t457 != 0))) else (mummerlaw11_BindsOthers.j0 k l0 a1 a2 bt453.1 bt453.2 true)))))) = some r := h
  clear h
  obtain ⟨y448, hy448⟩ : ∃ y_ : List ByteArray, y_ = (([a1, a2] : List ByteArray)) := ⟨_, rfl⟩
  replace H : ((mummerlaw11_far.f k l0 y448).bind fun t451 => (if t451 = true then ((mummerlaw11_awake.f k).bind fun t452 => (some t452)) else ((binds_Resolve.f k l0 a1 a2).bind fun bt453 => ((binds_Check.f l0).bind fun bt455 => (if bt455.2 = 0 then ((mummerref09_Check.f k a2).bind fun t457 => (mummerlaw11_BindsOthers.j0 k l0 a1 a2 bt453.1 bt453.2 (t457 != 0))) else (mummerlaw11_BindsOthers.j0 k l0 a1 a2 bt453.1 bt453.2 true)))))) = some r := by first | (rw [hy448]; with_reducible exact H) | (have H2_ := (Option.bind_some _ _).symm.trans H; rw [hy448]; with_reducible exact H2_) | (have H2_ := (Option.bind_some _ _).symm.trans H; with_reducible exact H2_) | with_reducible exact H | (rw [hy448]; exact H) | exact H
  have Ny448 := ak hy448
  clear hy448
  replace H := Option.bind_eq_some_iff.mp H
  obtain ⟨t451, A40, H⟩ := H
  replace H : (if t451 = true then ((mummerlaw11_awake.f k).bind fun t452 => (some t452)) else ((binds_Resolve.f k l0 a1 a2).bind fun bt453 => ((binds_Check.f l0).bind fun bt455 => (if bt455.2 = 0 then ((mummerref09_Check.f k a2).bind fun t457 => (mummerlaw11_BindsOthers.j0 k l0 a1 a2 bt453.1 bt453.2 (t457 != 0))) else (mummerlaw11_BindsOthers.j0 k l0 a1 a2 bt453.1 bt453.2 true))))) = some r := H
  have A4 := ak A40
  clear A40
  by_cases c5 : t451 = true
  · subst c5
    have H1 : ((mummerlaw11_awake.f k).bind fun t452 => (some t452)) = some r := by rw [if_pos rfl] at H; exact H
    clear H
    have H := H1
    clear H1
    replace H := Option.bind_eq_some_iff.mp H
    obtain ⟨t452, A60, H⟩ := H
    replace H : (some t452) = some r := H
    have A6 := ak A60
    clear A60
    obtain rfl := Option.some.inj H
    go_enter Try.func7, Try.ntmps7
    go_wp2_with (first | ((with_reducible refine gate_dst (N := 23) rfl ?_); (try (refine gate_guard (by rfl) ?_; dsimp only)); refine Kd.R_lit Kd.string _ 9 ?hg (N := 23) ?hd (xs := ([a1, a2] : List ByteArray)) (inner := [.string a1, .string a2]) (ok := fun _ => True) (okp := fun _ => True) ?hr ?hp (fun _ hk => hk) trivial (Below.refl _ _) (Nat.le_refl _) (by simp) ?_; (case hd => rfl); (case hg => rfl); (case hr => first | (go_simp; done) | (go_simp; rfl)); (case hp => exact (Reps.one (show Kd.M Kd.string _ _ _ a1 [.string a1] from rfl) (Reps.one (show Kd.M Kd.string _ _ _ a2 [.string a2] from rfl) (Reps.none _ _)))); intro v449 w7 ho8 hb hg_ hnew_; clear hg_ hnew_; (first | rw [← Ny448.out] at ho8 | (simp only [Int.reduceToNat] at ho8; rw [← Ny448.out] at ho8)); have n0_ := ak (Kd.R_lower ho8 (below_size (by repeat (first | (with_reducible first | exact HB.out | apply wA | apply wN | apply wD) | exact HB.out)))); have n1_ := ak (below_step (by repeat (first | (with_reducible first | exact HB.out | apply wA | apply wN | apply wD) | exact HB.out)) hb); clear HB; have HO450 := n0_; have HB := n1_; clear n0_ n1_; clear hb ho8; obtain ⟨Ao9, co9, eo9⟩ := Kd.R_slice HO450.out; subst eo9) | (go_at_call 10; (with_reducible refine (mummerlaw11_far.calls k _ _ l0 _ _ y448 true _ ?side1 ?side2 ?side3 ?side4 A4.out).mono ?_); (case side1 => repeat (first | exact (Kd.C_below HR0.out HB.out) | (with_reducible refine Kd.C_alloc ?_ _) | (with_reducible refine Kd.C_drewN ?_ _) | (with_reducible refine Kd.C_drew ?_))); (case side2 => exact HC0.out); (case side3 => repeat (first | exact (Kd.R_reads' HO450.out).2.2 | (with_reducible refine Kd.C_alloc ?_ _) | (with_reducible refine Kd.C_drewN ?_ _) | (with_reducible refine Kd.C_drew ?_))); (case side4 => exact (Kd.R_reads' HO450.out).2.1); rintro e w' ⟨rfl, ⟨nd, rfl⟩⟩; (try first | exact ⟨rfl, _, World.drewN_drewN _ _ _⟩ | exact ⟨rfl, _, Eq.trans (World.drewN_drewN _ _ _) (congrArg (World.drewN _) (Nat.add_assoc _ _ _))⟩)) | (go_at_call 11; (with_reducible refine (mummerlaw11_awake.calls k  t452 _ hrt A6.out).mono ?_); rintro e w10 ⟨rfl, hb⟩; have n0_ := ak (Kd.R_below (by (with_reducible repeat (first | apply Kd.R_alloc | apply Kd.R_drewN | apply Kd.R_drew)); exact HO450.out) hb); have n1_ := ak (below_step (by repeat (first | (with_reducible first | exact HB.out | apply wA | apply wN | apply wD) | exact HB.out)) hb); clear HO450; clear HB; have HO450 := n0_; have HB := n1_; clear n0_ n1_; (try clear hb); (try clear hb2); (try clear hk); (try clear hi)))
    repeat (go_quiet (first | ((with_reducible refine gate_dst (N := 23) rfl ?_); (try (refine gate_guard (by rfl) ?_; dsimp only)); refine Kd.R_lit Kd.string _ 9 ?hg (N := 23) ?hd (xs := ([a1, a2] : List ByteArray)) (inner := [.string a1, .string a2]) (ok := fun _ => True) (okp := fun _ => True) ?hr ?hp (fun _ hk => hk) trivial (Below.refl _ _) (Nat.le_refl _) (by simp) ?_; (case hd => rfl); (case hg => rfl); (case hr => first | (go_simp; done) | (go_simp; rfl)); (case hp => exact (Reps.one (show Kd.M Kd.string _ _ _ a1 [.string a1] from rfl) (Reps.one (show Kd.M Kd.string _ _ _ a2 [.string a2] from rfl) (Reps.none _ _)))); intro v449 w7 ho8 hb hg_ hnew_; clear hg_ hnew_; (first | rw [← Ny448.out] at ho8 | (simp only [Int.reduceToNat] at ho8; rw [← Ny448.out] at ho8)); have n0_ := ak (Kd.R_lower ho8 (below_size (by repeat (first | (with_reducible first | exact HB.out | apply wA | apply wN | apply wD) | exact HB.out)))); have n1_ := ak (below_step (by repeat (first | (with_reducible first | exact HB.out | apply wA | apply wN | apply wD) | exact HB.out)) hb); clear HB; have HO450 := n0_; have HB := n1_; clear n0_ n1_; clear hb ho8; obtain ⟨Ao9, co9, eo9⟩ := Kd.R_slice HO450.out; subst eo9) | (go_at_call 10; (with_reducible refine (mummerlaw11_far.calls k _ _ l0 _ _ y448 true _ ?side1 ?side2 ?side3 ?side4 A4.out).mono ?_); (case side1 => repeat (first | exact (Kd.C_below HR0.out HB.out) | (with_reducible refine Kd.C_alloc ?_ _) | (with_reducible refine Kd.C_drewN ?_ _) | (with_reducible refine Kd.C_drew ?_))); (case side2 => exact HC0.out); (case side3 => repeat (first | exact (Kd.R_reads' HO450.out).2.2 | (with_reducible refine Kd.C_alloc ?_ _) | (with_reducible refine Kd.C_drewN ?_ _) | (with_reducible refine Kd.C_drew ?_))); (case side4 => exact (Kd.R_reads' HO450.out).2.1); rintro e w' ⟨rfl, ⟨nd, rfl⟩⟩; (try first | exact ⟨rfl, _, World.drewN_drewN _ _ _⟩ | exact ⟨rfl, _, Eq.trans (World.drewN_drewN _ _ _) (congrArg (World.drewN _) (Nat.add_assoc _ _ _))⟩)) | (go_at_call 11; (with_reducible refine (mummerlaw11_awake.calls k  t452 _ hrt A6.out).mono ?_); rintro e w10 ⟨rfl, hb⟩; have n0_ := ak (Kd.R_below (by (with_reducible repeat (first | apply Kd.R_alloc | apply Kd.R_drewN | apply Kd.R_drew)); exact HO450.out) hb); have n1_ := ak (below_step (by repeat (first | (with_reducible first | exact HB.out | apply wA | apply wN | apply wD) | exact HB.out)) hb); clear HO450; clear HB; have HO450 := n0_; have HB := n1_; clear n0_ n1_; (try clear hb); (try clear hb2); (try clear hk); (try clear hi))); try go_wp2_with (first | ((with_reducible refine gate_dst (N := 23) rfl ?_); (try (refine gate_guard (by rfl) ?_; dsimp only)); refine Kd.R_lit Kd.string _ 9 ?hg (N := 23) ?hd (xs := ([a1, a2] : List ByteArray)) (inner := [.string a1, .string a2]) (ok := fun _ => True) (okp := fun _ => True) ?hr ?hp (fun _ hk => hk) trivial (Below.refl _ _) (Nat.le_refl _) (by simp) ?_; (case hd => rfl); (case hg => rfl); (case hr => first | (go_simp; done) | (go_simp; rfl)); (case hp => exact (Reps.one (show Kd.M Kd.string _ _ _ a1 [.string a1] from rfl) (Reps.one (show Kd.M Kd.string _ _ _ a2 [.string a2] from rfl) (Reps.none _ _)))); intro v449 w7 ho8 hb hg_ hnew_; clear hg_ hnew_; (first | rw [← Ny448.out] at ho8 | (simp only [Int.reduceToNat] at ho8; rw [← Ny448.out] at ho8)); have n0_ := ak (Kd.R_lower ho8 (below_size (by repeat (first | (with_reducible first | exact HB.out | apply wA | apply wN | apply wD) | exact HB.out)))); have n1_ := ak (below_step (by repeat (first | (with_reducible first | exact HB.out | apply wA | apply wN | apply wD) | exact HB.out)) hb); clear HB; have HO450 := n0_; have HB := n1_; clear n0_ n1_; clear hb ho8; obtain ⟨Ao9, co9, eo9⟩ := Kd.R_slice HO450.out; subst eo9) | (go_at_call 10; (with_reducible refine (mummerlaw11_far.calls k _ _ l0 _ _ y448 true _ ?side1 ?side2 ?side3 ?side4 A4.out).mono ?_); (case side1 => repeat (first | exact (Kd.C_below HR0.out HB.out) | (with_reducible refine Kd.C_alloc ?_ _) | (with_reducible refine Kd.C_drewN ?_ _) | (with_reducible refine Kd.C_drew ?_))); (case side2 => exact HC0.out); (case side3 => repeat (first | exact (Kd.R_reads' HO450.out).2.2 | (with_reducible refine Kd.C_alloc ?_ _) | (with_reducible refine Kd.C_drewN ?_ _) | (with_reducible refine Kd.C_drew ?_))); (case side4 => exact (Kd.R_reads' HO450.out).2.1); rintro e w' ⟨rfl, ⟨nd, rfl⟩⟩; (try first | exact ⟨rfl, _, World.drewN_drewN _ _ _⟩ | exact ⟨rfl, _, Eq.trans (World.drewN_drewN _ _ _) (congrArg (World.drewN _) (Nat.add_assoc _ _ _))⟩)) | (go_at_call 11; (with_reducible refine (mummerlaw11_awake.calls k  t452 _ hrt A6.out).mono ?_); rintro e w10 ⟨rfl, hb⟩; have n0_ := ak (Kd.R_below (by (with_reducible repeat (first | apply Kd.R_alloc | apply Kd.R_drewN | apply Kd.R_drew)); exact HO450.out) hb); have n1_ := ak (below_step (by repeat (first | (with_reducible first | exact HB.out | apply wA | apply wN | apply wD) | exact HB.out)) hb); clear HO450; clear HB; have HO450 := n0_; have HB := n1_; clear n0_ n1_; (try clear hb); (try clear hb2); (try clear hk); (try clear hi))))
    go_ret
    exact ⟨by first | rfl | (simp [errW_none, errW_some] <;> rfl) | (simp [*, errW_none, errW_some] <;> rfl), by repeat (first | (with_reducible first | exact HB.out | apply wA | apply wN | apply wD) | exact HB.out)⟩
  · replace c5 := Bool.eq_false_iff.mpr c5
    subst c5
    have H1 : ((binds_Resolve.f k l0 a1 a2).bind fun bt453 => ((binds_Check.f l0).bind fun bt455 => (if bt455.2 = 0 then ((mummerref09_Check.f k a2).bind fun t457 => (mummerlaw11_BindsOthers.j0 k l0 a1 a2 bt453.1 bt453.2 (t457 != 0))) else (mummerlaw11_BindsOthers.j0 k l0 a1 a2 bt453.1 bt453.2 true)))) = some r := by rw [if_neg (show ¬ (false = true) by decide)] at H; exact H
    clear H
    have H := H1
    clear H1
    replace H := Option.bind_eq_some_iff.mp H
    obtain ⟨⟨t453, t454⟩, A110, H⟩ := H
    replace H : ((binds_Check.f l0).bind fun bt455 => (if bt455.2 = 0 then ((mummerref09_Check.f k a2).bind fun t457 => (mummerlaw11_BindsOthers.j0 k l0 a1 a2 t453 t454 (t457 != 0))) else (mummerlaw11_BindsOthers.j0 k l0 a1 a2 t453 t454 true))) = some r := H
    have A11 := ak A110
    clear A110
    replace H := Option.bind_eq_some_iff.mp H
    obtain ⟨⟨t455, t456⟩, A120, H⟩ := H
    replace H : (if t456 = 0 then ((mummerref09_Check.f k a2).bind fun t457 => (mummerlaw11_BindsOthers.j0 k l0 a1 a2 t453 t454 (t457 != 0))) else (mummerlaw11_BindsOthers.j0 k l0 a1 a2 t453 t454 true)) = some r := H
    have A12 := ak A120
    clear A120
    have HC13 := ak H
    clear H
    go_enter Try.func7, Try.ntmps7
    go_upto_region 5 with (first | ((with_reducible refine gate_dst (N := 23) rfl ?_); (try (refine gate_guard (by rfl) ?_; dsimp only)); refine Kd.R_lit Kd.string _ 9 ?hg (N := 23) ?hd (xs := ([a1, a2] : List ByteArray)) (inner := [.string a1, .string a2]) (ok := fun _ => True) (okp := fun _ => True) ?hr ?hp (fun _ hk => hk) trivial (Below.refl _ _) (Nat.le_refl _) (by simp) ?_; (case hd => rfl); (case hg => rfl); (case hr => first | (go_simp; done) | (go_simp; rfl)); (case hp => exact (Reps.one (show Kd.M Kd.string _ _ _ a1 [.string a1] from rfl) (Reps.one (show Kd.M Kd.string _ _ _ a2 [.string a2] from rfl) (Reps.none _ _)))); intro v449 w14 ho15 hb hg_ hnew_; clear hg_ hnew_; (first | rw [← Ny448.out] at ho15 | (simp only [Int.reduceToNat] at ho15; rw [← Ny448.out] at ho15)); have n0_ := ak (Kd.R_lower ho15 (below_size (by repeat (first | (with_reducible first | exact HB.out | apply wA | apply wN | apply wD) | exact HB.out)))); have n1_ := ak (below_step (by repeat (first | (with_reducible first | exact HB.out | apply wA | apply wN | apply wD) | exact HB.out)) hb); clear HB; have HO450 := n0_; have HB := n1_; clear n0_ n1_; clear hb ho15; obtain ⟨Ao16, co16, eo16⟩ := Kd.R_slice HO450.out; subst eo16) | (go_at_call 10; (with_reducible refine (mummerlaw11_far.calls k _ _ l0 _ _ y448 false _ ?side1 ?side2 ?side3 ?side4 A4.out).mono ?_); (case side1 => repeat (first | exact (Kd.C_below HR0.out HB.out) | (with_reducible refine Kd.C_alloc ?_ _) | (with_reducible refine Kd.C_drewN ?_ _) | (with_reducible refine Kd.C_drew ?_))); (case side2 => exact HC0.out); (case side3 => repeat (first | exact (Kd.R_reads' HO450.out).2.2 | (with_reducible refine Kd.C_alloc ?_ _) | (with_reducible refine Kd.C_drewN ?_ _) | (with_reducible refine Kd.C_drew ?_))); (case side4 => exact (Kd.R_reads' HO450.out).2.1); rintro e w' ⟨rfl, ⟨nd, rfl⟩⟩; (try first | exact ⟨rfl, _, World.drewN_drewN _ _ _⟩ | exact ⟨rfl, _, Eq.trans (World.drewN_drewN _ _ _) (congrArg (World.drewN _) (Nat.add_assoc _ _ _))⟩)) | (go_at_call 19; (with_reducible refine (binds_Resolve.calls k _ _ l0 a1 a2 t453 t454 _ ?side1 ?side2 A11.out).mono ?_); (case side1 => repeat (first | exact (Kd.C_below HR0.out (by repeat (first | (with_reducible first | exact HB.out | apply wA | apply wN | apply wD) | exact HB.out))) | (with_reducible refine Kd.C_alloc ?_ _) | (with_reducible refine Kd.C_drewN ?_ _) | (with_reducible refine Kd.C_drew ?_))); (case side2 => exact HC0.out); rintro e w17 ⟨rfl, hb⟩; have n0_ := ak (Kd.R_below (by (with_reducible repeat (first | apply Kd.R_alloc | apply Kd.R_drewN | apply Kd.R_drew)); exact HO450.out) hb); have n1_ := ak (below_step (by repeat (first | (with_reducible first | exact HB.out | apply wA | apply wN | apply wD) | exact HB.out)) hb); clear HO450; clear HB; have HO450 := n0_; have HB := n1_; clear n0_ n1_; (try clear hb); (try clear hb2); (try clear hk); (try clear hi)) | (go_at_call 12; (with_reducible refine (binds_Check.calls _ _ l0 t455 t456 _ ?side1 ?side2 A12.out).mono ?_); (case side1 => repeat (first | exact (Kd.C_below HR0.out HB.out) | (with_reducible refine Kd.C_alloc ?_ _) | (with_reducible refine Kd.C_drewN ?_ _) | (with_reducible refine Kd.C_drew ?_))); (case side2 => exact HC0.out); rintro e w18 ⟨rfl, hb⟩; have n0_ := ak (Kd.R_below (by (with_reducible repeat (first | apply Kd.R_alloc | apply Kd.R_drewN | apply Kd.R_drew)); exact HO450.out) hb); have n1_ := ak (below_step (by repeat (first | (with_reducible first | exact HB.out | apply wA | apply wN | apply wD) | exact HB.out)) hb); clear HO450; clear HB; have HO450 := n0_; have HB := n1_; clear n0_ n1_; (try clear hb); (try clear hb2); (try clear hk); (try clear hi)))
    repeat (go_quiet (first | ((with_reducible refine gate_dst (N := 23) rfl ?_); (try (refine gate_guard (by rfl) ?_; dsimp only)); refine Kd.R_lit Kd.string _ 9 ?hg (N := 23) ?hd (xs := ([a1, a2] : List ByteArray)) (inner := [.string a1, .string a2]) (ok := fun _ => True) (okp := fun _ => True) ?hr ?hp (fun _ hk => hk) trivial (Below.refl _ _) (Nat.le_refl _) (by simp) ?_; (case hd => rfl); (case hg => rfl); (case hr => first | (go_simp; done) | (go_simp; rfl)); (case hp => exact (Reps.one (show Kd.M Kd.string _ _ _ a1 [.string a1] from rfl) (Reps.one (show Kd.M Kd.string _ _ _ a2 [.string a2] from rfl) (Reps.none _ _)))); intro v449 w14 ho15 hb hg_ hnew_; clear hg_ hnew_; (first | rw [← Ny448.out] at ho15 | (simp only [Int.reduceToNat] at ho15; rw [← Ny448.out] at ho15)); have n0_ := ak (Kd.R_lower ho15 (below_size (by repeat (first | (with_reducible first | exact HB.out | apply wA | apply wN | apply wD) | exact HB.out)))); have n1_ := ak (below_step (by repeat (first | (with_reducible first | exact HB.out | apply wA | apply wN | apply wD) | exact HB.out)) hb); clear HB; have HO450 := n0_; have HB := n1_; clear n0_ n1_; clear hb ho15; obtain ⟨Ao16, co16, eo16⟩ := Kd.R_slice HO450.out; subst eo16) | (go_at_call 10; (with_reducible refine (mummerlaw11_far.calls k _ _ l0 _ _ y448 false _ ?side1 ?side2 ?side3 ?side4 A4.out).mono ?_); (case side1 => repeat (first | exact (Kd.C_below HR0.out HB.out) | (with_reducible refine Kd.C_alloc ?_ _) | (with_reducible refine Kd.C_drewN ?_ _) | (with_reducible refine Kd.C_drew ?_))); (case side2 => exact HC0.out); (case side3 => repeat (first | exact (Kd.R_reads' HO450.out).2.2 | (with_reducible refine Kd.C_alloc ?_ _) | (with_reducible refine Kd.C_drewN ?_ _) | (with_reducible refine Kd.C_drew ?_))); (case side4 => exact (Kd.R_reads' HO450.out).2.1); rintro e w' ⟨rfl, ⟨nd, rfl⟩⟩; (try first | exact ⟨rfl, _, World.drewN_drewN _ _ _⟩ | exact ⟨rfl, _, Eq.trans (World.drewN_drewN _ _ _) (congrArg (World.drewN _) (Nat.add_assoc _ _ _))⟩)) | (go_at_call 19; (with_reducible refine (binds_Resolve.calls k _ _ l0 a1 a2 t453 t454 _ ?side1 ?side2 A11.out).mono ?_); (case side1 => repeat (first | exact (Kd.C_below HR0.out (by repeat (first | (with_reducible first | exact HB.out | apply wA | apply wN | apply wD) | exact HB.out))) | (with_reducible refine Kd.C_alloc ?_ _) | (with_reducible refine Kd.C_drewN ?_ _) | (with_reducible refine Kd.C_drew ?_))); (case side2 => exact HC0.out); rintro e w17 ⟨rfl, hb⟩; have n0_ := ak (Kd.R_below (by (with_reducible repeat (first | apply Kd.R_alloc | apply Kd.R_drewN | apply Kd.R_drew)); exact HO450.out) hb); have n1_ := ak (below_step (by repeat (first | (with_reducible first | exact HB.out | apply wA | apply wN | apply wD) | exact HB.out)) hb); clear HO450; clear HB; have HO450 := n0_; have HB := n1_; clear n0_ n1_; (try clear hb); (try clear hb2); (try clear hk); (try clear hi)) | (go_at_call 12; (with_reducible refine (binds_Check.calls _ _ l0 t455 t456 _ ?side1 ?side2 A12.out).mono ?_); (case side1 => repeat (first | exact (Kd.C_below HR0.out HB.out) | (with_reducible refine Kd.C_alloc ?_ _) | (with_reducible refine Kd.C_drewN ?_ _) | (with_reducible refine Kd.C_drew ?_))); (case side2 => exact HC0.out); rintro e w18 ⟨rfl, hb⟩; have n0_ := ak (Kd.R_below (by (with_reducible repeat (first | apply Kd.R_alloc | apply Kd.R_drewN | apply Kd.R_drew)); exact HO450.out) hb); have n1_ := ak (below_step (by repeat (first | (with_reducible first | exact HB.out | apply wA | apply wN | apply wD) | exact HB.out)) hb); clear HO450; clear HB; have HO450 := n0_; have HB := n1_; clear n0_ n1_; (try clear hb); (try clear hb2); (try clear hk); (try clear hi))); go_upto_region 5 with (first | ((with_reducible refine gate_dst (N := 23) rfl ?_); (try (refine gate_guard (by rfl) ?_; dsimp only)); refine Kd.R_lit Kd.string _ 9 ?hg (N := 23) ?hd (xs := ([a1, a2] : List ByteArray)) (inner := [.string a1, .string a2]) (ok := fun _ => True) (okp := fun _ => True) ?hr ?hp (fun _ hk => hk) trivial (Below.refl _ _) (Nat.le_refl _) (by simp) ?_; (case hd => rfl); (case hg => rfl); (case hr => first | (go_simp; done) | (go_simp; rfl)); (case hp => exact (Reps.one (show Kd.M Kd.string _ _ _ a1 [.string a1] from rfl) (Reps.one (show Kd.M Kd.string _ _ _ a2 [.string a2] from rfl) (Reps.none _ _)))); intro v449 w14 ho15 hb hg_ hnew_; clear hg_ hnew_; (first | rw [← Ny448.out] at ho15 | (simp only [Int.reduceToNat] at ho15; rw [← Ny448.out] at ho15)); have n0_ := ak (Kd.R_lower ho15 (below_size (by repeat (first | (with_reducible first | exact HB.out | apply wA | apply wN | apply wD) | exact HB.out)))); have n1_ := ak (below_step (by repeat (first | (with_reducible first | exact HB.out | apply wA | apply wN | apply wD) | exact HB.out)) hb); clear HB; have HO450 := n0_; have HB := n1_; clear n0_ n1_; clear hb ho15; obtain ⟨Ao16, co16, eo16⟩ := Kd.R_slice HO450.out; subst eo16) | (go_at_call 10; (with_reducible refine (mummerlaw11_far.calls k _ _ l0 _ _ y448 false _ ?side1 ?side2 ?side3 ?side4 A4.out).mono ?_); (case side1 => repeat (first | exact (Kd.C_below HR0.out HB.out) | (with_reducible refine Kd.C_alloc ?_ _) | (with_reducible refine Kd.C_drewN ?_ _) | (with_reducible refine Kd.C_drew ?_))); (case side2 => exact HC0.out); (case side3 => repeat (first | exact (Kd.R_reads' HO450.out).2.2 | (with_reducible refine Kd.C_alloc ?_ _) | (with_reducible refine Kd.C_drewN ?_ _) | (with_reducible refine Kd.C_drew ?_))); (case side4 => exact (Kd.R_reads' HO450.out).2.1); rintro e w' ⟨rfl, ⟨nd, rfl⟩⟩; (try first | exact ⟨rfl, _, World.drewN_drewN _ _ _⟩ | exact ⟨rfl, _, Eq.trans (World.drewN_drewN _ _ _) (congrArg (World.drewN _) (Nat.add_assoc _ _ _))⟩)) | (go_at_call 19; (with_reducible refine (binds_Resolve.calls k _ _ l0 a1 a2 t453 t454 _ ?side1 ?side2 A11.out).mono ?_); (case side1 => repeat (first | exact (Kd.C_below HR0.out (by repeat (first | (with_reducible first | exact HB.out | apply wA | apply wN | apply wD) | exact HB.out))) | (with_reducible refine Kd.C_alloc ?_ _) | (with_reducible refine Kd.C_drewN ?_ _) | (with_reducible refine Kd.C_drew ?_))); (case side2 => exact HC0.out); rintro e w17 ⟨rfl, hb⟩; have n0_ := ak (Kd.R_below (by (with_reducible repeat (first | apply Kd.R_alloc | apply Kd.R_drewN | apply Kd.R_drew)); exact HO450.out) hb); have n1_ := ak (below_step (by repeat (first | (with_reducible first | exact HB.out | apply wA | apply wN | apply wD) | exact HB.out)) hb); clear HO450; clear HB; have HO450 := n0_; have HB := n1_; clear n0_ n1_; (try clear hb); (try clear hb2); (try clear hk); (try clear hi)) | (go_at_call 12; (with_reducible refine (binds_Check.calls _ _ l0 t455 t456 _ ?side1 ?side2 A12.out).mono ?_); (case side1 => repeat (first | exact (Kd.C_below HR0.out HB.out) | (with_reducible refine Kd.C_alloc ?_ _) | (with_reducible refine Kd.C_drewN ?_ _) | (with_reducible refine Kd.C_drew ?_))); (case side2 => exact HC0.out); rintro e w18 ⟨rfl, hb⟩; have n0_ := ak (Kd.R_below (by (with_reducible repeat (first | apply Kd.R_alloc | apply Kd.R_drewN | apply Kd.R_drew)); exact HO450.out) hb); have n1_ := ak (below_step (by repeat (first | (with_reducible first | exact HB.out | apply wA | apply wN | apply wD) | exact HB.out)) hb); clear HO450; clear HB; have HO450 := n0_; have HB := n1_; clear n0_ n1_; (try clear hb); (try clear hb2); (try clear hk); (try clear hi))))
    (try simp only [Act.put, List.setIfInBounds_toArray, List.set_cons_zero, List.set_cons_succ])
    go_cut [44] (fun v44 wc => ∃ (kq : Nat) (x44_12 : Bool), v44 = .bool x44_12 ∧ Aside0 (mummerlaw11_BindsOthers.j0 kq l0 a1 a2 t453 t454 x44_12 = some r) ∧ Aside0 (kq ≤ k) ∧ Aside0 (Below w.heap.size w wc))
    case first =>
      have H := HC13.out
      clear HC13
      by_cases c19 : t456 = 0
      · rw [if_pos c19] at H
        have c19b0 : (t456 == 0) = true := beq_iff_eq.mpr c19
        have c19b1 : (t456 != 0) = false := bne_eq_false_iff_eq.mpr c19
        clear c19
        (first | rw [c19b0] | (simp only [i64_w, i32_w]; rw [c19b0]) | skip)
        replace H := Option.bind_eq_some_iff.mp H
        obtain ⟨t457, A200, H⟩ := H
        replace H : (mummerlaw11_BindsOthers.j0 k l0 a1 a2 t453 t454 (t457 != 0)) = some r := H
        have A20 := ak A200
        clear A200
        have H' := ak H
        clear H
        go_wp2_with (first | (go_at_call 24; (with_reducible refine (mummerref09_Check.calls k a2 t457 _ A20.out).mono ?_); rintro e w' ⟨rfl, ⟨nd, rfl⟩⟩; (try first | exact ⟨rfl, _, World.drewN_drewN _ _ _⟩ | exact ⟨rfl, _, Eq.trans (World.drewN_drewN _ _ _) (congrArg (World.drewN _) (Nat.add_assoc _ _ _))⟩)))
        repeat (go_quiet (first | (go_at_call 24; (with_reducible refine (mummerref09_Check.calls k a2 t457 _ A20.out).mono ?_); rintro e w' ⟨rfl, ⟨nd, rfl⟩⟩; (try first | exact ⟨rfl, _, World.drewN_drewN _ _ _⟩ | exact ⟨rfl, _, Eq.trans (World.drewN_drewN _ _ _) (congrArg (World.drewN _) (Nat.add_assoc _ _ _))⟩))); try go_wp2_with (first | (go_at_call 24; (with_reducible refine (mummerref09_Check.calls k a2 t457 _ A20.out).mono ?_); rintro e w' ⟨rfl, ⟨nd, rfl⟩⟩; (try first | exact ⟨rfl, _, World.drewN_drewN _ _ _⟩ | exact ⟨rfl, _, Eq.trans (World.drewN_drewN _ _ _) (congrArg (World.drewN _) (Nat.add_assoc _ _ _))⟩))))
        go_meet
        case rel => exact ⟨_, ((t457 != 0)), (by first | rfl | (simp; done) | (simp [*]; done)), H', ⟨by first | omega | exact Nat.le_refl _⟩, ⟨by repeat (first | (with_reducible first | exact HB.out | apply wA | apply wN | apply wD) | exact HB.out)⟩⟩
      · rw [if_neg c19] at H
        have c19b0 : (t456 == 0) = false := beq_eq_false_iff_ne.mpr c19
        have c19b1 : (t456 != 0) = true := bne_iff_ne.mpr c19
        (first | rw [c19b0] | (simp only [i64_w, i32_w]; rw [c19b0]) | skip)
        have H' := ak H
        clear H
        go_wp2
        repeat (go_quiet (fail); try go_wp2)
        go_meet
        case rel => exact ⟨_, (true), (by first | rfl | (simp; done) | (simp [*]; done)), H', ⟨by first | omega | exact Nat.le_refl _⟩, ⟨by repeat (first | (with_reducible first | exact HB.out | apply wA | apply wN | apply wD) | exact HB.out)⟩⟩
    case rest =>
      clear HC13
      try clear c1
      try clear p2
      try clear c5
      try clear c7
      try clear c19
      try clear c19b0
      try clear c19b1
      obtain ⟨kq, x44_12, rfl, HA, HJ12, HB⟩ := hcut
      cases kq with
      | zero => exact absurd HA.out (by simp [mummerlaw11_BindsOthers.j0])
      | succ kj12 =>
        have H := HA.out
        clear HA
        simp only [mummerlaw11_BindsOthers.j0] at H
        by_cases c21 : x44_12 = true
        · subst c21
          have H1 : (if t454 = 0 then (some false) else ((mummerlaw11_awake.f kj12).bind fun t458 => (some t458))) = some r := by rw [if_pos rfl] at H; exact H
          clear H
          have H := H1
          clear H1
          by_cases c22 : t454 = 0
          · rw [if_pos c22] at H
            have c22b0 : (t454 == 0) = true := beq_iff_eq.mpr c22
            have c22b1 : (t454 != 0) = false := bne_eq_false_iff_eq.mpr c22
            clear c22
            exact absurd ((Option.some.inj H).trans hrt.out) (by decide)
          · rw [if_neg c22] at H
            have c22b0 : (t454 == 0) = false := beq_eq_false_iff_ne.mpr c22
            have c22b1 : (t454 != 0) = true := bne_iff_ne.mpr c22
            replace H := Option.bind_eq_some_iff.mp H
            obtain ⟨t458, A230, H⟩ := H
            replace H : (some t458) = some r := H
            have A23 := ak A230
            clear A230
            obtain rfl := Option.some.inj H
            go_wp2_with (first | (go_at_call 11; (with_reducible refine (mummerlaw11_awake.calls kj12  t458 _ hrt A23.out).mono ?_); rintro e w24 ⟨rfl, hb⟩; have n0_ := ak (below_step (by repeat (first | (with_reducible first | exact HB.out | apply wA | apply wN | apply wD) | exact HB.out)) hb); clear HB; have HB := n0_; clear n0_; (try clear hb); (try clear hb2); (try clear hk); (try clear hi)))
            repeat (go_quiet (first | (go_at_call 11; (with_reducible refine (mummerlaw11_awake.calls kj12  t458 _ hrt A23.out).mono ?_); rintro e w24 ⟨rfl, hb⟩; have n0_ := ak (below_step (by repeat (first | (with_reducible first | exact HB.out | apply wA | apply wN | apply wD) | exact HB.out)) hb); clear HB; have HB := n0_; clear n0_; (try clear hb); (try clear hb2); (try clear hk); (try clear hi))); try go_wp2_with (first | (go_at_call 11; (with_reducible refine (mummerlaw11_awake.calls kj12  t458 _ hrt A23.out).mono ?_); rintro e w24 ⟨rfl, hb⟩; have n0_ := ak (below_step (by repeat (first | (with_reducible first | exact HB.out | apply wA | apply wN | apply wD) | exact HB.out)) hb); clear HB; have HB := n0_; clear n0_; (try clear hb); (try clear hb2); (try clear hk); (try clear hi))))
            go_ret
            exact ⟨by first | rfl | (simp [errW_none, errW_some] <;> rfl) | (simp [*, errW_none, errW_some] <;> rfl), by repeat (first | (with_reducible first | exact HB.out | apply wA | apply wN | apply wD) | exact HB.out)⟩
        · replace c21 := Bool.eq_false_iff.mpr c21
          subst c21
          have H1 : (mummerlaw11_BindsOthers.l0 kj12 l0 a1 a2 t453 t454 ([] : List (S24)) ([] : List (S24)) 0) = some r := by rw [if_neg (show ¬ (false = true) by decide)] at H; exact H
          clear H
          have H := H1
          clear H1
          have H' := ak H
          clear H
          go_wp2
          repeat (go_quiet (fail); try go_wp2)
          go_loopg [11, 12, 13] kj12 (fun kq v11 v12 v13 w' => ∃ (x11_2 : List (S24)) (x12_2 : List (S24)) (x13_2 : Int), v13 = .int .i64 x13_2 ∧ Aside0 (mummerlaw11_BindsOthers.l0 kq l0 a1 a2 t453 t454 x11_2 x12_2 x13_2 = some r) ∧ Aside0 (kq ≤ kj12) ∧ Aside0 (Kd.R k24 24 w' w.heap.size (fun k_ => some k_ ≠ (v12 : Value).ownBlock) v11 x11_2) ∧ Aside0 (Kd.R k24 24 w' w.heap.size (fun k_ => some k_ ≠ (v11 : Value).ownBlock) v12 x12_2) ∧ Aside0 (Below w.heap.size w w'))
          case atStart => exact ⟨(([] : List (S24))), (([] : List (S24))), (0), (by first | rfl | (simp; done) | (simp [*]; done)), H', ⟨Nat.le_refl _⟩, ⟨by first | exact Kd.R_nil _ _ _ _ _ | exact Kd.N_nil _ _ _ _ _ | exact Kd.V_nil _ _ _ _ _ | exact Kd.Q_nil _ _ _ _ _ | exact Kd.S_nil _ _ _ _ _⟩, ⟨by first | exact Kd.R_nil _ _ _ _ _ | exact Kd.N_nil _ _ _ _ _ | exact Kd.V_nil _ _ _ _ _ | exact Kd.Q_nil _ _ _ _ _ | exact Kd.S_nil _ _ _ _ _⟩, ⟨by repeat (first | (with_reducible first | exact HB.out | apply wA | apply wN | apply wD) | exact HB.out)⟩⟩
          case round =>
            clear H'
            try clear c1
            try clear c2
            try clear p2
            try clear c5
            try clear c7
            try clear c19
            try clear c19b0
            try clear c19b1
            try clear c21
            try clear c22
            try clear c22b0
            try clear c22b1
            try clear p2
            obtain ⟨x11_2, x12_2, x13_2, rfl, HA, HK2, HO_11, HO_12, HB⟩ := hrel
            cases gk with
            | zero => exact absurd HA.out (by simp [mummerlaw11_BindsOthers.l0])
            | succ k2 =>
              have H := HA.out
              clear HA
              simp only [mummerlaw11_BindsOthers.l0] at H
              by_cases c25 : x13_2 < (l0.length : Int)
              · rw [if_pos c25] at H
                have c25b0 : decide (x13_2 < (l0.length : Int)) = true := decide_eq_true c25
                clear c25
                by_cases c26 : 0 ≤ x13_2
                · rw [if_pos c26] at H
                  have c26b0 : decide (0 ≤ x13_2) = true := decide_eq_true c26
                  clear c26
                  by_cases c27 : ((rd_T24 l0 x13_2).f0).toList = a1.toList
                  · rw [if_pos c27] at H
                    have c27b0 : (((rd_T24 l0 x13_2).f0).toList == a1.toList) = true := beq_iff_eq.mpr c27
                    have c27b1 : (((rd_T24 l0 x13_2).f0).toList != a1.toList) = false := bne_eq_false_iff_eq.mpr c27
                    clear c27
                    by_cases c28 : x11_2.length < 2932031007402
                    · rw [if_pos c28] at H
                      have LMc28 := ak c28
                      clear c28
                      obtain ⟨y461, hy461⟩ : ∃ y_ : List (S24), y_ = (x11_2 ++ [(⟨(rd_T24 l0 x13_2).f0, (rd_T24 l0 x13_2).f1, (rd_T24 l0 x13_2).f2, (rd_T24 l0 x13_2).f3⟩ : S24)]) := ⟨_, rfl⟩
                      replace H : ((some (([(⟨(rd_T24 l0 x13_2).f0, (rd_T24 l0 x13_2).f1, (rd_T24 l0 x13_2).f2, (rd_T24 l0 x13_2).f3⟩ : S24)] : List (S24)) : List (S24))).bind fun y465 => (if y465.length + x12_2.length < 2932031007402 then (mummerlaw11_BindsOthers.l0 k2 l0 a1 a2 t453 t454 y461 (y465 ++ x12_2) (wrap64 (x13_2 + 1))) else (none))) = some r := by first | (rw [hy461]; with_reducible exact H) | (have H2_ := (Option.bind_some _ _).symm.trans H; rw [hy461]; with_reducible exact H2_) | (have H2_ := (Option.bind_some _ _).symm.trans H; with_reducible exact H2_) | with_reducible exact H | (rw [hy461]; exact H) | exact H
                      have Ny461 := ak hy461
                      clear hy461
                      obtain ⟨y465, hy465⟩ : ∃ y_ : List (S24), y_ = (([(⟨(rd_T24 l0 x13_2).f0, (rd_T24 l0 x13_2).f1, (rd_T24 l0 x13_2).f2, (rd_T24 l0 x13_2).f3⟩ : S24)] : List (S24))) := ⟨_, rfl⟩
                      replace H : (if y465.length + x12_2.length < 2932031007402 then (mummerlaw11_BindsOthers.l0 k2 l0 a1 a2 t453 t454 y461 (y465 ++ x12_2) (wrap64 (x13_2 + 1))) else (none)) = some r := by first | (rw [hy465]; with_reducible exact H) | (have H2_ := (Option.bind_some _ _).symm.trans H; rw [hy465]; with_reducible exact H2_) | (have H2_ := (Option.bind_some _ _).symm.trans H; with_reducible exact H2_) | with_reducible exact H | (rw [hy465]; exact H) | exact H
                      have Ny465 := ak hy465
                      clear hy465
                      by_cases c29 : y465.length + x12_2.length < 2932031007402
                      · rw [if_pos c29] at H
                        have LMc29 := ak c29
                        clear c29
                        obtain ⟨y468, hy468⟩ : ∃ y_ : List (S24), y_ = (y465 ++ x12_2) := ⟨_, rfl⟩
                        replace H : (mummerlaw11_BindsOthers.l0 k2 l0 a1 a2 t453 t454 y461 y468 (wrap64 (x13_2 + 1))) = some r := by first | (rw [hy468]; with_reducible exact H) | (have H2_ := (Option.bind_some _ _).symm.trans H; rw [hy468]; with_reducible exact H2_) | (have H2_ := (Option.bind_some _ _).symm.trans H; with_reducible exact H2_) | with_reducible exact H | (rw [hy468]; exact H) | exact H
                        have Ny468 := ak hy468
                        clear hy468
                        have H' := ak H
                        clear H
                        have p459 : 0 ≤ (x13_2 : Int) := of_decide_eq_true (by first | (with_reducible assumption) | assumption)
                        have q459 : x13_2 < (l0.length : Int) := of_decide_eq_true (by first | (with_reducible assumption) | assumption)
                        obtain ⟨ad459, e459, hx459_0, hx459_1, hx459_2, hx459_3⟩ := at_T24 HR0.out x13_2 p459 q459
                        cases e459
                        replace hx459_0 := (HB.out.cell (World.block_lt_of_cell? w _ hx459_0)).trans hx459_0
                        replace hx459_1 := (HB.out.cell (World.block_lt_of_cell? w _ hx459_1)).trans hx459_1
                        replace hx459_2 := (HB.out.cell (World.block_lt_of_cell? w _ hx459_2)).trans hx459_2
                        replace hx459_3 := (HB.out.cell (World.block_lt_of_cell? w _ hx459_3)).trans hx459_3
                        replace p459 := eq_true p459
                        replace q459 := eq_true q459
                        have p460 : 0 ≤ (x13_2 : Int) := of_decide_eq_true (by first | (with_reducible assumption) | assumption)
                        have q460 : x13_2 < (l0.length : Int) := of_decide_eq_true (by first | (with_reducible assumption) | assumption)
                        obtain ⟨ad460, e460, hx460_0, hx460_1, hx460_2, hx460_3⟩ := at_T24 HR0.out x13_2 p460 q460
                        obtain rfl : ad459 = ad460 := (by injection e460)
                        replace hx460_0 := (HB.out.cell (World.block_lt_of_cell? w _ hx460_0)).trans hx460_0
                        replace hx460_1 := (HB.out.cell (World.block_lt_of_cell? w _ hx460_1)).trans hx460_1
                        replace hx460_2 := (HB.out.cell (World.block_lt_of_cell? w _ hx460_2)).trans hx460_2
                        replace hx460_3 := (HB.out.cell (World.block_lt_of_cell? w _ hx460_3)).trans hx460_3
                        replace p460 := eq_true p460
                        replace q460 := eq_true q460
                        go_wp2_with (first | ((with_reducible refine gate_builtin (b := .append) (xs := #[.tmp 63, .tmp 68]) rfl ?_); (try (refine gate_guard (by rfl) ?_; dsimp only)); at_builtin; refine Kd.R_append k24 (w0 := w) w.heap.size rfl (.tmp 63) (.tmp 68) 22 24 (.agg #[(.string ⟨#[]⟩), (.string ⟨#[]⟩), (.int .i64 0), (.int .i64 0)]) 48 rfl Try.underlying22 info24 rfl (by decide) (by omega) u11 x11_2 (⟨(rd_T24 l0 x13_2).f0, (rd_T24 l0 x13_2).f1, (rd_T24 l0 x13_2).f2, (rd_T24 l0 x13_2).f3⟩ : S24) [.string ((rd_T24 l0 x13_2).f0), .string ((rd_T24 l0 x13_2).f1), .int .i64 ((rd_T24 l0 x13_2).f2), .int .i64 ((rd_T24 l0 x13_2).f3)] (fun k_ => some k_ ≠ (u12 : Value).ownBlock) (fun _ => False) rfl rfl ?aP (fun _ hk => hk.elim) ?aF ?aO ?aB ?aS ?aL ?_; (case aP => exact k24_mkM _ _ _ (⟨(rd_T24 l0 x13_2).f0, (rd_T24 l0 x13_2).f1, (rd_T24 l0 x13_2).f2, (rd_T24 l0 x13_2).f3⟩ : S24)); (case aB => exact (by repeat (first | (with_reducible first | exact HB.out | apply wA | apply wN | apply wD) | exact HB.out))); (case aF => exact (fun k_ hk => Kd.fresh' (Kd.R_lt (by (with_reducible repeat (first | apply Kd.R_alloc | apply Kd.R_drewN | apply Kd.R_drew)); exact HO_12.out)) k_ hk)); (case aO => exact (by (with_reducible repeat (first | apply Kd.R_alloc | apply Kd.R_drewN | apply Kd.R_drew)); exact HO_11.out)); (case aS => exact (below_size (by repeat (first | (with_reducible first | exact HB.out | apply wA | apply wN | apply wD) | exact HB.out)))); (case aL => have := LMc28.out; omega); intro v462 w30 ho hb hg hat; rw [← Ny461.out] at ho; have n0_ := ak (Kd.R_after (ok := (fun _ => True)) (by (with_reducible repeat (first | apply Kd.R_alloc | apply Kd.R_drewN | apply Kd.R_drew)); exact Kd.R_mono HO_12.out (fun _ hk => ⟨trivial, hk⟩)) hg hat); have n1_ := ak (hb); have n2_ := ak (ho); clear HO_12; clear HB; clear HO_11; have HO_12 := n0_; have HB := n1_; have HO463 := n2_; clear n0_ n1_ n2_; clear ho hb hg hat; have p464 : 0 ≤ (x13_2 : Int) := of_decide_eq_true (by first | (with_reducible assumption) | assumption); have q464 : x13_2 < (l0.length : Int) := of_decide_eq_true (by first | (with_reducible assumption) | assumption); obtain ⟨ad464, e464, hx464_0, hx464_1, hx464_2, hx464_3⟩ := at_T24 HR0.out x13_2 p464 q464; obtain rfl : ad459 = ad464 := (by injection e464); replace hx464_0 := (HB.out.cell (World.block_lt_of_cell? w _ hx464_0)).trans hx464_0; replace hx464_1 := (HB.out.cell (World.block_lt_of_cell? w _ hx464_1)).trans hx464_1; replace hx464_2 := (HB.out.cell (World.block_lt_of_cell? w _ hx464_2)).trans hx464_2; replace hx464_3 := (HB.out.cell (World.block_lt_of_cell? w _ hx464_3)).trans hx464_3; replace p464 := eq_true p464; replace q464 := eq_true q464) | ((with_reducible refine gate_dst (N := 74) rfl ?_); (try (refine gate_guard (by rfl) ?_; dsimp only)); refine Kd.R_lit k24 _ 24 ?hg (N := 74) ?hd (xs := ([(⟨(rd_T24 l0 x13_2).f0, (rd_T24 l0 x13_2).f1, (rd_T24 l0 x13_2).f2, (rd_T24 l0 x13_2).f3⟩ : S24)] : List (S24))) (inner := [.string ((rd_T24 l0 x13_2).f0), .string ((rd_T24 l0 x13_2).f1), .int .i64 ((rd_T24 l0 x13_2).f2), .int .i64 ((rd_T24 l0 x13_2).f3)]) (ok := fun _ => True) (okp := fun _ => True) ?hr ?hp (fun _ hk => hk) trivial (Below.refl _ _) (Nat.le_refl _) (by simp) ?_; (case hd => rfl); (case hg => rfl); (case hr => first | (go_simp; done) | (go_simp; rfl)); (case hp => exact (Reps.c4 (show Kd.M k24 _ _ _ (⟨(rd_T24 l0 x13_2).f0, (rd_T24 l0 x13_2).f1, (rd_T24 l0 x13_2).f2, (rd_T24 l0 x13_2).f3⟩ : S24) [.string ((rd_T24 l0 x13_2).f0), .string ((rd_T24 l0 x13_2).f1), .int .i64 ((rd_T24 l0 x13_2).f2), .int .i64 ((rd_T24 l0 x13_2).f3)] from (k24_mkM _ _ _ (⟨(rd_T24 l0 x13_2).f0, (rd_T24 l0 x13_2).f1, (rd_T24 l0 x13_2).f2, (rd_T24 l0 x13_2).f3⟩ : S24) )) (Reps.none _ _))); intro v466 w31 ho32 hb hg_ hnew_; clear hg_ hnew_; (first | rw [← Ny465.out] at ho32 | (simp only [Int.reduceToNat] at ho32; rw [← Ny465.out] at ho32)); have n0_ := ak (Kd.R_elder' (by (with_reducible repeat (first | apply Kd.R_alloc | apply Kd.R_drewN | apply Kd.R_drew)); exact HO_12.out) (Kd.R_base ho32) hb); have n1_ := ak (Kd.R_elder' (by (with_reducible repeat (first | apply Kd.R_alloc | apply Kd.R_drewN | apply Kd.R_drew)); exact HO463.out) (Kd.R_base ho32) hb); have n2_ := ak (Kd.R_lower (Kd.R_new' (Kd.R_new' ho32 (Kd.R_lt (by (with_reducible repeat (first | apply Kd.R_alloc | apply Kd.R_drewN | apply Kd.R_drew)); exact HO_12.out))) (Kd.R_lt (by (with_reducible repeat (first | apply Kd.R_alloc | apply Kd.R_drewN | apply Kd.R_drew)); exact HO463.out))) (below_size (by repeat (first | (with_reducible first | exact HB.out | apply wA | apply wN | apply wD) | exact HB.out)))); have n3_ := ak (below_step (by repeat (first | (with_reducible first | exact HB.out | apply wA | apply wN | apply wD) | exact HB.out)) hb); clear HO_12; clear HO463; clear HB; have HO_12 := n0_; have HO463 := n1_; have HO467 := n2_; have HB := n3_; clear n0_ n1_ n2_ n3_; clear hb ho32; obtain ⟨Ao34, co34, eo34⟩ := Kd.R_slice HO_12.out; subst eo34) | ((with_reducible refine gate_builtin (b := .append) (xs := #[.tmp 74, .tmp 75]) rfl ?_); (try (refine gate_guard (by rfl) ?_; dsimp only)); at_builtin; refine Kd.R_append_rows k24 (w0 := w) w.heap.size rfl (.tmp 74) (.tmp 75) 22 24 (.agg #[(.string ⟨#[]⟩), (.string ⟨#[]⟩), (.int .i64 0), (.int .i64 0)]) 48 rfl Try.underlying22 info24 rfl (by decide) (by omega) v466 y465 x12_2 _ _ _ (fun k_ => some k_ ≠ (.slice Ao34 x12_2.length co34 : Value).ownBlock ∧ some k_ ≠ (v462 : Value).ownBlock) (fun _ => False) rfl rfl ?aO ?aR (fun _ _ h => h) (fun _ h => h.elim) ?aF ?aB ?aS ?aL ?_; (case aR => repeat (first | exact (Kd.R_reads' HO_12.out).2.2 | (with_reducible refine Kd.C_alloc ?_ _) | (with_reducible refine Kd.C_drewN ?_ _) | (with_reducible refine Kd.C_drew ?_))); (case aB => exact (by repeat (first | (with_reducible first | exact HB.out | apply wA | apply wN | apply wD) | exact HB.out))); (case aF => exact (fun k_ hk => ⟨Kd.fresh' (Kd.R_lt (by (with_reducible repeat (first | apply Kd.R_alloc | apply Kd.R_drewN | apply Kd.R_drew)); exact HO_12.out)) k_ hk, Kd.fresh' (Kd.R_lt (by (with_reducible repeat (first | apply Kd.R_alloc | apply Kd.R_drewN | apply Kd.R_drew)); exact HO463.out)) k_ hk⟩)); (case aO => exact (by (with_reducible repeat (first | apply Kd.R_alloc | apply Kd.R_drewN | apply Kd.R_drew)); exact Kd.R_mono HO467.out (fun _ hk => by first | exact ⟨hk.1.2, hk.2⟩ | (simp only [ne_eq] at hk ⊢; simp [hk])))); (case aS => exact (below_size (by repeat (first | (with_reducible first | exact HB.out | apply wA | apply wN | apply wD) | exact HB.out)))); (case aL => have := LMc29.out; omega); intro v469 w33 ho hb hg hat; rw [← Ny468.out] at ho; have n0_ := ak (Kd.R_after (ok := (fun k_ => some k_ ≠ (v462 : Value).ownBlock)) (by (with_reducible repeat (first | apply Kd.R_alloc | apply Kd.R_drewN | apply Kd.R_drew)); exact Kd.R_mono HO_12.out (fun _ hk => by first | exact ⟨hk.1.2, hk.2⟩ | (simp only [ne_eq] at hk ⊢; simp [hk]))) hg hat); have n1_ := ak (Kd.R_after (ok := (fun k_ => some k_ ≠ (.slice Ao34 x12_2.length co34 : Value).ownBlock)) (by (with_reducible repeat (first | apply Kd.R_alloc | apply Kd.R_drewN | apply Kd.R_drew)); exact HO463.out) hg hat); have n2_ := ak (hb); have n3_ := ak (ho); clear HO_12; clear HO463; clear HB; clear HO467; have HO_12 := n0_; have HO463 := n1_; have HB := n2_; have HO470 := n3_; clear n0_ n1_ n2_ n3_; clear ho hb hg hat))
                        repeat (go_quiet (first | ((with_reducible refine gate_builtin (b := .append) (xs := #[.tmp 63, .tmp 68]) rfl ?_); (try (refine gate_guard (by rfl) ?_; dsimp only)); at_builtin; refine Kd.R_append k24 (w0 := w) w.heap.size rfl (.tmp 63) (.tmp 68) 22 24 (.agg #[(.string ⟨#[]⟩), (.string ⟨#[]⟩), (.int .i64 0), (.int .i64 0)]) 48 rfl Try.underlying22 info24 rfl (by decide) (by omega) u11 x11_2 (⟨(rd_T24 l0 x13_2).f0, (rd_T24 l0 x13_2).f1, (rd_T24 l0 x13_2).f2, (rd_T24 l0 x13_2).f3⟩ : S24) [.string ((rd_T24 l0 x13_2).f0), .string ((rd_T24 l0 x13_2).f1), .int .i64 ((rd_T24 l0 x13_2).f2), .int .i64 ((rd_T24 l0 x13_2).f3)] (fun k_ => some k_ ≠ (u12 : Value).ownBlock) (fun _ => False) rfl rfl ?aP (fun _ hk => hk.elim) ?aF ?aO ?aB ?aS ?aL ?_; (case aP => exact k24_mkM _ _ _ (⟨(rd_T24 l0 x13_2).f0, (rd_T24 l0 x13_2).f1, (rd_T24 l0 x13_2).f2, (rd_T24 l0 x13_2).f3⟩ : S24)); (case aB => exact (by repeat (first | (with_reducible first | exact HB.out | apply wA | apply wN | apply wD) | exact HB.out))); (case aF => exact (fun k_ hk => Kd.fresh' (Kd.R_lt (by (with_reducible repeat (first | apply Kd.R_alloc | apply Kd.R_drewN | apply Kd.R_drew)); exact HO_12.out)) k_ hk)); (case aO => exact (by (with_reducible repeat (first | apply Kd.R_alloc | apply Kd.R_drewN | apply Kd.R_drew)); exact HO_11.out)); (case aS => exact (below_size (by repeat (first | (with_reducible first | exact HB.out | apply wA | apply wN | apply wD) | exact HB.out)))); (case aL => have := LMc28.out; omega); intro v462 w30 ho hb hg hat; rw [← Ny461.out] at ho; have n0_ := ak (Kd.R_after (ok := (fun _ => True)) (by (with_reducible repeat (first | apply Kd.R_alloc | apply Kd.R_drewN | apply Kd.R_drew)); exact Kd.R_mono HO_12.out (fun _ hk => ⟨trivial, hk⟩)) hg hat); have n1_ := ak (hb); have n2_ := ak (ho); clear HO_12; clear HB; clear HO_11; have HO_12 := n0_; have HB := n1_; have HO463 := n2_; clear n0_ n1_ n2_; clear ho hb hg hat; have p464 : 0 ≤ (x13_2 : Int) := of_decide_eq_true (by first | (with_reducible assumption) | assumption); have q464 : x13_2 < (l0.length : Int) := of_decide_eq_true (by first | (with_reducible assumption) | assumption); obtain ⟨ad464, e464, hx464_0, hx464_1, hx464_2, hx464_3⟩ := at_T24 HR0.out x13_2 p464 q464; obtain rfl : ad459 = ad464 := (by injection e464); replace hx464_0 := (HB.out.cell (World.block_lt_of_cell? w _ hx464_0)).trans hx464_0; replace hx464_1 := (HB.out.cell (World.block_lt_of_cell? w _ hx464_1)).trans hx464_1; replace hx464_2 := (HB.out.cell (World.block_lt_of_cell? w _ hx464_2)).trans hx464_2; replace hx464_3 := (HB.out.cell (World.block_lt_of_cell? w _ hx464_3)).trans hx464_3; replace p464 := eq_true p464; replace q464 := eq_true q464) | ((with_reducible refine gate_dst (N := 74) rfl ?_); (try (refine gate_guard (by rfl) ?_; dsimp only)); refine Kd.R_lit k24 _ 24 ?hg (N := 74) ?hd (xs := ([(⟨(rd_T24 l0 x13_2).f0, (rd_T24 l0 x13_2).f1, (rd_T24 l0 x13_2).f2, (rd_T24 l0 x13_2).f3⟩ : S24)] : List (S24))) (inner := [.string ((rd_T24 l0 x13_2).f0), .string ((rd_T24 l0 x13_2).f1), .int .i64 ((rd_T24 l0 x13_2).f2), .int .i64 ((rd_T24 l0 x13_2).f3)]) (ok := fun _ => True) (okp := fun _ => True) ?hr ?hp (fun _ hk => hk) trivial (Below.refl _ _) (Nat.le_refl _) (by simp) ?_; (case hd => rfl); (case hg => rfl); (case hr => first | (go_simp; done) | (go_simp; rfl)); (case hp => exact (Reps.c4 (show Kd.M k24 _ _ _ (⟨(rd_T24 l0 x13_2).f0, (rd_T24 l0 x13_2).f1, (rd_T24 l0 x13_2).f2, (rd_T24 l0 x13_2).f3⟩ : S24) [.string ((rd_T24 l0 x13_2).f0), .string ((rd_T24 l0 x13_2).f1), .int .i64 ((rd_T24 l0 x13_2).f2), .int .i64 ((rd_T24 l0 x13_2).f3)] from (k24_mkM _ _ _ (⟨(rd_T24 l0 x13_2).f0, (rd_T24 l0 x13_2).f1, (rd_T24 l0 x13_2).f2, (rd_T24 l0 x13_2).f3⟩ : S24) )) (Reps.none _ _))); intro v466 w31 ho32 hb hg_ hnew_; clear hg_ hnew_; (first | rw [← Ny465.out] at ho32 | (simp only [Int.reduceToNat] at ho32; rw [← Ny465.out] at ho32)); have n0_ := ak (Kd.R_elder' (by (with_reducible repeat (first | apply Kd.R_alloc | apply Kd.R_drewN | apply Kd.R_drew)); exact HO_12.out) (Kd.R_base ho32) hb); have n1_ := ak (Kd.R_elder' (by (with_reducible repeat (first | apply Kd.R_alloc | apply Kd.R_drewN | apply Kd.R_drew)); exact HO463.out) (Kd.R_base ho32) hb); have n2_ := ak (Kd.R_lower (Kd.R_new' (Kd.R_new' ho32 (Kd.R_lt (by (with_reducible repeat (first | apply Kd.R_alloc | apply Kd.R_drewN | apply Kd.R_drew)); exact HO_12.out))) (Kd.R_lt (by (with_reducible repeat (first | apply Kd.R_alloc | apply Kd.R_drewN | apply Kd.R_drew)); exact HO463.out))) (below_size (by repeat (first | (with_reducible first | exact HB.out | apply wA | apply wN | apply wD) | exact HB.out)))); have n3_ := ak (below_step (by repeat (first | (with_reducible first | exact HB.out | apply wA | apply wN | apply wD) | exact HB.out)) hb); clear HO_12; clear HO463; clear HB; have HO_12 := n0_; have HO463 := n1_; have HO467 := n2_; have HB := n3_; clear n0_ n1_ n2_ n3_; clear hb ho32; obtain ⟨Ao34, co34, eo34⟩ := Kd.R_slice HO_12.out; subst eo34) | ((with_reducible refine gate_builtin (b := .append) (xs := #[.tmp 74, .tmp 75]) rfl ?_); (try (refine gate_guard (by rfl) ?_; dsimp only)); at_builtin; refine Kd.R_append_rows k24 (w0 := w) w.heap.size rfl (.tmp 74) (.tmp 75) 22 24 (.agg #[(.string ⟨#[]⟩), (.string ⟨#[]⟩), (.int .i64 0), (.int .i64 0)]) 48 rfl Try.underlying22 info24 rfl (by decide) (by omega) v466 y465 x12_2 _ _ _ (fun k_ => some k_ ≠ (.slice Ao34 x12_2.length co34 : Value).ownBlock ∧ some k_ ≠ (v462 : Value).ownBlock) (fun _ => False) rfl rfl ?aO ?aR (fun _ _ h => h) (fun _ h => h.elim) ?aF ?aB ?aS ?aL ?_; (case aR => repeat (first | exact (Kd.R_reads' HO_12.out).2.2 | (with_reducible refine Kd.C_alloc ?_ _) | (with_reducible refine Kd.C_drewN ?_ _) | (with_reducible refine Kd.C_drew ?_))); (case aB => exact (by repeat (first | (with_reducible first | exact HB.out | apply wA | apply wN | apply wD) | exact HB.out))); (case aF => exact (fun k_ hk => ⟨Kd.fresh' (Kd.R_lt (by (with_reducible repeat (first | apply Kd.R_alloc | apply Kd.R_drewN | apply Kd.R_drew)); exact HO_12.out)) k_ hk, Kd.fresh' (Kd.R_lt (by (with_reducible repeat (first | apply Kd.R_alloc | apply Kd.R_drewN | apply Kd.R_drew)); exact HO463.out)) k_ hk⟩)); (case aO => exact (by (with_reducible repeat (first | apply Kd.R_alloc | apply Kd.R_drewN | apply Kd.R_drew)); exact Kd.R_mono HO467.out (fun _ hk => by first | exact ⟨hk.1.2, hk.2⟩ | (simp only [ne_eq] at hk ⊢; simp [hk])))); (case aS => exact (below_size (by repeat (first | (with_reducible first | exact HB.out | apply wA | apply wN | apply wD) | exact HB.out)))); (case aL => have := LMc29.out; omega); intro v469 w33 ho hb hg hat; rw [← Ny468.out] at ho; have n0_ := ak (Kd.R_after (ok := (fun k_ => some k_ ≠ (v462 : Value).ownBlock)) (by (with_reducible repeat (first | apply Kd.R_alloc | apply Kd.R_drewN | apply Kd.R_drew)); exact Kd.R_mono HO_12.out (fun _ hk => by first | exact ⟨hk.1.2, hk.2⟩ | (simp only [ne_eq] at hk ⊢; simp [hk]))) hg hat); have n1_ := ak (Kd.R_after (ok := (fun k_ => some k_ ≠ (.slice Ao34 x12_2.length co34 : Value).ownBlock)) (by (with_reducible repeat (first | apply Kd.R_alloc | apply Kd.R_drewN | apply Kd.R_drew)); exact HO463.out) hg hat); have n2_ := ak (hb); have n3_ := ak (ho); clear HO_12; clear HO463; clear HB; clear HO467; have HO_12 := n0_; have HO463 := n1_; have HB := n2_; have HO470 := n3_; clear n0_ n1_ n2_ n3_; clear ho hb hg hat)); try go_wp2_with (first | ((with_reducible refine gate_builtin (b := .append) (xs := #[.tmp 63, .tmp 68]) rfl ?_); (try (refine gate_guard (by rfl) ?_; dsimp only)); at_builtin; refine Kd.R_append k24 (w0 := w) w.heap.size rfl (.tmp 63) (.tmp 68) 22 24 (.agg #[(.string ⟨#[]⟩), (.string ⟨#[]⟩), (.int .i64 0), (.int .i64 0)]) 48 rfl Try.underlying22 info24 rfl (by decide) (by omega) u11 x11_2 (⟨(rd_T24 l0 x13_2).f0, (rd_T24 l0 x13_2).f1, (rd_T24 l0 x13_2).f2, (rd_T24 l0 x13_2).f3⟩ : S24) [.string ((rd_T24 l0 x13_2).f0), .string ((rd_T24 l0 x13_2).f1), .int .i64 ((rd_T24 l0 x13_2).f2), .int .i64 ((rd_T24 l0 x13_2).f3)] (fun k_ => some k_ ≠ (u12 : Value).ownBlock) (fun _ => False) rfl rfl ?aP (fun _ hk => hk.elim) ?aF ?aO ?aB ?aS ?aL ?_; (case aP => exact k24_mkM _ _ _ (⟨(rd_T24 l0 x13_2).f0, (rd_T24 l0 x13_2).f1, (rd_T24 l0 x13_2).f2, (rd_T24 l0 x13_2).f3⟩ : S24)); (case aB => exact (by repeat (first | (with_reducible first | exact HB.out | apply wA | apply wN | apply wD) | exact HB.out))); (case aF => exact (fun k_ hk => Kd.fresh' (Kd.R_lt (by (with_reducible repeat (first | apply Kd.R_alloc | apply Kd.R_drewN | apply Kd.R_drew)); exact HO_12.out)) k_ hk)); (case aO => exact (by (with_reducible repeat (first | apply Kd.R_alloc | apply Kd.R_drewN | apply Kd.R_drew)); exact HO_11.out)); (case aS => exact (below_size (by repeat (first | (with_reducible first | exact HB.out | apply wA | apply wN | apply wD) | exact HB.out)))); (case aL => have := LMc28.out; omega); intro v462 w30 ho hb hg hat; rw [← Ny461.out] at ho; have n0_ := ak (Kd.R_after (ok := (fun _ => True)) (by (with_reducible repeat (first | apply Kd.R_alloc | apply Kd.R_drewN | apply Kd.R_drew)); exact Kd.R_mono HO_12.out (fun _ hk => ⟨trivial, hk⟩)) hg hat); have n1_ := ak (hb); have n2_ := ak (ho); clear HO_12; clear HB; clear HO_11; have HO_12 := n0_; have HB := n1_; have HO463 := n2_; clear n0_ n1_ n2_; clear ho hb hg hat; have p464 : 0 ≤ (x13_2 : Int) := of_decide_eq_true (by first | (with_reducible assumption) | assumption); have q464 : x13_2 < (l0.length : Int) := of_decide_eq_true (by first | (with_reducible assumption) | assumption); obtain ⟨ad464, e464, hx464_0, hx464_1, hx464_2, hx464_3⟩ := at_T24 HR0.out x13_2 p464 q464; obtain rfl : ad459 = ad464 := (by injection e464); replace hx464_0 := (HB.out.cell (World.block_lt_of_cell? w _ hx464_0)).trans hx464_0; replace hx464_1 := (HB.out.cell (World.block_lt_of_cell? w _ hx464_1)).trans hx464_1; replace hx464_2 := (HB.out.cell (World.block_lt_of_cell? w _ hx464_2)).trans hx464_2; replace hx464_3 := (HB.out.cell (World.block_lt_of_cell? w _ hx464_3)).trans hx464_3; replace p464 := eq_true p464; replace q464 := eq_true q464) | ((with_reducible refine gate_dst (N := 74) rfl ?_); (try (refine gate_guard (by rfl) ?_; dsimp only)); refine Kd.R_lit k24 _ 24 ?hg (N := 74) ?hd (xs := ([(⟨(rd_T24 l0 x13_2).f0, (rd_T24 l0 x13_2).f1, (rd_T24 l0 x13_2).f2, (rd_T24 l0 x13_2).f3⟩ : S24)] : List (S24))) (inner := [.string ((rd_T24 l0 x13_2).f0), .string ((rd_T24 l0 x13_2).f1), .int .i64 ((rd_T24 l0 x13_2).f2), .int .i64 ((rd_T24 l0 x13_2).f3)]) (ok := fun _ => True) (okp := fun _ => True) ?hr ?hp (fun _ hk => hk) trivial (Below.refl _ _) (Nat.le_refl _) (by simp) ?_; (case hd => rfl); (case hg => rfl); (case hr => first | (go_simp; done) | (go_simp; rfl)); (case hp => exact (Reps.c4 (show Kd.M k24 _ _ _ (⟨(rd_T24 l0 x13_2).f0, (rd_T24 l0 x13_2).f1, (rd_T24 l0 x13_2).f2, (rd_T24 l0 x13_2).f3⟩ : S24) [.string ((rd_T24 l0 x13_2).f0), .string ((rd_T24 l0 x13_2).f1), .int .i64 ((rd_T24 l0 x13_2).f2), .int .i64 ((rd_T24 l0 x13_2).f3)] from (k24_mkM _ _ _ (⟨(rd_T24 l0 x13_2).f0, (rd_T24 l0 x13_2).f1, (rd_T24 l0 x13_2).f2, (rd_T24 l0 x13_2).f3⟩ : S24) )) (Reps.none _ _))); intro v466 w31 ho32 hb hg_ hnew_; clear hg_ hnew_; (first | rw [← Ny465.out] at ho32 | (simp only [Int.reduceToNat] at ho32; rw [← Ny465.out] at ho32)); have n0_ := ak (Kd.R_elder' (by (with_reducible repeat (first | apply Kd.R_alloc | apply Kd.R_drewN | apply Kd.R_drew)); exact HO_12.out) (Kd.R_base ho32) hb); have n1_ := ak (Kd.R_elder' (by (with_reducible repeat (first | apply Kd.R_alloc | apply Kd.R_drewN | apply Kd.R_drew)); exact HO463.out) (Kd.R_base ho32) hb); have n2_ := ak (Kd.R_lower (Kd.R_new' (Kd.R_new' ho32 (Kd.R_lt (by (with_reducible repeat (first | apply Kd.R_alloc | apply Kd.R_drewN | apply Kd.R_drew)); exact HO_12.out))) (Kd.R_lt (by (with_reducible repeat (first | apply Kd.R_alloc | apply Kd.R_drewN | apply Kd.R_drew)); exact HO463.out))) (below_size (by repeat (first | (with_reducible first | exact HB.out | apply wA | apply wN | apply wD) | exact HB.out)))); have n3_ := ak (below_step (by repeat (first | (with_reducible first | exact HB.out | apply wA | apply wN | apply wD) | exact HB.out)) hb); clear HO_12; clear HO463; clear HB; have HO_12 := n0_; have HO463 := n1_; have HO467 := n2_; have HB := n3_; clear n0_ n1_ n2_ n3_; clear hb ho32; obtain ⟨Ao34, co34, eo34⟩ := Kd.R_slice HO_12.out; subst eo34) | ((with_reducible refine gate_builtin (b := .append) (xs := #[.tmp 74, .tmp 75]) rfl ?_); (try (refine gate_guard (by rfl) ?_; dsimp only)); at_builtin; refine Kd.R_append_rows k24 (w0 := w) w.heap.size rfl (.tmp 74) (.tmp 75) 22 24 (.agg #[(.string ⟨#[]⟩), (.string ⟨#[]⟩), (.int .i64 0), (.int .i64 0)]) 48 rfl Try.underlying22 info24 rfl (by decide) (by omega) v466 y465 x12_2 _ _ _ (fun k_ => some k_ ≠ (.slice Ao34 x12_2.length co34 : Value).ownBlock ∧ some k_ ≠ (v462 : Value).ownBlock) (fun _ => False) rfl rfl ?aO ?aR (fun _ _ h => h) (fun _ h => h.elim) ?aF ?aB ?aS ?aL ?_; (case aR => repeat (first | exact (Kd.R_reads' HO_12.out).2.2 | (with_reducible refine Kd.C_alloc ?_ _) | (with_reducible refine Kd.C_drewN ?_ _) | (with_reducible refine Kd.C_drew ?_))); (case aB => exact (by repeat (first | (with_reducible first | exact HB.out | apply wA | apply wN | apply wD) | exact HB.out))); (case aF => exact (fun k_ hk => ⟨Kd.fresh' (Kd.R_lt (by (with_reducible repeat (first | apply Kd.R_alloc | apply Kd.R_drewN | apply Kd.R_drew)); exact HO_12.out)) k_ hk, Kd.fresh' (Kd.R_lt (by (with_reducible repeat (first | apply Kd.R_alloc | apply Kd.R_drewN | apply Kd.R_drew)); exact HO463.out)) k_ hk⟩)); (case aO => exact (by (with_reducible repeat (first | apply Kd.R_alloc | apply Kd.R_drewN | apply Kd.R_drew)); exact Kd.R_mono HO467.out (fun _ hk => by first | exact ⟨hk.1.2, hk.2⟩ | (simp only [ne_eq] at hk ⊢; simp [hk])))); (case aS => exact (below_size (by repeat (first | (with_reducible first | exact HB.out | apply wA | apply wN | apply wD) | exact HB.out)))); (case aL => have := LMc29.out; omega); intro v469 w33 ho hb hg hat; rw [← Ny468.out] at ho; have n0_ := ak (Kd.R_after (ok := (fun k_ => some k_ ≠ (v462 : Value).ownBlock)) (by (with_reducible repeat (first | apply Kd.R_alloc | apply Kd.R_drewN | apply Kd.R_drew)); exact Kd.R_mono HO_12.out (fun _ hk => by first | exact ⟨hk.1.2, hk.2⟩ | (simp only [ne_eq] at hk ⊢; simp [hk]))) hg hat); have n1_ := ak (Kd.R_after (ok := (fun k_ => some k_ ≠ (.slice Ao34 x12_2.length co34 : Value).ownBlock)) (by (with_reducible repeat (first | apply Kd.R_alloc | apply Kd.R_drewN | apply Kd.R_drew)); exact HO463.out) hg hat); have n2_ := ak (hb); have n3_ := ak (ho); clear HO_12; clear HO463; clear HB; clear HO467; have HO_12 := n0_; have HO463 := n1_; have HB := n2_; have HO470 := n3_; clear n0_ n1_ n2_ n3_; clear ho hb hg hat)))
                        go_roundg k2
                        case measure => have := HJ12.out; have := HK2.out; omega
                        case rel => exact ⟨(y461), (y468), (wrap64 (x13_2 + 1)), (by first | rfl | (simp; done) | (simp [*]; done)), H', ⟨by have := HJ12.out; have := HK2.out; omega⟩, ⟨by (with_reducible repeat (first | apply Kd.R_alloc | apply Kd.R_drewN | apply Kd.R_drew)); exact Kd.R_mono HO463.out (fun _ hk => hk.2)⟩, ⟨by (with_reducible repeat (first | apply Kd.R_alloc | apply Kd.R_drewN | apply Kd.R_drew)); exact Kd.R_mono HO470.out (fun _ hk => hk.2)⟩, ⟨by repeat (first | (with_reducible first | exact HB.out | apply wA | apply wN | apply wD) | exact HB.out)⟩⟩
                      · rw [if_neg c29] at H
                        exact absurd H (by simp)
                    · rw [if_neg c28] at H
                      exact absurd H (by simp)
                  · rw [if_neg c27] at H
                    have c27b0 : (((rd_T24 l0 x13_2).f0).toList == a1.toList) = false := beq_eq_false_iff_ne.mpr c27
                    have c27b1 : (((rd_T24 l0 x13_2).f0).toList != a1.toList) = true := bne_iff_ne.mpr c27
                    obtain ⟨y472, hy472⟩ : ∃ y_ : List (S24), y_ = (([(⟨(rd_T24 l0 x13_2).f0, (rd_T24 l0 x13_2).f1, (rd_T24 l0 x13_2).f2, (rd_T24 l0 x13_2).f3⟩ : S24)] : List (S24))) := ⟨_, rfl⟩
                    replace H : (if y472.length + x12_2.length < 2932031007402 then (mummerlaw11_BindsOthers.l0 k2 l0 a1 a2 t453 t454 x11_2 (y472 ++ x12_2) (wrap64 (x13_2 + 1))) else (none)) = some r := by first | (rw [hy472]; with_reducible exact H) | (have H2_ := (Option.bind_some _ _).symm.trans H; rw [hy472]; with_reducible exact H2_) | (have H2_ := (Option.bind_some _ _).symm.trans H; with_reducible exact H2_) | with_reducible exact H | (rw [hy472]; exact H) | exact H
                    have Ny472 := ak hy472
                    clear hy472
                    by_cases c35 : y472.length + x12_2.length < 2932031007402
                    · rw [if_pos c35] at H
                      have LMc35 := ak c35
                      clear c35
                      obtain ⟨y475, hy475⟩ : ∃ y_ : List (S24), y_ = (y472 ++ x12_2) := ⟨_, rfl⟩
                      replace H : (mummerlaw11_BindsOthers.l0 k2 l0 a1 a2 t453 t454 x11_2 y475 (wrap64 (x13_2 + 1))) = some r := by first | (rw [hy475]; with_reducible exact H) | (have H2_ := (Option.bind_some _ _).symm.trans H; rw [hy475]; with_reducible exact H2_) | (have H2_ := (Option.bind_some _ _).symm.trans H; with_reducible exact H2_) | with_reducible exact H | (rw [hy475]; exact H) | exact H
                      have Ny475 := ak hy475
                      clear hy475
                      have H' := ak H
                      clear H
                      have p459 : 0 ≤ (x13_2 : Int) := of_decide_eq_true (by first | (with_reducible assumption) | assumption)
                      have q459 : x13_2 < (l0.length : Int) := of_decide_eq_true (by first | (with_reducible assumption) | assumption)
                      obtain ⟨ad459, e459, hx459_0, hx459_1, hx459_2, hx459_3⟩ := at_T24 HR0.out x13_2 p459 q459
                      cases e459
                      replace hx459_0 := (HB.out.cell (World.block_lt_of_cell? w _ hx459_0)).trans hx459_0
                      replace hx459_1 := (HB.out.cell (World.block_lt_of_cell? w _ hx459_1)).trans hx459_1
                      replace hx459_2 := (HB.out.cell (World.block_lt_of_cell? w _ hx459_2)).trans hx459_2
                      replace hx459_3 := (HB.out.cell (World.block_lt_of_cell? w _ hx459_3)).trans hx459_3
                      replace p459 := eq_true p459
                      replace q459 := eq_true q459
                      have p471 : 0 ≤ (x13_2 : Int) := of_decide_eq_true (by first | (with_reducible assumption) | assumption)
                      have q471 : x13_2 < (l0.length : Int) := of_decide_eq_true (by first | (with_reducible assumption) | assumption)
                      obtain ⟨ad471, e471, hx471_0, hx471_1, hx471_2, hx471_3⟩ := at_T24 HR0.out x13_2 p471 q471
                      obtain rfl : ad459 = ad471 := (by injection e471)
                      replace hx471_0 := (HB.out.cell (World.block_lt_of_cell? w _ hx471_0)).trans hx471_0
                      replace hx471_1 := (HB.out.cell (World.block_lt_of_cell? w _ hx471_1)).trans hx471_1
                      replace hx471_2 := (HB.out.cell (World.block_lt_of_cell? w _ hx471_2)).trans hx471_2
                      replace hx471_3 := (HB.out.cell (World.block_lt_of_cell? w _ hx471_3)).trans hx471_3
                      replace p471 := eq_true p471
                      replace q471 := eq_true q471
                      go_wp2_with (first | ((with_reducible refine gate_dst (N := 74) rfl ?_); (try (refine gate_guard (by rfl) ?_; dsimp only)); refine Kd.R_lit k24 _ 24 ?hg (N := 74) ?hd (xs := ([(⟨(rd_T24 l0 x13_2).f0, (rd_T24 l0 x13_2).f1, (rd_T24 l0 x13_2).f2, (rd_T24 l0 x13_2).f3⟩ : S24)] : List (S24))) (inner := [.string ((rd_T24 l0 x13_2).f0), .string ((rd_T24 l0 x13_2).f1), .int .i64 ((rd_T24 l0 x13_2).f2), .int .i64 ((rd_T24 l0 x13_2).f3)]) (ok := fun _ => True) (okp := fun _ => True) ?hr ?hp (fun _ hk => hk) trivial (Below.refl _ _) (Nat.le_refl _) (by simp) ?_; (case hd => rfl); (case hg => rfl); (case hr => first | (go_simp; done) | (go_simp; rfl)); (case hp => exact (Reps.c4 (show Kd.M k24 _ _ _ (⟨(rd_T24 l0 x13_2).f0, (rd_T24 l0 x13_2).f1, (rd_T24 l0 x13_2).f2, (rd_T24 l0 x13_2).f3⟩ : S24) [.string ((rd_T24 l0 x13_2).f0), .string ((rd_T24 l0 x13_2).f1), .int .i64 ((rd_T24 l0 x13_2).f2), .int .i64 ((rd_T24 l0 x13_2).f3)] from (k24_mkM _ _ _ (⟨(rd_T24 l0 x13_2).f0, (rd_T24 l0 x13_2).f1, (rd_T24 l0 x13_2).f2, (rd_T24 l0 x13_2).f3⟩ : S24) )) (Reps.none _ _))); intro v473 w36 ho37 hb hg_ hnew_; clear hg_ hnew_; (first | rw [← Ny472.out] at ho37 | (simp only [Int.reduceToNat] at ho37; rw [← Ny472.out] at ho37)); have n0_ := ak (Kd.R_elder' (by (with_reducible repeat (first | apply Kd.R_alloc | apply Kd.R_drewN | apply Kd.R_drew)); exact HO_11.out) (Kd.R_base ho37) hb); have n1_ := ak (Kd.R_elder' (by (with_reducible repeat (first | apply Kd.R_alloc | apply Kd.R_drewN | apply Kd.R_drew)); exact HO_12.out) (Kd.R_base ho37) hb); have n2_ := ak (Kd.R_lower (Kd.R_new' (Kd.R_new' ho37 (Kd.R_lt (by (with_reducible repeat (first | apply Kd.R_alloc | apply Kd.R_drewN | apply Kd.R_drew)); exact HO_11.out))) (Kd.R_lt (by (with_reducible repeat (first | apply Kd.R_alloc | apply Kd.R_drewN | apply Kd.R_drew)); exact HO_12.out))) (below_size (by repeat (first | (with_reducible first | exact HB.out | apply wA | apply wN | apply wD) | exact HB.out)))); have n3_ := ak (below_step (by repeat (first | (with_reducible first | exact HB.out | apply wA | apply wN | apply wD) | exact HB.out)) hb); clear HO_11; clear HO_12; clear HB; have HO_11 := n0_; have HO_12 := n1_; have HO474 := n2_; have HB := n3_; clear n0_ n1_ n2_ n3_; clear hb ho37; obtain ⟨Ao39, co39, eo39⟩ := Kd.R_slice HO_12.out; subst eo39) | ((with_reducible refine gate_builtin (b := .append) (xs := #[.tmp 74, .tmp 75]) rfl ?_); (try (refine gate_guard (by rfl) ?_; dsimp only)); at_builtin; refine Kd.R_append_rows k24 (w0 := w) w.heap.size rfl (.tmp 74) (.tmp 75) 22 24 (.agg #[(.string ⟨#[]⟩), (.string ⟨#[]⟩), (.int .i64 0), (.int .i64 0)]) 48 rfl Try.underlying22 info24 rfl (by decide) (by omega) v473 y472 x12_2 _ _ _ (fun k_ => some k_ ≠ (u11 : Value).ownBlock ∧ some k_ ≠ (.slice Ao39 x12_2.length co39 : Value).ownBlock) (fun _ => False) rfl rfl ?aO ?aR (fun _ _ h => h) (fun _ h => h.elim) ?aF ?aB ?aS ?aL ?_; (case aR => repeat (first | exact (Kd.R_reads' HO_12.out).2.2 | (with_reducible refine Kd.C_alloc ?_ _) | (with_reducible refine Kd.C_drewN ?_ _) | (with_reducible refine Kd.C_drew ?_))); (case aB => exact (by repeat (first | (with_reducible first | exact HB.out | apply wA | apply wN | apply wD) | exact HB.out))); (case aF => exact (fun k_ hk => ⟨Kd.fresh' (Kd.R_lt (by (with_reducible repeat (first | apply Kd.R_alloc | apply Kd.R_drewN | apply Kd.R_drew)); exact HO_11.out)) k_ hk, Kd.fresh' (Kd.R_lt (by (with_reducible repeat (first | apply Kd.R_alloc | apply Kd.R_drewN | apply Kd.R_drew)); exact HO_12.out)) k_ hk⟩)); (case aO => exact (by (with_reducible repeat (first | apply Kd.R_alloc | apply Kd.R_drewN | apply Kd.R_drew)); exact Kd.R_mono HO474.out (fun _ hk => by first | exact ⟨hk.1.2, hk.2⟩ | (simp only [ne_eq] at hk ⊢; simp [hk])))); (case aS => exact (below_size (by repeat (first | (with_reducible first | exact HB.out | apply wA | apply wN | apply wD) | exact HB.out)))); (case aL => have := LMc35.out; omega); intro v476 w38 ho hb hg hat; rw [← Ny475.out] at ho; have n0_ := ak (Kd.R_after (ok := (fun k_ => some k_ ≠ (.slice Ao39 x12_2.length co39 : Value).ownBlock)) (by (with_reducible repeat (first | apply Kd.R_alloc | apply Kd.R_drewN | apply Kd.R_drew)); exact HO_11.out) hg hat); have n1_ := ak (Kd.R_after (ok := (fun k_ => some k_ ≠ (u11 : Value).ownBlock)) (by (with_reducible repeat (first | apply Kd.R_alloc | apply Kd.R_drewN | apply Kd.R_drew)); exact HO_12.out) hg hat); have n2_ := ak (hb); have n3_ := ak (ho); clear HO_11; clear HO_12; clear HB; clear HO474; have HO_11 := n0_; have HO_12 := n1_; have HB := n2_; have HO477 := n3_; clear n0_ n1_ n2_ n3_; clear ho hb hg hat))
                      repeat (go_quiet (first | ((with_reducible refine gate_dst (N := 74) rfl ?_); (try (refine gate_guard (by rfl) ?_; dsimp only)); refine Kd.R_lit k24 _ 24 ?hg (N := 74) ?hd (xs := ([(⟨(rd_T24 l0 x13_2).f0, (rd_T24 l0 x13_2).f1, (rd_T24 l0 x13_2).f2, (rd_T24 l0 x13_2).f3⟩ : S24)] : List (S24))) (inner := [.string ((rd_T24 l0 x13_2).f0), .string ((rd_T24 l0 x13_2).f1), .int .i64 ((rd_T24 l0 x13_2).f2), .int .i64 ((rd_T24 l0 x13_2).f3)]) (ok := fun _ => True) (okp := fun _ => True) ?hr ?hp (fun _ hk => hk) trivial (Below.refl _ _) (Nat.le_refl _) (by simp) ?_; (case hd => rfl); (case hg => rfl); (case hr => first | (go_simp; done) | (go_simp; rfl)); (case hp => exact (Reps.c4 (show Kd.M k24 _ _ _ (⟨(rd_T24 l0 x13_2).f0, (rd_T24 l0 x13_2).f1, (rd_T24 l0 x13_2).f2, (rd_T24 l0 x13_2).f3⟩ : S24) [.string ((rd_T24 l0 x13_2).f0), .string ((rd_T24 l0 x13_2).f1), .int .i64 ((rd_T24 l0 x13_2).f2), .int .i64 ((rd_T24 l0 x13_2).f3)] from (k24_mkM _ _ _ (⟨(rd_T24 l0 x13_2).f0, (rd_T24 l0 x13_2).f1, (rd_T24 l0 x13_2).f2, (rd_T24 l0 x13_2).f3⟩ : S24) )) (Reps.none _ _))); intro v473 w36 ho37 hb hg_ hnew_; clear hg_ hnew_; (first | rw [← Ny472.out] at ho37 | (simp only [Int.reduceToNat] at ho37; rw [← Ny472.out] at ho37)); have n0_ := ak (Kd.R_elder' (by (with_reducible repeat (first | apply Kd.R_alloc | apply Kd.R_drewN | apply Kd.R_drew)); exact HO_11.out) (Kd.R_base ho37) hb); have n1_ := ak (Kd.R_elder' (by (with_reducible repeat (first | apply Kd.R_alloc | apply Kd.R_drewN | apply Kd.R_drew)); exact HO_12.out) (Kd.R_base ho37) hb); have n2_ := ak (Kd.R_lower (Kd.R_new' (Kd.R_new' ho37 (Kd.R_lt (by (with_reducible repeat (first | apply Kd.R_alloc | apply Kd.R_drewN | apply Kd.R_drew)); exact HO_11.out))) (Kd.R_lt (by (with_reducible repeat (first | apply Kd.R_alloc | apply Kd.R_drewN | apply Kd.R_drew)); exact HO_12.out))) (below_size (by repeat (first | (with_reducible first | exact HB.out | apply wA | apply wN | apply wD) | exact HB.out)))); have n3_ := ak (below_step (by repeat (first | (with_reducible first | exact HB.out | apply wA | apply wN | apply wD) | exact HB.out)) hb); clear HO_11; clear HO_12; clear HB; have HO_11 := n0_; have HO_12 := n1_; have HO474 := n2_; have HB := n3_; clear n0_ n1_ n2_ n3_; clear hb ho37; obtain ⟨Ao39, co39, eo39⟩ := Kd.R_slice HO_12.out; subst eo39) | ((with_reducible refine gate_builtin (b := .append) (xs := #[.tmp 74, .tmp 75]) rfl ?_); (try (refine gate_guard (by rfl) ?_; dsimp only)); at_builtin; refine Kd.R_append_rows k24 (w0 := w) w.heap.size rfl (.tmp 74) (.tmp 75) 22 24 (.agg #[(.string ⟨#[]⟩), (.string ⟨#[]⟩), (.int .i64 0), (.int .i64 0)]) 48 rfl Try.underlying22 info24 rfl (by decide) (by omega) v473 y472 x12_2 _ _ _ (fun k_ => some k_ ≠ (u11 : Value).ownBlock ∧ some k_ ≠ (.slice Ao39 x12_2.length co39 : Value).ownBlock) (fun _ => False) rfl rfl ?aO ?aR (fun _ _ h => h) (fun _ h => h.elim) ?aF ?aB ?aS ?aL ?_; (case aR => repeat (first | exact (Kd.R_reads' HO_12.out).2.2 | (with_reducible refine Kd.C_alloc ?_ _) | (with_reducible refine Kd.C_drewN ?_ _) | (with_reducible refine Kd.C_drew ?_))); (case aB => exact (by repeat (first | (with_reducible first | exact HB.out | apply wA | apply wN | apply wD) | exact HB.out))); (case aF => exact (fun k_ hk => ⟨Kd.fresh' (Kd.R_lt (by (with_reducible repeat (first | apply Kd.R_alloc | apply Kd.R_drewN | apply Kd.R_drew)); exact HO_11.out)) k_ hk, Kd.fresh' (Kd.R_lt (by (with_reducible repeat (first | apply Kd.R_alloc | apply Kd.R_drewN | apply Kd.R_drew)); exact HO_12.out)) k_ hk⟩)); (case aO => exact (by (with_reducible repeat (first | apply Kd.R_alloc | apply Kd.R_drewN | apply Kd.R_drew)); exact Kd.R_mono HO474.out (fun _ hk => by first | exact ⟨hk.1.2, hk.2⟩ | (simp only [ne_eq] at hk ⊢; simp [hk])))); (case aS => exact (below_size (by repeat (first | (with_reducible first | exact HB.out | apply wA | apply wN | apply wD) | exact HB.out)))); (case aL => have := LMc35.out; omega); intro v476 w38 ho hb hg hat; rw [← Ny475.out] at ho; have n0_ := ak (Kd.R_after (ok := (fun k_ => some k_ ≠ (.slice Ao39 x12_2.length co39 : Value).ownBlock)) (by (with_reducible repeat (first | apply Kd.R_alloc | apply Kd.R_drewN | apply Kd.R_drew)); exact HO_11.out) hg hat); have n1_ := ak (Kd.R_after (ok := (fun k_ => some k_ ≠ (u11 : Value).ownBlock)) (by (with_reducible repeat (first | apply Kd.R_alloc | apply Kd.R_drewN | apply Kd.R_drew)); exact HO_12.out) hg hat); have n2_ := ak (hb); have n3_ := ak (ho); clear HO_11; clear HO_12; clear HB; clear HO474; have HO_11 := n0_; have HO_12 := n1_; have HB := n2_; have HO477 := n3_; clear n0_ n1_ n2_ n3_; clear ho hb hg hat)); try go_wp2_with (first | ((with_reducible refine gate_dst (N := 74) rfl ?_); (try (refine gate_guard (by rfl) ?_; dsimp only)); refine Kd.R_lit k24 _ 24 ?hg (N := 74) ?hd (xs := ([(⟨(rd_T24 l0 x13_2).f0, (rd_T24 l0 x13_2).f1, (rd_T24 l0 x13_2).f2, (rd_T24 l0 x13_2).f3⟩ : S24)] : List (S24))) (inner := [.string ((rd_T24 l0 x13_2).f0), .string ((rd_T24 l0 x13_2).f1), .int .i64 ((rd_T24 l0 x13_2).f2), .int .i64 ((rd_T24 l0 x13_2).f3)]) (ok := fun _ => True) (okp := fun _ => True) ?hr ?hp (fun _ hk => hk) trivial (Below.refl _ _) (Nat.le_refl _) (by simp) ?_; (case hd => rfl); (case hg => rfl); (case hr => first | (go_simp; done) | (go_simp; rfl)); (case hp => exact (Reps.c4 (show Kd.M k24 _ _ _ (⟨(rd_T24 l0 x13_2).f0, (rd_T24 l0 x13_2).f1, (rd_T24 l0 x13_2).f2, (rd_T24 l0 x13_2).f3⟩ : S24) [.string ((rd_T24 l0 x13_2).f0), .string ((rd_T24 l0 x13_2).f1), .int .i64 ((rd_T24 l0 x13_2).f2), .int .i64 ((rd_T24 l0 x13_2).f3)] from (k24_mkM _ _ _ (⟨(rd_T24 l0 x13_2).f0, (rd_T24 l0 x13_2).f1, (rd_T24 l0 x13_2).f2, (rd_T24 l0 x13_2).f3⟩ : S24) )) (Reps.none _ _))); intro v473 w36 ho37 hb hg_ hnew_; clear hg_ hnew_; (first | rw [← Ny472.out] at ho37 | (simp only [Int.reduceToNat] at ho37; rw [← Ny472.out] at ho37)); have n0_ := ak (Kd.R_elder' (by (with_reducible repeat (first | apply Kd.R_alloc | apply Kd.R_drewN | apply Kd.R_drew)); exact HO_11.out) (Kd.R_base ho37) hb); have n1_ := ak (Kd.R_elder' (by (with_reducible repeat (first | apply Kd.R_alloc | apply Kd.R_drewN | apply Kd.R_drew)); exact HO_12.out) (Kd.R_base ho37) hb); have n2_ := ak (Kd.R_lower (Kd.R_new' (Kd.R_new' ho37 (Kd.R_lt (by (with_reducible repeat (first | apply Kd.R_alloc | apply Kd.R_drewN | apply Kd.R_drew)); exact HO_11.out))) (Kd.R_lt (by (with_reducible repeat (first | apply Kd.R_alloc | apply Kd.R_drewN | apply Kd.R_drew)); exact HO_12.out))) (below_size (by repeat (first | (with_reducible first | exact HB.out | apply wA | apply wN | apply wD) | exact HB.out)))); have n3_ := ak (below_step (by repeat (first | (with_reducible first | exact HB.out | apply wA | apply wN | apply wD) | exact HB.out)) hb); clear HO_11; clear HO_12; clear HB; have HO_11 := n0_; have HO_12 := n1_; have HO474 := n2_; have HB := n3_; clear n0_ n1_ n2_ n3_; clear hb ho37; obtain ⟨Ao39, co39, eo39⟩ := Kd.R_slice HO_12.out; subst eo39) | ((with_reducible refine gate_builtin (b := .append) (xs := #[.tmp 74, .tmp 75]) rfl ?_); (try (refine gate_guard (by rfl) ?_; dsimp only)); at_builtin; refine Kd.R_append_rows k24 (w0 := w) w.heap.size rfl (.tmp 74) (.tmp 75) 22 24 (.agg #[(.string ⟨#[]⟩), (.string ⟨#[]⟩), (.int .i64 0), (.int .i64 0)]) 48 rfl Try.underlying22 info24 rfl (by decide) (by omega) v473 y472 x12_2 _ _ _ (fun k_ => some k_ ≠ (u11 : Value).ownBlock ∧ some k_ ≠ (.slice Ao39 x12_2.length co39 : Value).ownBlock) (fun _ => False) rfl rfl ?aO ?aR (fun _ _ h => h) (fun _ h => h.elim) ?aF ?aB ?aS ?aL ?_; (case aR => repeat (first | exact (Kd.R_reads' HO_12.out).2.2 | (with_reducible refine Kd.C_alloc ?_ _) | (with_reducible refine Kd.C_drewN ?_ _) | (with_reducible refine Kd.C_drew ?_))); (case aB => exact (by repeat (first | (with_reducible first | exact HB.out | apply wA | apply wN | apply wD) | exact HB.out))); (case aF => exact (fun k_ hk => ⟨Kd.fresh' (Kd.R_lt (by (with_reducible repeat (first | apply Kd.R_alloc | apply Kd.R_drewN | apply Kd.R_drew)); exact HO_11.out)) k_ hk, Kd.fresh' (Kd.R_lt (by (with_reducible repeat (first | apply Kd.R_alloc | apply Kd.R_drewN | apply Kd.R_drew)); exact HO_12.out)) k_ hk⟩)); (case aO => exact (by (with_reducible repeat (first | apply Kd.R_alloc | apply Kd.R_drewN | apply Kd.R_drew)); exact Kd.R_mono HO474.out (fun _ hk => by first | exact ⟨hk.1.2, hk.2⟩ | (simp only [ne_eq] at hk ⊢; simp [hk])))); (case aS => exact (below_size (by repeat (first | (with_reducible first | exact HB.out | apply wA | apply wN | apply wD) | exact HB.out)))); (case aL => have := LMc35.out; omega); intro v476 w38 ho hb hg hat; rw [← Ny475.out] at ho; have n0_ := ak (Kd.R_after (ok := (fun k_ => some k_ ≠ (.slice Ao39 x12_2.length co39 : Value).ownBlock)) (by (with_reducible repeat (first | apply Kd.R_alloc | apply Kd.R_drewN | apply Kd.R_drew)); exact HO_11.out) hg hat); have n1_ := ak (Kd.R_after (ok := (fun k_ => some k_ ≠ (u11 : Value).ownBlock)) (by (with_reducible repeat (first | apply Kd.R_alloc | apply Kd.R_drewN | apply Kd.R_drew)); exact HO_12.out) hg hat); have n2_ := ak (hb); have n3_ := ak (ho); clear HO_11; clear HO_12; clear HB; clear HO474; have HO_11 := n0_; have HO_12 := n1_; have HB := n2_; have HO477 := n3_; clear n0_ n1_ n2_ n3_; clear ho hb hg hat)))
                      go_roundg k2
                      case measure => have := HJ12.out; have := HK2.out; omega
                      case rel => exact ⟨(x11_2), (y475), (wrap64 (x13_2 + 1)), (by first | rfl | (simp; done) | (simp [*]; done)), H', ⟨by have := HJ12.out; have := HK2.out; omega⟩, ⟨by (with_reducible repeat (first | apply Kd.R_alloc | apply Kd.R_drewN | apply Kd.R_drew)); exact Kd.R_mono HO_11.out (fun _ hk => hk.2)⟩, ⟨by (with_reducible repeat (first | apply Kd.R_alloc | apply Kd.R_drewN | apply Kd.R_drew)); exact Kd.R_mono HO477.out (fun _ hk => by first | exact hk.1 | exact hk)⟩, ⟨by repeat (first | (with_reducible first | exact HB.out | apply wA | apply wN | apply wD) | exact HB.out)⟩⟩
                    · rw [if_neg c35] at H
                      exact absurd H (by simp)
                · rw [if_neg c26] at H
                  exact absurd H (by simp)
              · rw [if_neg c25] at H
                have c25b0 : decide (x13_2 < (l0.length : Int)) = false := decide_eq_false c25
                clear c25
                replace H := Option.bind_eq_some_iff.mp H
                obtain ⟨⟨t478, t479⟩, A400, H⟩ := H
                replace H : ((binds_Resolve.f k2 x12_2 a1 a2).bind fun bt480 => (if t479 = t454 then (if bt480.2 = t454 then (if t454 = 0 then (if t453 < 0 then (some false) else (if t453 ≥ (l0.length : Int) then (some false) else (if t478 < 0 then (some false) else (if t478 ≥ (x11_2.length : Int) then (some false) else (if bt480.1 < 0 then (some false) else (if bt480.1 ≥ (x12_2.length : Int) then (some false) else (if 0 ≤ t478 then (if t478 < (x11_2.length : Int) then (if 0 ≤ t453 then (if t453 < (l0.length : Int) then (if (!((((rd_T24 x11_2 t478).f0).toList) == (((rd_T24 l0 t453).f0).toList)) || (!((((rd_T24 x11_2 t478).f1).toList) == (((rd_T24 l0 t453).f1).toList)) || (!(((rd_T24 x11_2 t478).f2) == ((rd_T24 l0 t453).f2)) || (!(((rd_T24 x11_2 t478).f3) == ((rd_T24 l0 t453).f3)))))) = true then (some false) else (if 0 ≤ bt480.1 then (if bt480.1 < (x12_2.length : Int) then (mummerlaw11_BindsOthers.j2 k2 l0 a1 a2 (!((((rd_T24 x12_2 bt480.1).f0).toList) == (((rd_T24 l0 t453).f0).toList)) || (!((((rd_T24 x12_2 bt480.1).f1).toList) == (((rd_T24 l0 t453).f1).toList)) || (!(((rd_T24 x12_2 bt480.1).f2) == ((rd_T24 l0 t453).f2)) || (!(((rd_T24 x12_2 bt480.1).f3) == ((rd_T24 l0 t453).f3))))))) else (none)) else (none))) else (none)) else (none)) else (none)) else (none)))))))) else (mummerlaw11_BindsOthers.j2 k2 l0 a1 a2 false)) else (some false)) else (some false))) = some r := H
                have A40 := ak A400
                clear A400
                replace H := Option.bind_eq_some_iff.mp H
                obtain ⟨⟨t480, t481⟩, A410, H⟩ := H
                replace H : (if t479 = t454 then (if t481 = t454 then (if t454 = 0 then (if t453 < 0 then (some false) else (if t453 ≥ (l0.length : Int) then (some false) else (if t478 < 0 then (some false) else (if t478 ≥ (x11_2.length : Int) then (some false) else (if t480 < 0 then (some false) else (if t480 ≥ (x12_2.length : Int) then (some false) else (if 0 ≤ t478 then (if t478 < (x11_2.length : Int) then (if 0 ≤ t453 then (if t453 < (l0.length : Int) then (if (!((((rd_T24 x11_2 t478).f0).toList) == (((rd_T24 l0 t453).f0).toList)) || (!((((rd_T24 x11_2 t478).f1).toList) == (((rd_T24 l0 t453).f1).toList)) || (!(((rd_T24 x11_2 t478).f2) == ((rd_T24 l0 t453).f2)) || (!(((rd_T24 x11_2 t478).f3) == ((rd_T24 l0 t453).f3)))))) = true then (some false) else (if 0 ≤ t480 then (if t480 < (x12_2.length : Int) then (mummerlaw11_BindsOthers.j2 k2 l0 a1 a2 (!((((rd_T24 x12_2 t480).f0).toList) == (((rd_T24 l0 t453).f0).toList)) || (!((((rd_T24 x12_2 t480).f1).toList) == (((rd_T24 l0 t453).f1).toList)) || (!(((rd_T24 x12_2 t480).f2) == ((rd_T24 l0 t453).f2)) || (!(((rd_T24 x12_2 t480).f3) == ((rd_T24 l0 t453).f3))))))) else (none)) else (none))) else (none)) else (none)) else (none)) else (none)))))))) else (mummerlaw11_BindsOthers.j2 k2 l0 a1 a2 false)) else (some false)) else (some false)) = some r := H
                have A41 := ak A410
                clear A410
                by_cases c42 : t479 = t454
                · rw [if_pos c42] at H
                  have c42b0 : (t479 == t454) = true := beq_iff_eq.mpr c42
                  have c42b1 : (t479 != t454) = false := bne_eq_false_iff_eq.mpr c42
                  clear c42
                  by_cases c43 : t481 = t454
                  · rw [if_pos c43] at H
                    have c43b0 : (t481 == t454) = true := beq_iff_eq.mpr c43
                    have c43b1 : (t481 != t454) = false := bne_eq_false_iff_eq.mpr c43
                    clear c43
                    have HC44 := ak H
                    clear H
                    obtain ⟨Ao45, co45, eo45⟩ := Kd.R_slice HO_11.out
                    subst eo45
                    go_upto_region 18 with (first | (go_at_call 19; (with_reducible refine (binds_Resolve.calls k2 _ _ x11_2 a1 a2 t478 t479 _ ?side1 ?side2 A40.out).mono ?_); (case side1 => repeat (first | exact (Kd.R_reads' HO_11.out).2.2 | (with_reducible refine Kd.C_alloc ?_ _) | (with_reducible refine Kd.C_drewN ?_ _) | (with_reducible refine Kd.C_drew ?_))); (case side2 => exact (Kd.R_reads' HO_11.out).2.1); rintro e w46 ⟨rfl, hb⟩; have n0_ := ak (Kd.R_below (by (with_reducible repeat (first | apply Kd.R_alloc | apply Kd.R_drewN | apply Kd.R_drew)); exact HO_11.out) hb); have n1_ := ak (Kd.R_below (by (with_reducible repeat (first | apply Kd.R_alloc | apply Kd.R_drewN | apply Kd.R_drew)); exact HO_12.out) hb); have n2_ := ak (below_step (by repeat (first | (with_reducible first | exact HB.out | apply wA | apply wN | apply wD) | exact HB.out)) hb); clear HO_11; clear HO_12; clear HB; have HO_11 := n0_; have HO_12 := n1_; have HB := n2_; clear n0_ n1_ n2_; (try clear hb); (try clear hb2); (try clear hk); (try clear hi); obtain ⟨Ao47, co47, eo47⟩ := Kd.R_slice HO_12.out; subst eo47) | (go_at_call 19; (with_reducible refine (binds_Resolve.calls k2 _ _ x12_2 a1 a2 t480 t481 _ ?side1 ?side2 A41.out).mono ?_); (case side1 => repeat (first | exact (Kd.R_reads' HO_12.out).2.2 | (with_reducible refine Kd.C_alloc ?_ _) | (with_reducible refine Kd.C_drewN ?_ _) | (with_reducible refine Kd.C_drew ?_))); (case side2 => exact (Kd.R_reads' HO_12.out).2.1); rintro e w48 ⟨rfl, hb⟩; have n0_ := ak (Kd.R_below (by (with_reducible repeat (first | apply Kd.R_alloc | apply Kd.R_drewN | apply Kd.R_drew)); exact HO_11.out) hb); have n1_ := ak (Kd.R_below (by (with_reducible repeat (first | apply Kd.R_alloc | apply Kd.R_drewN | apply Kd.R_drew)); exact HO_12.out) hb); have n2_ := ak (below_step (by repeat (first | (with_reducible first | exact HB.out | apply wA | apply wN | apply wD) | exact HB.out)) hb); clear HO_11; clear HO_12; clear HB; have HO_11 := n0_; have HO_12 := n1_; have HB := n2_; clear n0_ n1_ n2_; (try clear hb); (try clear hb2); (try clear hk); (try clear hi)))
                    repeat (go_quiet (first | (go_at_call 19; (with_reducible refine (binds_Resolve.calls k2 _ _ x11_2 a1 a2 t478 t479 _ ?side1 ?side2 A40.out).mono ?_); (case side1 => repeat (first | exact (Kd.R_reads' HO_11.out).2.2 | (with_reducible refine Kd.C_alloc ?_ _) | (with_reducible refine Kd.C_drewN ?_ _) | (with_reducible refine Kd.C_drew ?_))); (case side2 => exact (Kd.R_reads' HO_11.out).2.1); rintro e w46 ⟨rfl, hb⟩; have n0_ := ak (Kd.R_below (by (with_reducible repeat (first | apply Kd.R_alloc | apply Kd.R_drewN | apply Kd.R_drew)); exact HO_11.out) hb); have n1_ := ak (Kd.R_below (by (with_reducible repeat (first | apply Kd.R_alloc | apply Kd.R_drewN | apply Kd.R_drew)); exact HO_12.out) hb); have n2_ := ak (below_step (by repeat (first | (with_reducible first | exact HB.out | apply wA | apply wN | apply wD) | exact HB.out)) hb); clear HO_11; clear HO_12; clear HB; have HO_11 := n0_; have HO_12 := n1_; have HB := n2_; clear n0_ n1_ n2_; (try clear hb); (try clear hb2); (try clear hk); (try clear hi); obtain ⟨Ao47, co47, eo47⟩ := Kd.R_slice HO_12.out; subst eo47) | (go_at_call 19; (with_reducible refine (binds_Resolve.calls k2 _ _ x12_2 a1 a2 t480 t481 _ ?side1 ?side2 A41.out).mono ?_); (case side1 => repeat (first | exact (Kd.R_reads' HO_12.out).2.2 | (with_reducible refine Kd.C_alloc ?_ _) | (with_reducible refine Kd.C_drewN ?_ _) | (with_reducible refine Kd.C_drew ?_))); (case side2 => exact (Kd.R_reads' HO_12.out).2.1); rintro e w48 ⟨rfl, hb⟩; have n0_ := ak (Kd.R_below (by (with_reducible repeat (first | apply Kd.R_alloc | apply Kd.R_drewN | apply Kd.R_drew)); exact HO_11.out) hb); have n1_ := ak (Kd.R_below (by (with_reducible repeat (first | apply Kd.R_alloc | apply Kd.R_drewN | apply Kd.R_drew)); exact HO_12.out) hb); have n2_ := ak (below_step (by repeat (first | (with_reducible first | exact HB.out | apply wA | apply wN | apply wD) | exact HB.out)) hb); clear HO_11; clear HO_12; clear HB; have HO_11 := n0_; have HO_12 := n1_; have HB := n2_; clear n0_ n1_ n2_; (try clear hb); (try clear hb2); (try clear hk); (try clear hi))); go_upto_region 18 with (first | (go_at_call 19; (with_reducible refine (binds_Resolve.calls k2 _ _ x11_2 a1 a2 t478 t479 _ ?side1 ?side2 A40.out).mono ?_); (case side1 => repeat (first | exact (Kd.R_reads' HO_11.out).2.2 | (with_reducible refine Kd.C_alloc ?_ _) | (with_reducible refine Kd.C_drewN ?_ _) | (with_reducible refine Kd.C_drew ?_))); (case side2 => exact (Kd.R_reads' HO_11.out).2.1); rintro e w46 ⟨rfl, hb⟩; have n0_ := ak (Kd.R_below (by (with_reducible repeat (first | apply Kd.R_alloc | apply Kd.R_drewN | apply Kd.R_drew)); exact HO_11.out) hb); have n1_ := ak (Kd.R_below (by (with_reducible repeat (first | apply Kd.R_alloc | apply Kd.R_drewN | apply Kd.R_drew)); exact HO_12.out) hb); have n2_ := ak (below_step (by repeat (first | (with_reducible first | exact HB.out | apply wA | apply wN | apply wD) | exact HB.out)) hb); clear HO_11; clear HO_12; clear HB; have HO_11 := n0_; have HO_12 := n1_; have HB := n2_; clear n0_ n1_ n2_; (try clear hb); (try clear hb2); (try clear hk); (try clear hi); obtain ⟨Ao47, co47, eo47⟩ := Kd.R_slice HO_12.out; subst eo47) | (go_at_call 19; (with_reducible refine (binds_Resolve.calls k2 _ _ x12_2 a1 a2 t480 t481 _ ?side1 ?side2 A41.out).mono ?_); (case side1 => repeat (first | exact (Kd.R_reads' HO_12.out).2.2 | (with_reducible refine Kd.C_alloc ?_ _) | (with_reducible refine Kd.C_drewN ?_ _) | (with_reducible refine Kd.C_drew ?_))); (case side2 => exact (Kd.R_reads' HO_12.out).2.1); rintro e w48 ⟨rfl, hb⟩; have n0_ := ak (Kd.R_below (by (with_reducible repeat (first | apply Kd.R_alloc | apply Kd.R_drewN | apply Kd.R_drew)); exact HO_11.out) hb); have n1_ := ak (Kd.R_below (by (with_reducible repeat (first | apply Kd.R_alloc | apply Kd.R_drewN | apply Kd.R_drew)); exact HO_12.out) hb); have n2_ := ak (below_step (by repeat (first | (with_reducible first | exact HB.out | apply wA | apply wN | apply wD) | exact HB.out)) hb); clear HO_11; clear HO_12; clear HB; have HO_11 := n0_; have HO_12 := n1_; have HB := n2_; clear n0_ n1_ n2_; (try clear hb); (try clear hb2); (try clear hk); (try clear hi))))
                    (try simp only [Act.put, List.setIfInBounds_toArray, List.set_cons_zero, List.set_cons_succ])
                    go_cut [152] (fun v152 wc => ∃ (kq : Nat) (x152_43 : Bool), v152 = .bool x152_43 ∧ Aside0 (mummerlaw11_BindsOthers.j2 kq l0 a1 a2 x152_43 = some r) ∧ Aside0 (kq ≤ k2) ∧ Aside0 (Below w.heap.size w wc))
                    case first =>
                      have H := HC44.out
                      clear HC44
                      by_cases c49 : t454 = 0
                      · rw [if_pos c49] at H
                        have c49b0 : (t454 == 0) = true := beq_iff_eq.mpr c49
                        have c49b1 : (t454 != 0) = false := bne_eq_false_iff_eq.mpr c49
                        clear c49
                        (first | rw [c49b0] | (simp only [i64_w, i32_w]; rw [c49b0]) | skip)
                        by_cases c50 : t453 < 0
                        · rw [if_pos c50] at H
                          have c50b0 : decide (t453 < 0) = true := decide_eq_true c50
                          clear c50
                          exact absurd ((Option.some.inj H).trans hrt.out) (by decide)
                        · rw [if_neg c50] at H
                          have c50b0 : decide (t453 < 0) = false := decide_eq_false c50
                          clear c50
                          by_cases c51 : t453 ≥ (l0.length : Int)
                          · rw [if_pos c51] at H
                            have c51b0 : decide ((l0.length : Int) ≤ t453) = true := decide_eq_true c51
                            clear c51
                            exact absurd ((Option.some.inj H).trans hrt.out) (by decide)
                          · rw [if_neg c51] at H
                            have c51b0 : decide ((l0.length : Int) ≤ t453) = false := decide_eq_false c51
                            clear c51
                            by_cases c52 : t478 < 0
                            · rw [if_pos c52] at H
                              have c52b0 : decide (t478 < 0) = true := decide_eq_true c52
                              clear c52
                              exact absurd ((Option.some.inj H).trans hrt.out) (by decide)
                            · rw [if_neg c52] at H
                              have c52b0 : decide (t478 < 0) = false := decide_eq_false c52
                              clear c52
                              by_cases c53 : t478 ≥ (x11_2.length : Int)
                              · rw [if_pos c53] at H
                                have c53b0 : decide ((x11_2.length : Int) ≤ t478) = true := decide_eq_true c53
                                clear c53
                                exact absurd ((Option.some.inj H).trans hrt.out) (by decide)
                              · rw [if_neg c53] at H
                                have c53b0 : decide ((x11_2.length : Int) ≤ t478) = false := decide_eq_false c53
                                clear c53
                                by_cases c54 : t480 < 0
                                · rw [if_pos c54] at H
                                  have c54b0 : decide (t480 < 0) = true := decide_eq_true c54
                                  clear c54
                                  exact absurd ((Option.some.inj H).trans hrt.out) (by decide)
                                · rw [if_neg c54] at H
                                  have c54b0 : decide (t480 < 0) = false := decide_eq_false c54
                                  clear c54
                                  by_cases c55 : t480 ≥ (x12_2.length : Int)
                                  · rw [if_pos c55] at H
                                    have c55b0 : decide ((x12_2.length : Int) ≤ t480) = true := decide_eq_true c55
                                    clear c55
                                    exact absurd ((Option.some.inj H).trans hrt.out) (by decide)
                                  · rw [if_neg c55] at H
                                    have c55b0 : decide ((x12_2.length : Int) ≤ t480) = false := decide_eq_false c55
                                    clear c55
                                    by_cases c56 : 0 ≤ t478
                                    · rw [if_pos c56] at H
                                      have c56b0 : decide (0 ≤ t478) = true := decide_eq_true c56
                                      clear c56
                                      by_cases c57 : t478 < (x11_2.length : Int)
                                      · rw [if_pos c57] at H
                                        have c57b0 : decide (t478 < (x11_2.length : Int)) = true := decide_eq_true c57
                                        clear c57
                                        by_cases c58 : 0 ≤ t453
                                        · rw [if_pos c58] at H
                                          have c58b0 : decide (0 ≤ t453) = true := decide_eq_true c58
                                          clear c58
                                          by_cases c59 : t453 < (l0.length : Int)
                                          · rw [if_pos c59] at H
                                            have c59b0 : decide (t453 < (l0.length : Int)) = true := decide_eq_true c59
                                            clear c59
                                            by_cases c60 : (!((((rd_T24 x11_2 t478).f0).toList) == (((rd_T24 l0 t453).f0).toList)) || (!((((rd_T24 x11_2 t478).f1).toList) == (((rd_T24 l0 t453).f1).toList)) || (!(((rd_T24 x11_2 t478).f2) == ((rd_T24 l0 t453).f2)) || (!(((rd_T24 x11_2 t478).f3) == ((rd_T24 l0 t453).f3)))))) = true
                                            · rw [if_pos c60] at H
                                              have c60b0 : (!((((rd_T24 x11_2 t478).f0).toList) == (((rd_T24 l0 t453).f0).toList)) || (!((((rd_T24 x11_2 t478).f1).toList) == (((rd_T24 l0 t453).f1).toList)) || (!(((rd_T24 x11_2 t478).f2) == ((rd_T24 l0 t453).f2)) || (!(((rd_T24 x11_2 t478).f3) == ((rd_T24 l0 t453).f3)))))) = true := c60
                                              clear c60
                                              exact absurd ((Option.some.inj H).trans hrt.out) (by decide)
                                            · rw [if_neg c60] at H
                                              have c60b0 : (!((((rd_T24 x11_2 t478).f0).toList) == (((rd_T24 l0 t453).f0).toList)) || (!((((rd_T24 x11_2 t478).f1).toList) == (((rd_T24 l0 t453).f1).toList)) || (!(((rd_T24 x11_2 t478).f2) == ((rd_T24 l0 t453).f2)) || (!(((rd_T24 x11_2 t478).f3) == ((rd_T24 l0 t453).f3)))))) = false := by simpa using c60
                                              clear c60
                                              by_cases c61 : 0 ≤ t480
                                              · rw [if_pos c61] at H
                                                have c61b0 : decide (0 ≤ t480) = true := decide_eq_true c61
                                                clear c61
                                                by_cases c62 : t480 < (x12_2.length : Int)
                                                · rw [if_pos c62] at H
                                                  have c62b0 : decide (t480 < (x12_2.length : Int)) = true := decide_eq_true c62
                                                  clear c62
                                                  have H' := ak H
                                                  clear H
                                                  have p482 : 0 ≤ (t478 : Int) := of_decide_eq_true (by first | (with_reducible assumption) | assumption)
                                                  have q482 : t478 < (x11_2.length : Int) := of_decide_eq_true (by first | (with_reducible assumption) | assumption)
                                                  obtain ⟨ad482, e482, hx482_0, hx482_1, hx482_2, hx482_3⟩ := at_T24 (Kd.R_reads' HO_11.out).2.2 t478 p482 q482
                                                  cases e482
                                                  replace p482 := eq_true p482
                                                  replace q482 := eq_true q482
                                                  have p483 : 0 ≤ (t453 : Int) := of_decide_eq_true (by first | (with_reducible assumption) | assumption)
                                                  have q483 : t453 < (l0.length : Int) := of_decide_eq_true (by first | (with_reducible assumption) | assumption)
                                                  obtain ⟨ad483, e483, hx483_0, hx483_1, hx483_2, hx483_3⟩ := at_T24 HR0.out t453 p483 q483
                                                  cases e483
                                                  replace hx483_0 := (HB.out.cell (World.block_lt_of_cell? w _ hx483_0)).trans hx483_0
                                                  replace hx483_1 := (HB.out.cell (World.block_lt_of_cell? w _ hx483_1)).trans hx483_1
                                                  replace hx483_2 := (HB.out.cell (World.block_lt_of_cell? w _ hx483_2)).trans hx483_2
                                                  replace hx483_3 := (HB.out.cell (World.block_lt_of_cell? w _ hx483_3)).trans hx483_3
                                                  replace p483 := eq_true p483
                                                  replace q483 := eq_true q483
                                                  have p484 : 0 ≤ (t480 : Int) := of_decide_eq_true (by first | (with_reducible assumption) | assumption)
                                                  have q484 : t480 < (x12_2.length : Int) := of_decide_eq_true (by first | (with_reducible assumption) | assumption)
                                                  obtain ⟨ad484, e484, hx484_0, hx484_1, hx484_2, hx484_3⟩ := at_T24 (Kd.R_reads' HO_12.out).2.2 t480 p484 q484
                                                  cases e484
                                                  replace p484 := eq_true p484
                                                  replace q484 := eq_true q484
                                                  have p485 : 0 ≤ (t453 : Int) := of_decide_eq_true (by first | (with_reducible assumption) | assumption)
                                                  have q485 : t453 < (l0.length : Int) := of_decide_eq_true (by first | (with_reducible assumption) | assumption)
                                                  obtain ⟨ad485, e485, hx485_0, hx485_1, hx485_2, hx485_3⟩ := at_T24 HR0.out t453 p485 q485
                                                  obtain rfl : ad483 = ad485 := (by injection e485)
                                                  replace hx485_0 := (HB.out.cell (World.block_lt_of_cell? w _ hx485_0)).trans hx485_0
                                                  replace hx485_1 := (HB.out.cell (World.block_lt_of_cell? w _ hx485_1)).trans hx485_1
                                                  replace hx485_2 := (HB.out.cell (World.block_lt_of_cell? w _ hx485_2)).trans hx485_2
                                                  replace hx485_3 := (HB.out.cell (World.block_lt_of_cell? w _ hx485_3)).trans hx485_3
                                                  replace p485 := eq_true p485
                                                  replace q485 := eq_true q485
                                                  go_wp2
                                                  repeat (go_quiet (fail); try go_wp2)
                                                  go_meet
                                                  case rel => exact ⟨_, ((!((((rd_T24 x12_2 t480).f0).toList) == (((rd_T24 l0 t453).f0).toList)) || (!((((rd_T24 x12_2 t480).f1).toList) == (((rd_T24 l0 t453).f1).toList)) || (!(((rd_T24 x12_2 t480).f2) == ((rd_T24 l0 t453).f2)) || (!(((rd_T24 x12_2 t480).f3) == ((rd_T24 l0 t453).f3))))))), (by first | rfl | (simp; done) | (simp [*]; done)), H', ⟨by have := HJ12.out; have := HK2.out; first | omega | exact Nat.le_refl _⟩, ⟨by repeat (first | (with_reducible first | exact HB.out | apply wA | apply wN | apply wD) | exact HB.out)⟩⟩
                                                · rw [if_neg c62] at H
                                                  exact absurd H (by simp)
                                              · rw [if_neg c61] at H
                                                exact absurd H (by simp)
                                          · rw [if_neg c59] at H
                                            exact absurd H (by simp)
                                        · rw [if_neg c58] at H
                                          exact absurd H (by simp)
                                      · rw [if_neg c57] at H
                                        exact absurd H (by simp)
                                    · rw [if_neg c56] at H
                                      exact absurd H (by simp)
                      · rw [if_neg c49] at H
                        have c49b0 : (t454 == 0) = false := beq_eq_false_iff_ne.mpr c49
                        have c49b1 : (t454 != 0) = true := bne_iff_ne.mpr c49
                        (first | rw [c49b0] | (simp only [i64_w, i32_w]; rw [c49b0]) | skip)
                        have H' := ak H
                        clear H
                        go_wp2
                        repeat (go_quiet (fail); try go_wp2)
                        go_meet
                        case rel => exact ⟨_, (false), (by first | rfl | (simp; done) | (simp [*]; done)), H', ⟨by have := HJ12.out; have := HK2.out; first | omega | exact Nat.le_refl _⟩, ⟨by repeat (first | (with_reducible first | exact HB.out | apply wA | apply wN | apply wD) | exact HB.out)⟩⟩
                    case rest =>
                      clear HC44
                      try clear c1
                      try clear c2
                      try clear p2
                      try clear c3
                      try clear c4
                      try clear p4
                      try clear q4
                      try clear hx4
                      try clear c5
                      try clear c6
                      try clear p6
                      try clear c7
                      try clear c19
                      try clear c19b0
                      try clear c19b1
                      try clear c21
                      try clear c22
                      try clear c22b0
                      try clear c22b1
                      try clear c25
                      try clear c25b0
                      try clear c26
                      try clear c26b0
                      try clear c27
                      try clear c27b0
                      try clear c27b1
                      try clear c28
                      try clear c29
                      try clear c35
                      try clear c42
                      try clear c42b0
                      try clear c42b1
                      try clear c43
                      try clear c43b0
                      try clear c43b1
                      try clear p45
                      try clear q45
                      try clear hx45
                      try clear p46
                      try clear q46
                      try clear hx46
                      try clear p47
                      try clear q47
                      try clear hx47
                      try clear p48
                      try clear q48
                      try clear hx48
                      try clear c49
                      try clear c49b0
                      try clear c49b1
                      try clear c50
                      try clear c50b0
                      try clear c51
                      try clear c51b0
                      try clear c52
                      try clear c52b0
                      try clear c53
                      try clear c53b0
                      try clear c54
                      try clear c54b0
                      try clear c55
                      try clear c55b0
                      try clear c56
                      try clear c56b0
                      try clear c57
                      try clear c57b0
                      try clear c58
                      try clear c58b0
                      try clear c59
                      try clear c59b0
                      try clear c60
                      try clear c60b0
                      try clear c61
                      try clear c61b0
                      try clear c62
                      try clear c62b0
                      try clear hx459_0
                      try clear hx459_1
                      try clear hx459_2
                      try clear hx459_3
                      try clear hx460_0
                      try clear hx460_1
                      try clear hx460_2
                      try clear hx460_3
                      try clear hx464_0
                      try clear hx464_1
                      try clear hx464_2
                      try clear hx464_3
                      try clear hx471_0
                      try clear hx471_1
                      try clear hx471_2
                      try clear hx471_3
                      try clear hx482_0
                      try clear hx482_1
                      try clear hx482_2
                      try clear hx482_3
                      try clear hx483_0
                      try clear hx483_1
                      try clear hx483_2
                      try clear hx483_3
                      try clear hx484_0
                      try clear hx484_1
                      try clear hx484_2
                      try clear hx484_3
                      try clear hx485_0
                      try clear hx485_1
                      try clear hx485_2
                      try clear hx485_3
                      try clear p2
                      try clear p459
                      try clear p460
                      try clear p464
                      try clear p471
                      try clear p482
                      try clear p483
                      try clear p484
                      try clear p485
                      try clear q459
                      try clear q460
                      try clear q464
                      try clear q471
                      try clear q482
                      try clear q483
                      try clear q484
                      try clear q485
                      obtain ⟨kq, x152_43, rfl, HA, HJ43, HB⟩ := hcut
                      cases kq with
                      | zero => exact absurd HA.out (by simp [mummerlaw11_BindsOthers.j2])
                      | succ kj43 =>
                        have H := HA.out
                        clear HA
                        simp only [mummerlaw11_BindsOthers.j2] at H
                        by_cases c63 : x152_43 = true
                        · subst c63
                          have H1 : (some false) = some r := by rw [if_pos rfl] at H; exact H
                          clear H
                          have H := H1
                          clear H1
                          exact absurd ((Option.some.inj H).trans hrt.out) (by decide)
                        · replace c63 := Bool.eq_false_iff.mpr c63
                          subst c63
                          have H1 : ((binds_Add.f l0 a1 a2 1 0).bind fun bt486 => (if bt486.2 = 0 then ((binds_Resolve.f kj43 bt486.1 a1 a2).bind fun bt490 => (if bt490.1 = (l0.length : Int) then (if bt490.2 = 0 then (if (bt486.1.length : Int) = (wrap64 ((l0.length : Int) + 1)) then ((mummerlaw11_awake.f kj43).bind fun t492 => (some t492)) else (some false)) else (some false)) else (some false))) else ((mummerlaw11_awake.f kj43).bind fun t493 => (some t493)))) = some r := by rw [if_neg (show ¬ (false = true) by decide)] at H; exact H
                          clear H
                          have H := H1
                          clear H1
                          replace H := Option.bind_eq_some_iff.mp H
                          obtain ⟨⟨t486, t489⟩, A640, H⟩ := H
                          replace H : (if t489 = 0 then ((binds_Resolve.f kj43 t486 a1 a2).bind fun bt490 => (if bt490.1 = (l0.length : Int) then (if bt490.2 = 0 then (if (t486.length : Int) = (wrap64 ((l0.length : Int) + 1)) then ((mummerlaw11_awake.f kj43).bind fun t492 => (some t492)) else (some false)) else (some false)) else (some false))) else ((mummerlaw11_awake.f kj43).bind fun t493 => (some t493))) = some r := H
                          have A64 := ak A640
                          clear A640
                          by_cases c65 : t489 = 0
                          · rw [if_pos c65] at H
                            have c65b0 : (t489 == 0) = true := beq_iff_eq.mpr c65
                            have c65b1 : (t489 != 0) = false := bne_eq_false_iff_eq.mpr c65
                            clear c65
                            replace H := Option.bind_eq_some_iff.mp H
                            obtain ⟨⟨t490, t491⟩, A660, H⟩ := H
                            replace H : (if t490 = (l0.length : Int) then (if t491 = 0 then (if (t486.length : Int) = (wrap64 ((l0.length : Int) + 1)) then ((mummerlaw11_awake.f kj43).bind fun t492 => (some t492)) else (some false)) else (some false)) else (some false)) = some r := H
                            have A66 := ak A660
                            clear A660
                            by_cases c67 : t490 = (l0.length : Int)
                            · rw [if_pos c67] at H
                              have c67b0 : (t490 == (l0.length : Int)) = true := beq_iff_eq.mpr c67
                              have c67b1 : (t490 != (l0.length : Int)) = false := bne_eq_false_iff_eq.mpr c67
                              clear c67
                              by_cases c68 : t491 = 0
                              · rw [if_pos c68] at H
                                have c68b0 : (t491 == 0) = true := beq_iff_eq.mpr c68
                                have c68b1 : (t491 != 0) = false := bne_eq_false_iff_eq.mpr c68
                                clear c68
                                by_cases c69 : (t486.length : Int) = (wrap64 ((l0.length : Int) + 1))
                                · rw [if_pos c69] at H
                                  have c69b0 : ((t486.length : Int) == (wrap64 ((l0.length : Int) + 1))) = true := beq_iff_eq.mpr c69
                                  have c69b1 : ((t486.length : Int) != (wrap64 ((l0.length : Int) + 1))) = false := bne_eq_false_iff_eq.mpr c69
                                  clear c69
                                  replace H := Option.bind_eq_some_iff.mp H
                                  obtain ⟨t492, A700, H⟩ := H
                                  replace H : (some t492) = some r := H
                                  have A70 := ak A700
                                  clear A700
                                  obtain rfl := Option.some.inj H
                                  go_wp2_with (first | (go_at_call 14; (with_reducible refine (binds_Add.calls _ _ l0 a1 a2 1 0 t486 t489 _ ?side1 ?side2 A64.out).mono ?_); (case side1 => repeat (first | exact (Kd.C_below HR0.out HB.out) | (with_reducible refine Kd.C_alloc ?_ _) | (with_reducible refine Kd.C_drewN ?_ _) | (with_reducible refine Kd.C_drew ?_))); (case side2 => exact HC0.out); rintro e w71 ⟨v487, rfl, ho0, hb⟩; have n0_ := ak (Kd.R_lower ho0 (below_size (by repeat (first | (with_reducible first | exact HB.out | apply wA | apply wN | apply wD) | exact HB.out)))); have n1_ := ak (below_step (by repeat (first | (with_reducible first | exact HB.out | apply wA | apply wN | apply wD) | exact HB.out)) hb); clear HB; have HO488 := n0_; have HB := n1_; clear n0_ n1_; (try clear hb); (try clear hb2); (try clear hk); (try clear hi); (try clear ho0); obtain ⟨Ao72, co72, eo72⟩ := Kd.R_slice HO488.out; subst eo72) | (go_at_call 19; (with_reducible refine (binds_Resolve.calls kj43 _ _ t486 a1 a2 t490 t491 _ ?side1 ?side2 A66.out).mono ?_); (case side1 => repeat (first | exact (Kd.R_reads' HO488.out).2.2 | (with_reducible refine Kd.C_alloc ?_ _) | (with_reducible refine Kd.C_drewN ?_ _) | (with_reducible refine Kd.C_drew ?_))); (case side2 => exact (Kd.R_reads' HO488.out).2.1); rintro e w73 ⟨rfl, hb⟩; have n0_ := ak (Kd.R_below (by (with_reducible repeat (first | apply Kd.R_alloc | apply Kd.R_drewN | apply Kd.R_drew)); exact HO488.out) hb); have n1_ := ak (below_step (by repeat (first | (with_reducible first | exact HB.out | apply wA | apply wN | apply wD) | exact HB.out)) hb); clear HO488; clear HB; have HO488 := n0_; have HB := n1_; clear n0_ n1_; (try clear hb); (try clear hb2); (try clear hk); (try clear hi)) | (go_at_call 11; (with_reducible refine (mummerlaw11_awake.calls kj43  t492 _ hrt A70.out).mono ?_); rintro e w74 ⟨rfl, hb⟩; have n0_ := ak (Kd.R_below (by (with_reducible repeat (first | apply Kd.R_alloc | apply Kd.R_drewN | apply Kd.R_drew)); exact HO488.out) hb); have n1_ := ak (below_step (by repeat (first | (with_reducible first | exact HB.out | apply wA | apply wN | apply wD) | exact HB.out)) hb); clear HO488; clear HB; have HO488 := n0_; have HB := n1_; clear n0_ n1_; (try clear hb); (try clear hb2); (try clear hk); (try clear hi)))
                                  repeat (go_quiet (first | (go_at_call 14; (with_reducible refine (binds_Add.calls _ _ l0 a1 a2 1 0 t486 t489 _ ?side1 ?side2 A64.out).mono ?_); (case side1 => repeat (first | exact (Kd.C_below HR0.out HB.out) | (with_reducible refine Kd.C_alloc ?_ _) | (with_reducible refine Kd.C_drewN ?_ _) | (with_reducible refine Kd.C_drew ?_))); (case side2 => exact HC0.out); rintro e w71 ⟨v487, rfl, ho0, hb⟩; have n0_ := ak (Kd.R_lower ho0 (below_size (by repeat (first | (with_reducible first | exact HB.out | apply wA | apply wN | apply wD) | exact HB.out)))); have n1_ := ak (below_step (by repeat (first | (with_reducible first | exact HB.out | apply wA | apply wN | apply wD) | exact HB.out)) hb); clear HB; have HO488 := n0_; have HB := n1_; clear n0_ n1_; (try clear hb); (try clear hb2); (try clear hk); (try clear hi); (try clear ho0); obtain ⟨Ao72, co72, eo72⟩ := Kd.R_slice HO488.out; subst eo72) | (go_at_call 19; (with_reducible refine (binds_Resolve.calls kj43 _ _ t486 a1 a2 t490 t491 _ ?side1 ?side2 A66.out).mono ?_); (case side1 => repeat (first | exact (Kd.R_reads' HO488.out).2.2 | (with_reducible refine Kd.C_alloc ?_ _) | (with_reducible refine Kd.C_drewN ?_ _) | (with_reducible refine Kd.C_drew ?_))); (case side2 => exact (Kd.R_reads' HO488.out).2.1); rintro e w73 ⟨rfl, hb⟩; have n0_ := ak (Kd.R_below (by (with_reducible repeat (first | apply Kd.R_alloc | apply Kd.R_drewN | apply Kd.R_drew)); exact HO488.out) hb); have n1_ := ak (below_step (by repeat (first | (with_reducible first | exact HB.out | apply wA | apply wN | apply wD) | exact HB.out)) hb); clear HO488; clear HB; have HO488 := n0_; have HB := n1_; clear n0_ n1_; (try clear hb); (try clear hb2); (try clear hk); (try clear hi)) | (go_at_call 11; (with_reducible refine (mummerlaw11_awake.calls kj43  t492 _ hrt A70.out).mono ?_); rintro e w74 ⟨rfl, hb⟩; have n0_ := ak (Kd.R_below (by (with_reducible repeat (first | apply Kd.R_alloc | apply Kd.R_drewN | apply Kd.R_drew)); exact HO488.out) hb); have n1_ := ak (below_step (by repeat (first | (with_reducible first | exact HB.out | apply wA | apply wN | apply wD) | exact HB.out)) hb); clear HO488; clear HB; have HO488 := n0_; have HB := n1_; clear n0_ n1_; (try clear hb); (try clear hb2); (try clear hk); (try clear hi))); try go_wp2_with (first | (go_at_call 14; (with_reducible refine (binds_Add.calls _ _ l0 a1 a2 1 0 t486 t489 _ ?side1 ?side2 A64.out).mono ?_); (case side1 => repeat (first | exact (Kd.C_below HR0.out HB.out) | (with_reducible refine Kd.C_alloc ?_ _) | (with_reducible refine Kd.C_drewN ?_ _) | (with_reducible refine Kd.C_drew ?_))); (case side2 => exact HC0.out); rintro e w71 ⟨v487, rfl, ho0, hb⟩; have n0_ := ak (Kd.R_lower ho0 (below_size (by repeat (first | (with_reducible first | exact HB.out | apply wA | apply wN | apply wD) | exact HB.out)))); have n1_ := ak (below_step (by repeat (first | (with_reducible first | exact HB.out | apply wA | apply wN | apply wD) | exact HB.out)) hb); clear HB; have HO488 := n0_; have HB := n1_; clear n0_ n1_; (try clear hb); (try clear hb2); (try clear hk); (try clear hi); (try clear ho0); obtain ⟨Ao72, co72, eo72⟩ := Kd.R_slice HO488.out; subst eo72) | (go_at_call 19; (with_reducible refine (binds_Resolve.calls kj43 _ _ t486 a1 a2 t490 t491 _ ?side1 ?side2 A66.out).mono ?_); (case side1 => repeat (first | exact (Kd.R_reads' HO488.out).2.2 | (with_reducible refine Kd.C_alloc ?_ _) | (with_reducible refine Kd.C_drewN ?_ _) | (with_reducible refine Kd.C_drew ?_))); (case side2 => exact (Kd.R_reads' HO488.out).2.1); rintro e w73 ⟨rfl, hb⟩; have n0_ := ak (Kd.R_below (by (with_reducible repeat (first | apply Kd.R_alloc | apply Kd.R_drewN | apply Kd.R_drew)); exact HO488.out) hb); have n1_ := ak (below_step (by repeat (first | (with_reducible first | exact HB.out | apply wA | apply wN | apply wD) | exact HB.out)) hb); clear HO488; clear HB; have HO488 := n0_; have HB := n1_; clear n0_ n1_; (try clear hb); (try clear hb2); (try clear hk); (try clear hi)) | (go_at_call 11; (with_reducible refine (mummerlaw11_awake.calls kj43  t492 _ hrt A70.out).mono ?_); rintro e w74 ⟨rfl, hb⟩; have n0_ := ak (Kd.R_below (by (with_reducible repeat (first | apply Kd.R_alloc | apply Kd.R_drewN | apply Kd.R_drew)); exact HO488.out) hb); have n1_ := ak (below_step (by repeat (first | (with_reducible first | exact HB.out | apply wA | apply wN | apply wD) | exact HB.out)) hb); clear HO488; clear HB; have HO488 := n0_; have HB := n1_; clear n0_ n1_; (try clear hb); (try clear hb2); (try clear hk); (try clear hi))))
                                  go_ret
                                  exact ⟨by first | rfl | (simp [errW_none, errW_some] <;> rfl) | (simp [*, errW_none, errW_some] <;> rfl), by repeat (first | (with_reducible first | exact HB.out | apply wA | apply wN | apply wD) | exact HB.out)⟩
                                · rw [if_neg c69] at H
                                  have c69b0 : ((t486.length : Int) == (wrap64 ((l0.length : Int) + 1))) = false := beq_eq_false_iff_ne.mpr c69
                                  have c69b1 : ((t486.length : Int) != (wrap64 ((l0.length : Int) + 1))) = true := bne_iff_ne.mpr c69
                                  exact absurd ((Option.some.inj H).trans hrt.out) (by decide)
                              · rw [if_neg c68] at H
                                have c68b0 : (t491 == 0) = false := beq_eq_false_iff_ne.mpr c68
                                have c68b1 : (t491 != 0) = true := bne_iff_ne.mpr c68
                                exact absurd ((Option.some.inj H).trans hrt.out) (by decide)
                            · rw [if_neg c67] at H
                              have c67b0 : (t490 == (l0.length : Int)) = false := beq_eq_false_iff_ne.mpr c67
                              have c67b1 : (t490 != (l0.length : Int)) = true := bne_iff_ne.mpr c67
                              exact absurd ((Option.some.inj H).trans hrt.out) (by decide)
                          · rw [if_neg c65] at H
                            have c65b0 : (t489 == 0) = false := beq_eq_false_iff_ne.mpr c65
                            have c65b1 : (t489 != 0) = true := bne_iff_ne.mpr c65
                            replace H := Option.bind_eq_some_iff.mp H
                            obtain ⟨t493, A750, H⟩ := H
                            replace H : (some t493) = some r := H
                            have A75 := ak A750
                            clear A750
                            obtain rfl := Option.some.inj H
                            go_wp2_with (first | (go_at_call 14; (with_reducible refine (binds_Add.calls _ _ l0 a1 a2 1 0 t486 t489 _ ?side1 ?side2 A64.out).mono ?_); (case side1 => repeat (first | exact (Kd.C_below HR0.out HB.out) | (with_reducible refine Kd.C_alloc ?_ _) | (with_reducible refine Kd.C_drewN ?_ _) | (with_reducible refine Kd.C_drew ?_))); (case side2 => exact HC0.out); rintro e w76 ⟨v487, rfl, ho0, hb⟩; have n0_ := ak (Kd.R_lower ho0 (below_size (by repeat (first | (with_reducible first | exact HB.out | apply wA | apply wN | apply wD) | exact HB.out)))); have n1_ := ak (below_step (by repeat (first | (with_reducible first | exact HB.out | apply wA | apply wN | apply wD) | exact HB.out)) hb); clear HB; have HO488 := n0_; have HB := n1_; clear n0_ n1_; (try clear hb); (try clear hb2); (try clear hk); (try clear hi); (try clear ho0)) | (go_at_call 11; (with_reducible refine (mummerlaw11_awake.calls kj43  t493 _ hrt A75.out).mono ?_); rintro e w77 ⟨rfl, hb⟩; have n0_ := ak (Kd.R_below (by (with_reducible repeat (first | apply Kd.R_alloc | apply Kd.R_drewN | apply Kd.R_drew)); exact HO488.out) hb); have n1_ := ak (below_step (by repeat (first | (with_reducible first | exact HB.out | apply wA | apply wN | apply wD) | exact HB.out)) hb); clear HO488; clear HB; have HO488 := n0_; have HB := n1_; clear n0_ n1_; (try clear hb); (try clear hb2); (try clear hk); (try clear hi)))
                            repeat (go_quiet (first | (go_at_call 14; (with_reducible refine (binds_Add.calls _ _ l0 a1 a2 1 0 t486 t489 _ ?side1 ?side2 A64.out).mono ?_); (case side1 => repeat (first | exact (Kd.C_below HR0.out HB.out) | (with_reducible refine Kd.C_alloc ?_ _) | (with_reducible refine Kd.C_drewN ?_ _) | (with_reducible refine Kd.C_drew ?_))); (case side2 => exact HC0.out); rintro e w76 ⟨v487, rfl, ho0, hb⟩; have n0_ := ak (Kd.R_lower ho0 (below_size (by repeat (first | (with_reducible first | exact HB.out | apply wA | apply wN | apply wD) | exact HB.out)))); have n1_ := ak (below_step (by repeat (first | (with_reducible first | exact HB.out | apply wA | apply wN | apply wD) | exact HB.out)) hb); clear HB; have HO488 := n0_; have HB := n1_; clear n0_ n1_; (try clear hb); (try clear hb2); (try clear hk); (try clear hi); (try clear ho0)) | (go_at_call 11; (with_reducible refine (mummerlaw11_awake.calls kj43  t493 _ hrt A75.out).mono ?_); rintro e w77 ⟨rfl, hb⟩; have n0_ := ak (Kd.R_below (by (with_reducible repeat (first | apply Kd.R_alloc | apply Kd.R_drewN | apply Kd.R_drew)); exact HO488.out) hb); have n1_ := ak (below_step (by repeat (first | (with_reducible first | exact HB.out | apply wA | apply wN | apply wD) | exact HB.out)) hb); clear HO488; clear HB; have HO488 := n0_; have HB := n1_; clear n0_ n1_; (try clear hb); (try clear hb2); (try clear hk); (try clear hi))); try go_wp2_with (first | (go_at_call 14; (with_reducible refine (binds_Add.calls _ _ l0 a1 a2 1 0 t486 t489 _ ?side1 ?side2 A64.out).mono ?_); (case side1 => repeat (first | exact (Kd.C_below HR0.out HB.out) | (with_reducible refine Kd.C_alloc ?_ _) | (with_reducible refine Kd.C_drewN ?_ _) | (with_reducible refine Kd.C_drew ?_))); (case side2 => exact HC0.out); rintro e w76 ⟨v487, rfl, ho0, hb⟩; have n0_ := ak (Kd.R_lower ho0 (below_size (by repeat (first | (with_reducible first | exact HB.out | apply wA | apply wN | apply wD) | exact HB.out)))); have n1_ := ak (below_step (by repeat (first | (with_reducible first | exact HB.out | apply wA | apply wN | apply wD) | exact HB.out)) hb); clear HB; have HO488 := n0_; have HB := n1_; clear n0_ n1_; (try clear hb); (try clear hb2); (try clear hk); (try clear hi); (try clear ho0)) | (go_at_call 11; (with_reducible refine (mummerlaw11_awake.calls kj43  t493 _ hrt A75.out).mono ?_); rintro e w77 ⟨rfl, hb⟩; have n0_ := ak (Kd.R_below (by (with_reducible repeat (first | apply Kd.R_alloc | apply Kd.R_drewN | apply Kd.R_drew)); exact HO488.out) hb); have n1_ := ak (below_step (by repeat (first | (with_reducible first | exact HB.out | apply wA | apply wN | apply wD) | exact HB.out)) hb); clear HO488; clear HB; have HO488 := n0_; have HB := n1_; clear n0_ n1_; (try clear hb); (try clear hb2); (try clear hk); (try clear hi))))
                            go_ret
                            exact ⟨by first | rfl | (simp [errW_none, errW_some] <;> rfl) | (simp [*, errW_none, errW_some] <;> rfl), by repeat (first | (with_reducible first | exact HB.out | apply wA | apply wN | apply wD) | exact HB.out)⟩
                  · rw [if_neg c43] at H
                    have c43b0 : (t481 == t454) = false := beq_eq_false_iff_ne.mpr c43
                    have c43b1 : (t481 != t454) = true := bne_iff_ne.mpr c43
                    exact absurd ((Option.some.inj H).trans hrt.out) (by decide)
                · rw [if_neg c42] at H
                  have c42b0 : (t479 == t454) = false := beq_eq_false_iff_ne.mpr c42
                  have c42b1 : (t479 != t454) = true := bne_iff_ne.mpr c42
                  exact absurd ((Option.some.inj H).trans hrt.out) (by decide)

end Go.Proofs.Ytpjcahjpjeiicaa.P
