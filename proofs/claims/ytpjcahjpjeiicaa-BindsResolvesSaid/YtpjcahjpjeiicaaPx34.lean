-- Written by wip/tools/myprint.py of this session over the kit's print; Lean checks it.
import Derived.Test.YtpjcahjpjeiicaaPx0
import Derived.Test.YtpjcahjpjeiicaaPx2
import Derived.Test.YtpjcahjpjeiicaaPx10
import Derived.Test.YtpjcahjpjeiicaaPx12
import Derived.Test.YtpjcahjpjeiicaaPx13
import Derived.Test.YtpjcahjpjeiicaaPx18
import Derived.Test.YtpjcahjpjeiicaaPx32
import Derived.Test.YtpjcahjpjeiicaaPx33
namespace Go.Proofs.Ytpjcahjpjeiicaa.P
open Go.RowKit Go.Proofs.YtpjcahjpjeiicaaW.PrintWords Go.Proofs.YtpjcahjpjeiicaaW.PrintLast Go.Proofs.YtpjcahjpjeiicaaW.PrintMore
attribute [local go_sem] max2_int min2_int max_two min_two max_three min_three max_four min_four   -- for this text's walks alone
set_option linter.unusedVariables false
set_option linter.unusedSimpArgs false

/-! ### mummerlaw11_BindsResolves: function 4 -/
def mummerlaw11_BindsResolves.f (k : Nat) (l0 : List (S24)) (a1 : ByteArray) (a2 : ByteArray) : Option (Bool) := (mummerlaw11_far.f k l0 (([a1, a2] : List ByteArray))).bind fun t368 => (if t368 = true then ((mummerlaw11_awake.f k).bind fun t369 => (some t369)) else ((binds_Candidates.f k l0 a1 a2).bind fun bt370 => ((mummerref11_Candidates.f k l0 a1 a2).bind fun bt374 => ((binds_Resolve.f k l0 a1 a2).bind fun bt378 => ((mummerref11_Resolve.f k l0 a1 a2).bind fun bt380 => ((mummerref11_Ints.f k bt370.1 bt374.1).bind fun t382 => (if t382 = true then (if bt370.2 = bt374.2 then (if bt378.1 = bt380.1 then (if bt378.2 = bt380.2 then ((mummerlaw11_awake.f k).bind fun t383 => (some t383)) else (some false)) else (some false)) else (some false)) else (some false))))))))
theorem mummerlaw11_BindsResolves.mono : ∀ a0 a1 a2 k, LeO (mummerlaw11_BindsResolves.f k a0 a1 a2) (mummerlaw11_BindsResolves.f (k + 1) a0 a1 a2) := by
  intro a0 a1 a2 k
  unfold mummerlaw11_BindsResolves.f
  repeat' first
      | (with_reducible exact binds_Candidates.mono _ _ _ _)
      | (with_reducible exact binds_Resolve.mono _ _ _ _)
      | (with_reducible exact mummerlaw11_awake.mono _)
      | (with_reducible exact mummerlaw11_far.mono _ _ _)
      | (with_reducible exact mummerref11_Candidates.mono _ _ _ _)
      | (with_reducible exact mummerref11_Ints.mono _ _ _)
      | (with_reducible exact mummerref11_Resolve.mono _ _ _ _)
      | (with_reducible exact LeO.refl _)
      | (with_reducible exact LeO.none _)
      | (with_reducible refine LeO.ite ?_ ?_)
      | (with_reducible refine LeO.bind ?_ (fun _ => ?_))
      | exact binds_Candidates.mono _ _ _ _
      | exact binds_Resolve.mono _ _ _ _
      | exact mummerlaw11_awake.mono _
      | exact mummerlaw11_far.mono _ _ _
      | exact mummerref11_Candidates.mono _ _ _ _
      | exact mummerref11_Ints.mono _ _ _
      | exact mummerref11_Resolve.mono _ _ _ _
      | exact LeO.none _
      | refine LeO.ite ?_ ?_
      | refine LeO.bind ?_ (fun _ => ?_)
set_option maxHeartbeats 8000000 in
set_option maxRecDepth 100000 in
theorem mummerlaw11_BindsResolves.calls (k : Nat) (A0 : Option Addr) (c0 : Nat) (l0 : List (S24)) (a1 : ByteArray) (a2 : ByteArray) (r : Bool) (w : World) (hr0 : Kd.C k24 w A0 l0.length l0) (hc0 : l0.length ≤ c0) (hrt : Aside0 (r = true)) (h : mummerlaw11_BindsResolves.f k l0 a1 a2 = some r) :
    Calls Try.prog 4 #[.slice A0 l0.length c0, .string a1, .string a2] w fun e w' => e = .returned (.bool r) ∧ Below w.heap.size w w' := by
  have HR0 := ak hr0
  have HC0 := ak hc0
  clear hr0 hc0
  have HB := ak (Below.refl w.heap.size w)
  have H : ((mummerlaw11_far.f k l0 (([a1, a2] : List ByteArray))).bind fun t368 => (if t368 = true then ((mummerlaw11_awake.f k).bind fun t369 => (some t369)) else ((binds_Candidates.f k l0 a1 a2).bind fun bt370 => ((mummerref11_Candidates.f k l0 a1 a2).bind fun bt374 => ((binds_Resolve.f k l0 a1 a2).bind fun bt378 => ((mummerref11_Resolve.f k l0 a1 a2).bind fun bt380 => ((mummerref11_Ints.f k bt370.1 bt374.1).bind fun t382 => (if t382 = true then (if bt370.2 = bt374.2 then (if bt378.1 = bt380.1 then (if bt378.2 = bt380.2 then ((mummerlaw11_awake.f k).bind fun t383 => (some t383)) else (some false)) else (some false)) else (some false)) else (some false))))))))) = some r := h
  clear h
  obtain ⟨y365, hy365⟩ : ∃ y_ : List ByteArray, y_ = (([a1, a2] : List ByteArray)) := ⟨_, rfl⟩
  replace H : ((mummerlaw11_far.f k l0 y365).bind fun t368 => (if t368 = true then ((mummerlaw11_awake.f k).bind fun t369 => (some t369)) else ((binds_Candidates.f k l0 a1 a2).bind fun bt370 => ((mummerref11_Candidates.f k l0 a1 a2).bind fun bt374 => ((binds_Resolve.f k l0 a1 a2).bind fun bt378 => ((mummerref11_Resolve.f k l0 a1 a2).bind fun bt380 => ((mummerref11_Ints.f k bt370.1 bt374.1).bind fun t382 => (if t382 = true then (if bt370.2 = bt374.2 then (if bt378.1 = bt380.1 then (if bt378.2 = bt380.2 then ((mummerlaw11_awake.f k).bind fun t383 => (some t383)) else (some false)) else (some false)) else (some false)) else (some false))))))))) = some r := by first | (rw [hy365]; with_reducible exact H) | (have H2_ := (Option.bind_some _ _).symm.trans H; rw [hy365]; with_reducible exact H2_) | (have H2_ := (Option.bind_some _ _).symm.trans H; with_reducible exact H2_) | with_reducible exact H | (rw [hy365]; exact H) | exact H
  have Ny365 := ak hy365
  clear hy365
  replace H := Option.bind_eq_some_iff.mp H
  obtain ⟨t368, A40, H⟩ := H
  replace H : (if t368 = true then ((mummerlaw11_awake.f k).bind fun t369 => (some t369)) else ((binds_Candidates.f k l0 a1 a2).bind fun bt370 => ((mummerref11_Candidates.f k l0 a1 a2).bind fun bt374 => ((binds_Resolve.f k l0 a1 a2).bind fun bt378 => ((mummerref11_Resolve.f k l0 a1 a2).bind fun bt380 => ((mummerref11_Ints.f k bt370.1 bt374.1).bind fun t382 => (if t382 = true then (if bt370.2 = bt374.2 then (if bt378.1 = bt380.1 then (if bt378.2 = bt380.2 then ((mummerlaw11_awake.f k).bind fun t383 => (some t383)) else (some false)) else (some false)) else (some false)) else (some false)))))))) = some r := H
  have A4 := ak A40
  clear A40
  by_cases c5 : t368 = true
  · subst c5
    have H1 : ((mummerlaw11_awake.f k).bind fun t369 => (some t369)) = some r := by rw [if_pos rfl] at H; exact H
    clear H
    have H := H1
    clear H1
    replace H := Option.bind_eq_some_iff.mp H
    obtain ⟨t369, A60, H⟩ := H
    replace H : (some t369) = some r := H
    have A6 := ak A60
    clear A60
    obtain rfl := Option.some.inj H
    go_enter Try.func4, Try.ntmps4
    go_wp2_with (first | ((with_reducible refine gate_dst (N := 18) rfl ?_); refine Kd.R_lit Kd.string _ 9 ?hg (N := 18) ?hd (xs := ([a1, a2] : List ByteArray)) (inner := [.string a1, .string a2]) (ok := fun _ => True) (okp := fun _ => True) ?hr ?hp (fun _ hk => hk) trivial (Below.refl _ _) (Nat.le_refl _) (by simp) ?_; (case hd => rfl); (case hg => rfl); (case hr => first | (go_simp; done) | (go_simp; rfl)); (case hp => exact (Reps.one (show Kd.M Kd.string _ _ _ a1 [.string a1] from rfl) (Reps.one (show Kd.M Kd.string _ _ _ a2 [.string a2] from rfl) (Reps.none _ _)))); intro v366 w7 ho8 hb hg_ hnew_; clear hg_ hnew_; (first | rw [← Ny365.out] at ho8 | (simp only [Int.reduceToNat] at ho8; rw [← Ny365.out] at ho8)); have n0_ := ak (Kd.R_lower ho8 (below_size (by repeat (first | (with_reducible first | exact HB.out | apply wA | apply wN | apply wD) | exact HB.out)))); have n1_ := ak (below_step (by repeat (first | (with_reducible first | exact HB.out | apply wA | apply wN | apply wD) | exact HB.out)) hb); clear HB; have HO367 := n0_; have HB := n1_; clear n0_ n1_; clear hb ho8; obtain ⟨Ao9, co9, eo9⟩ := Kd.R_slice HO367.out; subst eo9) | ((with_reducible refine gate_callee (f := 10) rfl ?_); refine goesL_ (some 19) rfl rfl Try.func10 (by kernel_rfl) rfl #[.slice A0 l0.length c0, .slice Ao9 y365.length co9] rfl (by (try simp only [List.map_toArray, List.map_cons, List.map_nil]); first | done | rfl | (simp only [List.length_drop, List.length_take]; rfl)) ?_; (with_reducible refine (mummerlaw11_far.calls k _ _ l0 _ _ y365 true _ ?side1 ?side2 ?side3 ?side4 A4.out).mono ?_); (case side1 => repeat (first | exact (Kd.C_below HR0.out HB.out) | (with_reducible refine Kd.C_alloc ?_ _) | (with_reducible refine Kd.C_drewN ?_ _) | (with_reducible refine Kd.C_drew ?_))); (case side2 => exact HC0.out); (case side3 => repeat (first | exact (Kd.R_reads' HO367.out).2.2 | (with_reducible refine Kd.C_alloc ?_ _) | (with_reducible refine Kd.C_drewN ?_ _) | (with_reducible refine Kd.C_drew ?_))); (case side4 => exact (Kd.R_reads' HO367.out).2.1); rintro e w' ⟨rfl, ⟨nd, rfl⟩⟩; refine ⟨_, rfl, ?_⟩) | ((with_reducible refine gate_callee (f := 11) rfl ?_); refine goesL_ (some 20) rfl rfl Try.func11 (by kernel_rfl) rfl #[] rfl (by (try simp only [List.map_toArray, List.map_cons, List.map_nil]); first | done | rfl | (simp only [List.length_drop, List.length_take]; rfl)) ?_; (with_reducible refine (mummerlaw11_awake.calls k  t369 _ hrt A6.out).mono ?_); rintro e w10 ⟨rfl, hb⟩; refine ⟨_, rfl, ?_⟩; have n0_ := ak (Kd.R_below (by (with_reducible repeat (first | apply Kd.R_alloc | apply Kd.R_drewN | apply Kd.R_drew)); exact HO367.out) hb); have n1_ := ak (below_step (by repeat (first | (with_reducible first | exact HB.out | apply wA | apply wN | apply wD) | exact HB.out)) hb); clear HO367; clear HB; have HO367 := n0_; have HB := n1_; clear n0_ n1_; (try clear hb); (try clear hb2); (try clear hk); (try clear hi)))
    go_ret
    exact ⟨by first | rfl | (simp [errW_none, errW_some] <;> rfl) | (simp [*, errW_none, errW_some] <;> rfl), by repeat (first | (with_reducible first | exact HB.out | apply wA | apply wN | apply wD) | exact HB.out)⟩
  · replace c5 := Bool.eq_false_iff.mpr c5
    subst c5
    have H1 : ((binds_Candidates.f k l0 a1 a2).bind fun bt370 => ((mummerref11_Candidates.f k l0 a1 a2).bind fun bt374 => ((binds_Resolve.f k l0 a1 a2).bind fun bt378 => ((mummerref11_Resolve.f k l0 a1 a2).bind fun bt380 => ((mummerref11_Ints.f k bt370.1 bt374.1).bind fun t382 => (if t382 = true then (if bt370.2 = bt374.2 then (if bt378.1 = bt380.1 then (if bt378.2 = bt380.2 then ((mummerlaw11_awake.f k).bind fun t383 => (some t383)) else (some false)) else (some false)) else (some false)) else (some false))))))) = some r := by rw [if_neg (show ¬ (false = true) by decide)] at H; exact H
    clear H
    have H := H1
    clear H1
    replace H := Option.bind_eq_some_iff.mp H
    obtain ⟨⟨t370, t371⟩, A110, H⟩ := H
    replace H : ((mummerref11_Candidates.f k l0 a1 a2).bind fun bt374 => ((binds_Resolve.f k l0 a1 a2).bind fun bt378 => ((mummerref11_Resolve.f k l0 a1 a2).bind fun bt380 => ((mummerref11_Ints.f k t370 bt374.1).bind fun t382 => (if t382 = true then (if t371 = bt374.2 then (if bt378.1 = bt380.1 then (if bt378.2 = bt380.2 then ((mummerlaw11_awake.f k).bind fun t383 => (some t383)) else (some false)) else (some false)) else (some false)) else (some false)))))) = some r := H
    have A11 := ak A110
    clear A110
    replace H := Option.bind_eq_some_iff.mp H
    obtain ⟨⟨t374, t375⟩, A120, H⟩ := H
    replace H : ((binds_Resolve.f k l0 a1 a2).bind fun bt378 => ((mummerref11_Resolve.f k l0 a1 a2).bind fun bt380 => ((mummerref11_Ints.f k t370 t374).bind fun t382 => (if t382 = true then (if t371 = t375 then (if bt378.1 = bt380.1 then (if bt378.2 = bt380.2 then ((mummerlaw11_awake.f k).bind fun t383 => (some t383)) else (some false)) else (some false)) else (some false)) else (some false))))) = some r := H
    have A12 := ak A120
    clear A120
    replace H := Option.bind_eq_some_iff.mp H
    obtain ⟨⟨t378, t379⟩, A130, H⟩ := H
    replace H : ((mummerref11_Resolve.f k l0 a1 a2).bind fun bt380 => ((mummerref11_Ints.f k t370 t374).bind fun t382 => (if t382 = true then (if t371 = t375 then (if t378 = bt380.1 then (if t379 = bt380.2 then ((mummerlaw11_awake.f k).bind fun t383 => (some t383)) else (some false)) else (some false)) else (some false)) else (some false)))) = some r := H
    have A13 := ak A130
    clear A130
    replace H := Option.bind_eq_some_iff.mp H
    obtain ⟨⟨t380, t381⟩, A140, H⟩ := H
    replace H : ((mummerref11_Ints.f k t370 t374).bind fun t382 => (if t382 = true then (if t371 = t375 then (if t378 = t380 then (if t379 = t381 then ((mummerlaw11_awake.f k).bind fun t383 => (some t383)) else (some false)) else (some false)) else (some false)) else (some false))) = some r := H
    have A14 := ak A140
    clear A140
    replace H := Option.bind_eq_some_iff.mp H
    obtain ⟨t382, A150, H⟩ := H
    replace H : (if t382 = true then (if t371 = t375 then (if t378 = t380 then (if t379 = t381 then ((mummerlaw11_awake.f k).bind fun t383 => (some t383)) else (some false)) else (some false)) else (some false)) else (some false)) = some r := H
    have A15 := ak A150
    clear A150
    by_cases c16 : t382 = true
    · subst c16
      have H1 : (if t371 = t375 then (if t378 = t380 then (if t379 = t381 then ((mummerlaw11_awake.f k).bind fun t383 => (some t383)) else (some false)) else (some false)) else (some false)) = some r := by rw [if_pos rfl] at H; exact H
      clear H
      have H := H1
      clear H1
      by_cases c17 : t371 = t375
      · rw [if_pos c17] at H
        have c17b0 : (t371 == t375) = true := beq_iff_eq.mpr c17
        have c17b1 : (t371 != t375) = false := bne_eq_false_iff_eq.mpr c17
        clear c17
        by_cases c18 : t378 = t380
        · rw [if_pos c18] at H
          have c18b0 : (t378 == t380) = true := beq_iff_eq.mpr c18
          have c18b1 : (t378 != t380) = false := bne_eq_false_iff_eq.mpr c18
          clear c18
          by_cases c19 : t379 = t381
          · rw [if_pos c19] at H
            have c19b0 : (t379 == t381) = true := beq_iff_eq.mpr c19
            have c19b1 : (t379 != t381) = false := bne_eq_false_iff_eq.mpr c19
            clear c19
            replace H := Option.bind_eq_some_iff.mp H
            obtain ⟨t383, A200, H⟩ := H
            replace H : (some t383) = some r := H
            have A20 := ak A200
            clear A200
            obtain rfl := Option.some.inj H
            go_enter Try.func4, Try.ntmps4
            go_wp2_with (first | ((with_reducible refine gate_dst (N := 18) rfl ?_); refine Kd.R_lit Kd.string _ 9 ?hg (N := 18) ?hd (xs := ([a1, a2] : List ByteArray)) (inner := [.string a1, .string a2]) (ok := fun _ => True) (okp := fun _ => True) ?hr ?hp (fun _ hk => hk) trivial (Below.refl _ _) (Nat.le_refl _) (by simp) ?_; (case hd => rfl); (case hg => rfl); (case hr => first | (go_simp; done) | (go_simp; rfl)); (case hp => exact (Reps.one (show Kd.M Kd.string _ _ _ a1 [.string a1] from rfl) (Reps.one (show Kd.M Kd.string _ _ _ a2 [.string a2] from rfl) (Reps.none _ _)))); intro v366 w21 ho22 hb hg_ hnew_; clear hg_ hnew_; (first | rw [← Ny365.out] at ho22 | (simp only [Int.reduceToNat] at ho22; rw [← Ny365.out] at ho22)); have n0_ := ak (Kd.R_lower ho22 (below_size (by repeat (first | (with_reducible first | exact HB.out | apply wA | apply wN | apply wD) | exact HB.out)))); have n1_ := ak (below_step (by repeat (first | (with_reducible first | exact HB.out | apply wA | apply wN | apply wD) | exact HB.out)) hb); clear HB; have HO367 := n0_; have HB := n1_; clear n0_ n1_; clear hb ho22; obtain ⟨Ao23, co23, eo23⟩ := Kd.R_slice HO367.out; subst eo23) | ((with_reducible refine gate_callee (f := 10) rfl ?_); refine goesL_ (some 19) rfl rfl Try.func10 (by kernel_rfl) rfl #[.slice A0 l0.length c0, .slice Ao23 y365.length co23] rfl (by (try simp only [List.map_toArray, List.map_cons, List.map_nil]); first | done | rfl | (simp only [List.length_drop, List.length_take]; rfl)) ?_; (with_reducible refine (mummerlaw11_far.calls k _ _ l0 _ _ y365 false _ ?side1 ?side2 ?side3 ?side4 A4.out).mono ?_); (case side1 => repeat (first | exact (Kd.C_below HR0.out HB.out) | (with_reducible refine Kd.C_alloc ?_ _) | (with_reducible refine Kd.C_drewN ?_ _) | (with_reducible refine Kd.C_drew ?_))); (case side2 => exact HC0.out); (case side3 => repeat (first | exact (Kd.R_reads' HO367.out).2.2 | (with_reducible refine Kd.C_alloc ?_ _) | (with_reducible refine Kd.C_drewN ?_ _) | (with_reducible refine Kd.C_drew ?_))); (case side4 => exact (Kd.R_reads' HO367.out).2.1); rintro e w' ⟨rfl, ⟨nd, rfl⟩⟩; refine ⟨_, rfl, ?_⟩) | ((with_reducible refine gate_callee (f := 17) rfl ?_); refine goesL_ (some 25) rfl rfl Try.func17 (by kernel_rfl) rfl #[.slice A0 l0.length c0, .string a1, .string a2] rfl (by (try simp only [List.map_toArray, List.map_cons, List.map_nil]); first | done | rfl | (simp only [List.length_drop, List.length_take]; rfl)) ?_; (with_reducible refine (binds_Candidates.calls k _ _ l0 a1 a2 t370 t371 _ ?side1 ?side2 A11.out).mono ?_); (case side1 => repeat (first | exact (Kd.C_below HR0.out (by repeat (first | (with_reducible first | exact HB.out | apply wA | apply wN | apply wD) | exact HB.out))) | (with_reducible refine Kd.C_alloc ?_ _) | (with_reducible refine Kd.C_drewN ?_ _) | (with_reducible refine Kd.C_drew ?_))); (case side2 => exact HC0.out); rintro e w24 ⟨v372, rfl, ho0, hb⟩; refine ⟨_, rfl, ?_⟩; have n0_ := ak (Kd.R_below (by (with_reducible repeat (first | apply Kd.R_alloc | apply Kd.R_drewN | apply Kd.R_drew)); exact HO367.out) hb); have n1_ := ak (Kd.R_lower ho0 (below_size (by repeat (first | (with_reducible first | exact HB.out | apply wA | apply wN | apply wD) | exact HB.out)))); have n2_ := ak (below_step (by repeat (first | (with_reducible first | exact HB.out | apply wA | apply wN | apply wD) | exact HB.out)) hb); clear HO367; clear HB; have HO367 := n0_; have HO373 := n1_; have HB := n2_; clear n0_ n1_ n2_; (try clear hb); (try clear hb2); (try clear hk); (try clear hi); (try clear ho0)) | ((with_reducible refine gate_callee (f := 18) rfl ?_); refine goesL_ (some 32) rfl rfl Try.func18 (by kernel_rfl) rfl #[.slice A0 l0.length c0, .string a1, .string a2] rfl (by (try simp only [List.map_toArray, List.map_cons, List.map_nil]); first | done | rfl | (simp only [List.length_drop, List.length_take]; rfl)) ?_; (with_reducible refine (mummerref11_Candidates.calls k _ _ l0 a1 a2 t374 t375 _ ?side1 ?side2 A12.out).mono ?_); (case side1 => repeat (first | exact (Kd.C_below HR0.out HB.out) | (with_reducible refine Kd.C_alloc ?_ _) | (with_reducible refine Kd.C_drewN ?_ _) | (with_reducible refine Kd.C_drew ?_))); (case side2 => exact HC0.out); rintro e w25 ⟨v376, rfl, ho0, hb⟩; refine ⟨_, rfl, ?_⟩; have n0_ := ak (Kd.R_below (by (with_reducible repeat (first | apply Kd.R_alloc | apply Kd.R_drewN | apply Kd.R_drew)); exact HO367.out) hb); have n1_ := ak (Kd.R_elder' (by (with_reducible repeat (first | apply Kd.R_alloc | apply Kd.R_drewN | apply Kd.R_drew)); exact HO373.out) (Kd.R_base ho0) hb); have n2_ := ak (Kd.R_lower (Kd.R_new' ho0 (Kd.R_lt (by (with_reducible repeat (first | apply Kd.R_alloc | apply Kd.R_drewN | apply Kd.R_drew)); exact HO373.out))) (below_size (by repeat (first | (with_reducible first | exact HB.out | apply wA | apply wN | apply wD) | exact HB.out)))); have n3_ := ak (below_step (by repeat (first | (with_reducible first | exact HB.out | apply wA | apply wN | apply wD) | exact HB.out)) hb); clear HO367; clear HO373; clear HB; have HO367 := n0_; have HO373 := n1_; have HO377 := n2_; have HB := n3_; clear n0_ n1_ n2_ n3_; (try clear hb); (try clear hb2); (try clear hk); (try clear hi); (try clear ho0)) | ((with_reducible refine gate_callee (f := 19) rfl ?_); refine goesL_ (some 39) rfl rfl Try.func19 (by kernel_rfl) rfl #[.slice A0 l0.length c0, .string a1, .string a2] rfl (by (try simp only [List.map_toArray, List.map_cons, List.map_nil]); first | done | rfl | (simp only [List.length_drop, List.length_take]; rfl)) ?_; (with_reducible refine (binds_Resolve.calls k _ _ l0 a1 a2 t378 t379 _ ?side1 ?side2 A13.out).mono ?_); (case side1 => repeat (first | exact (Kd.C_below HR0.out HB.out) | (with_reducible refine Kd.C_alloc ?_ _) | (with_reducible refine Kd.C_drewN ?_ _) | (with_reducible refine Kd.C_drew ?_))); (case side2 => exact HC0.out); rintro e w26 ⟨rfl, hb⟩; refine ⟨_, rfl, ?_⟩; have n0_ := ak (Kd.R_below (by (with_reducible repeat (first | apply Kd.R_alloc | apply Kd.R_drewN | apply Kd.R_drew)); exact HO367.out) hb); have n1_ := ak (Kd.R_below (by (with_reducible repeat (first | apply Kd.R_alloc | apply Kd.R_drewN | apply Kd.R_drew)); exact HO373.out) hb); have n2_ := ak (Kd.R_below (by (with_reducible repeat (first | apply Kd.R_alloc | apply Kd.R_drewN | apply Kd.R_drew)); exact HO377.out) hb); have n3_ := ak (below_step (by repeat (first | (with_reducible first | exact HB.out | apply wA | apply wN | apply wD) | exact HB.out)) hb); clear HO367; clear HO373; clear HO377; clear HB; have HO367 := n0_; have HO373 := n1_; have HO377 := n2_; have HB := n3_; clear n0_ n1_ n2_ n3_; (try clear hb); (try clear hb2); (try clear hk); (try clear hi)) | ((with_reducible refine gate_callee (f := 20) rfl ?_); refine goesL_ (some 46) rfl rfl Try.func20 (by kernel_rfl) rfl #[.slice A0 l0.length c0, .string a1, .string a2] rfl (by (try simp only [List.map_toArray, List.map_cons, List.map_nil]); first | done | rfl | (simp only [List.length_drop, List.length_take]; rfl)) ?_; (with_reducible refine (mummerref11_Resolve.calls k _ _ l0 a1 a2 t380 t381 _ ?side1 ?side2 A14.out).mono ?_); (case side1 => repeat (first | exact (Kd.C_below HR0.out HB.out) | (with_reducible refine Kd.C_alloc ?_ _) | (with_reducible refine Kd.C_drewN ?_ _) | (with_reducible refine Kd.C_drew ?_))); (case side2 => exact HC0.out); rintro e w27 ⟨rfl, hb⟩; refine ⟨_, rfl, ?_⟩; have n0_ := ak (Kd.R_below (by (with_reducible repeat (first | apply Kd.R_alloc | apply Kd.R_drewN | apply Kd.R_drew)); exact HO367.out) hb); have n1_ := ak (Kd.R_below (by (with_reducible repeat (first | apply Kd.R_alloc | apply Kd.R_drewN | apply Kd.R_drew)); exact HO373.out) hb); have n2_ := ak (Kd.R_below (by (with_reducible repeat (first | apply Kd.R_alloc | apply Kd.R_drewN | apply Kd.R_drew)); exact HO377.out) hb); have n3_ := ak (below_step (by repeat (first | (with_reducible first | exact HB.out | apply wA | apply wN | apply wD) | exact HB.out)) hb); clear HO367; clear HO373; clear HO377; clear HB; have HO367 := n0_; have HO373 := n1_; have HO377 := n2_; have HB := n3_; clear n0_ n1_ n2_ n3_; (try clear hb); (try clear hb2); (try clear hk); (try clear hi); obtain ⟨Ao28, co28, eo28⟩ := Kd.R_slice HO373.out; subst eo28; obtain ⟨Ao29, co29, eo29⟩ := Kd.R_slice HO377.out; subst eo29) | ((with_reducible refine gate_callee (f := 21) rfl ?_); refine goesL_ (some 51) rfl rfl Try.func21 (by kernel_rfl) rfl #[.slice Ao28 t370.length co28, .slice Ao29 t374.length co29] rfl (by (try simp only [List.map_toArray, List.map_cons, List.map_nil]); first | done | rfl | (simp only [List.length_drop, List.length_take]; rfl)) ?_; (with_reducible refine (mummerref11_Ints.calls k _ _ t370 _ _ t374 true _ ?side1 ?side2 ?side3 ?side4 A15.out).mono ?_); (case side1 => repeat (first | exact (Kd.R_reads' HO373.out).2.2 | (with_reducible refine Kd.C_alloc ?_ _) | (with_reducible refine Kd.C_drewN ?_ _) | (with_reducible refine Kd.C_drew ?_))); (case side2 => exact (Kd.R_reads' HO373.out).2.1); (case side3 => repeat (first | exact (Kd.R_reads' HO377.out).2.2 | (with_reducible refine Kd.C_alloc ?_ _) | (with_reducible refine Kd.C_drewN ?_ _) | (with_reducible refine Kd.C_drew ?_))); (case side4 => exact (Kd.R_reads' HO377.out).2.1); rintro e w' ⟨rfl, ⟨nd, rfl⟩⟩; refine ⟨_, rfl, ?_⟩) | (go_at_call 11; (with_reducible refine (mummerlaw11_awake.calls k  t383 _ hrt A20.out).mono ?_); rintro e w30 ⟨rfl, hb⟩; have n0_ := ak (Kd.R_below (by (with_reducible repeat (first | apply Kd.R_alloc | apply Kd.R_drewN | apply Kd.R_drew)); exact HO367.out) hb); have n1_ := ak (Kd.R_below (by (with_reducible repeat (first | apply Kd.R_alloc | apply Kd.R_drewN | apply Kd.R_drew)); exact HO373.out) hb); have n2_ := ak (Kd.R_below (by (with_reducible repeat (first | apply Kd.R_alloc | apply Kd.R_drewN | apply Kd.R_drew)); exact HO377.out) hb); have n3_ := ak (below_step (by repeat (first | (with_reducible first | exact HB.out | apply wA | apply wN | apply wD) | exact HB.out)) hb); clear HO367; clear HO373; clear HO377; clear HB; have HO367 := n0_; have HO373 := n1_; have HO377 := n2_; have HB := n3_; clear n0_ n1_ n2_ n3_; (try clear hb); (try clear hb2); (try clear hk); (try clear hi)))
            go_ret
            exact ⟨by first | rfl | (simp [errW_none, errW_some] <;> rfl) | (simp [*, errW_none, errW_some] <;> rfl), by repeat (first | (with_reducible first | exact HB.out | apply wA | apply wN | apply wD) | exact HB.out)⟩
          · rw [if_neg c19] at H
            have c19b0 : (t379 == t381) = false := beq_eq_false_iff_ne.mpr c19
            have c19b1 : (t379 != t381) = true := bne_iff_ne.mpr c19
            exact absurd ((Option.some.inj H).trans hrt.out) (by decide)
        · rw [if_neg c18] at H
          have c18b0 : (t378 == t380) = false := beq_eq_false_iff_ne.mpr c18
          have c18b1 : (t378 != t380) = true := bne_iff_ne.mpr c18
          exact absurd ((Option.some.inj H).trans hrt.out) (by decide)
      · rw [if_neg c17] at H
        have c17b0 : (t371 == t375) = false := beq_eq_false_iff_ne.mpr c17
        have c17b1 : (t371 != t375) = true := bne_iff_ne.mpr c17
        exact absurd ((Option.some.inj H).trans hrt.out) (by decide)
    · replace c16 := Bool.eq_false_iff.mpr c16
      subst c16
      have H1 : (some false) = some r := by rw [if_neg (show ¬ (false = true) by decide)] at H; exact H
      clear H
      have H := H1
      clear H1
      exact absurd ((Option.some.inj H).trans hrt.out) (by decide)

end Go.Proofs.Ytpjcahjpjeiicaa.P
