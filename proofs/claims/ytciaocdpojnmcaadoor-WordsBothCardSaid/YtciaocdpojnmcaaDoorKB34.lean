import Derived.Test.YtciaocdpojnmcaaDoorKB33
namespace Go.Proofs.YtciaocdpojnmcaaDoor.P
open Go.RowKit Go.Proofs.YtciaocdpojnmcaaDoorW.PrintWords Go.Proofs.YtciaocdpojnmcaaDoorW.PrintLast Go.Proofs.YtciaocdpojnmcaaDoorW.PrintMore
attribute [local go_sem] max2_int min2_int max_two min_two max_three min_three max_four min_four   -- for this text's walks alone
set_option linter.unusedVariables false
set_option linter.unusedSimpArgs false
mutual
def mummerlaw01_WordsBoth.j0 : Nat → List (S43) → List (S43) → Bool → Option (Bool)
  | 0, _, _, _ => none
  | k + 1, x0, x1, x26 => if x26 = true then ((mummerlaw01_shown.f k).bind fun t278 => (some t278)) else ((words_Join.f k x0).bind fun bt279 => ((words_Join.f k x1).bind fun bt281 => ((some (([] : List (S43)) : List (S43))).bind fun y283 => (if y283.length + x0.length < 5864062014805 then ((some (y283 ++ x0 : List (S43))).bind fun y286 => (if y286.length + x1.length < 5864062014805 then ((words_Join.f k (y286 ++ x1)).bind fun bt292 => (if bt279.2 = 0 then (mummerlaw01_WordsBoth.j1 k x0 x1 bt279.1 bt281.1 bt292.1 bt292.2 (bt281.2 != 0)) else (mummerlaw01_WordsBoth.j1 k x0 x1 bt279.1 bt281.1 bt292.1 bt292.2 true))) else (none))) else (none)))))
def mummerlaw01_WordsBoth.j1 : Nat → List (S43) → List (S43) → ByteArray → ByteArray → ByteArray → Int → Bool → Option (Bool)
  | 0, _, _, _, _, _, _, _ => none
  | k + 1, x0, x1, x5, x7, x9, x10, x52 => if x52 = true then (if x10 = 0 then (some false) else ((mummerlaw01_shown.f k).bind fun t294 => (some t294))) else (if (wrap64 ((x0.length : Int) + (x1.length : Int))) > 64 then (mummerlaw01_WordsBoth.j2 k x5 x7 x9 x10 true) else (mummerlaw01_WordsBoth.j2 k x5 x7 x9 x10 (decide ((wrap64 ((wrap64 ((x5.size : Int) + 1)) + (x7.size : Int))) > 8192))))
def mummerlaw01_WordsBoth.j2 : Nat → ByteArray → ByteArray → ByteArray → Int → Bool → Option (Bool)
  | 0, _, _, _, _, _ => none
  | k + 1, x5, x7, x9, x10, x72 => if x72 = true then (if x10 = 3 then (if x9.toList = ([] : List UInt8) then ((mummerlaw01_shown.f k).bind fun t295 => (some t295)) else (some false)) else (some false)) else (if x10 = 0 then (if x5.size + 1 ≤ 9223372036854775807 then (if (x5 ++ (⟨#[32]⟩ : ByteArray)).size + x7.size ≤ 9223372036854775807 then (if x9.toList = ((x5 ++ (⟨#[32]⟩ : ByteArray)) ++ x7).toList then ((mummerlaw01_shown.f k).bind fun t296 => (some t296)) else (some false)) else (none)) else (none)) else (some false))
end
def mummerlaw01_WordsBoth.f (k : Nat) (l0 : List (S43)) (l1 : List (S43)) : Option (Bool) := (mummerlaw01_far.f k l0).bind fun t276 => (if t276 = true then (mummerlaw01_WordsBoth.j0 k l0 l1 true) else ((mummerlaw01_far.f k l1).bind fun t277 => (if t277 = true then (mummerlaw01_WordsBoth.j0 k l0 l1 true) else (if (l0.length : Int) = 0 then (mummerlaw01_WordsBoth.j0 k l0 l1 true) else (mummerlaw01_WordsBoth.j0 k l0 l1 ((l1.length : Int) == 0))))))
set_option maxHeartbeats 8000000 in
set_option maxRecDepth 100000 in
theorem mummerlaw01_WordsBoth.calls (k : Nat) (A0 : Option Addr) (c0 : Nat) (l0 : List (S43)) (A1 : Option Addr) (c1 : Nat) (l1 : List (S43)) (r : Bool) (w : World) (hr0 : Kd.C k43 w A0 l0.length l0) (hc0 : l0.length ≤ c0) (hr1 : Kd.C k43 w A1 l1.length l1) (hc1 : l1.length ≤ c1) (hrt : Aside0 (r = true)) (h : mummerlaw01_WordsBoth.f k l0 l1 = some r) (HT : Aside0 (Wd.All w)) :
    Calls Tryd.prog 7 #[.slice A0 l0.length c0, .slice A1 l1.length c1] w fun e w' => e = .returned (.bool r) ∧ Below w.heap.size w w' := by
  have HR0 := ak hr0
  have HC0 := ak hc0
  clear hr0 hc0
  have HR1 := ak hr1
  have HC1 := ak hc1
  clear hr1 hc1
  have HB := ak (Below.refl w.heap.size w)
  have H : ((mummerlaw01_far.f k l0).bind fun t276 => (if t276 = true then (mummerlaw01_WordsBoth.j0 k l0 l1 true) else ((mummerlaw01_far.f k l1).bind fun t277 => (if t277 = true then (mummerlaw01_WordsBoth.j0 k l0 l1 true) else (if (l0.length : Int) = 0 then (mummerlaw01_WordsBoth.j0 k l0 l1 true) else (mummerlaw01_WordsBoth.j0 k l0 l1 ((l1.length : Int) == 0))))))) = some r := h
  clear h
  have HC3 := ak H
  clear H
  go_enter Tryd.func7, Tryd.ntmps7
  go_upto_region 1 with (fail)
  go_cut [26] (fun v26 wc => ∃ (kq : Nat) (x26_2 : Bool), v26 = .bool x26_2 ∧ Aside0 (mummerlaw01_WordsBoth.j0 kq l0 l1 x26_2 = some r) ∧ Aside0 (kq ≤ k) ∧ Aside0 (Below w.heap.size w wc))
  case first =>
    have H := HC3.out
    clear HC3
    replace H := Option.bind_eq_some_iff.mp H
    obtain ⟨t276, A40, H⟩ := H
    replace H : (if t276 = true then (mummerlaw01_WordsBoth.j0 k l0 l1 true) else ((mummerlaw01_far.f k l1).bind fun t277 => (if t277 = true then (mummerlaw01_WordsBoth.j0 k l0 l1 true) else (if (l0.length : Int) = 0 then (mummerlaw01_WordsBoth.j0 k l0 l1 true) else (mummerlaw01_WordsBoth.j0 k l0 l1 ((l1.length : Int) == 0)))))) = some r := H
    have A4 := ak A40
    clear A40
    by_cases c5 : t276 = true
    · subst c5
      have H1 : (mummerlaw01_WordsBoth.j0 k l0 l1 true) = some r := by rw [if_pos rfl] at H; exact H
      clear H
      have H := H1
      clear H1
      have H' := ak H
      clear H
      go_wp2_with (first | ((with_reducible refine gate_callee (f := 23) rfl ?_); refine goesL_ (some 12) rfl rfl Tryd.func23 (by kernel_rfl) rfl #[.slice A0 l0.length c0] rfl (by (try simp only [List.map_toArray, List.map_cons, List.map_nil]); first | done | rfl | (simp only [List.length_drop, List.length_take]; rfl)) ?_; (with_reducible refine (mummerlaw01_far.calls k _ _ l0 true _ ?side1 ?side2 A4.out).mono ?_); (case side1 => repeat (first | exact (Kd.C_below HR0.out HB.out) | (with_reducible refine Kd.C_alloc ?_ _) | (with_reducible refine Kd.C_drewN ?_ _) | (with_reducible refine Kd.C_drew ?_))); (case side2 => exact HC0.out); rintro e w' ⟨rfl, ⟨nd, rfl⟩⟩; refine ⟨_, rfl, ?_⟩))
      go_meet
      case rel => exact ⟨_, (true), (by first | rfl | (simp; done) | (simp [*]; done)), H', ⟨by first | omega | exact Nat.le_refl _⟩, ⟨by repeat (first | (with_reducible first | exact HB.out | apply wA | apply wN | apply wD) | exact HB.out)⟩⟩
    · replace c5 := Bool.eq_false_iff.mpr c5
      subst c5
      have H1 : ((mummerlaw01_far.f k l1).bind fun t277 => (if t277 = true then (mummerlaw01_WordsBoth.j0 k l0 l1 true) else (if (l0.length : Int) = 0 then (mummerlaw01_WordsBoth.j0 k l0 l1 true) else (mummerlaw01_WordsBoth.j0 k l0 l1 ((l1.length : Int) == 0))))) = some r := by rw [if_neg (show ¬ (false = true) by decide)] at H; exact H
      clear H
      have H := H1
      clear H1
      replace H := Option.bind_eq_some_iff.mp H
      obtain ⟨t277, A60, H⟩ := H
      replace H : (if t277 = true then (mummerlaw01_WordsBoth.j0 k l0 l1 true) else (if (l0.length : Int) = 0 then (mummerlaw01_WordsBoth.j0 k l0 l1 true) else (mummerlaw01_WordsBoth.j0 k l0 l1 ((l1.length : Int) == 0)))) = some r := H
      have A6 := ak A60
      clear A60
      by_cases c7 : t277 = true
      · subst c7
        have H1 : (mummerlaw01_WordsBoth.j0 k l0 l1 true) = some r := by rw [if_pos rfl] at H; exact H
        clear H
        have H := H1
        clear H1
        have H' := ak H
        clear H
        go_wp2_with (first | ((with_reducible refine gate_callee (f := 23) rfl ?_); refine goesL_ (some 12) rfl rfl Tryd.func23 (by kernel_rfl) rfl #[.slice A0 l0.length c0] rfl (by (try simp only [List.map_toArray, List.map_cons, List.map_nil]); first | done | rfl | (simp only [List.length_drop, List.length_take]; rfl)) ?_; (with_reducible refine (mummerlaw01_far.calls k _ _ l0 false _ ?side1 ?side2 A4.out).mono ?_); (case side1 => repeat (first | exact (Kd.C_below HR0.out HB.out) | (with_reducible refine Kd.C_alloc ?_ _) | (with_reducible refine Kd.C_drewN ?_ _) | (with_reducible refine Kd.C_drew ?_))); (case side2 => exact HC0.out); rintro e w' ⟨rfl, ⟨nd, rfl⟩⟩; refine ⟨_, rfl, ?_⟩) | (go_at_call 23; (with_reducible refine (mummerlaw01_far.calls k _ _ l1 true _ ?side1 ?side2 A6.out).mono ?_); (case side1 => repeat (first | exact (Kd.C_below HR1.out (by repeat (first | (with_reducible first | exact HB.out | apply wA | apply wN | apply wD) | exact HB.out))) | (with_reducible refine Kd.C_alloc ?_ _) | (with_reducible refine Kd.C_drewN ?_ _) | (with_reducible refine Kd.C_drew ?_))); (case side2 => exact HC1.out); rintro e w' ⟨rfl, ⟨nd, rfl⟩⟩))
        go_meet
        case rel => exact ⟨_, (true), (by first | rfl | (simp; done) | (simp [*]; done)), H', ⟨by first | omega | exact Nat.le_refl _⟩, ⟨by repeat (first | (with_reducible first | exact HB.out | apply wA | apply wN | apply wD) | exact HB.out)⟩⟩
      · replace c7 := Bool.eq_false_iff.mpr c7
        subst c7
        have H1 : (if (l0.length : Int) = 0 then (mummerlaw01_WordsBoth.j0 k l0 l1 true) else (mummerlaw01_WordsBoth.j0 k l0 l1 ((l1.length : Int) == 0))) = some r := by rw [if_neg (show ¬ (false = true) by decide)] at H; exact H
        clear H
        have H := H1
        clear H1
        by_cases c8 : (l0.length : Int) = 0
        · rw [if_pos c8] at H
          have c8b0 : ((l0.length : Int) == 0) = true := beq_iff_eq.mpr c8
          have c8b1 : ((l0.length : Int) != 0) = false := bne_eq_false_iff_eq.mpr c8
          clear c8
          (first | rw [c8b0] | (simp only [i64_w, i32_w]; rw [c8b0]) | skip)
          have H' := ak H
          clear H
          go_wp2_with (first | ((with_reducible refine gate_callee (f := 23) rfl ?_); refine goesL_ (some 12) rfl rfl Tryd.func23 (by kernel_rfl) rfl #[.slice A0 l0.length c0] rfl (by (try simp only [List.map_toArray, List.map_cons, List.map_nil]); first | done | rfl | (simp only [List.length_drop, List.length_take]; rfl)) ?_; (with_reducible refine (mummerlaw01_far.calls k _ _ l0 false _ ?side1 ?side2 A4.out).mono ?_); (case side1 => repeat (first | exact (Kd.C_below HR0.out HB.out) | (with_reducible refine Kd.C_alloc ?_ _) | (with_reducible refine Kd.C_drewN ?_ _) | (with_reducible refine Kd.C_drew ?_))); (case side2 => exact HC0.out); rintro e w' ⟨rfl, ⟨nd, rfl⟩⟩; refine ⟨_, rfl, ?_⟩) | (go_at_call 23; (with_reducible refine (mummerlaw01_far.calls k _ _ l1 false _ ?side1 ?side2 A6.out).mono ?_); (case side1 => repeat (first | exact (Kd.C_below HR1.out (by repeat (first | (with_reducible first | exact HB.out | apply wA | apply wN | apply wD) | exact HB.out))) | (with_reducible refine Kd.C_alloc ?_ _) | (with_reducible refine Kd.C_drewN ?_ _) | (with_reducible refine Kd.C_drew ?_))); (case side2 => exact HC1.out); rintro e w' ⟨rfl, ⟨nd, rfl⟩⟩))
          go_meet
          case rel => exact ⟨_, (true), (by first | rfl | (simp; done) | (simp [*]; done)), H', ⟨by first | omega | exact Nat.le_refl _⟩, ⟨by repeat (first | (with_reducible first | exact HB.out | apply wA | apply wN | apply wD) | exact HB.out)⟩⟩
        · rw [if_neg c8] at H
          have c8b0 : ((l0.length : Int) == 0) = false := beq_eq_false_iff_ne.mpr c8
          have c8b1 : ((l0.length : Int) != 0) = true := bne_iff_ne.mpr c8
          have c8b2 : ¬ (l0 = []) := fun h_ => c8 (by rw [h_]; rfl)
          (first | rw [c8b0] | (simp only [i64_w, i32_w]; rw [c8b0]) | skip)
          have H' := ak H
          clear H
          go_wp2_with (first | ((with_reducible refine gate_callee (f := 23) rfl ?_); refine goesL_ (some 12) rfl rfl Tryd.func23 (by kernel_rfl) rfl #[.slice A0 l0.length c0] rfl (by (try simp only [List.map_toArray, List.map_cons, List.map_nil]); first | done | rfl | (simp only [List.length_drop, List.length_take]; rfl)) ?_; (with_reducible refine (mummerlaw01_far.calls k _ _ l0 false _ ?side1 ?side2 A4.out).mono ?_); (case side1 => repeat (first | exact (Kd.C_below HR0.out HB.out) | (with_reducible refine Kd.C_alloc ?_ _) | (with_reducible refine Kd.C_drewN ?_ _) | (with_reducible refine Kd.C_drew ?_))); (case side2 => exact HC0.out); rintro e w' ⟨rfl, ⟨nd, rfl⟩⟩; refine ⟨_, rfl, ?_⟩) | (go_at_call 23; (with_reducible refine (mummerlaw01_far.calls k _ _ l1 false _ ?side1 ?side2 A6.out).mono ?_); (case side1 => repeat (first | exact (Kd.C_below HR1.out (by repeat (first | (with_reducible first | exact HB.out | apply wA | apply wN | apply wD) | exact HB.out))) | (with_reducible refine Kd.C_alloc ?_ _) | (with_reducible refine Kd.C_drewN ?_ _) | (with_reducible refine Kd.C_drew ?_))); (case side2 => exact HC1.out); rintro e w' ⟨rfl, ⟨nd, rfl⟩⟩))
          go_meet
          case rel => exact ⟨_, (((l1.length : Int) == 0)), (by first | rfl | (simp; done) | (simp [*]; done)), H', ⟨by first | omega | exact Nat.le_refl _⟩, ⟨by repeat (first | (with_reducible first | exact HB.out | apply wA | apply wN | apply wD) | exact HB.out)⟩⟩
  case rest =>
    clear HC3
    try clear c1
    try clear c2
    try clear p2
    try clear c5
    try clear c7
    try clear c8
    try clear c8b0
    try clear c8b1
    try clear c8b2
    obtain ⟨kq, x26_2, rfl, HA, HJ2, HB⟩ := hcut
    cases kq with
    | zero => exact absurd HA.out (by simp [mummerlaw01_WordsBoth.j0])
    | succ kj2 =>
      have H := HA.out
      clear HA
      simp only [mummerlaw01_WordsBoth.j0] at H
      by_cases c9 : x26_2 = true
      · subst c9
        have H1 : ((mummerlaw01_shown.f kj2).bind fun t278 => (some t278)) = some r := by rw [if_pos rfl] at H; exact H
        clear H
        have H := H1
        clear H1
        replace H := Option.bind_eq_some_iff.mp H
        obtain ⟨t278, A100, H⟩ := H
        replace H : (some t278) = some r := H
        have A10 := ak A100
        clear A100
        obtain rfl := Option.some.inj H
        go_wp2_with (first | ((with_reducible refine gate_callee (f := 9) rfl ?_); refine goesL_ (some 27) rfl rfl Tryd.func9 (by kernel_rfl) rfl #[] rfl (by (try simp only [List.map_toArray, List.map_cons, List.map_nil]); first | done | rfl | (simp only [List.length_drop, List.length_take]; rfl)) ?_; (with_reducible refine (mummerlaw01_shown.calls kj2  t278 _ hrt A10.out ⟨Wd.All.stay HT.out (by repeat (first | (with_reducible first | exact HB.out | apply wA | apply wN | apply wD) | exact HB.out | (refine below_set ?_ (by assumption)) | (refine below_set ?_ (Aside0.out (by assumption)))))⟩).mono ?_); rintro e w11 ⟨rfl, hb⟩; refine ⟨_, rfl, ?_⟩; have n0_ := ak (below_step (by repeat (first | (with_reducible first | exact HB.out | apply wA | apply wN | apply wD) | exact HB.out)) hb); clear HB; have HB := n0_; clear n0_; (try clear hb); (try clear hb2); (try clear hk); (try clear hi)))
        go_ret
        exact ⟨by first | rfl | (simp [errW_none, errW_some] <;> rfl) | (simp [*, errW_none, errW_some] <;> rfl), by repeat (first | (with_reducible first | exact HB.out | apply wA | apply wN | apply wD) | exact HB.out)⟩
      · replace c9 := Bool.eq_false_iff.mpr c9
        subst c9
        have H1 : ((words_Join.f kj2 l0).bind fun bt279 => ((words_Join.f kj2 l1).bind fun bt281 => ((some (([] : List (S43)) : List (S43))).bind fun y283 => (if y283.length + l0.length < 5864062014805 then ((some (y283 ++ l0 : List (S43))).bind fun y286 => (if y286.length + l1.length < 5864062014805 then ((words_Join.f kj2 (y286 ++ l1)).bind fun bt292 => (if bt279.2 = 0 then (mummerlaw01_WordsBoth.j1 kj2 l0 l1 bt279.1 bt281.1 bt292.1 bt292.2 (bt281.2 != 0)) else (mummerlaw01_WordsBoth.j1 kj2 l0 l1 bt279.1 bt281.1 bt292.1 bt292.2 true))) else (none))) else (none))))) = some r := by rw [if_neg (show ¬ (false = true) by decide)] at H; exact H
        clear H
        have H := H1
        clear H1
        replace H := Option.bind_eq_some_iff.mp H
        obtain ⟨⟨t279, t280⟩, A120, H⟩ := H
        replace H : ((words_Join.f kj2 l1).bind fun bt281 => ((some (([] : List (S43)) : List (S43))).bind fun y283 => (if y283.length + l0.length < 5864062014805 then ((some (y283 ++ l0 : List (S43))).bind fun y286 => (if y286.length + l1.length < 5864062014805 then ((words_Join.f kj2 (y286 ++ l1)).bind fun bt292 => (if t280 = 0 then (mummerlaw01_WordsBoth.j1 kj2 l0 l1 t279 bt281.1 bt292.1 bt292.2 (bt281.2 != 0)) else (mummerlaw01_WordsBoth.j1 kj2 l0 l1 t279 bt281.1 bt292.1 bt292.2 true))) else (none))) else (none)))) = some r := H
        have A12 := ak A120
        clear A120
        replace H := Option.bind_eq_some_iff.mp H
        obtain ⟨⟨t281, t282⟩, A130, H⟩ := H
        replace H : ((some (([] : List (S43)) : List (S43))).bind fun y283 => (if y283.length + l0.length < 5864062014805 then ((some (y283 ++ l0 : List (S43))).bind fun y286 => (if y286.length + l1.length < 5864062014805 then ((words_Join.f kj2 (y286 ++ l1)).bind fun bt292 => (if t280 = 0 then (mummerlaw01_WordsBoth.j1 kj2 l0 l1 t279 t281 bt292.1 bt292.2 (t282 != 0)) else (mummerlaw01_WordsBoth.j1 kj2 l0 l1 t279 t281 bt292.1 bt292.2 true))) else (none))) else (none))) = some r := H
        have A13 := ak A130
        clear A130
        obtain ⟨y283, hy283⟩ : ∃ y_ : List (S43), y_ = (([] : List (S43))) := ⟨_, rfl⟩
        replace H : (if y283.length + l0.length < 5864062014805 then ((some (y283 ++ l0 : List (S43))).bind fun y286 => (if y286.length + l1.length < 5864062014805 then ((words_Join.f kj2 (y286 ++ l1)).bind fun bt292 => (if t280 = 0 then (mummerlaw01_WordsBoth.j1 kj2 l0 l1 t279 t281 bt292.1 bt292.2 (t282 != 0)) else (mummerlaw01_WordsBoth.j1 kj2 l0 l1 t279 t281 bt292.1 bt292.2 true))) else (none))) else (none)) = some r := by first | (rw [hy283]; with_reducible exact H) | (have H2_ := (Option.bind_some _ _).symm.trans H; rw [hy283]; with_reducible exact H2_) | (have H2_ := (Option.bind_some _ _).symm.trans H; with_reducible exact H2_) | with_reducible exact H | (rw [hy283]; exact H) | exact H
        have Ny283 := ak hy283
        clear hy283
        by_cases c14 : y283.length + l0.length < 5864062014805
        · rw [if_pos c14] at H
          have LMc14 := ak c14
          clear c14
          obtain ⟨y286, hy286⟩ : ∃ y_ : List (S43), y_ = (y283 ++ l0) := ⟨_, rfl⟩
          replace H : (if y286.length + l1.length < 5864062014805 then ((words_Join.f kj2 (y286 ++ l1)).bind fun bt292 => (if t280 = 0 then (mummerlaw01_WordsBoth.j1 kj2 l0 l1 t279 t281 bt292.1 bt292.2 (t282 != 0)) else (mummerlaw01_WordsBoth.j1 kj2 l0 l1 t279 t281 bt292.1 bt292.2 true))) else (none)) = some r := by first | (rw [hy286]; with_reducible exact H) | (have H2_ := (Option.bind_some _ _).symm.trans H; rw [hy286]; with_reducible exact H2_) | (have H2_ := (Option.bind_some _ _).symm.trans H; with_reducible exact H2_) | with_reducible exact H | (rw [hy286]; exact H) | exact H
          have Ny286 := ak hy286
          clear hy286
          by_cases c15 : y286.length + l1.length < 5864062014805
          · rw [if_pos c15] at H
            have LMc15 := ak c15
            clear c15
            obtain ⟨y289, hy289⟩ : ∃ y_ : List (S43), y_ = (y286 ++ l1) := ⟨_, rfl⟩
            replace H : ((words_Join.f kj2 y289).bind fun bt292 => (if t280 = 0 then (mummerlaw01_WordsBoth.j1 kj2 l0 l1 t279 t281 bt292.1 bt292.2 (t282 != 0)) else (mummerlaw01_WordsBoth.j1 kj2 l0 l1 t279 t281 bt292.1 bt292.2 true))) = some r := by first | (rw [hy289]; with_reducible exact H) | (have H2_ := (Option.bind_some _ _).symm.trans H; rw [hy289]; with_reducible exact H2_) | (have H2_ := (Option.bind_some _ _).symm.trans H; with_reducible exact H2_) | with_reducible exact H | (rw [hy289]; exact H) | exact H
            have Ny289 := ak hy289
            clear hy289
            replace H := Option.bind_eq_some_iff.mp H
            obtain ⟨⟨t292, t293⟩, A160, H⟩ := H
            replace H : (if t280 = 0 then (mummerlaw01_WordsBoth.j1 kj2 l0 l1 t279 t281 t292 t293 (t282 != 0)) else (mummerlaw01_WordsBoth.j1 kj2 l0 l1 t279 t281 t292 t293 true)) = some r := H
            have A16 := ak A160
            clear A160
            have HC17 := ak H
            clear H
            go_upto_region 6 with (first | ((with_reducible refine gate_callee (f := 24) rfl ?_); refine goesL_ (some 30) rfl rfl Tryd.func24 (by kernel_rfl) rfl #[.slice A0 l0.length c0] rfl (by (try simp only [List.map_toArray, List.map_cons, List.map_nil]); first | done | rfl | (simp only [List.length_drop, List.length_take]; rfl)) ?_; (with_reducible refine (words_Join.calls kj2 _ _ l0 t279 t280 _ ?side1 ?side2 A12.out ⟨Wd.All.stay HT.out (by repeat (first | (with_reducible first | exact HB.out | apply wA | apply wN | apply wD) | exact HB.out | (refine below_set ?_ (by assumption)) | (refine below_set ?_ (Aside0.out (by assumption)))))⟩).mono ?_); (case side1 => repeat (first | exact (Kd.C_below HR0.out HB.out) | (with_reducible refine Kd.C_alloc ?_ _) | (with_reducible refine Kd.C_drewN ?_ _) | (with_reducible refine Kd.C_drew ?_))); (case side2 => exact HC0.out); rintro e w18 ⟨rfl, hb⟩; refine ⟨_, rfl, ?_⟩; have n0_ := ak (below_step (by repeat (first | (with_reducible first | exact HB.out | apply wA | apply wN | apply wD) | exact HB.out)) hb); clear HB; have HB := n0_; clear n0_; (try clear hb); (try clear hb2); (try clear hk); (try clear hi)) | ((with_reducible refine gate_callee (f := 24) rfl ?_); refine goesL_ (some 35) rfl rfl Tryd.func24 (by kernel_rfl) rfl #[.slice A1 l1.length c1] rfl (by (try simp only [List.map_toArray, List.map_cons, List.map_nil]); first | done | rfl | (simp only [List.length_drop, List.length_take]; rfl)) ?_; (with_reducible refine (words_Join.calls kj2 _ _ l1 t281 t282 _ ?side1 ?side2 A13.out ⟨Wd.All.stay HT.out (by repeat (first | (with_reducible first | exact HB.out | apply wA | apply wN | apply wD) | exact HB.out | (refine below_set ?_ (by assumption)) | (refine below_set ?_ (Aside0.out (by assumption)))))⟩).mono ?_); (case side1 => repeat (first | exact (Kd.C_below HR1.out HB.out) | (with_reducible refine Kd.C_alloc ?_ _) | (with_reducible refine Kd.C_drewN ?_ _) | (with_reducible refine Kd.C_drew ?_))); (case side2 => exact HC1.out); rintro e w19 ⟨rfl, hb⟩; refine ⟨_, rfl, ?_⟩; have n0_ := ak (below_step (by repeat (first | (with_reducible first | exact HB.out | apply wA | apply wN | apply wD) | exact HB.out)) hb); clear HB; have HB := n0_; clear n0_; (try clear hb); (try clear hb2); (try clear hk); (try clear hi)) | ((with_reducible refine gate_dst (N := 39) rfl ?_); (try (refine gate_guard (by rfl) ?_; dsimp only)); refine Kd.R_lit k43 _ 43 ?hg (N := 39) ?hd (xs := ([] : List (S43))) (inner := []) (ok := fun _ => True) (okp := fun _ => True) ?hr ?hp (fun _ hk => hk) trivial (Below.refl _ _) (Nat.le_refl _) (by simp) ?_; (case hd => rfl); (case hg => rfl); (case hr => first | (go_simp; done) | (go_simp; rfl)); (case hp => exact (Reps.none _ _)); intro v284 w20 ho21 hb hg_ hnew_; clear hg_ hnew_; (first | rw [← Ny283.out] at ho21 | (simp only [Int.reduceToNat] at ho21; rw [← Ny283.out] at ho21)); have n0_ := ak (Kd.R_lower ho21 (below_size (by repeat (first | (with_reducible first | exact HB.out | apply wA | apply wN | apply wD) | exact HB.out)))); have n1_ := ak (below_step (by repeat (first | (with_reducible first | exact HB.out | apply wA | apply wN | apply wD) | exact HB.out)) hb); clear HB; have HO285 := n0_; have HB := n1_; clear n0_ n1_; clear hb ho21) | ((with_reducible refine gate_builtin (b := .append) (xs := #[.tmp 39, .tmp 40]) rfl ?_); (try (refine gate_guard (by rfl) ?_; dsimp only)); at_builtin; refine Kd.R_append_rows k43 (w0 := w) w.heap.size rfl (.tmp 39) (.tmp 40) 23 43 (.agg #[(.string ⟨#[]⟩), (.bool false)]) 24 rfl Tryd.underlying23 info43 rfl (by decide) (by omega) v284 y283 l0 _ _ _ (fun _ => True) (fun _ => False) rfl rfl ?aO ?aR (fun _ _ h => h) (fun _ h => h.elim) ?aF ?aB ?aS ?aL ?_; (case aR => repeat (first | exact (Kd.C_below HR0.out HB.out) | (with_reducible refine Kd.C_alloc ?_ _) | (with_reducible refine Kd.C_drewN ?_ _) | (with_reducible refine Kd.C_drew ?_))); (case aB => exact (by repeat (first | (with_reducible first | exact HB.out | apply wA | apply wN | apply wD) | exact HB.out))); (case aF => exact (fun _ _ => trivial)); (case aO => exact (by (with_reducible repeat (first | apply Kd.R_alloc | apply Kd.R_drewN | apply Kd.R_drew)); exact HO285.out)); (case aS => exact (below_size (by repeat (first | (with_reducible first | exact HB.out | apply wA | apply wN | apply wD) | exact HB.out)))); (case aL => have := LMc14.out; omega); intro v287 w22 ho hb hg hat; rw [← Ny286.out] at ho; have n0_ := ak (hb); have n1_ := ak (ho); clear HB; clear HO285; have HB := n0_; have HO288 := n1_; clear n0_ n1_; clear ho hb hg hat) | ((with_reducible refine gate_builtin (b := .append) (xs := #[.tmp 41, .tmp 42]) rfl ?_); (try (refine gate_guard (by rfl) ?_; dsimp only)); at_builtin; refine Kd.R_append_rows k43 (w0 := w) w.heap.size rfl (.tmp 41) (.tmp 42) 23 43 (.agg #[(.string ⟨#[]⟩), (.bool false)]) 24 rfl Tryd.underlying23 info43 rfl (by decide) (by omega) v287 y286 l1 _ _ _ (fun _ => True) (fun _ => False) rfl rfl ?aO ?aR (fun _ _ h => h) (fun _ h => h.elim) ?aF ?aB ?aS ?aL ?_; (case aR => repeat (first | exact (Kd.C_below HR1.out HB.out) | (with_reducible refine Kd.C_alloc ?_ _) | (with_reducible refine Kd.C_drewN ?_ _) | (with_reducible refine Kd.C_drew ?_))); (case aB => exact (by repeat (first | (with_reducible first | exact HB.out | apply wA | apply wN | apply wD) | exact HB.out))); (case aF => exact (fun _ _ => trivial)); (case aO => exact (by (with_reducible repeat (first | apply Kd.R_alloc | apply Kd.R_drewN | apply Kd.R_drew)); exact HO288.out)); (case aS => exact (below_size (by repeat (first | (with_reducible first | exact HB.out | apply wA | apply wN | apply wD) | exact HB.out)))); (case aL => have := LMc15.out; omega); intro v290 w23 ho hb hg hat; rw [← Ny289.out] at ho; have n0_ := ak (hb); have n1_ := ak (ho); clear HB; clear HO288; have HB := n0_; have HO291 := n1_; clear n0_ n1_; clear ho hb hg hat; obtain ⟨Ao24, co24, eo24⟩ := Kd.R_slice HO291.out; subst eo24) | ((with_reducible refine gate_callee (f := 24) rfl ?_); refine goesL_ (some 44) rfl rfl Tryd.func24 (by kernel_rfl) rfl #[.slice Ao24 y289.length co24] rfl (by (try simp only [List.map_toArray, List.map_cons, List.map_nil]); first | done | rfl | (simp only [List.length_drop, List.length_take]; rfl)) ?_; (with_reducible refine (words_Join.calls kj2 _ _ y289 t292 t293 _ ?side1 ?side2 A16.out ⟨Wd.All.stay HT.out (by repeat (first | (with_reducible first | exact HB.out | apply wA | apply wN | apply wD) | exact HB.out | (refine below_set ?_ (by assumption)) | (refine below_set ?_ (Aside0.out (by assumption)))))⟩).mono ?_); (case side1 => repeat (first | exact (Kd.R_reads' HO291.out).2.2 | (with_reducible refine Kd.C_alloc ?_ _) | (with_reducible refine Kd.C_drewN ?_ _) | (with_reducible refine Kd.C_drew ?_))); (case side2 => exact (Kd.R_reads' HO291.out).2.1); rintro e w25 ⟨rfl, hb⟩; refine ⟨_, rfl, ?_⟩; have n0_ := ak (Kd.R_below (by (with_reducible repeat (first | apply Kd.R_alloc | apply Kd.R_drewN | apply Kd.R_drew)); exact HO291.out) hb); have n1_ := ak (below_step (by repeat (first | (with_reducible first | exact HB.out | apply wA | apply wN | apply wD) | exact HB.out)) hb); clear HO291; clear HB; have HO291 := n0_; have HB := n1_; clear n0_ n1_; (try clear hb); (try clear hb2); (try clear hk); (try clear hi)))
            (try simp only [Act.put, List.setIfInBounds_toArray, List.set_cons_zero, List.set_cons_succ])
            go_cut [52] (fun v52 wc => ∃ (kq : Nat) (x52_16 : Bool), v52 = .bool x52_16 ∧ Aside0 (mummerlaw01_WordsBoth.j1 kq l0 l1 t279 t281 t292 t293 x52_16 = some r) ∧ Aside0 (kq ≤ kj2) ∧ Aside0 (Below w.heap.size w wc))
            case first =>
              have H := HC17.out
              clear HC17
              by_cases c26 : t280 = 0
              · rw [if_pos c26] at H
                have c26b0 : (t280 == 0) = true := beq_iff_eq.mpr c26
                have c26b1 : (t280 != 0) = false := bne_eq_false_iff_eq.mpr c26
                clear c26
                (first | rw [c26b0] | (simp only [i64_w, i32_w]; rw [c26b0]) | skip)
                have H' := ak H
                clear H
                go_wp2
                go_meet
                case rel => exact ⟨_, ((t282 != 0)), (by first | rfl | (simp; done) | (simp [*]; done) | (cases t282 <;> simp)), H', ⟨by have := HJ2.out; first | omega | exact Nat.le_refl _⟩, ⟨by repeat (first | (with_reducible first | exact HB.out | apply wA | apply wN | apply wD) | exact HB.out)⟩⟩
              · rw [if_neg c26] at H
                have c26b0 : (t280 == 0) = false := beq_eq_false_iff_ne.mpr c26
                have c26b1 : (t280 != 0) = true := bne_iff_ne.mpr c26
                (first | rw [c26b0] | (simp only [i64_w, i32_w]; rw [c26b0]) | skip)
                have H' := ak H
                clear H
                go_wp2
                go_meet
                case rel => exact ⟨_, (true), (by first | rfl | (simp; done) | (simp [*]; done)), H', ⟨by have := HJ2.out; first | omega | exact Nat.le_refl _⟩, ⟨by repeat (first | (with_reducible first | exact HB.out | apply wA | apply wN | apply wD) | exact HB.out)⟩⟩
            case rest =>
              clear HC17
              try clear c1
              try clear c2
              try clear p2
              try clear c5
              try clear c7
              try clear c8
              try clear c8b0
              try clear c8b1
              try clear c8b2
              try clear c9
              try clear c14
              try clear c15
              try clear c23
              try clear c24
              try clear c26
              try clear c26b0
              try clear c26b1
              try clear p2
              obtain ⟨kq, x52_16, rfl, HA, HJ16, HB⟩ := hcut
              cases kq with
              | zero => exact absurd HA.out (by simp [mummerlaw01_WordsBoth.j1])
              | succ kj16 =>
                have H := HA.out
                clear HA
                simp only [mummerlaw01_WordsBoth.j1] at H
                by_cases c27 : x52_16 = true
                · subst c27
                  have H1 : (if t293 = 0 then (some false) else ((mummerlaw01_shown.f kj16).bind fun t294 => (some t294))) = some r := by rw [if_pos rfl] at H; exact H
                  clear H
                  have H := H1
                  clear H1
                  by_cases c28 : t293 = 0
                  · rw [if_pos c28] at H
                    have c28b0 : (t293 == 0) = true := beq_iff_eq.mpr c28
                    have c28b1 : (t293 != 0) = false := bne_eq_false_iff_eq.mpr c28
                    clear c28
                    exact absurd ((Option.some.inj H).trans hrt.out) (by decide)
                  · rw [if_neg c28] at H
                    have c28b0 : (t293 == 0) = false := beq_eq_false_iff_ne.mpr c28
                    have c28b1 : (t293 != 0) = true := bne_iff_ne.mpr c28
                    replace H := Option.bind_eq_some_iff.mp H
                    obtain ⟨t294, A290, H⟩ := H
                    replace H : (some t294) = some r := H
                    have A29 := ak A290
                    clear A290
                    obtain rfl := Option.some.inj H
                    go_wp2_with (first | (go_at_call 9; (with_reducible refine (mummerlaw01_shown.calls kj16  t294 _ hrt A29.out ⟨Wd.All.stay HT.out (by repeat (first | (with_reducible first | exact HB.out | apply wA | apply wN | apply wD) | exact HB.out | (refine below_set ?_ (by assumption)) | (refine below_set ?_ (Aside0.out (by assumption)))))⟩).mono ?_); rintro e w30 ⟨rfl, hb⟩; have n0_ := ak (below_step (by repeat (first | (with_reducible first | exact HB.out | apply wA | apply wN | apply wD) | exact HB.out)) hb); clear HB; have HB := n0_; clear n0_; (try clear hb); (try clear hb2); (try clear hk); (try clear hi)))
                    go_ret
                    exact ⟨by first | rfl | (simp [errW_none, errW_some] <;> rfl) | (simp [*, errW_none, errW_some] <;> rfl), by repeat (first | (with_reducible first | exact HB.out | apply wA | apply wN | apply wD) | exact HB.out)⟩
                · replace c27 := Bool.eq_false_iff.mpr c27
                  subst c27
                  have H1 : (if (wrap64 ((l0.length : Int) + (l1.length : Int))) > 64 then (mummerlaw01_WordsBoth.j2 kj16 t279 t281 t292 t293 true) else (mummerlaw01_WordsBoth.j2 kj16 t279 t281 t292 t293 (decide ((wrap64 ((wrap64 ((t279.size : Int) + 1)) + (t281.size : Int))) > 8192)))) = some r := by rw [if_neg (show ¬ (false = true) by decide)] at H; exact H
                  clear H
                  have H := H1
                  clear H1
                  have HC31 := ak H
                  clear H
                  go_upto_region 8 with (fail)
                  go_cut [72] (fun v72 wc => ∃ (kq : Nat) (x72_30 : Bool), v72 = .bool x72_30 ∧ Aside0 (mummerlaw01_WordsBoth.j2 kq t279 t281 t292 t293 x72_30 = some r) ∧ Aside0 (kq ≤ kj16) ∧ Aside0 (Below w.heap.size w wc))
                  case first =>
                    have H := HC31.out
                    clear HC31
                    by_cases c32 : (wrap64 ((l0.length : Int) + (l1.length : Int))) > 64
                    · rw [if_pos c32] at H
                      have c32b0 : decide (64 < (wrap64 ((l0.length : Int) + (l1.length : Int)))) = true := decide_eq_true c32
                      clear c32
                      (first | rw [c32b0] | (simp only [i64_w, i32_w]; rw [c32b0]) | skip)
                      have H' := ak H
                      clear H
                      go_wp2
                      go_meet
                      case rel => exact ⟨_, (true), (by first | rfl | (simp; done) | (simp [*]; done)), H', ⟨by have := HJ2.out; have := HJ16.out; first | omega | exact Nat.le_refl _⟩, ⟨by repeat (first | (with_reducible first | exact HB.out | apply wA | apply wN | apply wD) | exact HB.out)⟩⟩
                    · rw [if_neg c32] at H
                      have c32b0 : decide (64 < (wrap64 ((l0.length : Int) + (l1.length : Int)))) = false := decide_eq_false c32
                      clear c32
                      (first | rw [c32b0] | (simp only [i64_w, i32_w]; rw [c32b0]) | skip)
                      have H' := ak H
                      clear H
                      go_wp2
                      go_meet
                      case rel => exact ⟨_, (decide ((wrap64 ((wrap64 ((t279.size : Int) + 1)) + (t281.size : Int))) > 8192)), (by first | rfl | (simp; done) | (simp [*]; done)), H', ⟨by have := HJ2.out; have := HJ16.out; first | omega | exact Nat.le_refl _⟩, ⟨by repeat (first | (with_reducible first | exact HB.out | apply wA | apply wN | apply wD) | exact HB.out)⟩⟩
                  case rest =>
                    clear HC31
                    try clear c1
                    try clear c2
                    try clear p2
                    try clear c3
                    try clear c5
                    try clear p6
                    try clear c7
                    try clear c8
                    try clear c8b0
                    try clear c8b1
                    try clear c8b2
                    try clear c9
                    try clear c14
                    try clear c15
                    try clear c23
                    try clear c24
                    try clear c26
                    try clear c26b0
                    try clear c26b1
                    try clear c27
                    try clear c28
                    try clear c28b0
                    try clear c28b1
                    try clear c32
                    try clear c32b0
                    try clear p2
                    obtain ⟨kq, x72_30, rfl, HA, HJ30, HB⟩ := hcut
                    cases kq with
                    | zero => exact absurd HA.out (by simp [mummerlaw01_WordsBoth.j2])
                    | succ kj30 =>
                      have H := HA.out
                      clear HA
                      simp only [mummerlaw01_WordsBoth.j2] at H
                      by_cases c33 : x72_30 = true
                      · subst c33
                        have H1 : (if t293 = 3 then (if t292.toList = ([] : List UInt8) then ((mummerlaw01_shown.f kj30).bind fun t295 => (some t295)) else (some false)) else (some false)) = some r := by rw [if_pos rfl] at H; exact H
                        clear H
                        have H := H1
                        clear H1
                        by_cases c34 : t293 = 3
                        · rw [if_pos c34] at H
                          have c34b0 : (t293 == 3) = true := beq_iff_eq.mpr c34
                          have c34b1 : (t293 != 3) = false := bne_eq_false_iff_eq.mpr c34
                          clear c34
                          by_cases c35 : t292.toList = ([] : List UInt8)
                          · rw [if_pos c35] at H
                            have c35b0 : (t292.toList == ([] : List UInt8)) = true := beq_iff_eq.mpr c35
                            have c35b1 : (t292.toList != ([] : List UInt8)) = false := bne_eq_false_iff_eq.mpr c35
                            clear c35
                            replace H := Option.bind_eq_some_iff.mp H
                            obtain ⟨t295, A360, H⟩ := H
                            replace H : (some t295) = some r := H
                            have A36 := ak A360
                            clear A360
                            obtain rfl := Option.some.inj H
                            go_wp2_with (first | (go_at_call 9; (with_reducible refine (mummerlaw01_shown.calls kj30  t295 _ hrt A36.out ⟨Wd.All.stay HT.out (by repeat (first | (with_reducible first | exact HB.out | apply wA | apply wN | apply wD) | exact HB.out | (refine below_set ?_ (by assumption)) | (refine below_set ?_ (Aside0.out (by assumption)))))⟩).mono ?_); rintro e w37 ⟨rfl, hb⟩; have n0_ := ak (below_step (by repeat (first | (with_reducible first | exact HB.out | apply wA | apply wN | apply wD) | exact HB.out)) hb); clear HB; have HB := n0_; clear n0_; (try clear hb); (try clear hb2); (try clear hk); (try clear hi)))
                            go_ret
                            exact ⟨by first | rfl | (simp [errW_none, errW_some] <;> rfl) | (simp [*, errW_none, errW_some] <;> rfl), by repeat (first | (with_reducible first | exact HB.out | apply wA | apply wN | apply wD) | exact HB.out)⟩
                          · rw [if_neg c35] at H
                            have c35b0 : (t292.toList == ([] : List UInt8)) = false := beq_eq_false_iff_ne.mpr c35
                            have c35b1 : (t292.toList != ([] : List UInt8)) = true := bne_iff_ne.mpr c35
                            exact absurd ((Option.some.inj H).trans hrt.out) (by decide)
                        · rw [if_neg c34] at H
                          have c34b0 : (t293 == 3) = false := beq_eq_false_iff_ne.mpr c34
                          have c34b1 : (t293 != 3) = true := bne_iff_ne.mpr c34
                          exact absurd ((Option.some.inj H).trans hrt.out) (by decide)
                      · replace c33 := Bool.eq_false_iff.mpr c33
                        subst c33
                        have H1 : (if t293 = 0 then (if t279.size + 1 ≤ 9223372036854775807 then (if (t279 ++ (⟨#[32]⟩ : ByteArray)).size + t281.size ≤ 9223372036854775807 then (if t292.toList = ((t279 ++ (⟨#[32]⟩ : ByteArray)) ++ t281).toList then ((mummerlaw01_shown.f kj30).bind fun t296 => (some t296)) else (some false)) else (none)) else (none)) else (some false)) = some r := by rw [if_neg (show ¬ (false = true) by decide)] at H; exact H
                        clear H
                        have H := H1
                        clear H1
                        by_cases c38 : t293 = 0
                        · rw [if_pos c38] at H
                          have c38b0 : (t293 == 0) = true := beq_iff_eq.mpr c38
                          have c38b1 : (t293 != 0) = false := bne_eq_false_iff_eq.mpr c38
                          clear c38
                          by_cases c39 : t279.size + 1 ≤ 9223372036854775807
                          · rw [if_pos c39] at H
                            have c39b0 := eq_true c39
                            have c39b1 : decide (t279.size + 1 ≤ 9223372036854775807) = true := decide_eq_true c39
                            try have c39b2 : (9223372036854775807 < t279.size + 1) = False := eq_false (Nat.not_lt.2 c39)
                            by_cases c40 : (t279 ++ (⟨#[32]⟩ : ByteArray)).size + t281.size ≤ 9223372036854775807
                            · rw [if_pos c40] at H
                              have c40b0 := eq_true c40
                              have c40b1 : decide ((t279 ++ (⟨#[32]⟩ : ByteArray)).size + t281.size ≤ 9223372036854775807) = true := decide_eq_true c40
                              try have c40b2 : (9223372036854775807 < (t279 ++ (⟨#[32]⟩ : ByteArray)).size + t281.size) = False := eq_false (Nat.not_lt.2 c40)
                              by_cases c41 : t292.toList = ((t279 ++ (⟨#[32]⟩ : ByteArray)) ++ t281).toList
                              · rw [if_pos c41] at H
                                have c41b0 : (t292.toList == ((t279 ++ (⟨#[32]⟩ : ByteArray)) ++ t281).toList) = true := beq_iff_eq.mpr c41
                                have c41b1 : (t292.toList != ((t279 ++ (⟨#[32]⟩ : ByteArray)) ++ t281).toList) = false := bne_eq_false_iff_eq.mpr c41
                                clear c41
                                replace H := Option.bind_eq_some_iff.mp H
                                obtain ⟨t296, A420, H⟩ := H
                                replace H : (some t296) = some r := H
                                have A42 := ak A420
                                clear A420
                                obtain rfl := Option.some.inj H
                                go_wp2_with (first | (go_at_call 9; (with_reducible refine (mummerlaw01_shown.calls kj30  t296 _ hrt A42.out ⟨Wd.All.stay HT.out (by repeat (first | (with_reducible first | exact HB.out | apply wA | apply wN | apply wD) | exact HB.out | (refine below_set ?_ (by assumption)) | (refine below_set ?_ (Aside0.out (by assumption)))))⟩).mono ?_); rintro e w43 ⟨rfl, hb⟩; have n0_ := ak (below_step (by repeat (first | (with_reducible first | exact HB.out | apply wA | apply wN | apply wD) | exact HB.out)) hb); clear HB; have HB := n0_; clear n0_; (try clear hb); (try clear hb2); (try clear hk); (try clear hi)))
                                go_ret
                                exact ⟨by first | rfl | (simp [errW_none, errW_some] <;> rfl) | (simp [*, errW_none, errW_some] <;> rfl), by repeat (first | (with_reducible first | exact HB.out | apply wA | apply wN | apply wD) | exact HB.out)⟩
                              · rw [if_neg c41] at H
                                have c41b0 : (t292.toList == ((t279 ++ (⟨#[32]⟩ : ByteArray)) ++ t281).toList) = false := beq_eq_false_iff_ne.mpr c41
                                have c41b1 : (t292.toList != ((t279 ++ (⟨#[32]⟩ : ByteArray)) ++ t281).toList) = true := bne_iff_ne.mpr c41
                                exact absurd ((Option.some.inj H).trans hrt.out) (by decide)
                            · rw [if_neg c40] at H
                              exact absurd H (by simp)
                          · rw [if_neg c39] at H
                            exact absurd H (by simp)
                        · rw [if_neg c38] at H
                          have c38b0 : (t293 == 0) = false := beq_eq_false_iff_ne.mpr c38
                          have c38b1 : (t293 != 0) = true := bne_iff_ne.mpr c38
                          exact absurd ((Option.some.inj H).trans hrt.out) (by decide)
          · rw [if_neg c15] at H
            exact absurd H (by simp)
        · rw [if_neg c14] at H
          exact absurd H (by simp)
end Go.Proofs.YtciaocdpojnmcaaDoor.P
