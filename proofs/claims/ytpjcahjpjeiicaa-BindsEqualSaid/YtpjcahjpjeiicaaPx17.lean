-- Written by wip/tools/myprint.py of this session over the kit's print; Lean checks it.
import Derived.Test.YtpjcahjpjeiicaaPx0
import Derived.Test.YtpjcahjpjeiicaaPx16
namespace Go.Proofs.Ytpjcahjpjeiicaa.P
open Go.RowKit Go.Proofs.YtpjcahjpjeiicaaW.PrintWords Go.Proofs.YtpjcahjpjeiicaaW.PrintLast Go.Proofs.YtpjcahjpjeiicaaW.PrintMore
attribute [local go_sem] max2_int min2_int max_two min_two max_three min_three max_four min_four   -- for this text's walks alone
set_option linter.unusedVariables false
set_option linter.unusedSimpArgs false

/-! ### mummerlaw11_set: function 30 -/
def mummerlaw11_set.f (k : Nat) (l0 : List Int) : Option (ByteArray) := (mummerref09_Of.f k l0).bind fun bt210 => (some bt210.1)
theorem mummerlaw11_set.mono : ∀ a0 k, LeO (mummerlaw11_set.f k a0) (mummerlaw11_set.f (k + 1) a0) := by
  intro a0 k
  unfold mummerlaw11_set.f
  repeat' first
      | (with_reducible exact mummerref09_Of.mono _ _)
      | (with_reducible exact LeO.refl _)
      | (with_reducible exact LeO.none _)
      | (with_reducible refine LeO.ite ?_ ?_)
      | (with_reducible refine LeO.bind ?_ (fun _ => ?_))
      | exact mummerref09_Of.mono _ _
      | exact LeO.none _
      | refine LeO.ite ?_ ?_
      | refine LeO.bind ?_ (fun _ => ?_)
set_option maxHeartbeats 8000000 in
set_option maxRecDepth 100000 in
theorem mummerlaw11_set.calls (k : Nat) (A0 : Option Addr) (c0 : Nat) (l0 : List Int) (r : ByteArray) (w : World) (hr0 : Kd.C (Kd.int .i64) w A0 l0.length l0) (hc0 : l0.length ≤ c0) (h : mummerlaw11_set.f k l0 = some r) :
    Calls Try.prog 30 #[.slice A0 l0.length c0] w fun e w' => e = .returned (.string r) ∧ Below w.heap.size w w' := by
  have HR0 := ak hr0
  have HC0 := ak hc0
  clear hr0 hc0
  have HB := ak (Below.refl w.heap.size w)
  have H : ((mummerref09_Of.f k l0).bind fun bt210 => (some bt210.1)) = some r := h
  clear h
  replace H := Option.bind_eq_some_iff.mp H
  obtain ⟨⟨t210, t211⟩, A20, H⟩ := H
  replace H : (some t210) = some r := H
  have A2 := ak A20
  clear A20
  obtain rfl := Option.some.inj H
  go_enter Try.func30, Try.ntmps30
  go_wp2_with (first | ((with_reducible refine gate_callee (f := 46) rfl ?_); refine goesL_ (some 7) rfl rfl Try.func46 (by kernel_rfl) rfl #[.slice A0 l0.length c0] rfl (by (try simp only [List.map_toArray, List.map_cons, List.map_nil]); first | done | rfl | (simp only [List.length_drop, List.length_take]; rfl)) ?_; (with_reducible refine (mummerref09_Of.calls k _ _ l0 t210 t211 _ ?side1 ?side2 A2.out).mono ?_); (case side1 => repeat (first | exact HR0.out | (with_reducible refine Kd.C_alloc ?_ _) | (with_reducible refine Kd.C_drewN ?_ _) | (with_reducible refine Kd.C_drew ?_))); (case side2 => exact HC0.out); rintro e w3 ⟨rfl, hb⟩; refine ⟨_, rfl, ?_⟩; have n0_ := ak (below_step (by repeat (first | (with_reducible first | exact HB.out | apply wA | apply wN | apply wD) | exact HB.out)) hb); clear HB; have HB := n0_; clear n0_; (try clear hb); (try clear hb2); (try clear hk); (try clear hi)))
  go_ret
  exact ⟨by first | rfl | (simp [errW_none, errW_some] <;> rfl) | (simp [*, errW_none, errW_some] <;> rfl), by repeat (first | (with_reducible first | exact HB.out | apply wA | apply wN | apply wD) | exact HB.out)⟩

/-! ### mummerlaw11_Example: function 29 -/
def mummerlaw11_Example.f (k : Nat)  : Option ((List (S24))) := (mummerlaw11_set.f k (([1] : List Int))).bind fun t215 => ((mummerlaw11_set.f k (([1, 2] : List Int))).bind fun t219 => ((mummerlaw11_set.f k (([1, 3] : List Int))).bind fun t223 => (some (([(⟨(⟨#[120]⟩ : ByteArray), t215, 1, 0⟩ : S24), (⟨(⟨#[120]⟩ : ByteArray), t219, 1, 1⟩ : S24), (⟨(⟨#[120]⟩ : ByteArray), t223, 1, 2⟩ : S24), (⟨(⟨#[121]⟩ : ByteArray), (⟨#[]⟩ : ByteArray), 3, 5⟩ : S24)] : List (S24))))))
theorem mummerlaw11_Example.mono : ∀ k, LeO (mummerlaw11_Example.f k ) (mummerlaw11_Example.f (k + 1) ) := by
  intro  k
  unfold mummerlaw11_Example.f
  repeat' first
      | (with_reducible exact mummerlaw11_set.mono _ _)
      | (with_reducible exact LeO.refl _)
      | (with_reducible exact LeO.none _)
      | (with_reducible refine LeO.ite ?_ ?_)
      | (with_reducible refine LeO.bind ?_ (fun _ => ?_))
      | exact mummerlaw11_set.mono _ _
      | exact LeO.none _
      | refine LeO.ite ?_ ?_
      | refine LeO.bind ?_ (fun _ => ?_)
set_option maxHeartbeats 8000000 in
set_option maxRecDepth 100000 in
theorem mummerlaw11_Example.calls (k : Nat)  (r : List (S24)) (w : World) (h : mummerlaw11_Example.f k  = some r) :
    Calls Try.prog 29 #[] w fun e w' => ∃ v0_ : Value, e = .returned (v0_) ∧ Kd.R k24 24 w' w.heap.size (fun _ => True) v0_ r ∧ Below w.heap.size w w' := by
  have hu24 := Try.underlying24
  have HB := ak (Below.refl w.heap.size w)
  have H : ((mummerlaw11_set.f k (([1] : List Int))).bind fun t215 => ((mummerlaw11_set.f k (([1, 2] : List Int))).bind fun t219 => ((mummerlaw11_set.f k (([1, 3] : List Int))).bind fun t223 => (some (([(⟨(⟨#[120]⟩ : ByteArray), t215, 1, 0⟩ : S24), (⟨(⟨#[120]⟩ : ByteArray), t219, 1, 1⟩ : S24), (⟨(⟨#[120]⟩ : ByteArray), t223, 1, 2⟩ : S24), (⟨(⟨#[121]⟩ : ByteArray), (⟨#[]⟩ : ByteArray), 3, 5⟩ : S24)] : List (S24))))))) = some r := h
  clear h
  obtain ⟨y212, hy212⟩ : ∃ y_ : List Int, y_ = (([1] : List Int)) := ⟨_, rfl⟩
  replace H : ((mummerlaw11_set.f k y212).bind fun t215 => ((mummerlaw11_set.f k (([1, 2] : List Int))).bind fun t219 => ((mummerlaw11_set.f k (([1, 3] : List Int))).bind fun t223 => (some (([(⟨(⟨#[120]⟩ : ByteArray), t215, 1, 0⟩ : S24), (⟨(⟨#[120]⟩ : ByteArray), t219, 1, 1⟩ : S24), (⟨(⟨#[120]⟩ : ByteArray), t223, 1, 2⟩ : S24), (⟨(⟨#[121]⟩ : ByteArray), (⟨#[]⟩ : ByteArray), 3, 5⟩ : S24)] : List (S24))))))) = some r := by first | (rw [hy212]; with_reducible exact H) | (have H2_ := (Option.bind_some _ _).symm.trans H; rw [hy212]; with_reducible exact H2_) | (have H2_ := (Option.bind_some _ _).symm.trans H; with_reducible exact H2_) | with_reducible exact H | (rw [hy212]; exact H) | exact H
  have Ny212 := ak hy212
  clear hy212
  replace H := Option.bind_eq_some_iff.mp H
  obtain ⟨t215, A10, H⟩ := H
  replace H : ((mummerlaw11_set.f k (([1, 2] : List Int))).bind fun t219 => ((mummerlaw11_set.f k (([1, 3] : List Int))).bind fun t223 => (some (([(⟨(⟨#[120]⟩ : ByteArray), t215, 1, 0⟩ : S24), (⟨(⟨#[120]⟩ : ByteArray), t219, 1, 1⟩ : S24), (⟨(⟨#[120]⟩ : ByteArray), t223, 1, 2⟩ : S24), (⟨(⟨#[121]⟩ : ByteArray), (⟨#[]⟩ : ByteArray), 3, 5⟩ : S24)] : List (S24)))))) = some r := H
  have A1 := ak A10
  clear A10
  obtain ⟨y216, hy216⟩ : ∃ y_ : List Int, y_ = (([1, 2] : List Int)) := ⟨_, rfl⟩
  replace H : ((mummerlaw11_set.f k y216).bind fun t219 => ((mummerlaw11_set.f k (([1, 3] : List Int))).bind fun t223 => (some (([(⟨(⟨#[120]⟩ : ByteArray), t215, 1, 0⟩ : S24), (⟨(⟨#[120]⟩ : ByteArray), t219, 1, 1⟩ : S24), (⟨(⟨#[120]⟩ : ByteArray), t223, 1, 2⟩ : S24), (⟨(⟨#[121]⟩ : ByteArray), (⟨#[]⟩ : ByteArray), 3, 5⟩ : S24)] : List (S24)))))) = some r := by first | (rw [hy216]; with_reducible exact H) | (have H2_ := (Option.bind_some _ _).symm.trans H; rw [hy216]; with_reducible exact H2_) | (have H2_ := (Option.bind_some _ _).symm.trans H; with_reducible exact H2_) | with_reducible exact H | (rw [hy216]; exact H) | exact H
  have Ny216 := ak hy216
  clear hy216
  replace H := Option.bind_eq_some_iff.mp H
  obtain ⟨t219, A20, H⟩ := H
  replace H : ((mummerlaw11_set.f k (([1, 3] : List Int))).bind fun t223 => (some (([(⟨(⟨#[120]⟩ : ByteArray), t215, 1, 0⟩ : S24), (⟨(⟨#[120]⟩ : ByteArray), t219, 1, 1⟩ : S24), (⟨(⟨#[120]⟩ : ByteArray), t223, 1, 2⟩ : S24), (⟨(⟨#[121]⟩ : ByteArray), (⟨#[]⟩ : ByteArray), 3, 5⟩ : S24)] : List (S24))))) = some r := H
  have A2 := ak A20
  clear A20
  obtain ⟨y220, hy220⟩ : ∃ y_ : List Int, y_ = (([1, 3] : List Int)) := ⟨_, rfl⟩
  replace H : ((mummerlaw11_set.f k y220).bind fun t223 => (some (([(⟨(⟨#[120]⟩ : ByteArray), t215, 1, 0⟩ : S24), (⟨(⟨#[120]⟩ : ByteArray), t219, 1, 1⟩ : S24), (⟨(⟨#[120]⟩ : ByteArray), t223, 1, 2⟩ : S24), (⟨(⟨#[121]⟩ : ByteArray), (⟨#[]⟩ : ByteArray), 3, 5⟩ : S24)] : List (S24))))) = some r := by first | (rw [hy220]; with_reducible exact H) | (have H2_ := (Option.bind_some _ _).symm.trans H; rw [hy220]; with_reducible exact H2_) | (have H2_ := (Option.bind_some _ _).symm.trans H; with_reducible exact H2_) | with_reducible exact H | (rw [hy220]; exact H) | exact H
  have Ny220 := ak hy220
  clear hy220
  replace H := Option.bind_eq_some_iff.mp H
  obtain ⟨t223, A30, H⟩ := H
  replace H : (some (([(⟨(⟨#[120]⟩ : ByteArray), t215, 1, 0⟩ : S24), (⟨(⟨#[120]⟩ : ByteArray), t219, 1, 1⟩ : S24), (⟨(⟨#[120]⟩ : ByteArray), t223, 1, 2⟩ : S24), (⟨(⟨#[121]⟩ : ByteArray), (⟨#[]⟩ : ByteArray), 3, 5⟩ : S24)] : List (S24)))) = some r := H
  have A3 := ak A30
  clear A30
  obtain ⟨y224, hy224⟩ : ∃ y_ : List (S24), y_ = (([(⟨(⟨#[120]⟩ : ByteArray), t215, 1, 0⟩ : S24), (⟨(⟨#[120]⟩ : ByteArray), t219, 1, 1⟩ : S24), (⟨(⟨#[120]⟩ : ByteArray), t223, 1, 2⟩ : S24), (⟨(⟨#[121]⟩ : ByteArray), (⟨#[]⟩ : ByteArray), 3, 5⟩ : S24)] : List (S24))) := ⟨_, rfl⟩
  replace H : (some y224) = some r := by first | (rw [hy224]; with_reducible exact H) | (have H2_ := (Option.bind_some _ _).symm.trans H; rw [hy224]; with_reducible exact H2_) | (have H2_ := (Option.bind_some _ _).symm.trans H; with_reducible exact H2_) | with_reducible exact H | (rw [hy224]; exact H) | exact H
  have Ny224 := ak hy224
  clear hy224
  obtain rfl := Option.some.inj H
  go_enter Try.func29, Try.ntmps29
  go_wp2_with (first | ((with_reducible refine gate_dst (N := 1) rfl ?_); refine Kd.R_lit (Kd.int .i64) _ 3 ?hg (N := 1) ?hd (xs := ([1] : List Int)) (inner := [.int .i64 1]) (ok := fun _ => True) (okp := fun _ => True) ?hr ?hp (fun _ hk => hk) trivial (Below.refl _ _) (Nat.le_refl _) (by simp) ?_; (case hd => rfl); (case hg => rfl); (case hr => first | (go_simp; done) | (go_simp; rfl)); (case hp => exact (Reps.one (show Kd.M (Kd.int .i64) _ _ _ 1 [.int .i64 1] from rfl) (Reps.none _ _))); intro v213 w4 ho5 hb hg_ hnew_; clear hg_ hnew_; (first | rw [← Ny212.out] at ho5 | (simp only [Int.reduceToNat] at ho5; rw [← Ny212.out] at ho5)); have n0_ := ak (Kd.R_lower ho5 (below_size (by repeat (first | (with_reducible first | exact HB.out | apply wA | apply wN | apply wD) | exact HB.out)))); have n1_ := ak (below_step (by repeat (first | (with_reducible first | exact HB.out | apply wA | apply wN | apply wD) | exact HB.out)) hb); clear HB; have HO214 := n0_; have HB := n1_; clear n0_ n1_; clear hb ho5; obtain ⟨Ao6, co6, eo6⟩ := Kd.R_slice HO214.out; subst eo6) | ((with_reducible refine gate_callee (f := 30) rfl ?_); refine goesL_ (some 2) rfl rfl Try.func30 (by kernel_rfl) rfl #[.slice Ao6 y212.length co6] rfl (by (try simp only [List.map_toArray, List.map_cons, List.map_nil]); first | done | rfl | (simp only [List.length_drop, List.length_take]; rfl)) ?_; (with_reducible refine (mummerlaw11_set.calls k _ _ y212 t215 _ ?side1 ?side2 A1.out).mono ?_); (case side1 => repeat (first | exact (Kd.R_reads' HO214.out).2.2 | (with_reducible refine Kd.C_alloc ?_ _) | (with_reducible refine Kd.C_drewN ?_ _) | (with_reducible refine Kd.C_drew ?_))); (case side2 => exact (Kd.R_reads' HO214.out).2.1); rintro e w7 ⟨rfl, hb⟩; refine ⟨_, rfl, ?_⟩; have n0_ := ak (Kd.R_below (by (with_reducible repeat (first | apply Kd.R_alloc | apply Kd.R_drewN | apply Kd.R_drew)); exact HO214.out) hb); have n1_ := ak (below_step (by repeat (first | (with_reducible first | exact HB.out | apply wA | apply wN | apply wD) | exact HB.out)) hb); clear HO214; clear HB; have HO214 := n0_; have HB := n1_; clear n0_ n1_; (try clear hb); (try clear hb2); (try clear hk); (try clear hi)) | ((with_reducible refine gate_dst (N := 4) rfl ?_); refine Kd.R_lit (Kd.int .i64) _ 3 ?hg (N := 4) ?hd (xs := ([1, 2] : List Int)) (inner := [.int .i64 1, .int .i64 2]) (ok := fun _ => True) (okp := fun _ => True) ?hr ?hp (fun _ hk => hk) trivial (Below.refl _ _) (Nat.le_refl _) (by simp) ?_; (case hd => rfl); (case hg => rfl); (case hr => first | (go_simp; done) | (go_simp; rfl)); (case hp => exact (Reps.one (show Kd.M (Kd.int .i64) _ _ _ 1 [.int .i64 1] from rfl) (Reps.one (show Kd.M (Kd.int .i64) _ _ _ 2 [.int .i64 2] from rfl) (Reps.none _ _)))); intro v217 w8 ho9 hb hg_ hnew_; clear hg_ hnew_; (first | rw [← Ny216.out] at ho9 | (simp only [Int.reduceToNat] at ho9; rw [← Ny216.out] at ho9)); have n0_ := ak (Kd.R_elder' (by (with_reducible repeat (first | apply Kd.R_alloc | apply Kd.R_drewN | apply Kd.R_drew)); exact HO214.out) (Kd.R_base ho9) hb); have n1_ := ak (Kd.R_lower (Kd.R_new' ho9 (Kd.R_lt (by (with_reducible repeat (first | apply Kd.R_alloc | apply Kd.R_drewN | apply Kd.R_drew)); exact HO214.out))) (below_size (by repeat (first | (with_reducible first | exact HB.out | apply wA | apply wN | apply wD) | exact HB.out)))); have n2_ := ak (below_step (by repeat (first | (with_reducible first | exact HB.out | apply wA | apply wN | apply wD) | exact HB.out)) hb); clear HO214; clear HB; have HO214 := n0_; have HO218 := n1_; have HB := n2_; clear n0_ n1_ n2_; clear hb ho9; obtain ⟨Ao10, co10, eo10⟩ := Kd.R_slice HO218.out; subst eo10) | ((with_reducible refine gate_callee (f := 30) rfl ?_); refine goesL_ (some 5) rfl rfl Try.func30 (by kernel_rfl) rfl #[.slice Ao10 y216.length co10] rfl (by (try simp only [List.map_toArray, List.map_cons, List.map_nil]); first | done | rfl | (simp only [List.length_drop, List.length_take]; rfl)) ?_; (with_reducible refine (mummerlaw11_set.calls k _ _ y216 t219 _ ?side1 ?side2 A2.out).mono ?_); (case side1 => repeat (first | exact (Kd.R_reads' HO218.out).2.2 | (with_reducible refine Kd.C_alloc ?_ _) | (with_reducible refine Kd.C_drewN ?_ _) | (with_reducible refine Kd.C_drew ?_))); (case side2 => exact (Kd.R_reads' HO218.out).2.1); rintro e w11 ⟨rfl, hb⟩; refine ⟨_, rfl, ?_⟩; have n0_ := ak (Kd.R_below (by (with_reducible repeat (first | apply Kd.R_alloc | apply Kd.R_drewN | apply Kd.R_drew)); exact HO214.out) hb); have n1_ := ak (Kd.R_below (by (with_reducible repeat (first | apply Kd.R_alloc | apply Kd.R_drewN | apply Kd.R_drew)); exact HO218.out) hb); have n2_ := ak (below_step (by repeat (first | (with_reducible first | exact HB.out | apply wA | apply wN | apply wD) | exact HB.out)) hb); clear HO214; clear HO218; clear HB; have HO214 := n0_; have HO218 := n1_; have HB := n2_; clear n0_ n1_ n2_; (try clear hb); (try clear hb2); (try clear hk); (try clear hi)) | ((with_reducible refine gate_dst (N := 7) rfl ?_); refine Kd.R_lit (Kd.int .i64) _ 3 ?hg (N := 7) ?hd (xs := ([1, 3] : List Int)) (inner := [.int .i64 1, .int .i64 3]) (ok := fun _ => True) (okp := fun _ => True) ?hr ?hp (fun _ hk => hk) trivial (Below.refl _ _) (Nat.le_refl _) (by simp) ?_; (case hd => rfl); (case hg => rfl); (case hr => first | (go_simp; done) | (go_simp; rfl)); (case hp => exact (Reps.one (show Kd.M (Kd.int .i64) _ _ _ 1 [.int .i64 1] from rfl) (Reps.one (show Kd.M (Kd.int .i64) _ _ _ 3 [.int .i64 3] from rfl) (Reps.none _ _)))); intro v221 w12 ho13 hb hg_ hnew_; clear hg_ hnew_; (first | rw [← Ny220.out] at ho13 | (simp only [Int.reduceToNat] at ho13; rw [← Ny220.out] at ho13)); have n0_ := ak (Kd.R_elder' (by (with_reducible repeat (first | apply Kd.R_alloc | apply Kd.R_drewN | apply Kd.R_drew)); exact HO214.out) (Kd.R_base ho13) hb); have n1_ := ak (Kd.R_elder' (by (with_reducible repeat (first | apply Kd.R_alloc | apply Kd.R_drewN | apply Kd.R_drew)); exact HO218.out) (Kd.R_base ho13) hb); have n2_ := ak (Kd.R_lower (Kd.R_new' (Kd.R_new' ho13 (Kd.R_lt (by (with_reducible repeat (first | apply Kd.R_alloc | apply Kd.R_drewN | apply Kd.R_drew)); exact HO214.out))) (Kd.R_lt (by (with_reducible repeat (first | apply Kd.R_alloc | apply Kd.R_drewN | apply Kd.R_drew)); exact HO218.out))) (below_size (by repeat (first | (with_reducible first | exact HB.out | apply wA | apply wN | apply wD) | exact HB.out)))); have n3_ := ak (below_step (by repeat (first | (with_reducible first | exact HB.out | apply wA | apply wN | apply wD) | exact HB.out)) hb); clear HO214; clear HO218; clear HB; have HO214 := n0_; have HO218 := n1_; have HO222 := n2_; have HB := n3_; clear n0_ n1_ n2_ n3_; clear hb ho13; obtain ⟨Ao14, co14, eo14⟩ := Kd.R_slice HO222.out; subst eo14) | ((with_reducible refine gate_callee (f := 30) rfl ?_); refine goesL_ (some 8) rfl rfl Try.func30 (by kernel_rfl) rfl #[.slice Ao14 y220.length co14] rfl (by (try simp only [List.map_toArray, List.map_cons, List.map_nil]); first | done | rfl | (simp only [List.length_drop, List.length_take]; rfl)) ?_; (with_reducible refine (mummerlaw11_set.calls k _ _ y220 t223 _ ?side1 ?side2 A3.out).mono ?_); (case side1 => repeat (first | exact (Kd.R_reads' HO222.out).2.2 | (with_reducible refine Kd.C_alloc ?_ _) | (with_reducible refine Kd.C_drewN ?_ _) | (with_reducible refine Kd.C_drew ?_))); (case side2 => exact (Kd.R_reads' HO222.out).2.1); rintro e w15 ⟨rfl, hb⟩; refine ⟨_, rfl, ?_⟩; have n0_ := ak (Kd.R_below (by (with_reducible repeat (first | apply Kd.R_alloc | apply Kd.R_drewN | apply Kd.R_drew)); exact HO214.out) hb); have n1_ := ak (Kd.R_below (by (with_reducible repeat (first | apply Kd.R_alloc | apply Kd.R_drewN | apply Kd.R_drew)); exact HO218.out) hb); have n2_ := ak (Kd.R_below (by (with_reducible repeat (first | apply Kd.R_alloc | apply Kd.R_drewN | apply Kd.R_drew)); exact HO222.out) hb); have n3_ := ak (below_step (by repeat (first | (with_reducible first | exact HB.out | apply wA | apply wN | apply wD) | exact HB.out)) hb); clear HO214; clear HO218; clear HO222; clear HB; have HO214 := n0_; have HO218 := n1_; have HO222 := n2_; have HB := n3_; clear n0_ n1_ n2_ n3_; (try clear hb); (try clear hb2); (try clear hk); (try clear hi)) | ((with_reducible refine gate_dst (N := 11) rfl ?_); refine Kd.R_lit k24 _ 24 ?hg (N := 11) ?hd (xs := ([(⟨(⟨#[120]⟩ : ByteArray), t215, 1, 0⟩ : S24), (⟨(⟨#[120]⟩ : ByteArray), t219, 1, 1⟩ : S24), (⟨(⟨#[120]⟩ : ByteArray), t223, 1, 2⟩ : S24), (⟨(⟨#[121]⟩ : ByteArray), (⟨#[]⟩ : ByteArray), 3, 5⟩ : S24)] : List (S24))) (inner := [.string (⟨#[120]⟩ : ByteArray), .string t215, .int .i64 1, .int .i64 0, .string (⟨#[120]⟩ : ByteArray), .string t219, .int .i64 1, .int .i64 1, .string (⟨#[120]⟩ : ByteArray), .string t223, .int .i64 1, .int .i64 2, .string (⟨#[121]⟩ : ByteArray), .string (⟨#[]⟩ : ByteArray), .int .i64 3, .int .i64 5]) (ok := fun _ => True) (okp := fun _ => True) ?hr ?hp (fun _ hk => hk) trivial (Below.refl _ _) (Nat.le_refl _) (by simp) ?_; (case hd => rfl); (case hg => rfl); (case hr => first | (go_simp; done) | (go_simp; rfl)); (case hp => exact (Reps.c4 (show Kd.M k24 _ _ _ (⟨(⟨#[120]⟩ : ByteArray), t215, 1, 0⟩ : S24) [.string (⟨#[120]⟩ : ByteArray), .string t215, .int .i64 1, .int .i64 0] from (k24_mkM _ _ _ (⟨(⟨#[120]⟩ : ByteArray), t215, 1, 0⟩ : S24) )) (Reps.c4 (show Kd.M k24 _ _ _ (⟨(⟨#[120]⟩ : ByteArray), t219, 1, 1⟩ : S24) [.string (⟨#[120]⟩ : ByteArray), .string t219, .int .i64 1, .int .i64 1] from (k24_mkM _ _ _ (⟨(⟨#[120]⟩ : ByteArray), t219, 1, 1⟩ : S24) )) (Reps.c4 (show Kd.M k24 _ _ _ (⟨(⟨#[120]⟩ : ByteArray), t223, 1, 2⟩ : S24) [.string (⟨#[120]⟩ : ByteArray), .string t223, .int .i64 1, .int .i64 2] from (k24_mkM _ _ _ (⟨(⟨#[120]⟩ : ByteArray), t223, 1, 2⟩ : S24) )) (Reps.c4 (show Kd.M k24 _ _ _ (⟨(⟨#[121]⟩ : ByteArray), (⟨#[]⟩ : ByteArray), 3, 5⟩ : S24) [.string (⟨#[121]⟩ : ByteArray), .string (⟨#[]⟩ : ByteArray), .int .i64 3, .int .i64 5] from (k24_mkM _ _ _ (⟨(⟨#[121]⟩ : ByteArray), (⟨#[]⟩ : ByteArray), 3, 5⟩ : S24) )) (Reps.none _ _)))))); intro v225 w16 ho17 hb hg_ hnew_; clear hg_ hnew_; (first | rw [← Ny224.out] at ho17 | (simp only [Int.reduceToNat] at ho17; rw [← Ny224.out] at ho17)); have n0_ := ak (Kd.R_below (by (with_reducible repeat (first | apply Kd.R_alloc | apply Kd.R_drewN | apply Kd.R_drew)); exact HO214.out) hb); have n1_ := ak (Kd.R_below (by (with_reducible repeat (first | apply Kd.R_alloc | apply Kd.R_drewN | apply Kd.R_drew)); exact HO218.out) hb); have n2_ := ak (Kd.R_below (by (with_reducible repeat (first | apply Kd.R_alloc | apply Kd.R_drewN | apply Kd.R_drew)); exact HO222.out) hb); have n3_ := ak (Kd.R_lower ho17 (below_size (by repeat (first | (with_reducible first | exact HB.out | apply wA | apply wN | apply wD) | exact HB.out)))); have n4_ := ak (below_step (by repeat (first | (with_reducible first | exact HB.out | apply wA | apply wN | apply wD) | exact HB.out)) hb); clear HO214; clear HO218; clear HO222; clear HB; have HO214 := n0_; have HO218 := n1_; have HO222 := n2_; have HO226 := n3_; have HB := n4_; clear n0_ n1_ n2_ n3_ n4_; clear hb ho17))
  go_ret
  exact ⟨_, by first | rfl | (simp [errW_none, errW_some] <;> rfl) | (simp [*, errW_none, errW_some] <;> rfl), by (with_reducible repeat (first | apply Kd.R_alloc | apply Kd.R_drewN | apply Kd.R_drew)); exact HO226.out, by repeat (first | (with_reducible first | exact HB.out | apply wA | apply wN | apply wD) | exact HB.out)⟩

end Go.Proofs.Ytpjcahjpjeiicaa.P
