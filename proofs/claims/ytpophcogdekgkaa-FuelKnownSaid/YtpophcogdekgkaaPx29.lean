-- Written by wip/tools/myprint.py of this session over the kit's print; Lean checks it.
import Derived.Test.YtpophcogdekgkaaPx0
import Derived.Test.YtpophcogdekgkaaPx9
import Derived.Test.YtpophcogdekgkaaPx10
import Derived.Test.YtpophcogdekgkaaPx11
import Derived.Test.YtpophcogdekgkaaPx12
import Derived.Test.YtpophcogdekgkaaPx27
namespace Go.Proofs.Ytpophcogdekgkaa.P
open Go.RowKit Go.Proofs.YtpophcogdekgkaaW.PrintWords Go.Proofs.YtpophcogdekgkaaW.PrintLast Go.Proofs.YtpophcogdekgkaaW.PrintMore
attribute [local go_sem] max2_int min2_int max_two min_two max_three min_three max_four min_four   -- for this text's walks alone
set_option linter.unusedVariables false
set_option linter.unusedSimpArgs false

/-! ### mummerlaw16_FuelKnown: function 8 -/
def mummerlaw16_FuelKnown.j0 : Nat → Bool → Int → List Int → Option (Bool)
  | 0, _, _, _ => none
  | k + 1, x85, x539000, x539001 => if x85 = true then (some false) else ((fuel_Open.f k x539000 x539001 5).bind fun bt563 => ((fuel_Left.f k bt563.1 bt563.2.1).bind fun bt568 => ((fuel_New.f 1).bind fun bt570 => ((fuel_Close.f k bt570.1 bt570.2.1).bind fun bt576 => ((fuel_Least.f k (([(⟨2, 5⟩ : S46), (⟨1, 6⟩ : S46)] : List (S46)))).bind fun bt584 => (if bt563.2.2 = 0 then (if bt568.2 = 0 then (if bt570.2.2 = 0 then (if bt576.2.2 = 9 then (if bt584.2.2 = 5 then (if bt568.1 = 2 then (if bt584.1 = 0 then (if bt584.2.1 = 1 then ((mummerlaw16_awake.f k).bind fun t587 => (some t587)) else (some false)) else (some false)) else (some false)) else (some false)) else (some false)) else (some false)) else (some false)) else (some false)))))))
def mummerlaw16_FuelKnown.f (k : Nat)  : Option (Bool) := (fuel_New.f 10).bind fun bt533 => ((fuel_Spend.f k bt533.1 bt533.2.1 3).bind fun bt539 => ((fuel_Open.f k bt539.1 bt539.2.1 5).bind fun bt544 => ((fuel_Spend.f k bt544.1 bt544.2.1 5).bind fun bt549 => ((fuel_Left.f k bt549.1 bt549.2.1).bind fun bt554 => ((fuel_Close.f k bt549.1 bt549.2.1).bind fun bt556 => ((fuel_Left.f k bt556.1 bt556.2.1).bind fun bt561 => (if bt533.2.2 = 0 then (if bt539.2.2 = 0 then (if bt544.2.2 = 0 then (if bt549.2.2 = 0 then (if bt554.2 = 0 then (if bt556.2.2 = 0 then (if bt561.2 = 0 then (if bt554.1 = 0 then (if bt561.1 = 2 then (mummerlaw16_FuelKnown.j0 k (bt556.1 != 8) bt556.1 bt556.2.1) else (mummerlaw16_FuelKnown.j0 k true bt556.1 bt556.2.1)) else (mummerlaw16_FuelKnown.j0 k true bt556.1 bt556.2.1)) else (mummerlaw16_FuelKnown.j0 k true bt556.1 bt556.2.1)) else (mummerlaw16_FuelKnown.j0 k true bt556.1 bt556.2.1)) else (mummerlaw16_FuelKnown.j0 k true bt556.1 bt556.2.1)) else (mummerlaw16_FuelKnown.j0 k true bt556.1 bt556.2.1)) else (mummerlaw16_FuelKnown.j0 k true bt556.1 bt556.2.1)) else (mummerlaw16_FuelKnown.j0 k true bt556.1 bt556.2.1)) else (mummerlaw16_FuelKnown.j0 k true bt556.1 bt556.2.1))))))))
theorem mummerlaw16_FuelKnown.mono_l : ∀ k, (∀ y0 y1 y2, LeO (mummerlaw16_FuelKnown.j0 k y0 y1 y2) (mummerlaw16_FuelKnown.j0 (k + 1) y0 y1 y2))
  | 0 => fun _ _ _ r h => by simp [mummerlaw16_FuelKnown.j0] at h
  | k + 1 => by
    have ih0 := mummerlaw16_FuelKnown.mono_l k
    · intro y0 y1 y2
      unfold mummerlaw16_FuelKnown.j0
      repeat' first
      | (with_reducible exact ih0 _ _ _)
      | (with_reducible exact fuel_Close.mono _ _ _)
      | (with_reducible exact fuel_Least.mono _ _)
      | (with_reducible exact fuel_Left.mono _ _ _)
      | (with_reducible exact fuel_Open.mono _ _ _ _)
      | (with_reducible exact fuel_Spend.mono _ _ _ _)
      | (with_reducible exact mummerlaw16_awake.mono _)
      | (with_reducible exact LeO.refl _)
      | (with_reducible exact LeO.none _)
      | (with_reducible refine LeO.ite ?_ ?_)
      | (with_reducible refine LeO.bind ?_ (fun _ => ?_))
      | exact ih0 _ _ _
      | exact fuel_Close.mono _ _ _
      | exact fuel_Least.mono _ _
      | exact fuel_Left.mono _ _ _
      | exact fuel_Open.mono _ _ _ _
      | exact fuel_Spend.mono _ _ _ _
      | exact mummerlaw16_awake.mono _
      | exact LeO.none _
      | refine LeO.ite ?_ ?_
      | refine LeO.bind ?_ (fun _ => ?_)
theorem mummerlaw16_FuelKnown.mono : ∀ k, LeO (mummerlaw16_FuelKnown.f k ) (mummerlaw16_FuelKnown.f (k + 1) ) := by
  intro  k
  have ih0 := mummerlaw16_FuelKnown.mono_l k
  unfold mummerlaw16_FuelKnown.f
  repeat' first
      | (with_reducible exact ih0 _ _ _)
      | (with_reducible exact fuel_Close.mono _ _ _)
      | (with_reducible exact fuel_Least.mono _ _)
      | (with_reducible exact fuel_Left.mono _ _ _)
      | (with_reducible exact fuel_Open.mono _ _ _ _)
      | (with_reducible exact fuel_Spend.mono _ _ _ _)
      | (with_reducible exact mummerlaw16_awake.mono _)
      | (with_reducible exact LeO.refl _)
      | (with_reducible exact LeO.none _)
      | (with_reducible refine LeO.ite ?_ ?_)
      | (with_reducible refine LeO.bind ?_ (fun _ => ?_))
      | exact ih0 _ _ _
      | exact fuel_Close.mono _ _ _
      | exact fuel_Least.mono _ _
      | exact fuel_Left.mono _ _ _
      | exact fuel_Open.mono _ _ _ _
      | exact fuel_Spend.mono _ _ _ _
      | exact mummerlaw16_awake.mono _
      | exact LeO.none _
      | refine LeO.ite ?_ ?_
      | refine LeO.bind ?_ (fun _ => ?_)
set_option maxHeartbeats 8000000 in
set_option maxRecDepth 100000 in
theorem mummerlaw16_FuelKnown.calls (k : Nat)  (r : Bool) (w : World) (hrt : Aside0 (r = true)) (h : mummerlaw16_FuelKnown.f k  = some r) :
    Calls Try.prog 8 #[] w fun e w' => e = .returned (.bool r) ∧ Below w.heap.size w w' := by
  have hu24 := Try.underlying24
  have hu46 := Try.underlying46
  have HB := ak (Below.refl w.heap.size w)
  have H : ((fuel_New.f 10).bind fun bt533 => ((fuel_Spend.f k bt533.1 bt533.2.1 3).bind fun bt539 => ((fuel_Open.f k bt539.1 bt539.2.1 5).bind fun bt544 => ((fuel_Spend.f k bt544.1 bt544.2.1 5).bind fun bt549 => ((fuel_Left.f k bt549.1 bt549.2.1).bind fun bt554 => ((fuel_Close.f k bt549.1 bt549.2.1).bind fun bt556 => ((fuel_Left.f k bt556.1 bt556.2.1).bind fun bt561 => (if bt533.2.2 = 0 then (if bt539.2.2 = 0 then (if bt544.2.2 = 0 then (if bt549.2.2 = 0 then (if bt554.2 = 0 then (if bt556.2.2 = 0 then (if bt561.2 = 0 then (if bt554.1 = 0 then (if bt561.1 = 2 then (mummerlaw16_FuelKnown.j0 k (bt556.1 != 8) bt556.1 bt556.2.1) else (mummerlaw16_FuelKnown.j0 k true bt556.1 bt556.2.1)) else (mummerlaw16_FuelKnown.j0 k true bt556.1 bt556.2.1)) else (mummerlaw16_FuelKnown.j0 k true bt556.1 bt556.2.1)) else (mummerlaw16_FuelKnown.j0 k true bt556.1 bt556.2.1)) else (mummerlaw16_FuelKnown.j0 k true bt556.1 bt556.2.1)) else (mummerlaw16_FuelKnown.j0 k true bt556.1 bt556.2.1)) else (mummerlaw16_FuelKnown.j0 k true bt556.1 bt556.2.1)) else (mummerlaw16_FuelKnown.j0 k true bt556.1 bt556.2.1)) else (mummerlaw16_FuelKnown.j0 k true bt556.1 bt556.2.1))))))))) = some r := h
  clear h
  replace H := Option.bind_eq_some_iff.mp H
  obtain ⟨⟨t533, t534, t537⟩, A10, H⟩ := H
  replace H : ((fuel_Spend.f k t533 t534 3).bind fun bt539 => ((fuel_Open.f k bt539.1 bt539.2.1 5).bind fun bt544 => ((fuel_Spend.f k bt544.1 bt544.2.1 5).bind fun bt549 => ((fuel_Left.f k bt549.1 bt549.2.1).bind fun bt554 => ((fuel_Close.f k bt549.1 bt549.2.1).bind fun bt556 => ((fuel_Left.f k bt556.1 bt556.2.1).bind fun bt561 => (if t537 = 0 then (if bt539.2.2 = 0 then (if bt544.2.2 = 0 then (if bt549.2.2 = 0 then (if bt554.2 = 0 then (if bt556.2.2 = 0 then (if bt561.2 = 0 then (if bt554.1 = 0 then (if bt561.1 = 2 then (mummerlaw16_FuelKnown.j0 k (bt556.1 != 8) bt556.1 bt556.2.1) else (mummerlaw16_FuelKnown.j0 k true bt556.1 bt556.2.1)) else (mummerlaw16_FuelKnown.j0 k true bt556.1 bt556.2.1)) else (mummerlaw16_FuelKnown.j0 k true bt556.1 bt556.2.1)) else (mummerlaw16_FuelKnown.j0 k true bt556.1 bt556.2.1)) else (mummerlaw16_FuelKnown.j0 k true bt556.1 bt556.2.1)) else (mummerlaw16_FuelKnown.j0 k true bt556.1 bt556.2.1)) else (mummerlaw16_FuelKnown.j0 k true bt556.1 bt556.2.1)) else (mummerlaw16_FuelKnown.j0 k true bt556.1 bt556.2.1)) else (mummerlaw16_FuelKnown.j0 k true bt556.1 bt556.2.1)))))))) = some r := H
  have A1 := ak A10
  clear A10
  replace H := Option.bind_eq_some_iff.mp H
  obtain ⟨⟨t539, t540, t543⟩, A20, H⟩ := H
  replace H : ((fuel_Open.f k t539 t540 5).bind fun bt544 => ((fuel_Spend.f k bt544.1 bt544.2.1 5).bind fun bt549 => ((fuel_Left.f k bt549.1 bt549.2.1).bind fun bt554 => ((fuel_Close.f k bt549.1 bt549.2.1).bind fun bt556 => ((fuel_Left.f k bt556.1 bt556.2.1).bind fun bt561 => (if t537 = 0 then (if t543 = 0 then (if bt544.2.2 = 0 then (if bt549.2.2 = 0 then (if bt554.2 = 0 then (if bt556.2.2 = 0 then (if bt561.2 = 0 then (if bt554.1 = 0 then (if bt561.1 = 2 then (mummerlaw16_FuelKnown.j0 k (bt556.1 != 8) bt556.1 bt556.2.1) else (mummerlaw16_FuelKnown.j0 k true bt556.1 bt556.2.1)) else (mummerlaw16_FuelKnown.j0 k true bt556.1 bt556.2.1)) else (mummerlaw16_FuelKnown.j0 k true bt556.1 bt556.2.1)) else (mummerlaw16_FuelKnown.j0 k true bt556.1 bt556.2.1)) else (mummerlaw16_FuelKnown.j0 k true bt556.1 bt556.2.1)) else (mummerlaw16_FuelKnown.j0 k true bt556.1 bt556.2.1)) else (mummerlaw16_FuelKnown.j0 k true bt556.1 bt556.2.1)) else (mummerlaw16_FuelKnown.j0 k true bt556.1 bt556.2.1)) else (mummerlaw16_FuelKnown.j0 k true bt556.1 bt556.2.1))))))) = some r := H
  have A2 := ak A20
  clear A20
  replace H := Option.bind_eq_some_iff.mp H
  obtain ⟨⟨t544, t545, t548⟩, A30, H⟩ := H
  replace H : ((fuel_Spend.f k t544 t545 5).bind fun bt549 => ((fuel_Left.f k bt549.1 bt549.2.1).bind fun bt554 => ((fuel_Close.f k bt549.1 bt549.2.1).bind fun bt556 => ((fuel_Left.f k bt556.1 bt556.2.1).bind fun bt561 => (if t537 = 0 then (if t543 = 0 then (if t548 = 0 then (if bt549.2.2 = 0 then (if bt554.2 = 0 then (if bt556.2.2 = 0 then (if bt561.2 = 0 then (if bt554.1 = 0 then (if bt561.1 = 2 then (mummerlaw16_FuelKnown.j0 k (bt556.1 != 8) bt556.1 bt556.2.1) else (mummerlaw16_FuelKnown.j0 k true bt556.1 bt556.2.1)) else (mummerlaw16_FuelKnown.j0 k true bt556.1 bt556.2.1)) else (mummerlaw16_FuelKnown.j0 k true bt556.1 bt556.2.1)) else (mummerlaw16_FuelKnown.j0 k true bt556.1 bt556.2.1)) else (mummerlaw16_FuelKnown.j0 k true bt556.1 bt556.2.1)) else (mummerlaw16_FuelKnown.j0 k true bt556.1 bt556.2.1)) else (mummerlaw16_FuelKnown.j0 k true bt556.1 bt556.2.1)) else (mummerlaw16_FuelKnown.j0 k true bt556.1 bt556.2.1)) else (mummerlaw16_FuelKnown.j0 k true bt556.1 bt556.2.1)))))) = some r := H
  have A3 := ak A30
  clear A30
  replace H := Option.bind_eq_some_iff.mp H
  obtain ⟨⟨t549, t550, t553⟩, A40, H⟩ := H
  replace H : ((fuel_Left.f k t549 t550).bind fun bt554 => ((fuel_Close.f k t549 t550).bind fun bt556 => ((fuel_Left.f k bt556.1 bt556.2.1).bind fun bt561 => (if t537 = 0 then (if t543 = 0 then (if t548 = 0 then (if t553 = 0 then (if bt554.2 = 0 then (if bt556.2.2 = 0 then (if bt561.2 = 0 then (if bt554.1 = 0 then (if bt561.1 = 2 then (mummerlaw16_FuelKnown.j0 k (bt556.1 != 8) bt556.1 bt556.2.1) else (mummerlaw16_FuelKnown.j0 k true bt556.1 bt556.2.1)) else (mummerlaw16_FuelKnown.j0 k true bt556.1 bt556.2.1)) else (mummerlaw16_FuelKnown.j0 k true bt556.1 bt556.2.1)) else (mummerlaw16_FuelKnown.j0 k true bt556.1 bt556.2.1)) else (mummerlaw16_FuelKnown.j0 k true bt556.1 bt556.2.1)) else (mummerlaw16_FuelKnown.j0 k true bt556.1 bt556.2.1)) else (mummerlaw16_FuelKnown.j0 k true bt556.1 bt556.2.1)) else (mummerlaw16_FuelKnown.j0 k true bt556.1 bt556.2.1)) else (mummerlaw16_FuelKnown.j0 k true bt556.1 bt556.2.1))))) = some r := H
  have A4 := ak A40
  clear A40
  replace H := Option.bind_eq_some_iff.mp H
  obtain ⟨⟨t554, t555⟩, A50, H⟩ := H
  replace H : ((fuel_Close.f k t549 t550).bind fun bt556 => ((fuel_Left.f k bt556.1 bt556.2.1).bind fun bt561 => (if t537 = 0 then (if t543 = 0 then (if t548 = 0 then (if t553 = 0 then (if t555 = 0 then (if bt556.2.2 = 0 then (if bt561.2 = 0 then (if t554 = 0 then (if bt561.1 = 2 then (mummerlaw16_FuelKnown.j0 k (bt556.1 != 8) bt556.1 bt556.2.1) else (mummerlaw16_FuelKnown.j0 k true bt556.1 bt556.2.1)) else (mummerlaw16_FuelKnown.j0 k true bt556.1 bt556.2.1)) else (mummerlaw16_FuelKnown.j0 k true bt556.1 bt556.2.1)) else (mummerlaw16_FuelKnown.j0 k true bt556.1 bt556.2.1)) else (mummerlaw16_FuelKnown.j0 k true bt556.1 bt556.2.1)) else (mummerlaw16_FuelKnown.j0 k true bt556.1 bt556.2.1)) else (mummerlaw16_FuelKnown.j0 k true bt556.1 bt556.2.1)) else (mummerlaw16_FuelKnown.j0 k true bt556.1 bt556.2.1)) else (mummerlaw16_FuelKnown.j0 k true bt556.1 bt556.2.1)))) = some r := H
  have A5 := ak A50
  clear A50
  replace H := Option.bind_eq_some_iff.mp H
  obtain ⟨⟨t556, t557, t560⟩, A60, H⟩ := H
  replace H : ((fuel_Left.f k t556 t557).bind fun bt561 => (if t537 = 0 then (if t543 = 0 then (if t548 = 0 then (if t553 = 0 then (if t555 = 0 then (if t560 = 0 then (if bt561.2 = 0 then (if t554 = 0 then (if bt561.1 = 2 then (mummerlaw16_FuelKnown.j0 k (t556 != 8) t556 t557) else (mummerlaw16_FuelKnown.j0 k true t556 t557)) else (mummerlaw16_FuelKnown.j0 k true t556 t557)) else (mummerlaw16_FuelKnown.j0 k true t556 t557)) else (mummerlaw16_FuelKnown.j0 k true t556 t557)) else (mummerlaw16_FuelKnown.j0 k true t556 t557)) else (mummerlaw16_FuelKnown.j0 k true t556 t557)) else (mummerlaw16_FuelKnown.j0 k true t556 t557)) else (mummerlaw16_FuelKnown.j0 k true t556 t557)) else (mummerlaw16_FuelKnown.j0 k true t556 t557))) = some r := H
  have A6 := ak A60
  clear A60
  replace H := Option.bind_eq_some_iff.mp H
  obtain ⟨⟨t561, t562⟩, A70, H⟩ := H
  replace H : (if t537 = 0 then (if t543 = 0 then (if t548 = 0 then (if t553 = 0 then (if t555 = 0 then (if t560 = 0 then (if t562 = 0 then (if t554 = 0 then (if t561 = 2 then (mummerlaw16_FuelKnown.j0 k (t556 != 8) t556 t557) else (mummerlaw16_FuelKnown.j0 k true t556 t557)) else (mummerlaw16_FuelKnown.j0 k true t556 t557)) else (mummerlaw16_FuelKnown.j0 k true t556 t557)) else (mummerlaw16_FuelKnown.j0 k true t556 t557)) else (mummerlaw16_FuelKnown.j0 k true t556 t557)) else (mummerlaw16_FuelKnown.j0 k true t556 t557)) else (mummerlaw16_FuelKnown.j0 k true t556 t557)) else (mummerlaw16_FuelKnown.j0 k true t556 t557)) else (mummerlaw16_FuelKnown.j0 k true t556 t557)) = some r := H
  have A7 := ak A70
  clear A70
  have HC8 := ak H
  clear H
  go_enter Try.func8, Try.ntmps8
  go_upto_region 8 with (first | ((with_reducible refine gate_callee (f := 15) rfl ?_); refine goesL_ (some 14) rfl rfl Try.func15 (by kernel_rfl) rfl #[.int .i64 10] rfl (by (try simp only [List.map_toArray, List.map_cons, List.map_nil]); first | done | rfl | (simp only [List.length_drop, List.length_take]; rfl)) ?_; (with_reducible refine (fuel_New.calls 10 t533 t534 t537 _ A1.out).mono ?_); rintro e w9 ⟨v535, rfl, ho0, hb⟩; refine ⟨_, rfl, ?_⟩; have n0_ := ak (Kd.R_lower ho0 (below_size (by repeat (first | (with_reducible first | exact HB.out | apply wA | apply wN | apply wD) | exact HB.out)))); have n1_ := ak (below_step (by repeat (first | (with_reducible first | exact HB.out | apply wA | apply wN | apply wD) | exact HB.out)) hb); clear HB; have HO536 := n0_; have HB := n1_; clear n0_ n1_; (try clear hb); (try clear hb2); (try clear hk); (try clear hi); (try clear ho0)) | ((with_reducible refine gate_dst (N := 1) rfl ?_); refine box_event ?hg (N := 1) ?hd (cs := #[.int .i64 0, .slice none 0 0]) (t := 24) ?hr ?_; (case hd => rfl); (case hg => rfl); (case hr => first | (go_simp; done) | (go_simp; rfl)); intro gb538 hg w10 hbox hb; have n0_ := ak (Kd.R_below (by (with_reducible repeat (first | apply Kd.R_alloc | apply Kd.R_drewN | apply Kd.R_drew)); exact HO536.out) hb); have n1_ := ak (below_step (by repeat (first | (with_reducible first | exact HB.out | apply wA | apply wN | apply wD) | exact HB.out)) hb); have n2_ := ak (hbox); have n3_ := ak ((by rw [hg]; exact (below_size (by repeat (first | (with_reducible first | exact HB.out | apply wA | apply wN | apply wD) | exact HB.out))) : w.heap.size ≤ gb538)); have n4_ := ak ((by rw [hg]; exact (below_size (by repeat (first | (with_reducible first | exact HB.out | apply wA | apply wN | apply wD) | exact HB.out))) : w.heap.size ≤ gb538)); clear HO536; clear HB; have HO536 := n0_; have HB := n1_; have BK538 := n2_; have GW538 := n3_; have GE538 := n4_; clear n0_ n1_ n2_ n3_ n4_; clear hb hbox hg; have hcz11_0 : w10.cell? ⟨gb538, 0, none⟩ = some (.int .i64 0) := (blk_cell BK538.out 0).trans rfl; have hcz11_1 : w10.cell? ⟨gb538, 1, none⟩ = some (.slice none 0 0) := (blk_cell BK538.out 1).trans rfl; have hfz11_0 := blk_frozen BK538.out 0; have hfz11_1 := blk_frozen BK538.out 1; obtain ⟨Ao12, co12, eo12⟩ := Kd.R_slice HO536.out; subst eo12) | ((with_reducible refine gate_store (t := 24) (p := 1) rfl ?_); refine store_event (t := 24) (p := 1) (v := ?vo_w13) (w1 := ((w10.setCell ⟨gb538, 0, none⟩ (.int .i64 t533)).setCell ⟨gb538, 1, none⟩ (.slice Ao12 t534.length co12))) ?hg ?ho ?hn ?hr ?_; (case ho => rfl); (case hg => rfl); (case hn => rfl); (case hr => first | (go_simp; done) | (go_simp; rfl)); intro w13 hw; have n0_ : Aside0 (Kd.R (Kd.int .i64) 2 w13 w.heap.size (fun _ => True) (.slice Ao12 t534.length co12) t534) := ⟨(by rw [hw]; exact (by (with_reducible repeat (first | apply Kd.R_alloc | apply Kd.R_drewN | apply Kd.R_drew)); exact Kd.R_mono (Kd.R_far (p := ⟨gb538, 1, none⟩) (Kd.R_far (p := ⟨gb538, 0, none⟩) (Kd.R_types HO536.out BK538.out (by decide)) (fun _ hk => hk.2) (.int .i64 t533)) (fun _ hk => hk.2) (.slice Ao12 t534.length co12)) (fun _ hk => trivial)))⟩; have n1_ : Aside0 (w13.heap[gb538]? = some (.cells #[.int .i64 t533, .slice Ao12 t534.length co12] 24 (0, 0))) := ⟨(by rw [hw]; exact (by (with_reducible repeat (first | refine bN ?_ _ | refine bD ?_ | refine bA ?_ _)); refine blk_put (cs := #[.int .i64 t533, .slice none 0 0]) ?_ 1 _ rfl; (with_reducible repeat (first | refine bN ?_ _ | refine bD ?_ | refine bA ?_ _)); refine blk_put (cs := #[.int .i64 0, .slice none 0 0]) ?_ 0 _ rfl; (with_reducible repeat (first | refine bN ?_ _ | refine bD ?_ | refine bA ?_ _)); exact BK538.out))⟩; have n2_ : Aside0 (Below w.heap.size w w13) := ⟨(by rw [hw]; exact (by repeat (first | (with_reducible first | exact HB.out | apply wA | apply wN | apply wD | refine below_set ?_ GE538.out) | exact HB.out)))⟩; clear hw; clear HO536; clear BK538; clear HB; have HO536 := n0_; have BK538 := n1_; have HB := n2_; clear n0_ n1_ n2_; have hcz14_0 : w13.cell? ⟨gb538, 0, none⟩ = some (.int .i64 t533) := (blk_cell BK538.out 0).trans rfl; have hcz14_1 : w13.cell? ⟨gb538, 1, none⟩ = some (.slice Ao12 t534.length co12) := (blk_cell BK538.out 1).trans rfl; have hfz14_0 := blk_frozen BK538.out 0; have hfz14_1 := blk_frozen BK538.out 1) | ((with_reducible refine gate_callee (f := 17) rfl ?_); refine goesL_ (some 19) rfl rfl Try.func17 (by kernel_rfl) rfl #[.agg #[.int .i64 t533, .slice Ao12 t534.length co12], .int .i64 3] rfl (by (try simp only [List.map_toArray, List.map_cons, List.map_nil]); first | done | rfl | (simp only [List.length_drop, List.length_take]; rfl)) ?_; (with_reducible refine (fuel_Spend.calls k t533 (fun k_ => some k_ = (.slice Ao12 t534.length co12 : Value).ownBlock) _ _ t534 3 t539 t540 t543 _ ?side1 A2.out).mono ?_); (case side1 => exact Kd.R_V (Kd.R_tight rfl (Kd.R_types (HO536.out) BK538.out (by decide)))); rintro e w15 ⟨v541, rfl, ho0, hb⟩; refine ⟨_, rfl, ?_⟩; have n0_ := ak (Kd.R_below (by (with_reducible repeat (first | apply Kd.R_alloc | apply Kd.R_drewN | apply Kd.R_drew)); exact HO536.out) hb); have n1_ := ak (Kd.V_lower (Kd.V_mono (ok' := fun k_ => k_ ≠ gb538) ho0 (fun k_ hk_ => Or.elim hk_ (fun hs_ => ((Kd.R_types (HO536.out) BK538.out (by decide)).1 k_ hs_.symm).2) (fun hn_ => (Kd.freshB (g := gb538) (o := .cells #[.int .i64 t533, .slice Ao12 t534.length co12] 24 (0, 0)) (by (with_reducible repeat (first | refine bN ?_ _ | refine bD ?_ | refine bA ?_ _)); exact BK538.out) k_ hn_)))) (below_size (by repeat (first | (with_reducible first | exact HB.out | apply wA | apply wN | apply wD | refine below_set ?_ GE538.out) | exact HB.out)))); have n2_ := ak (blk_below (g := gb538) (o := .cells #[.int .i64 t533, .slice Ao12 t534.length co12] 24 (0, 0)) (by (with_reducible repeat (first | refine bN ?_ _ | refine bD ?_ | refine bA ?_ _)); exact BK538.out) hb); have n3_ := ak (below_step (by repeat (first | (with_reducible first | exact HB.out | apply wA | apply wN | apply wD | refine below_set ?_ GE538.out) | exact HB.out)) hb); clear HO536; clear BK538; clear HB; have HO536 := n0_; have HO542 := n1_; have BK538 := n2_; have HB := n3_; clear n0_ n1_ n2_ n3_; (try clear hb); (try clear hb2); (try clear hk); (try clear hi); (try clear ho0); have hcz16_0 : w15.cell? ⟨gb538, 0, none⟩ = some (.int .i64 t533) := (blk_cell BK538.out 0).trans rfl; have hcz16_1 : w15.cell? ⟨gb538, 1, none⟩ = some (.slice Ao12 t534.length co12) := (blk_cell BK538.out 1).trans rfl; have hfz16_0 := blk_frozen BK538.out 0; have hfz16_1 := blk_frozen BK538.out 1; obtain ⟨Ao17, co17, eo17⟩ := Kd.V_slice HO542.out; subst eo17) | ((with_reducible refine gate_store (t := 24) (p := 1) rfl ?_); refine store_event (t := 24) (p := 1) (v := ?vo_w18) (w1 := ((w15.setCell ⟨gb538, 0, none⟩ (.int .i64 t539)).setCell ⟨gb538, 1, none⟩ (.slice Ao17 t540.length co17))) ?hg ?ho ?hn ?hr ?_; (case ho => rfl); (case hg => rfl); (case hn => rfl); (case hr => first | (go_simp; done) | (go_simp; rfl)); intro w18 hw; have n0_ : Aside0 (Kd.R (Kd.int .i64) 2 w18 w.heap.size (fun _ => True) (.slice Ao12 t534.length co12) t534) := ⟨(by rw [hw]; exact (by (with_reducible repeat (first | apply Kd.R_alloc | apply Kd.R_drewN | apply Kd.R_drew)); exact Kd.R_mono (Kd.R_far (p := ⟨gb538, 1, none⟩) (Kd.R_far (p := ⟨gb538, 0, none⟩) (Kd.R_types HO536.out BK538.out (by decide)) (fun _ hk => hk.2) (.int .i64 t539)) (fun _ hk => hk.2) (.slice Ao17 t540.length co17)) (fun _ hk => trivial)))⟩; have n1_ : Aside0 (Kd.V (Kd.int .i64) 2 w18 w.heap.size (fun k_ => k_ ≠ gb538) (.slice Ao17 t540.length co17) t540) := ⟨(by rw [hw]; exact (by (with_reducible repeat (first | apply vA | apply vN | apply vD)); exact Kd.V_mono (Kd.V_far (p := ⟨gb538, 1, none⟩) (Kd.V_far (p := ⟨gb538, 0, none⟩) (Kd.V_mono HO542.out (fun k_ hk => (⟨hk, by first | exact hk | exact hk.2.2 | exact hk.2.1 | omega⟩ : _ ∧ k_ ≠ gb538))) (fun _ hk => hk.2) (.int .i64 t539)) (fun _ hk => hk.2) (.slice Ao17 t540.length co17)) (fun _ hk => by first | exact hk.1 | exact hk)))⟩; have n2_ : Aside0 (w18.heap[gb538]? = some (.cells #[.int .i64 t539, .slice Ao17 t540.length co17] 24 (0, 0))) := ⟨(by rw [hw]; exact (by (with_reducible repeat (first | refine bN ?_ _ | refine bD ?_ | refine bA ?_ _)); refine blk_put (cs := #[.int .i64 t539, .slice Ao12 t534.length co12]) ?_ 1 _ rfl; (with_reducible repeat (first | refine bN ?_ _ | refine bD ?_ | refine bA ?_ _)); refine blk_put (cs := #[.int .i64 t533, .slice Ao12 t534.length co12]) ?_ 0 _ rfl; (with_reducible repeat (first | refine bN ?_ _ | refine bD ?_ | refine bA ?_ _)); exact BK538.out))⟩; have n3_ : Aside0 (Below w.heap.size w w18) := ⟨(by rw [hw]; exact (by repeat (first | (with_reducible first | exact HB.out | apply wA | apply wN | apply wD | refine below_set ?_ GE538.out) | exact HB.out)))⟩; clear hw; clear HO536; clear HO542; clear BK538; clear HB; have HO536 := n0_; have HO542 := n1_; have BK538 := n2_; have HB := n3_; clear n0_ n1_ n2_ n3_; have hcz19_0 : w18.cell? ⟨gb538, 0, none⟩ = some (.int .i64 t539) := (blk_cell BK538.out 0).trans rfl; have hcz19_1 : w18.cell? ⟨gb538, 1, none⟩ = some (.slice Ao17 t540.length co17) := (blk_cell BK538.out 1).trans rfl; have hfz19_0 := blk_frozen BK538.out 0; have hfz19_1 := blk_frozen BK538.out 1) | ((with_reducible refine gate_callee (f := 19) rfl ?_); refine goesL_ (some 24) rfl rfl Try.func19 (by kernel_rfl) rfl #[.agg #[.int .i64 t539, .slice Ao17 t540.length co17], .int .i64 5] rfl (by (try simp only [List.map_toArray, List.map_cons, List.map_nil]); first | done | rfl | (simp only [List.length_drop, List.length_take]; rfl)) ?_; (with_reducible refine (fuel_Open.calls k t539 (fun k_ => k_ ≠ gb538) _ _ t540 5 t544 t545 t548 _ ?side1 A3.out).mono ?_); (case side1 => exact HO542.out); rintro e w20 ⟨v546, rfl, ho0, hb⟩; refine ⟨_, rfl, ?_⟩; have n0_ := ak (Kd.R_below (by (with_reducible repeat (first | apply Kd.R_alloc | apply Kd.R_drewN | apply Kd.R_drew)); exact HO536.out) hb); have n1_ := ak (Kd.V_below (by (with_reducible repeat (first | apply vA | apply vN | apply vD)); exact HO542.out) hb); have n2_ := ak (Kd.V_lower (Kd.V_mono (ok' := fun k_ => k_ ≠ gb538) ho0 (fun k_ hk_ => Or.elim hk_ (fun hs_ => hs_) (fun hn_ => (Kd.freshB (g := gb538) (o := .cells #[.int .i64 t539, .slice Ao17 t540.length co17] 24 (0, 0)) (by (with_reducible repeat (first | refine bN ?_ _ | refine bD ?_ | refine bA ?_ _)); exact BK538.out) k_ hn_)))) (below_size (by repeat (first | (with_reducible first | exact HB.out | apply wA | apply wN | apply wD | refine below_set ?_ GE538.out) | exact HB.out)))); have n3_ := ak (blk_below (g := gb538) (o := .cells #[.int .i64 t539, .slice Ao17 t540.length co17] 24 (0, 0)) (by (with_reducible repeat (first | refine bN ?_ _ | refine bD ?_ | refine bA ?_ _)); exact BK538.out) hb); have n4_ := ak (below_step (by repeat (first | (with_reducible first | exact HB.out | apply wA | apply wN | apply wD | refine below_set ?_ GE538.out) | exact HB.out)) hb); clear HO536; clear HO542; clear BK538; clear HB; have HO536 := n0_; have HO542 := n1_; have HO547 := n2_; have BK538 := n3_; have HB := n4_; clear n0_ n1_ n2_ n3_ n4_; (try clear hb); (try clear hb2); (try clear hk); (try clear hi); (try clear ho0); have hcz21_0 : w20.cell? ⟨gb538, 0, none⟩ = some (.int .i64 t539) := (blk_cell BK538.out 0).trans rfl; have hcz21_1 : w20.cell? ⟨gb538, 1, none⟩ = some (.slice Ao17 t540.length co17) := (blk_cell BK538.out 1).trans rfl; have hfz21_0 := blk_frozen BK538.out 0; have hfz21_1 := blk_frozen BK538.out 1; obtain ⟨Ao22, co22, eo22⟩ := Kd.V_slice HO547.out; subst eo22) | ((with_reducible refine gate_store (t := 24) (p := 1) rfl ?_); refine store_event (t := 24) (p := 1) (v := ?vo_w23) (w1 := ((w20.setCell ⟨gb538, 0, none⟩ (.int .i64 t544)).setCell ⟨gb538, 1, none⟩ (.slice Ao22 t545.length co22))) ?hg ?ho ?hn ?hr ?_; (case ho => rfl); (case hg => rfl); (case hn => rfl); (case hr => first | (go_simp; done) | (go_simp; rfl)); intro w23 hw; have n0_ : Aside0 (Kd.R (Kd.int .i64) 2 w23 w.heap.size (fun _ => True) (.slice Ao12 t534.length co12) t534) := ⟨(by rw [hw]; exact (by (with_reducible repeat (first | apply Kd.R_alloc | apply Kd.R_drewN | apply Kd.R_drew)); exact Kd.R_mono (Kd.R_far (p := ⟨gb538, 1, none⟩) (Kd.R_far (p := ⟨gb538, 0, none⟩) (Kd.R_types HO536.out BK538.out (by decide)) (fun _ hk => hk.2) (.int .i64 t544)) (fun _ hk => hk.2) (.slice Ao22 t545.length co22)) (fun _ hk => trivial)))⟩; have n1_ : Aside0 (Kd.V (Kd.int .i64) 2 w23 w.heap.size (fun k_ => k_ ≠ gb538) (.slice Ao17 t540.length co17) t540) := ⟨(by rw [hw]; exact (by (with_reducible repeat (first | apply vA | apply vN | apply vD)); exact Kd.V_mono (Kd.V_far (p := ⟨gb538, 1, none⟩) (Kd.V_far (p := ⟨gb538, 0, none⟩) (Kd.V_mono HO542.out (fun k_ hk => (⟨hk, by first | exact hk | exact hk.2.2 | exact hk.2.1 | omega⟩ : _ ∧ k_ ≠ gb538))) (fun _ hk => hk.2) (.int .i64 t544)) (fun _ hk => hk.2) (.slice Ao22 t545.length co22)) (fun _ hk => by first | exact hk.1 | exact hk)))⟩; have n2_ : Aside0 (Kd.V (Kd.int .i64) 2 w23 w.heap.size (fun k_ => k_ ≠ gb538) (.slice Ao22 t545.length co22) t545) := ⟨(by rw [hw]; exact (by (with_reducible repeat (first | apply vA | apply vN | apply vD)); exact Kd.V_mono (Kd.V_far (p := ⟨gb538, 1, none⟩) (Kd.V_far (p := ⟨gb538, 0, none⟩) (Kd.V_mono HO547.out (fun k_ hk => (⟨hk, by first | exact hk | exact hk.2.2 | exact hk.2.1 | omega⟩ : _ ∧ k_ ≠ gb538))) (fun _ hk => hk.2) (.int .i64 t544)) (fun _ hk => hk.2) (.slice Ao22 t545.length co22)) (fun _ hk => by first | exact hk.1 | exact hk)))⟩; have n3_ : Aside0 (w23.heap[gb538]? = some (.cells #[.int .i64 t544, .slice Ao22 t545.length co22] 24 (0, 0))) := ⟨(by rw [hw]; exact (by (with_reducible repeat (first | refine bN ?_ _ | refine bD ?_ | refine bA ?_ _)); refine blk_put (cs := #[.int .i64 t544, .slice Ao17 t540.length co17]) ?_ 1 _ rfl; (with_reducible repeat (first | refine bN ?_ _ | refine bD ?_ | refine bA ?_ _)); refine blk_put (cs := #[.int .i64 t539, .slice Ao17 t540.length co17]) ?_ 0 _ rfl; (with_reducible repeat (first | refine bN ?_ _ | refine bD ?_ | refine bA ?_ _)); exact BK538.out))⟩; have n4_ : Aside0 (Below w.heap.size w w23) := ⟨(by rw [hw]; exact (by repeat (first | (with_reducible first | exact HB.out | apply wA | apply wN | apply wD | refine below_set ?_ GE538.out) | exact HB.out)))⟩; clear hw; clear HO536; clear HO542; clear HO547; clear BK538; clear HB; have HO536 := n0_; have HO542 := n1_; have HO547 := n2_; have BK538 := n3_; have HB := n4_; clear n0_ n1_ n2_ n3_ n4_; have hcz24_0 : w23.cell? ⟨gb538, 0, none⟩ = some (.int .i64 t544) := (blk_cell BK538.out 0).trans rfl; have hcz24_1 : w23.cell? ⟨gb538, 1, none⟩ = some (.slice Ao22 t545.length co22) := (blk_cell BK538.out 1).trans rfl; have hfz24_0 := blk_frozen BK538.out 0; have hfz24_1 := blk_frozen BK538.out 1) | ((with_reducible refine gate_callee (f := 17) rfl ?_); refine goesL_ (some 29) rfl rfl Try.func17 (by kernel_rfl) rfl #[.agg #[.int .i64 t544, .slice Ao22 t545.length co22], .int .i64 5] rfl (by (try simp only [List.map_toArray, List.map_cons, List.map_nil]); first | done | rfl | (simp only [List.length_drop, List.length_take]; rfl)) ?_; (with_reducible refine (fuel_Spend.calls k t544 (fun k_ => k_ ≠ gb538) _ _ t545 5 t549 t550 t553 _ ?side1 A4.out).mono ?_); (case side1 => exact HO547.out); rintro e w25 ⟨v551, rfl, ho0, hb⟩; refine ⟨_, rfl, ?_⟩; have n0_ := ak (Kd.R_below (by (with_reducible repeat (first | apply Kd.R_alloc | apply Kd.R_drewN | apply Kd.R_drew)); exact HO536.out) hb); have n1_ := ak (Kd.V_below (by (with_reducible repeat (first | apply vA | apply vN | apply vD)); exact HO542.out) hb); have n2_ := ak (Kd.V_below (by (with_reducible repeat (first | apply vA | apply vN | apply vD)); exact HO547.out) hb); have n3_ := ak (Kd.V_lower (Kd.V_mono (ok' := fun k_ => k_ ≠ gb538) ho0 (fun k_ hk_ => Or.elim hk_ (fun hs_ => hs_) (fun hn_ => (Kd.freshB (g := gb538) (o := .cells #[.int .i64 t544, .slice Ao22 t545.length co22] 24 (0, 0)) (by (with_reducible repeat (first | refine bN ?_ _ | refine bD ?_ | refine bA ?_ _)); exact BK538.out) k_ hn_)))) (below_size (by repeat (first | (with_reducible first | exact HB.out | apply wA | apply wN | apply wD | refine below_set ?_ GE538.out) | exact HB.out)))); have n4_ := ak (blk_below (g := gb538) (o := .cells #[.int .i64 t544, .slice Ao22 t545.length co22] 24 (0, 0)) (by (with_reducible repeat (first | refine bN ?_ _ | refine bD ?_ | refine bA ?_ _)); exact BK538.out) hb); have n5_ := ak (below_step (by repeat (first | (with_reducible first | exact HB.out | apply wA | apply wN | apply wD | refine below_set ?_ GE538.out) | exact HB.out)) hb); clear HO536; clear HO542; clear HO547; clear BK538; clear HB; have HO536 := n0_; have HO542 := n1_; have HO547 := n2_; have HO552 := n3_; have BK538 := n4_; have HB := n5_; clear n0_ n1_ n2_ n3_ n4_ n5_; (try clear hb); (try clear hb2); (try clear hk); (try clear hi); (try clear ho0); have hcz26_0 : w25.cell? ⟨gb538, 0, none⟩ = some (.int .i64 t544) := (blk_cell BK538.out 0).trans rfl; have hcz26_1 : w25.cell? ⟨gb538, 1, none⟩ = some (.slice Ao22 t545.length co22) := (blk_cell BK538.out 1).trans rfl; have hfz26_0 := blk_frozen BK538.out 0; have hfz26_1 := blk_frozen BK538.out 1; obtain ⟨Ao27, co27, eo27⟩ := Kd.V_slice HO552.out; subst eo27) | ((with_reducible refine gate_callee (f := 18) rfl ?_); refine goesL_ (some 34) rfl rfl Try.func18 (by kernel_rfl) rfl #[.agg #[.int .i64 t549, .slice Ao27 t550.length co27]] rfl (by (try simp only [List.map_toArray, List.map_cons, List.map_nil]); first | done | rfl | (simp only [List.length_drop, List.length_take]; rfl)) ?_; (with_reducible refine (fuel_Left.calls k t549 _ _ t550 t554 t555 _ ?side1 ?side2 A5.out).mono ?_); (case side1 => refine (Kd.V_reads' (e := 2) (base := w.heap.size) (ok := fun k_ => k_ ≠ gb538) (n := t550.length) (c := co27) ?_).2.2; exact (by (with_reducible repeat (first | apply vA | apply vN | apply vD)); exact (Kd.V_mono (Kd.V_far (p := ⟨gb538, 1, none⟩) (Kd.V_far (p := ⟨gb538, 0, none⟩) (Kd.V_mono HO552.out (fun k_ hk => (⟨hk, by first | exact hk | exact hk.2.2 | exact hk.2.1 | omega⟩ : _ ∧ k_ ≠ gb538))) (fun _ hk => hk.2) (.int .i64 t549)) (fun _ hk => hk.2) (.slice Ao27 t550.length co27)) (fun _ h_ => h_.1)))); (case side2 => exact (Kd.V_reads' HO552.out).2.1); rintro e w28 ⟨rfl, hb⟩; refine ⟨_, rfl, ?_⟩; have n0_ := ak (Kd.R_below (by (with_reducible repeat (first | apply Kd.R_alloc | apply Kd.R_drewN | apply Kd.R_drew)); exact (Kd.R_mono (Kd.R_far (p := ⟨gb538, 1, none⟩) (Kd.R_far (p := ⟨gb538, 0, none⟩) (Kd.R_types HO536.out BK538.out (by decide)) (fun _ hk => hk.2) (.int .i64 t549)) (fun _ hk => hk.2) (.slice Ao27 t550.length co27)) (fun _ h_ => h_.1))) hb); have n1_ := ak (Kd.V_below (by (with_reducible repeat (first | apply vA | apply vN | apply vD)); exact (Kd.V_mono (Kd.V_far (p := ⟨gb538, 1, none⟩) (Kd.V_far (p := ⟨gb538, 0, none⟩) (Kd.V_mono HO542.out (fun k_ hk => (⟨hk, by first | exact hk | exact hk.2.2 | exact hk.2.1 | omega⟩ : _ ∧ k_ ≠ gb538))) (fun _ hk => hk.2) (.int .i64 t549)) (fun _ hk => hk.2) (.slice Ao27 t550.length co27)) (fun _ h_ => h_.1))) hb); have n2_ := ak (Kd.V_below (by (with_reducible repeat (first | apply vA | apply vN | apply vD)); exact (Kd.V_mono (Kd.V_far (p := ⟨gb538, 1, none⟩) (Kd.V_far (p := ⟨gb538, 0, none⟩) (Kd.V_mono HO547.out (fun k_ hk => (⟨hk, by first | exact hk | exact hk.2.2 | exact hk.2.1 | omega⟩ : _ ∧ k_ ≠ gb538))) (fun _ hk => hk.2) (.int .i64 t549)) (fun _ hk => hk.2) (.slice Ao27 t550.length co27)) (fun _ h_ => h_.1))) hb); have n3_ := ak (Kd.V_below (by (with_reducible repeat (first | apply vA | apply vN | apply vD)); exact (Kd.V_mono (Kd.V_far (p := ⟨gb538, 1, none⟩) (Kd.V_far (p := ⟨gb538, 0, none⟩) (Kd.V_mono HO552.out (fun k_ hk => (⟨hk, by first | exact hk | exact hk.2.2 | exact hk.2.1 | omega⟩ : _ ∧ k_ ≠ gb538))) (fun _ hk => hk.2) (.int .i64 t549)) (fun _ hk => hk.2) (.slice Ao27 t550.length co27)) (fun _ h_ => h_.1))) hb); have n4_ := ak (blk_below (g := gb538) (o := .cells #[.int .i64 t549, .slice Ao27 t550.length co27] 24 (0, 0)) (by (with_reducible repeat (first | refine bN ?_ _ | refine bD ?_ | refine bA ?_ _)); refine blk_put (cs := #[.int .i64 t549, .slice Ao22 t545.length co22]) ?_ 1 _ rfl; (with_reducible repeat (first | refine bN ?_ _ | refine bD ?_ | refine bA ?_ _)); refine blk_put (cs := #[.int .i64 t544, .slice Ao22 t545.length co22]) ?_ 0 _ rfl; (with_reducible repeat (first | refine bN ?_ _ | refine bD ?_ | refine bA ?_ _)); exact BK538.out) hb); have n5_ := ak (below_step (by repeat (first | (with_reducible first | exact HB.out | apply wA | apply wN | apply wD | refine below_set ?_ GE538.out) | exact HB.out)) hb); clear HO536; clear HO542; clear HO547; clear HO552; clear BK538; clear HB; have HO536 := n0_; have HO542 := n1_; have HO547 := n2_; have HO552 := n3_; have BK538 := n4_; have HB := n5_; clear n0_ n1_ n2_ n3_ n4_ n5_; (try clear hb); (try clear hb2); (try clear hk); (try clear hi); have hcz29_0 : w28.cell? ⟨gb538, 0, none⟩ = some (.int .i64 t549) := (blk_cell BK538.out 0).trans rfl; have hcz29_1 : w28.cell? ⟨gb538, 1, none⟩ = some (.slice Ao27 t550.length co27) := (blk_cell BK538.out 1).trans rfl; have hfz29_0 := blk_frozen BK538.out 0; have hfz29_1 := blk_frozen BK538.out 1) | ((with_reducible refine gate_callee (f := 20) rfl ?_); refine goesL_ (some 39) rfl rfl Try.func20 (by kernel_rfl) rfl #[.agg #[.int .i64 t549, .slice Ao27 t550.length co27]] rfl (by (try simp only [List.map_toArray, List.map_cons, List.map_nil]); first | done | rfl | (simp only [List.length_drop, List.length_take]; rfl)) ?_; (with_reducible refine (fuel_Close.calls k t549 (fun k_ => k_ ≠ gb538) _ _ t550 t556 t557 t560 _ ?side1 A6.out).mono ?_); (case side1 => exact HO552.out); rintro e w30 ⟨v558, rfl, ho0, hb⟩; refine ⟨_, rfl, ?_⟩; have n0_ := ak (Kd.R_below (by (with_reducible repeat (first | apply Kd.R_alloc | apply Kd.R_drewN | apply Kd.R_drew)); exact HO536.out) hb); have n1_ := ak (Kd.V_below (by (with_reducible repeat (first | apply vA | apply vN | apply vD)); exact HO542.out) hb); have n2_ := ak (Kd.V_below (by (with_reducible repeat (first | apply vA | apply vN | apply vD)); exact HO547.out) hb); have n3_ := ak (Kd.V_below (by (with_reducible repeat (first | apply vA | apply vN | apply vD)); exact HO552.out) hb); have n4_ := ak (Kd.V_lower (Kd.V_mono (ok' := fun k_ => k_ ≠ gb538) ho0 (fun k_ hk_ => Or.elim hk_ (fun hs_ => hs_) (fun hn_ => (Kd.freshB (g := gb538) (o := .cells #[.int .i64 t549, .slice Ao27 t550.length co27] 24 (0, 0)) (by (with_reducible repeat (first | refine bN ?_ _ | refine bD ?_ | refine bA ?_ _)); exact BK538.out) k_ hn_)))) (below_size (by repeat (first | (with_reducible first | exact HB.out | apply wA | apply wN | apply wD | refine below_set ?_ GE538.out) | exact HB.out)))); have n5_ := ak (blk_below (g := gb538) (o := .cells #[.int .i64 t549, .slice Ao27 t550.length co27] 24 (0, 0)) (by (with_reducible repeat (first | refine bN ?_ _ | refine bD ?_ | refine bA ?_ _)); exact BK538.out) hb); have n6_ := ak (below_step (by repeat (first | (with_reducible first | exact HB.out | apply wA | apply wN | apply wD | refine below_set ?_ GE538.out) | exact HB.out)) hb); clear HO536; clear HO542; clear HO547; clear HO552; clear BK538; clear HB; have HO536 := n0_; have HO542 := n1_; have HO547 := n2_; have HO552 := n3_; have HO559 := n4_; have BK538 := n5_; have HB := n6_; clear n0_ n1_ n2_ n3_ n4_ n5_ n6_; (try clear hb); (try clear hb2); (try clear hk); (try clear hi); (try clear ho0); have hcz31_0 : w30.cell? ⟨gb538, 0, none⟩ = some (.int .i64 t549) := (blk_cell BK538.out 0).trans rfl; have hcz31_1 : w30.cell? ⟨gb538, 1, none⟩ = some (.slice Ao27 t550.length co27) := (blk_cell BK538.out 1).trans rfl; have hfz31_0 := blk_frozen BK538.out 0; have hfz31_1 := blk_frozen BK538.out 1; obtain ⟨Ao32, co32, eo32⟩ := Kd.V_slice HO559.out; subst eo32) | ((with_reducible refine gate_callee (f := 18) rfl ?_); refine goesL_ (some 44) rfl rfl Try.func18 (by kernel_rfl) rfl #[.agg #[.int .i64 t556, .slice Ao32 t557.length co32]] rfl (by (try simp only [List.map_toArray, List.map_cons, List.map_nil]); first | done | rfl | (simp only [List.length_drop, List.length_take]; rfl)) ?_; (with_reducible refine (fuel_Left.calls k t556 _ _ t557 t561 t562 _ ?side1 ?side2 A7.out).mono ?_); (case side1 => refine (Kd.V_reads' (e := 2) (base := w.heap.size) (ok := fun k_ => k_ ≠ gb538) (n := t557.length) (c := co32) ?_).2.2; exact (by (with_reducible repeat (first | apply vA | apply vN | apply vD)); exact (Kd.V_mono (Kd.V_far (p := ⟨gb538, 1, none⟩) (Kd.V_far (p := ⟨gb538, 0, none⟩) (Kd.V_mono HO559.out (fun k_ hk => (⟨hk, by first | exact hk | exact hk.2.2 | exact hk.2.1 | omega⟩ : _ ∧ k_ ≠ gb538))) (fun _ hk => hk.2) (.int .i64 t556)) (fun _ hk => hk.2) (.slice Ao32 t557.length co32)) (fun _ h_ => h_.1)))); (case side2 => exact (Kd.V_reads' HO559.out).2.1); rintro e w33 ⟨rfl, hb⟩; refine ⟨_, rfl, ?_⟩; have n0_ := ak (Kd.R_below (by (with_reducible repeat (first | apply Kd.R_alloc | apply Kd.R_drewN | apply Kd.R_drew)); exact (Kd.R_mono (Kd.R_far (p := ⟨gb538, 1, none⟩) (Kd.R_far (p := ⟨gb538, 0, none⟩) (Kd.R_types HO536.out BK538.out (by decide)) (fun _ hk => hk.2) (.int .i64 t556)) (fun _ hk => hk.2) (.slice Ao32 t557.length co32)) (fun _ h_ => h_.1))) hb); have n1_ := ak (Kd.V_below (by (with_reducible repeat (first | apply vA | apply vN | apply vD)); exact (Kd.V_mono (Kd.V_far (p := ⟨gb538, 1, none⟩) (Kd.V_far (p := ⟨gb538, 0, none⟩) (Kd.V_mono HO542.out (fun k_ hk => (⟨hk, by first | exact hk | exact hk.2.2 | exact hk.2.1 | omega⟩ : _ ∧ k_ ≠ gb538))) (fun _ hk => hk.2) (.int .i64 t556)) (fun _ hk => hk.2) (.slice Ao32 t557.length co32)) (fun _ h_ => h_.1))) hb); have n2_ := ak (Kd.V_below (by (with_reducible repeat (first | apply vA | apply vN | apply vD)); exact (Kd.V_mono (Kd.V_far (p := ⟨gb538, 1, none⟩) (Kd.V_far (p := ⟨gb538, 0, none⟩) (Kd.V_mono HO547.out (fun k_ hk => (⟨hk, by first | exact hk | exact hk.2.2 | exact hk.2.1 | omega⟩ : _ ∧ k_ ≠ gb538))) (fun _ hk => hk.2) (.int .i64 t556)) (fun _ hk => hk.2) (.slice Ao32 t557.length co32)) (fun _ h_ => h_.1))) hb); have n3_ := ak (Kd.V_below (by (with_reducible repeat (first | apply vA | apply vN | apply vD)); exact (Kd.V_mono (Kd.V_far (p := ⟨gb538, 1, none⟩) (Kd.V_far (p := ⟨gb538, 0, none⟩) (Kd.V_mono HO552.out (fun k_ hk => (⟨hk, by first | exact hk | exact hk.2.2 | exact hk.2.1 | omega⟩ : _ ∧ k_ ≠ gb538))) (fun _ hk => hk.2) (.int .i64 t556)) (fun _ hk => hk.2) (.slice Ao32 t557.length co32)) (fun _ h_ => h_.1))) hb); have n4_ := ak (Kd.V_below (by (with_reducible repeat (first | apply vA | apply vN | apply vD)); exact (Kd.V_mono (Kd.V_far (p := ⟨gb538, 1, none⟩) (Kd.V_far (p := ⟨gb538, 0, none⟩) (Kd.V_mono HO559.out (fun k_ hk => (⟨hk, by first | exact hk | exact hk.2.2 | exact hk.2.1 | omega⟩ : _ ∧ k_ ≠ gb538))) (fun _ hk => hk.2) (.int .i64 t556)) (fun _ hk => hk.2) (.slice Ao32 t557.length co32)) (fun _ h_ => h_.1))) hb); have n5_ := ak (blk_below (g := gb538) (o := .cells #[.int .i64 t556, .slice Ao32 t557.length co32] 24 (0, 0)) (by (with_reducible repeat (first | refine bN ?_ _ | refine bD ?_ | refine bA ?_ _)); refine blk_put (cs := #[.int .i64 t556, .slice Ao27 t550.length co27]) ?_ 1 _ rfl; (with_reducible repeat (first | refine bN ?_ _ | refine bD ?_ | refine bA ?_ _)); refine blk_put (cs := #[.int .i64 t549, .slice Ao27 t550.length co27]) ?_ 0 _ rfl; (with_reducible repeat (first | refine bN ?_ _ | refine bD ?_ | refine bA ?_ _)); exact BK538.out) hb); have n6_ := ak (below_step (by repeat (first | (with_reducible first | exact HB.out | apply wA | apply wN | apply wD | refine below_set ?_ GE538.out) | exact HB.out)) hb); clear HO536; clear HO542; clear HO547; clear HO552; clear HO559; clear BK538; clear HB; have HO536 := n0_; have HO542 := n1_; have HO547 := n2_; have HO552 := n3_; have HO559 := n4_; have BK538 := n5_; have HB := n6_; clear n0_ n1_ n2_ n3_ n4_ n5_ n6_; (try clear hb); (try clear hb2); (try clear hk); (try clear hi)))
  (try simp only [Act.put, List.setIfInBounds_toArray, List.set_cons_zero, List.set_cons_succ])
  go_cut [85] (fun v85 wc => ∃ (kq : Nat) (x85_7 : Bool), v85 = .bool x85_7 ∧ Aside0 (mummerlaw16_FuelKnown.j0 kq x85_7 t556 t557 = some r) ∧ Aside0 (kq ≤ k) ∧ Aside0 (Kd.V (Kd.int .i64) 2 wc w.heap.size (fun k_ => k_ ≠ gb538) (.slice Ao32 t557.length co32) t557) ∧ Aside0 (wc.heap[gb538]? = some (.cells #[.int .i64 t556, (.slice Ao32 t557.length co32)] 24 (0, 0))) ∧ Aside0 (Below w.heap.size w wc))
  case first =>
    have H := HC8.out
    clear HC8
    by_cases c34 : t537 = 0
    · rw [if_pos c34] at H
      have c34b0 : (t537 == 0) = true := beq_iff_eq.mpr c34
      have c34b1 : (t537 != 0) = false := bne_eq_false_iff_eq.mpr c34
      clear c34
      (first | rw [c34b0] | (simp only [i64_w, i32_w]; rw [c34b0]) | skip)
      by_cases c35 : t543 = 0
      · rw [if_pos c35] at H
        have c35b0 : (t543 == 0) = true := beq_iff_eq.mpr c35
        have c35b1 : (t543 != 0) = false := bne_eq_false_iff_eq.mpr c35
        clear c35
        by_cases c36 : t548 = 0
        · rw [if_pos c36] at H
          have c36b0 : (t548 == 0) = true := beq_iff_eq.mpr c36
          have c36b1 : (t548 != 0) = false := bne_eq_false_iff_eq.mpr c36
          clear c36
          by_cases c37 : t553 = 0
          · rw [if_pos c37] at H
            have c37b0 : (t553 == 0) = true := beq_iff_eq.mpr c37
            have c37b1 : (t553 != 0) = false := bne_eq_false_iff_eq.mpr c37
            clear c37
            by_cases c38 : t555 = 0
            · rw [if_pos c38] at H
              have c38b0 : (t555 == 0) = true := beq_iff_eq.mpr c38
              have c38b1 : (t555 != 0) = false := bne_eq_false_iff_eq.mpr c38
              clear c38
              by_cases c39 : t560 = 0
              · rw [if_pos c39] at H
                have c39b0 : (t560 == 0) = true := beq_iff_eq.mpr c39
                have c39b1 : (t560 != 0) = false := bne_eq_false_iff_eq.mpr c39
                clear c39
                by_cases c40 : t562 = 0
                · rw [if_pos c40] at H
                  have c40b0 : (t562 == 0) = true := beq_iff_eq.mpr c40
                  have c40b1 : (t562 != 0) = false := bne_eq_false_iff_eq.mpr c40
                  clear c40
                  by_cases c41 : t554 = 0
                  · rw [if_pos c41] at H
                    have c41b0 : (t554 == 0) = true := beq_iff_eq.mpr c41
                    have c41b1 : (t554 != 0) = false := bne_eq_false_iff_eq.mpr c41
                    clear c41
                    by_cases c42 : t561 = 2
                    · rw [if_pos c42] at H
                      have c42b0 : (t561 == 2) = true := beq_iff_eq.mpr c42
                      have c42b1 : (t561 != 2) = false := bne_eq_false_iff_eq.mpr c42
                      clear c42
                      have H' := ak H
                      clear H
                      have hcz43_0 : w33.cell? ⟨gb538, 0, none⟩ = some (.int .i64 t556) := (blk_cell BK538.out 0).trans rfl
                      have hcz43_1 : w33.cell? ⟨gb538, 1, none⟩ = some (.slice Ao32 t557.length co32) := (blk_cell BK538.out 1).trans rfl
                      have hfz43_0 := blk_frozen BK538.out 0
                      have hfz43_1 := blk_frozen BK538.out 1
                      go_wp2
                      go_meet
                      case rel => exact ⟨_, ((t556 != 8)), (by first | rfl | (simp; done) | (simp [*]; done)), H', ⟨by first | omega | exact Nat.le_refl _⟩, ⟨by (with_reducible repeat (first | apply vA | apply vN | apply vD)); exact HO559.out⟩, ⟨by (with_reducible repeat (first | refine bN ?_ _ | refine bD ?_ | refine bA ?_ _)); exact BK538.out⟩, ⟨by repeat (first | (with_reducible first | exact HB.out | apply wA | apply wN | apply wD | refine below_set ?_ GE538.out) | exact HB.out)⟩⟩
                    · rw [if_neg c42] at H
                      have c42b0 : (t561 == 2) = false := beq_eq_false_iff_ne.mpr c42
                      have c42b1 : (t561 != 2) = true := bne_iff_ne.mpr c42
                      have H' := ak H
                      clear H
                      go_wp2
                      go_meet
                      case rel => exact ⟨_, (true), (by first | rfl | (simp; done) | (simp [*]; done)), H', ⟨by first | omega | exact Nat.le_refl _⟩, ⟨by (with_reducible repeat (first | apply vA | apply vN | apply vD)); exact HO559.out⟩, ⟨by (with_reducible repeat (first | refine bN ?_ _ | refine bD ?_ | refine bA ?_ _)); exact BK538.out⟩, ⟨by repeat (first | (with_reducible first | exact HB.out | apply wA | apply wN | apply wD | refine below_set ?_ GE538.out) | exact HB.out)⟩⟩
                  · rw [if_neg c41] at H
                    have c41b0 : (t554 == 0) = false := beq_eq_false_iff_ne.mpr c41
                    have c41b1 : (t554 != 0) = true := bne_iff_ne.mpr c41
                    have H' := ak H
                    clear H
                    go_wp2
                    go_meet
                    case rel => exact ⟨_, (true), (by first | rfl | (simp; done) | (simp [*]; done)), H', ⟨by first | omega | exact Nat.le_refl _⟩, ⟨by (with_reducible repeat (first | apply vA | apply vN | apply vD)); exact HO559.out⟩, ⟨by (with_reducible repeat (first | refine bN ?_ _ | refine bD ?_ | refine bA ?_ _)); exact BK538.out⟩, ⟨by repeat (first | (with_reducible first | exact HB.out | apply wA | apply wN | apply wD | refine below_set ?_ GE538.out) | exact HB.out)⟩⟩
                · rw [if_neg c40] at H
                  have c40b0 : (t562 == 0) = false := beq_eq_false_iff_ne.mpr c40
                  have c40b1 : (t562 != 0) = true := bne_iff_ne.mpr c40
                  have H' := ak H
                  clear H
                  go_wp2
                  go_meet
                  case rel => exact ⟨_, (true), (by first | rfl | (simp; done) | (simp [*]; done)), H', ⟨by first | omega | exact Nat.le_refl _⟩, ⟨by (with_reducible repeat (first | apply vA | apply vN | apply vD)); exact HO559.out⟩, ⟨by (with_reducible repeat (first | refine bN ?_ _ | refine bD ?_ | refine bA ?_ _)); exact BK538.out⟩, ⟨by repeat (first | (with_reducible first | exact HB.out | apply wA | apply wN | apply wD | refine below_set ?_ GE538.out) | exact HB.out)⟩⟩
              · rw [if_neg c39] at H
                have c39b0 : (t560 == 0) = false := beq_eq_false_iff_ne.mpr c39
                have c39b1 : (t560 != 0) = true := bne_iff_ne.mpr c39
                have H' := ak H
                clear H
                go_wp2
                go_meet
                case rel => exact ⟨_, (true), (by first | rfl | (simp; done) | (simp [*]; done)), H', ⟨by first | omega | exact Nat.le_refl _⟩, ⟨by (with_reducible repeat (first | apply vA | apply vN | apply vD)); exact HO559.out⟩, ⟨by (with_reducible repeat (first | refine bN ?_ _ | refine bD ?_ | refine bA ?_ _)); exact BK538.out⟩, ⟨by repeat (first | (with_reducible first | exact HB.out | apply wA | apply wN | apply wD | refine below_set ?_ GE538.out) | exact HB.out)⟩⟩
            · rw [if_neg c38] at H
              have c38b0 : (t555 == 0) = false := beq_eq_false_iff_ne.mpr c38
              have c38b1 : (t555 != 0) = true := bne_iff_ne.mpr c38
              have H' := ak H
              clear H
              go_wp2
              go_meet
              case rel => exact ⟨_, (true), (by first | rfl | (simp; done) | (simp [*]; done)), H', ⟨by first | omega | exact Nat.le_refl _⟩, ⟨by (with_reducible repeat (first | apply vA | apply vN | apply vD)); exact HO559.out⟩, ⟨by (with_reducible repeat (first | refine bN ?_ _ | refine bD ?_ | refine bA ?_ _)); exact BK538.out⟩, ⟨by repeat (first | (with_reducible first | exact HB.out | apply wA | apply wN | apply wD | refine below_set ?_ GE538.out) | exact HB.out)⟩⟩
          · rw [if_neg c37] at H
            have c37b0 : (t553 == 0) = false := beq_eq_false_iff_ne.mpr c37
            have c37b1 : (t553 != 0) = true := bne_iff_ne.mpr c37
            have H' := ak H
            clear H
            go_wp2
            go_meet
            case rel => exact ⟨_, (true), (by first | rfl | (simp; done) | (simp [*]; done)), H', ⟨by first | omega | exact Nat.le_refl _⟩, ⟨by (with_reducible repeat (first | apply vA | apply vN | apply vD)); exact HO559.out⟩, ⟨by (with_reducible repeat (first | refine bN ?_ _ | refine bD ?_ | refine bA ?_ _)); exact BK538.out⟩, ⟨by repeat (first | (with_reducible first | exact HB.out | apply wA | apply wN | apply wD | refine below_set ?_ GE538.out) | exact HB.out)⟩⟩
        · rw [if_neg c36] at H
          have c36b0 : (t548 == 0) = false := beq_eq_false_iff_ne.mpr c36
          have c36b1 : (t548 != 0) = true := bne_iff_ne.mpr c36
          have H' := ak H
          clear H
          go_wp2
          go_meet
          case rel => exact ⟨_, (true), (by first | rfl | (simp; done) | (simp [*]; done)), H', ⟨by first | omega | exact Nat.le_refl _⟩, ⟨by (with_reducible repeat (first | apply vA | apply vN | apply vD)); exact HO559.out⟩, ⟨by (with_reducible repeat (first | refine bN ?_ _ | refine bD ?_ | refine bA ?_ _)); exact BK538.out⟩, ⟨by repeat (first | (with_reducible first | exact HB.out | apply wA | apply wN | apply wD | refine below_set ?_ GE538.out) | exact HB.out)⟩⟩
      · rw [if_neg c35] at H
        have c35b0 : (t543 == 0) = false := beq_eq_false_iff_ne.mpr c35
        have c35b1 : (t543 != 0) = true := bne_iff_ne.mpr c35
        have H' := ak H
        clear H
        go_wp2
        go_meet
        case rel => exact ⟨_, (true), (by first | rfl | (simp; done) | (simp [*]; done)), H', ⟨by first | omega | exact Nat.le_refl _⟩, ⟨by (with_reducible repeat (first | apply vA | apply vN | apply vD)); exact HO559.out⟩, ⟨by (with_reducible repeat (first | refine bN ?_ _ | refine bD ?_ | refine bA ?_ _)); exact BK538.out⟩, ⟨by repeat (first | (with_reducible first | exact HB.out | apply wA | apply wN | apply wD | refine below_set ?_ GE538.out) | exact HB.out)⟩⟩
    · rw [if_neg c34] at H
      have c34b0 : (t537 == 0) = false := beq_eq_false_iff_ne.mpr c34
      have c34b1 : (t537 != 0) = true := bne_iff_ne.mpr c34
      (first | rw [c34b0] | (simp only [i64_w, i32_w]; rw [c34b0]) | skip)
      have H' := ak H
      clear H
      go_wp2
      go_meet
      case rel => exact ⟨_, (true), (by first | rfl | (simp; done) | (simp [*]; done)), H', ⟨by first | omega | exact Nat.le_refl _⟩, ⟨by (with_reducible repeat (first | apply vA | apply vN | apply vD)); exact HO559.out⟩, ⟨by (with_reducible repeat (first | refine bN ?_ _ | refine bD ?_ | refine bA ?_ _)); exact BK538.out⟩, ⟨by repeat (first | (with_reducible first | exact HB.out | apply wA | apply wN | apply wD | refine below_set ?_ GE538.out) | exact HB.out)⟩⟩
  case rest =>
    clear HC8
    try clear c1
    try clear c2
    try clear p2
    try clear c3
    try clear c4
    try clear c8
    try clear c15
    try clear c17
    try clear c18
    try clear c19
    try clear c20
    try clear c34
    try clear c34b0
    try clear c34b1
    try clear c35
    try clear c35b0
    try clear c35b1
    try clear c36
    try clear c36b0
    try clear c36b1
    try clear c37
    try clear c37b0
    try clear c37b1
    try clear c38
    try clear c38b0
    try clear c38b1
    try clear c39
    try clear c39b0
    try clear c39b1
    try clear c40
    try clear c40b0
    try clear c40b1
    try clear c41
    try clear c41b0
    try clear c41b1
    try clear c42
    try clear c42b0
    try clear c42b1
    try clear hcz11_0
    try clear hcz11_1
    try clear hcz14_0
    try clear hcz14_1
    try clear hcz16_0
    try clear hcz16_1
    try clear hcz19_0
    try clear hcz19_1
    try clear hcz21_0
    try clear hcz21_1
    try clear hcz24_0
    try clear hcz24_1
    try clear hcz26_0
    try clear hcz26_1
    try clear hcz29_0
    try clear hcz29_1
    try clear hcz31_0
    try clear hcz31_1
    try clear hcz43_0
    try clear hcz43_1
    try clear hfz11_0
    try clear hfz11_1
    try clear hfz14_0
    try clear hfz14_1
    try clear hfz16_0
    try clear hfz16_1
    try clear hfz19_0
    try clear hfz19_1
    try clear hfz21_0
    try clear hfz21_1
    try clear hfz24_0
    try clear hfz24_1
    try clear hfz26_0
    try clear hfz26_1
    try clear hfz29_0
    try clear hfz29_1
    try clear hfz31_0
    try clear hfz31_1
    try clear hfz43_0
    try clear hfz43_1
    obtain ⟨kq, x85_7, rfl, HA, HJ7, HO_539001, BK538, HB⟩ := hcut
    cases kq with
    | zero => exact absurd HA.out (by simp [mummerlaw16_FuelKnown.j0])
    | succ kj7 =>
      have H := HA.out
      clear HA
      simp only [mummerlaw16_FuelKnown.j0] at H
      by_cases c44 : x85_7 = true
      · subst c44
        have H1 : (some false) = some r := by rw [if_pos rfl] at H; exact H
        clear H
        have H := H1
        clear H1
        exact absurd ((Option.some.inj H).trans hrt.out) (by decide)
      · replace c44 := Bool.eq_false_iff.mpr c44
        subst c44
        have H1 : ((fuel_Open.f kj7 t556 t557 5).bind fun bt563 => ((fuel_Left.f kj7 bt563.1 bt563.2.1).bind fun bt568 => ((fuel_New.f 1).bind fun bt570 => ((fuel_Close.f kj7 bt570.1 bt570.2.1).bind fun bt576 => ((fuel_Least.f kj7 (([(⟨2, 5⟩ : S46), (⟨1, 6⟩ : S46)] : List (S46)))).bind fun bt584 => (if bt563.2.2 = 0 then (if bt568.2 = 0 then (if bt570.2.2 = 0 then (if bt576.2.2 = 9 then (if bt584.2.2 = 5 then (if bt568.1 = 2 then (if bt584.1 = 0 then (if bt584.2.1 = 1 then ((mummerlaw16_awake.f kj7).bind fun t587 => (some t587)) else (some false)) else (some false)) else (some false)) else (some false)) else (some false)) else (some false)) else (some false)) else (some false))))))) = some r := by rw [if_neg (show ¬ (false = true) by decide)] at H; exact H
        clear H
        have H := H1
        clear H1
        replace H := Option.bind_eq_some_iff.mp H
        obtain ⟨⟨t563, t564, t567⟩, A450, H⟩ := H
        replace H : ((fuel_Left.f kj7 t563 t564).bind fun bt568 => ((fuel_New.f 1).bind fun bt570 => ((fuel_Close.f kj7 bt570.1 bt570.2.1).bind fun bt576 => ((fuel_Least.f kj7 (([(⟨2, 5⟩ : S46), (⟨1, 6⟩ : S46)] : List (S46)))).bind fun bt584 => (if t567 = 0 then (if bt568.2 = 0 then (if bt570.2.2 = 0 then (if bt576.2.2 = 9 then (if bt584.2.2 = 5 then (if bt568.1 = 2 then (if bt584.1 = 0 then (if bt584.2.1 = 1 then ((mummerlaw16_awake.f kj7).bind fun t587 => (some t587)) else (some false)) else (some false)) else (some false)) else (some false)) else (some false)) else (some false)) else (some false)) else (some false)))))) = some r := H
        have A45 := ak A450
        clear A450
        replace H := Option.bind_eq_some_iff.mp H
        obtain ⟨⟨t568, t569⟩, A460, H⟩ := H
        replace H : ((fuel_New.f 1).bind fun bt570 => ((fuel_Close.f kj7 bt570.1 bt570.2.1).bind fun bt576 => ((fuel_Least.f kj7 (([(⟨2, 5⟩ : S46), (⟨1, 6⟩ : S46)] : List (S46)))).bind fun bt584 => (if t567 = 0 then (if t569 = 0 then (if bt570.2.2 = 0 then (if bt576.2.2 = 9 then (if bt584.2.2 = 5 then (if t568 = 2 then (if bt584.1 = 0 then (if bt584.2.1 = 1 then ((mummerlaw16_awake.f kj7).bind fun t587 => (some t587)) else (some false)) else (some false)) else (some false)) else (some false)) else (some false)) else (some false)) else (some false)) else (some false))))) = some r := H
        have A46 := ak A460
        clear A460
        replace H := Option.bind_eq_some_iff.mp H
        obtain ⟨⟨t570, t571, t574⟩, A470, H⟩ := H
        replace H : ((fuel_Close.f kj7 t570 t571).bind fun bt576 => ((fuel_Least.f kj7 (([(⟨2, 5⟩ : S46), (⟨1, 6⟩ : S46)] : List (S46)))).bind fun bt584 => (if t567 = 0 then (if t569 = 0 then (if t574 = 0 then (if bt576.2.2 = 9 then (if bt584.2.2 = 5 then (if t568 = 2 then (if bt584.1 = 0 then (if bt584.2.1 = 1 then ((mummerlaw16_awake.f kj7).bind fun t587 => (some t587)) else (some false)) else (some false)) else (some false)) else (some false)) else (some false)) else (some false)) else (some false)) else (some false)))) = some r := H
        have A47 := ak A470
        clear A470
        replace H := Option.bind_eq_some_iff.mp H
        obtain ⟨⟨t576, t577, t580⟩, A480, H⟩ := H
        replace H : ((fuel_Least.f kj7 (([(⟨2, 5⟩ : S46), (⟨1, 6⟩ : S46)] : List (S46)))).bind fun bt584 => (if t567 = 0 then (if t569 = 0 then (if t574 = 0 then (if t580 = 9 then (if bt584.2.2 = 5 then (if t568 = 2 then (if bt584.1 = 0 then (if bt584.2.1 = 1 then ((mummerlaw16_awake.f kj7).bind fun t587 => (some t587)) else (some false)) else (some false)) else (some false)) else (some false)) else (some false)) else (some false)) else (some false)) else (some false))) = some r := H
        have A48 := ak A480
        clear A480
        obtain ⟨y581, hy581⟩ : ∃ y_ : List (S46), y_ = (([(⟨2, 5⟩ : S46), (⟨1, 6⟩ : S46)] : List (S46))) := ⟨_, rfl⟩
        replace H : ((fuel_Least.f kj7 y581).bind fun bt584 => (if t567 = 0 then (if t569 = 0 then (if t574 = 0 then (if t580 = 9 then (if bt584.2.2 = 5 then (if t568 = 2 then (if bt584.1 = 0 then (if bt584.2.1 = 1 then ((mummerlaw16_awake.f kj7).bind fun t587 => (some t587)) else (some false)) else (some false)) else (some false)) else (some false)) else (some false)) else (some false)) else (some false)) else (some false))) = some r := by first | (rw [hy581]; with_reducible exact H) | (have H2_ := (Option.bind_some _ _).symm.trans H; rw [hy581]; with_reducible exact H2_) | (have H2_ := (Option.bind_some _ _).symm.trans H; with_reducible exact H2_) | with_reducible exact H | (rw [hy581]; exact H) | exact H
        have Ny581 := ak hy581
        clear hy581
        replace H := Option.bind_eq_some_iff.mp H
        obtain ⟨⟨t584, t585, t586⟩, A490, H⟩ := H
        replace H : (if t567 = 0 then (if t569 = 0 then (if t574 = 0 then (if t580 = 9 then (if t586 = 5 then (if t568 = 2 then (if t584 = 0 then (if t585 = 1 then ((mummerlaw16_awake.f kj7).bind fun t587 => (some t587)) else (some false)) else (some false)) else (some false)) else (some false)) else (some false)) else (some false)) else (some false)) else (some false)) = some r := H
        have A49 := ak A490
        clear A490
        by_cases c50 : t567 = 0
        · rw [if_pos c50] at H
          have c50b0 : (t567 == 0) = true := beq_iff_eq.mpr c50
          have c50b1 : (t567 != 0) = false := bne_eq_false_iff_eq.mpr c50
          clear c50
          by_cases c51 : t569 = 0
          · rw [if_pos c51] at H
            have c51b0 : (t569 == 0) = true := beq_iff_eq.mpr c51
            have c51b1 : (t569 != 0) = false := bne_eq_false_iff_eq.mpr c51
            clear c51
            by_cases c52 : t574 = 0
            · rw [if_pos c52] at H
              have c52b0 : (t574 == 0) = true := beq_iff_eq.mpr c52
              have c52b1 : (t574 != 0) = false := bne_eq_false_iff_eq.mpr c52
              clear c52
              by_cases c53 : t580 = 9
              · rw [if_pos c53] at H
                have c53b0 : (t580 == 9) = true := beq_iff_eq.mpr c53
                have c53b1 : (t580 != 9) = false := bne_eq_false_iff_eq.mpr c53
                clear c53
                by_cases c54 : t586 = 5
                · rw [if_pos c54] at H
                  have c54b0 : (t586 == 5) = true := beq_iff_eq.mpr c54
                  have c54b1 : (t586 != 5) = false := bne_eq_false_iff_eq.mpr c54
                  clear c54
                  by_cases c55 : t568 = 2
                  · rw [if_pos c55] at H
                    have c55b0 : (t568 == 2) = true := beq_iff_eq.mpr c55
                    have c55b1 : (t568 != 2) = false := bne_eq_false_iff_eq.mpr c55
                    clear c55
                    by_cases c56 : t584 = 0
                    · rw [if_pos c56] at H
                      have c56b0 : (t584 == 0) = true := beq_iff_eq.mpr c56
                      have c56b1 : (t584 != 0) = false := bne_eq_false_iff_eq.mpr c56
                      clear c56
                      by_cases c57 : t585 = 1
                      · rw [if_pos c57] at H
                        have c57b0 : (t585 == 1) = true := beq_iff_eq.mpr c57
                        have c57b1 : (t585 != 1) = false := bne_eq_false_iff_eq.mpr c57
                        clear c57
                        replace H := Option.bind_eq_some_iff.mp H
                        obtain ⟨t587, A580, H⟩ := H
                        replace H : (some t587) = some r := H
                        have A58 := ak A580
                        clear A580
                        obtain rfl := Option.some.inj H
                        have hcz59_0 : wc.cell? ⟨gb538, 0, none⟩ = some (.int .i64 t556) := (blk_cell BK538.out 0).trans rfl
                        have hcz59_1 : wc.cell? ⟨gb538, 1, none⟩ = some (.slice Ao32 t557.length co32) := (blk_cell BK538.out 1).trans rfl
                        have hfz59_0 := blk_frozen BK538.out 0
                        have hfz59_1 := blk_frozen BK538.out 1
                        go_wp2_with (first | ((with_reducible refine gate_callee (f := 19) rfl ?_); refine goesL_ (some 88) rfl rfl Try.func19 (by kernel_rfl) rfl #[.agg #[.int .i64 t556, .slice Ao32 t557.length co32], .int .i64 5] rfl (by (try simp only [List.map_toArray, List.map_cons, List.map_nil]); first | done | rfl | (simp only [List.length_drop, List.length_take]; rfl)) ?_; (with_reducible refine (fuel_Open.calls kj7 t556 (fun k_ => k_ ≠ gb538) _ _ t557 5 t563 t564 t567 _ ?side1 A45.out).mono ?_); (case side1 => exact HO_539001.out); rintro e w60 ⟨v565, rfl, ho0, hb⟩; refine ⟨_, rfl, ?_⟩; have n0_ := ak (Kd.V_below (by (with_reducible repeat (first | apply vA | apply vN | apply vD)); exact HO_539001.out) hb); have n1_ := ak (Kd.V_lower (Kd.V_mono (ok' := fun k_ => k_ ≠ gb538) ho0 (fun k_ hk_ => Or.elim hk_ (fun hs_ => hs_) (fun hn_ => (Kd.freshB (g := gb538) (o := .cells #[.int .i64 t556, .slice Ao32 t557.length co32] 24 (0, 0)) (by (with_reducible repeat (first | refine bN ?_ _ | refine bD ?_ | refine bA ?_ _)); exact BK538.out) k_ hn_)))) (below_size (by repeat (first | (with_reducible first | exact HB.out | apply wA | apply wN | apply wD | refine below_set ?_ GE538.out) | exact HB.out)))); have n2_ := ak (blk_below (g := gb538) (o := .cells #[.int .i64 t556, .slice Ao32 t557.length co32] 24 (0, 0)) (by (with_reducible repeat (first | refine bN ?_ _ | refine bD ?_ | refine bA ?_ _)); exact BK538.out) hb); have n3_ := ak (below_step (by repeat (first | (with_reducible first | exact HB.out | apply wA | apply wN | apply wD | refine below_set ?_ GE538.out) | exact HB.out)) hb); clear HO_539001; clear BK538; clear HB; have HO_539001 := n0_; have HO566 := n1_; have BK538 := n2_; have HB := n3_; clear n0_ n1_ n2_ n3_; (try clear hb); (try clear hb2); (try clear hk); (try clear hi); (try clear ho0); have hcz61_0 : w60.cell? ⟨gb538, 0, none⟩ = some (.int .i64 t556) := (blk_cell BK538.out 0).trans rfl; have hcz61_1 : w60.cell? ⟨gb538, 1, none⟩ = some (.slice Ao32 t557.length co32) := (blk_cell BK538.out 1).trans rfl; have hfz61_0 := blk_frozen BK538.out 0; have hfz61_1 := blk_frozen BK538.out 1; obtain ⟨Ao62, co62, eo62⟩ := Kd.V_slice HO566.out; subst eo62) | ((with_reducible refine gate_callee (f := 18) rfl ?_); refine goesL_ (some 93) rfl rfl Try.func18 (by kernel_rfl) rfl #[.agg #[.int .i64 t563, .slice Ao62 t564.length co62]] rfl (by (try simp only [List.map_toArray, List.map_cons, List.map_nil]); first | done | rfl | (simp only [List.length_drop, List.length_take]; rfl)) ?_; (with_reducible refine (fuel_Left.calls kj7 t563 _ _ t564 t568 t569 _ ?side1 ?side2 A46.out).mono ?_); (case side1 => refine (Kd.V_reads' (e := 2) (base := w.heap.size) (ok := fun k_ => k_ ≠ gb538) (n := t564.length) (c := co62) ?_).2.2; exact (by (with_reducible repeat (first | apply vA | apply vN | apply vD)); exact (Kd.V_mono (Kd.V_far (p := ⟨gb538, 1, none⟩) (Kd.V_far (p := ⟨gb538, 0, none⟩) (Kd.V_mono HO566.out (fun k_ hk => (⟨hk, by first | exact hk | exact hk.2.2 | exact hk.2.1 | omega⟩ : _ ∧ k_ ≠ gb538))) (fun _ hk => hk.2) (.int .i64 t563)) (fun _ hk => hk.2) (.slice Ao62 t564.length co62)) (fun _ h_ => h_.1)))); (case side2 => exact (Kd.V_reads' HO566.out).2.1); rintro e w63 ⟨rfl, hb⟩; refine ⟨_, rfl, ?_⟩; have n0_ := ak (Kd.V_below (by (with_reducible repeat (first | apply vA | apply vN | apply vD)); exact (Kd.V_mono (Kd.V_far (p := ⟨gb538, 1, none⟩) (Kd.V_far (p := ⟨gb538, 0, none⟩) (Kd.V_mono HO_539001.out (fun k_ hk => (⟨hk, by first | exact hk | exact hk.2.2 | exact hk.2.1 | omega⟩ : _ ∧ k_ ≠ gb538))) (fun _ hk => hk.2) (.int .i64 t563)) (fun _ hk => hk.2) (.slice Ao62 t564.length co62)) (fun _ h_ => h_.1))) hb); have n1_ := ak (Kd.V_below (by (with_reducible repeat (first | apply vA | apply vN | apply vD)); exact (Kd.V_mono (Kd.V_far (p := ⟨gb538, 1, none⟩) (Kd.V_far (p := ⟨gb538, 0, none⟩) (Kd.V_mono HO566.out (fun k_ hk => (⟨hk, by first | exact hk | exact hk.2.2 | exact hk.2.1 | omega⟩ : _ ∧ k_ ≠ gb538))) (fun _ hk => hk.2) (.int .i64 t563)) (fun _ hk => hk.2) (.slice Ao62 t564.length co62)) (fun _ h_ => h_.1))) hb); have n2_ := ak (blk_below (g := gb538) (o := .cells #[.int .i64 t563, .slice Ao62 t564.length co62] 24 (0, 0)) (by (with_reducible repeat (first | refine bN ?_ _ | refine bD ?_ | refine bA ?_ _)); refine blk_put (cs := #[.int .i64 t563, .slice Ao32 t557.length co32]) ?_ 1 _ rfl; (with_reducible repeat (first | refine bN ?_ _ | refine bD ?_ | refine bA ?_ _)); refine blk_put (cs := #[.int .i64 t556, .slice Ao32 t557.length co32]) ?_ 0 _ rfl; (with_reducible repeat (first | refine bN ?_ _ | refine bD ?_ | refine bA ?_ _)); exact BK538.out) hb); have n3_ := ak (below_step (by repeat (first | (with_reducible first | exact HB.out | apply wA | apply wN | apply wD | refine below_set ?_ GE538.out) | exact HB.out)) hb); clear HO_539001; clear HO566; clear BK538; clear HB; have HO_539001 := n0_; have HO566 := n1_; have BK538 := n2_; have HB := n3_; clear n0_ n1_ n2_ n3_; (try clear hb); (try clear hb2); (try clear hk); (try clear hi)) | ((with_reducible refine gate_callee (f := 15) rfl ?_); refine goesL_ (some 97) rfl rfl Try.func15 (by kernel_rfl) rfl #[.int .i64 1] rfl (by (try simp only [List.map_toArray, List.map_cons, List.map_nil]); first | done | rfl | (simp only [List.length_drop, List.length_take]; rfl)) ?_; (with_reducible refine (fuel_New.calls 1 t570 t571 t574 _ A47.out).mono ?_); rintro e w64 ⟨v572, rfl, ho0, hb⟩; refine ⟨_, rfl, ?_⟩; have n0_ := ak (Kd.V_elder' (by (with_reducible repeat (first | apply vA | apply vN | apply vD)); exact HO_539001.out) (Kd.R_base ho0) hb); have n1_ := ak (Kd.V_elder' (by (with_reducible repeat (first | apply vA | apply vN | apply vD)); exact HO566.out) (Kd.R_base ho0) hb); have n2_ := ak (Kd.R_lower ho0 (below_size (by repeat (first | (with_reducible first | exact HB.out | apply wA | apply wN | apply wD | refine below_set ?_ GE538.out) | exact HB.out)))); have n3_ := ak (blk_below (g := gb538) (o := .cells #[.int .i64 t563, .slice Ao62 t564.length co62] 24 (0, 0)) (by (with_reducible repeat (first | refine bN ?_ _ | refine bD ?_ | refine bA ?_ _)); exact BK538.out) hb); have n4_ := ak (below_step (by repeat (first | (with_reducible first | exact HB.out | apply wA | apply wN | apply wD | refine below_set ?_ GE538.out) | exact HB.out)) hb); clear HO_539001; clear HO566; clear BK538; clear HB; have HO_539001 := n0_; have HO566 := n1_; have HO573 := n2_; have BK538 := n3_; have HB := n4_; clear n0_ n1_ n2_ n3_ n4_; (try clear hb); (try clear hb2); (try clear hk); (try clear hi); (try clear ho0)) | ((with_reducible refine gate_dst (N := 11) rfl ?_); refine box_event ?hg (N := 11) ?hd (cs := #[.int .i64 0, .slice none 0 0]) (t := 24) ?hr ?_; (case hd => rfl); (case hg => rfl); (case hr => first | (go_simp; done) | (go_simp; rfl)); intro gb575 hg w65 hbox hb; have n0_ := ak (Kd.V_below (Kd.V_elderB (by (with_reducible repeat (first | apply vA | apply vN | apply vD)); exact HO_539001.out) gb575 (Nat.le_of_eq hg.symm)) hb); have n1_ := ak (Kd.V_below (Kd.V_elderB (by (with_reducible repeat (first | apply vA | apply vN | apply vD)); exact HO566.out) gb575 (Nat.le_of_eq hg.symm)) hb); have n2_ := ak (Kd.R_below (by (with_reducible repeat (first | apply Kd.R_alloc | apply Kd.R_drewN | apply Kd.R_drew)); exact HO573.out) hb); have n3_ := ak (blk_below (g := gb538) (o := .cells #[.int .i64 t563, .slice Ao62 t564.length co62] 24 (0, 0)) (by (with_reducible repeat (first | refine bN ?_ _ | refine bD ?_ | refine bA ?_ _)); exact BK538.out) hb); have n4_ := ak (below_step (by repeat (first | (with_reducible first | exact HB.out | apply wA | apply wN | apply wD | refine below_set ?_ GE538.out) | exact HB.out)) hb); have n5_ := ak (hbox); have n6_ := ak ((by rw [hg]; exact (below_size (by repeat (first | (with_reducible first | exact HB.out | apply wA | apply wN | apply wD | refine below_set ?_ GE538.out) | exact HB.out))) : w.heap.size ≤ gb575)); have n7_ := ak ((by rw [hg]; exact (below_size (by repeat (first | (with_reducible first | exact HB.out | apply wA | apply wN | apply wD | refine below_set ?_ GE538.out) | exact HB.out))) : w.heap.size ≤ gb575)); have n8_ := ak ((by rw [hg]; exact Nat.ne_of_lt (blk_lt (g := gb538) (o := .cells #[.int .i64 t563, .slice Ao62 t564.length co62] 24 (0, 0)) (by (with_reducible repeat (first | refine bN ?_ _ | refine bD ?_ | refine bA ?_ _)); exact BK538.out)) : gb538 ≠ gb575)); have n9_ := ak ((by rw [hg]; exact Nat.ne_of_gt (blk_lt (g := gb538) (o := .cells #[.int .i64 t563, .slice Ao62 t564.length co62] 24 (0, 0)) (by (with_reducible repeat (first | refine bN ?_ _ | refine bD ?_ | refine bA ?_ _)); exact BK538.out)) : gb575 ≠ gb538)); clear HO_539001; clear HO566; clear HO573; clear BK538; clear HB; have HO_539001 := n0_; have HO566 := n1_; have HO573 := n2_; have BK538 := n3_; have HB := n4_; have BK575 := n5_; have GW575 := n6_; have GE575 := n7_; have NB538_575 := n8_; have NB575_538 := n9_; clear n0_ n1_ n2_ n3_ n4_ n5_ n6_ n7_ n8_ n9_; clear hb hbox hg; have hnb66 := NB575_538.out; have hnc66 := NB538_575.out; have hcz67_0 : w65.cell? ⟨gb575, 0, none⟩ = some (.int .i64 0) := (blk_cell BK575.out 0).trans rfl; have hcz67_1 : w65.cell? ⟨gb575, 1, none⟩ = some (.slice none 0 0) := (blk_cell BK575.out 1).trans rfl; have hfz67_0 := blk_frozen BK575.out 0; have hfz67_1 := blk_frozen BK575.out 1; obtain ⟨Ao68, co68, eo68⟩ := Kd.R_slice HO573.out; subst eo68) | ((with_reducible refine gate_store (t := 24) (p := 11) rfl ?_); refine store_event (t := 24) (p := 11) (v := ?vo_w69) (w1 := ((w65.setCell ⟨gb575, 0, none⟩ (.int .i64 t570)).setCell ⟨gb575, 1, none⟩ (.slice Ao68 t571.length co68))) ?hg ?ho ?hn ?hr ?_; (case ho => rfl); (case hg => rfl); (case hn => rfl); (case hr => first | (go_simp; done) | (go_simp; rfl)); intro w69 hw; have n0_ : Aside0 (Kd.V (Kd.int .i64) 2 w69 w.heap.size (fun k_ => some k_ ≠ (.slice Ao68 t571.length co68 : Value).ownBlock ∧ k_ ≠ gb538 ∧ k_ ≠ gb575) (.slice Ao32 t557.length co32) t557) := ⟨(by rw [hw]; exact (by (with_reducible repeat (first | apply vA | apply vN | apply vD)); exact Kd.V_mono (Kd.V_far (p := ⟨gb575, 1, none⟩) (Kd.V_far (p := ⟨gb575, 0, none⟩) (Kd.V_mono HO_539001.out (fun k_ hk => (⟨hk, by first | exact hk.2 | exact hk.2.2 | exact hk.2.1 | omega⟩ : _ ∧ k_ ≠ gb575))) (fun _ hk => hk.2) (.int .i64 t570)) (fun _ hk => hk.2) (.slice Ao68 t571.length co68)) (fun _ hk => by first | exact ⟨hk.1.1.2, ⟨hk.1.1.1, hk.1.2⟩⟩ | (simp only [ne_eq] at hk ⊢; simp [hk]))))⟩; have n1_ : Aside0 (Kd.V (Kd.int .i64) 2 w69 w.heap.size (fun k_ => some k_ ≠ (.slice Ao68 t571.length co68 : Value).ownBlock ∧ k_ ≠ gb538 ∧ k_ ≠ gb575) (.slice Ao62 t564.length co62) t564) := ⟨(by rw [hw]; exact (by (with_reducible repeat (first | apply vA | apply vN | apply vD)); exact Kd.V_mono (Kd.V_far (p := ⟨gb575, 1, none⟩) (Kd.V_far (p := ⟨gb575, 0, none⟩) (Kd.V_mono HO566.out (fun k_ hk => (⟨hk, by first | exact hk.2 | exact hk.2.2 | exact hk.2.1 | omega⟩ : _ ∧ k_ ≠ gb575))) (fun _ hk => hk.2) (.int .i64 t570)) (fun _ hk => hk.2) (.slice Ao68 t571.length co68)) (fun _ hk => by first | exact ⟨hk.1.1.2, ⟨hk.1.1.1, hk.1.2⟩⟩ | (simp only [ne_eq] at hk ⊢; simp [hk]))))⟩; have n2_ : Aside0 (Kd.R (Kd.int .i64) 2 w69 w.heap.size (fun _ => True) (.slice Ao68 t571.length co68) t571) := ⟨(by rw [hw]; exact (by (with_reducible repeat (first | apply Kd.R_alloc | apply Kd.R_drewN | apply Kd.R_drew)); exact Kd.R_mono (Kd.R_far (p := ⟨gb575, 1, none⟩) (Kd.R_far (p := ⟨gb575, 0, none⟩) (Kd.R_types HO573.out BK575.out (by decide)) (fun _ hk => hk.2) (.int .i64 t570)) (fun _ hk => hk.2) (.slice Ao68 t571.length co68)) (fun _ hk => trivial)))⟩; have n3_ : Aside0 (w69.heap[gb538]? = some (.cells #[.int .i64 t563, .slice Ao62 t564.length co62] 24 (0, 0))) := ⟨(by rw [hw]; exact (by (with_reducible repeat (first | refine bN ?_ _ | refine bD ?_ | refine bA ?_ _)); refine blk_far ?_ NB538_575.out _; (with_reducible repeat (first | refine bN ?_ _ | refine bD ?_ | refine bA ?_ _)); refine blk_far ?_ NB538_575.out _; (with_reducible repeat (first | refine bN ?_ _ | refine bD ?_ | refine bA ?_ _)); exact BK538.out))⟩; have n4_ : Aside0 (w69.heap[gb575]? = some (.cells #[.int .i64 t570, .slice Ao68 t571.length co68] 24 (0, 0))) := ⟨(by rw [hw]; exact (by (with_reducible repeat (first | refine bN ?_ _ | refine bD ?_ | refine bA ?_ _)); refine blk_put (cs := #[.int .i64 t570, .slice none 0 0]) ?_ 1 _ rfl; (with_reducible repeat (first | refine bN ?_ _ | refine bD ?_ | refine bA ?_ _)); refine blk_put (cs := #[.int .i64 0, .slice none 0 0]) ?_ 0 _ rfl; (with_reducible repeat (first | refine bN ?_ _ | refine bD ?_ | refine bA ?_ _)); exact BK575.out))⟩; have n5_ : Aside0 (Below w.heap.size w w69) := ⟨(by rw [hw]; exact (by repeat (first | (with_reducible first | exact HB.out | apply wA | apply wN | apply wD | refine below_set ?_ GE538.out | refine below_set ?_ GE575.out) | exact HB.out)))⟩; clear hw; clear HO_539001; clear HO566; clear HO573; clear BK538; clear BK575; clear HB; have HO_539001 := n0_; have HO566 := n1_; have HO573 := n2_; have BK538 := n3_; have BK575 := n4_; have HB := n5_; clear n0_ n1_ n2_ n3_ n4_ n5_; have hcz70_0 : w69.cell? ⟨gb575, 0, none⟩ = some (.int .i64 t570) := (blk_cell BK575.out 0).trans rfl; have hcz70_1 : w69.cell? ⟨gb575, 1, none⟩ = some (.slice Ao68 t571.length co68) := (blk_cell BK575.out 1).trans rfl; have hfz70_0 := blk_frozen BK575.out 0; have hfz70_1 := blk_frozen BK575.out 1) | ((with_reducible refine gate_callee (f := 20) rfl ?_); refine goesL_ (some 102) rfl rfl Try.func20 (by kernel_rfl) rfl #[.agg #[.int .i64 t570, .slice Ao68 t571.length co68]] rfl (by (try simp only [List.map_toArray, List.map_cons, List.map_nil]); first | done | rfl | (simp only [List.length_drop, List.length_take]; rfl)) ?_; (with_reducible refine (fuel_Close.calls kj7 t570 (fun k_ => some k_ = (.slice Ao68 t571.length co68 : Value).ownBlock) _ _ t571 t576 t577 t580 _ ?side1 A48.out).mono ?_); (case side1 => exact Kd.R_V (Kd.R_tight rfl (Kd.R_types (Kd.R_types (HO573.out) BK538.out (by decide)) BK575.out (by decide)))); rintro e w71 ⟨v578, rfl, ho0, hb⟩; refine ⟨_, rfl, ?_⟩; have n0_ := ak (Kd.V_below (by (with_reducible repeat (first | apply vA | apply vN | apply vD)); exact HO_539001.out) hb); have n1_ := ak (Kd.V_below (by (with_reducible repeat (first | apply vA | apply vN | apply vD)); exact HO566.out) hb); have n2_ := ak (Kd.R_below (by (with_reducible repeat (first | apply Kd.R_alloc | apply Kd.R_drewN | apply Kd.R_drew)); exact HO573.out) hb); have n3_ := ak (Kd.V_lower (Kd.V_mono (ok' := fun k_ => k_ ≠ gb538 ∧ k_ ≠ gb575) ho0 (fun k_ hk_ => ⟨Or.elim hk_ (fun hs_ => ((Kd.R_types (Kd.R_types (HO573.out) BK538.out (by decide)) BK575.out (by decide)).1 k_ hs_.symm).1.2) (fun hn_ => (Kd.freshB (g := gb538) (o := .cells #[.int .i64 t563, .slice Ao62 t564.length co62] 24 (0, 0)) (by (with_reducible repeat (first | refine bN ?_ _ | refine bD ?_ | refine bA ?_ _)); exact BK538.out) k_ hn_)), Or.elim hk_ (fun hs_ => ((Kd.R_types (Kd.R_types (HO573.out) BK538.out (by decide)) BK575.out (by decide)).1 k_ hs_.symm).2) (fun hn_ => (Kd.freshB (g := gb575) (o := .cells #[.int .i64 t570, .slice Ao68 t571.length co68] 24 (0, 0)) (by (with_reducible repeat (first | refine bN ?_ _ | refine bD ?_ | refine bA ?_ _)); exact BK575.out) k_ hn_))⟩)) (below_size (by repeat (first | (with_reducible first | exact HB.out | apply wA | apply wN | apply wD | refine below_set ?_ GE538.out | refine below_set ?_ GE575.out) | exact HB.out)))); have n4_ := ak (blk_below (g := gb538) (o := .cells #[.int .i64 t563, .slice Ao62 t564.length co62] 24 (0, 0)) (by (with_reducible repeat (first | refine bN ?_ _ | refine bD ?_ | refine bA ?_ _)); exact BK538.out) hb); have n5_ := ak (blk_below (g := gb575) (o := .cells #[.int .i64 t570, .slice Ao68 t571.length co68] 24 (0, 0)) (by (with_reducible repeat (first | refine bN ?_ _ | refine bD ?_ | refine bA ?_ _)); exact BK575.out) hb); have n6_ := ak (below_step (by repeat (first | (with_reducible first | exact HB.out | apply wA | apply wN | apply wD | refine below_set ?_ GE538.out | refine below_set ?_ GE575.out) | exact HB.out)) hb); clear HO_539001; clear HO566; clear HO573; clear BK538; clear BK575; clear HB; have HO_539001 := n0_; have HO566 := n1_; have HO573 := n2_; have HO579 := n3_; have BK538 := n4_; have BK575 := n5_; have HB := n6_; clear n0_ n1_ n2_ n3_ n4_ n5_ n6_; (try clear hb); (try clear hb2); (try clear hk); (try clear hi); (try clear ho0)) | ((with_reducible refine gate_dst (N := 108) rfl ?_); refine Kd.R_lit k46 _ 46 ?hg (N := 108) ?hd (xs := ([(⟨2, 5⟩ : S46), (⟨1, 6⟩ : S46)] : List (S46))) (inner := [.int .i64 2, .int .i64 5, .int .i64 1, .int .i64 6]) (ok := fun _ => True) (okp := fun _ => True) ?hr ?hp (fun _ hk => hk) trivial (Below.refl _ _) (Nat.le_refl _) (by simp) ?_; (case hd => rfl); (case hg => rfl); (case hr => first | (go_simp; done) | (go_simp; rfl)); (case hp => exact (Reps.c2 (show Kd.M k46 _ _ _ (⟨2, 5⟩ : S46) [.int .i64 2, .int .i64 5] from (k46_mkM _ _ _ (⟨2, 5⟩ : S46) )) (Reps.c2 (show Kd.M k46 _ _ _ (⟨1, 6⟩ : S46) [.int .i64 1, .int .i64 6] from (k46_mkM _ _ _ (⟨1, 6⟩ : S46) )) (Reps.none _ _)))); intro v582 w72 ho73 hb hg_ hnew_; clear hg_ hnew_; (first | rw [← Ny581.out] at ho73 | (simp only [Int.reduceToNat] at ho73; rw [← Ny581.out] at ho73)); have n0_ := ak (Kd.V_elder' (by (with_reducible repeat (first | apply vA | apply vN | apply vD)); exact HO_539001.out) (Kd.R_base ho73) hb); have n1_ := ak (Kd.V_elder' (by (with_reducible repeat (first | apply vA | apply vN | apply vD)); exact HO566.out) (Kd.R_base ho73) hb); have n2_ := ak (Kd.R_below (by (with_reducible repeat (first | apply Kd.R_alloc | apply Kd.R_drewN | apply Kd.R_drew)); exact HO573.out) hb); have n3_ := ak (Kd.V_elder' (by (with_reducible repeat (first | apply vA | apply vN | apply vD)); exact HO579.out) (Kd.R_base ho73) hb); have n4_ := ak (Kd.R_lower ho73 (below_size (by repeat (first | (with_reducible first | exact HB.out | apply wA | apply wN | apply wD | refine below_set ?_ GE538.out | refine below_set ?_ GE575.out) | exact HB.out)))); have n5_ := ak (blk_below (g := gb538) (o := .cells #[.int .i64 t563, .slice Ao62 t564.length co62] 24 (0, 0)) (by (with_reducible repeat (first | refine bN ?_ _ | refine bD ?_ | refine bA ?_ _)); exact BK538.out) hb); have n6_ := ak (blk_below (g := gb575) (o := .cells #[.int .i64 t570, .slice Ao68 t571.length co68] 24 (0, 0)) (by (with_reducible repeat (first | refine bN ?_ _ | refine bD ?_ | refine bA ?_ _)); exact BK575.out) hb); have n7_ := ak (below_step (by repeat (first | (with_reducible first | exact HB.out | apply wA | apply wN | apply wD | refine below_set ?_ GE538.out | refine below_set ?_ GE575.out) | exact HB.out)) hb); clear HO_539001; clear HO566; clear HO573; clear HO579; clear BK538; clear BK575; clear HB; have HO_539001 := n0_; have HO566 := n1_; have HO573 := n2_; have HO579 := n3_; have HO583 := n4_; have BK538 := n5_; have BK575 := n6_; have HB := n7_; clear n0_ n1_ n2_ n3_ n4_ n5_ n6_ n7_; clear hb ho73; obtain ⟨Ao74, co74, eo74⟩ := Kd.R_slice HO583.out; subst eo74) | ((with_reducible refine gate_callee (f := 12) rfl ?_); refine goesL_ (some 109) rfl rfl Try.func12 (by kernel_rfl) rfl #[.slice Ao74 y581.length co74] rfl (by (try simp only [List.map_toArray, List.map_cons, List.map_nil]); first | done | rfl | (simp only [List.length_drop, List.length_take]; rfl)) ?_; (with_reducible refine (fuel_Least.calls kj7 _ _ y581 t584 t585 t586 _ ?side1 ?side2 A49.out).mono ?_); (case side1 => repeat (first | exact (Kd.R_reads' HO583.out).2.2 | (with_reducible refine Kd.C_alloc ?_ _) | (with_reducible refine Kd.C_drewN ?_ _) | (with_reducible refine Kd.C_drew ?_))); (case side2 => exact (Kd.R_reads' HO583.out).2.1); rintro e w75 ⟨rfl, hb⟩; refine ⟨_, rfl, ?_⟩; have n0_ := ak (Kd.V_below (by (with_reducible repeat (first | apply vA | apply vN | apply vD)); exact HO_539001.out) hb); have n1_ := ak (Kd.V_below (by (with_reducible repeat (first | apply vA | apply vN | apply vD)); exact HO566.out) hb); have n2_ := ak (Kd.R_below (by (with_reducible repeat (first | apply Kd.R_alloc | apply Kd.R_drewN | apply Kd.R_drew)); exact HO573.out) hb); have n3_ := ak (Kd.V_below (by (with_reducible repeat (first | apply vA | apply vN | apply vD)); exact HO579.out) hb); have n4_ := ak (Kd.R_below (by (with_reducible repeat (first | apply Kd.R_alloc | apply Kd.R_drewN | apply Kd.R_drew)); exact HO583.out) hb); have n5_ := ak (blk_below (g := gb538) (o := .cells #[.int .i64 t563, .slice Ao62 t564.length co62] 24 (0, 0)) (by (with_reducible repeat (first | refine bN ?_ _ | refine bD ?_ | refine bA ?_ _)); exact BK538.out) hb); have n6_ := ak (blk_below (g := gb575) (o := .cells #[.int .i64 t570, .slice Ao68 t571.length co68] 24 (0, 0)) (by (with_reducible repeat (first | refine bN ?_ _ | refine bD ?_ | refine bA ?_ _)); exact BK575.out) hb); have n7_ := ak (below_step (by repeat (first | (with_reducible first | exact HB.out | apply wA | apply wN | apply wD | refine below_set ?_ GE538.out | refine below_set ?_ GE575.out) | exact HB.out)) hb); clear HO_539001; clear HO566; clear HO573; clear HO579; clear HO583; clear BK538; clear BK575; clear HB; have HO_539001 := n0_; have HO566 := n1_; have HO573 := n2_; have HO579 := n3_; have HO583 := n4_; have BK538 := n5_; have BK575 := n6_; have HB := n7_; clear n0_ n1_ n2_ n3_ n4_ n5_ n6_ n7_; (try clear hb); (try clear hb2); (try clear hk); (try clear hi)) | (go_at_call 9; (with_reducible refine (mummerlaw16_awake.calls kj7  t587 _ hrt A58.out).mono ?_); rintro e w76 ⟨rfl, hb⟩; have n0_ := ak (Kd.V_below (by (with_reducible repeat (first | apply vA | apply vN | apply vD)); exact HO_539001.out) hb); have n1_ := ak (Kd.V_below (by (with_reducible repeat (first | apply vA | apply vN | apply vD)); exact HO566.out) hb); have n2_ := ak (Kd.R_below (by (with_reducible repeat (first | apply Kd.R_alloc | apply Kd.R_drewN | apply Kd.R_drew)); exact HO573.out) hb); have n3_ := ak (Kd.V_below (by (with_reducible repeat (first | apply vA | apply vN | apply vD)); exact HO579.out) hb); have n4_ := ak (Kd.R_below (by (with_reducible repeat (first | apply Kd.R_alloc | apply Kd.R_drewN | apply Kd.R_drew)); exact HO583.out) hb); have n5_ := ak (blk_below (g := gb538) (o := .cells #[.int .i64 t563, .slice Ao62 t564.length co62] 24 (0, 0)) (by (with_reducible repeat (first | refine bN ?_ _ | refine bD ?_ | refine bA ?_ _)); exact BK538.out) hb); have n6_ := ak (blk_below (g := gb575) (o := .cells #[.int .i64 t570, .slice Ao68 t571.length co68] 24 (0, 0)) (by (with_reducible repeat (first | refine bN ?_ _ | refine bD ?_ | refine bA ?_ _)); exact BK575.out) hb); have n7_ := ak (below_step (by repeat (first | (with_reducible first | exact HB.out | apply wA | apply wN | apply wD | refine below_set ?_ GE538.out | refine below_set ?_ GE575.out) | exact HB.out)) hb); clear HO_539001; clear HO566; clear HO573; clear HO579; clear HO583; clear BK538; clear BK575; clear HB; have HO_539001 := n0_; have HO566 := n1_; have HO573 := n2_; have HO579 := n3_; have HO583 := n4_; have BK538 := n5_; have BK575 := n6_; have HB := n7_; clear n0_ n1_ n2_ n3_ n4_ n5_ n6_ n7_; (try clear hb); (try clear hb2); (try clear hk); (try clear hi)))
                        go_ret
                        exact ⟨by first | rfl | (simp [errW_none, errW_some] <;> rfl) | (simp [*, errW_none, errW_some] <;> rfl), by repeat (first | (with_reducible first | exact HB.out | apply wA | apply wN | apply wD | refine below_set ?_ GE538.out | refine below_set ?_ GE575.out) | exact HB.out)⟩
                      · rw [if_neg c57] at H
                        have c57b0 : (t585 == 1) = false := beq_eq_false_iff_ne.mpr c57
                        have c57b1 : (t585 != 1) = true := bne_iff_ne.mpr c57
                        exact absurd ((Option.some.inj H).trans hrt.out) (by decide)
                    · rw [if_neg c56] at H
                      have c56b0 : (t584 == 0) = false := beq_eq_false_iff_ne.mpr c56
                      have c56b1 : (t584 != 0) = true := bne_iff_ne.mpr c56
                      exact absurd ((Option.some.inj H).trans hrt.out) (by decide)
                  · rw [if_neg c55] at H
                    have c55b0 : (t568 == 2) = false := beq_eq_false_iff_ne.mpr c55
                    have c55b1 : (t568 != 2) = true := bne_iff_ne.mpr c55
                    exact absurd ((Option.some.inj H).trans hrt.out) (by decide)
                · rw [if_neg c54] at H
                  have c54b0 : (t586 == 5) = false := beq_eq_false_iff_ne.mpr c54
                  have c54b1 : (t586 != 5) = true := bne_iff_ne.mpr c54
                  exact absurd ((Option.some.inj H).trans hrt.out) (by decide)
              · rw [if_neg c53] at H
                have c53b0 : (t580 == 9) = false := beq_eq_false_iff_ne.mpr c53
                have c53b1 : (t580 != 9) = true := bne_iff_ne.mpr c53
                exact absurd ((Option.some.inj H).trans hrt.out) (by decide)
            · rw [if_neg c52] at H
              have c52b0 : (t574 == 0) = false := beq_eq_false_iff_ne.mpr c52
              have c52b1 : (t574 != 0) = true := bne_iff_ne.mpr c52
              exact absurd ((Option.some.inj H).trans hrt.out) (by decide)
          · rw [if_neg c51] at H
            have c51b0 : (t569 == 0) = false := beq_eq_false_iff_ne.mpr c51
            have c51b1 : (t569 != 0) = true := bne_iff_ne.mpr c51
            exact absurd ((Option.some.inj H).trans hrt.out) (by decide)
        · rw [if_neg c50] at H
          have c50b0 : (t567 == 0) = false := beq_eq_false_iff_ne.mpr c50
          have c50b1 : (t567 != 0) = true := bne_iff_ne.mpr c50
          exact absurd ((Option.some.inj H).trans hrt.out) (by decide)

/-- THE ONE PURE STATEMENT of mummerlaw16_FuelKnown: yours. -/
def mummerlaw16_FuelKnown.Pure : Prop := ∃ k, mummerlaw16_FuelKnown.f k  = some true
theorem mummerlaw16_FuelKnown.walk (P : mummerlaw16_FuelKnown.Pure)  (w : World)  :
    Calls Try.prog 8 #[] w fun e w' => e = .returned (.bool true) ∧ Below w.heap.size w w' := by
  obtain ⟨k, h⟩ := P  
  refine (mummerlaw16_FuelKnown.calls k  true w ⟨rfl⟩ h).mono ?_
  rintro e w' ⟨rfl, hd⟩
  exact ⟨rfl, hd⟩

end Go.Proofs.Ytpophcogdekgkaa.P
